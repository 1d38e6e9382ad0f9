/-
  Composites: structs and slices written out.
-/
import Derived.Test.YtomfoaaaeidpnaaDoorSl5
set_option linter.unusedVariables false
set_option linter.unusedSimpArgs false
namespace Go.Proofs.YtomfoaaaeidpnaaDoor
open Go Go.RowKit
/-! ### Composites -/
def setRun : List Value → Nat → List Value → List Value
  | l, _, [] => l
  | l, off, v :: vs => setRun (l.set off v) (off + 1) vs
theorem setRun_length (vs : List Value) : ∀ (l : List Value) (off : Nat), (setRun l off vs).length = l.length := by
  induction vs with
  | nil => intro l off; rfl
  | cons v vs ih => intro l off; simp [setRun, ih]
theorem setRun_eq (vs : List Value) : ∀ (l : List Value) (off k : Nat), (vs.zipIdx k).foldl (fun (cs : Array Value) (c, j) => cs.setIfInBounds (off + j) c) ⟨l⟩ = ⟨setRun l (off + k) vs⟩ := by
  induction vs with
  | nil => intro l off k; rfl
  | cons v vs ih => intro l off k; simp only [List.zipIdx_cons, List.foldl_cons, setRun]; rw [show off + k + 1 = off + (k + 1) by omega, ← ih]; simp
def fillL (place : Nat → Option (Nat × Nat)) : List Value → List (Nat × Value) → Option (List Value)
  | cells, [] => some cells
  | cells, (i, v) :: rest =>
    match place i with
    | none => none
    | some (off, size) => if v.cells.toList.length = size ∧ off + size ≤ cells.length then fillL place (setRun cells off v.cells.toList) rest else none
theorem fill_eq (place : Nat → Option (Nat × Nat)) (parts : List (Nat × Value)) : ∀ {cells cs : List Value}, fillL place cells parts = some cs → Instr.fill place ⟨cells⟩ parts = some ⟨cs⟩ := by
  induction parts with
  | nil => intro cells cs h; simp [fillL] at h; subst h; rfl
  | cons p parts ih =>
    intro cells cs h
    obtain ⟨i, v⟩ := p
    unfold fillL at h
    unfold Instr.fill
    cases hp : place i with
    | none => simp [hp] at h
    | some os =>
      obtain ⟨off, size⟩ := os
      simp only [hp] at h ⊢
      split at h
      · rename_i hc
        obtain ⟨h1, h2⟩ := hc
        have hs : v.cells.size = size := by rw [← h1]; simp
        have hne : ¬ ((decide (v.cells.size ≠ size) || decide (off + v.cells.size > ({ toList := cells } : Array Value).size)) = true) := by
          rw [hs]; simp; omega
        rw [if_neg hne]
        have hf := setRun_eq v.cells.toList cells off 0
        simp only [Nat.add_zero] at hf
        have e : v.cells.zipIdx.foldl (fun cs (x : Value × Nat) => cs.setIfInBounds (off + x.2) x.1) ({ toList := cells } : Array Value) = ⟨setRun cells off v.cells.toList⟩ := by
          rw [← hf, ← Array.foldl_toList, Array.toList_zipIdx]
        exact (congrArg (fun z => Instr.fill place z parts) e).trans (ih h)
      · cases h

section
variable {ro : Option Nat} {P : Program} {l : List Value} {ds : List Deferred} {w : World} {next : List Value → World → Prop} {Q : Exit → Act → World → Prop}
variable {d : Option Tmp} {ty : TypeId} {pos : String} {aft : Array Edge} {g : Option (Nat × Bool)} {T T' T'' : TypeId} {X Y Z : Operand}
variable {E : Env} {L : List Item}

def zeroRow (zs : List Value) : Nat → List Value
  | 0 => []
  | n + 1 => zs ++ zeroRow zs n
theorem zeroRow_length (zs : List Value) (n : Nat) : (zeroRow zs n).length = n * zs.length := by
  induction n with
  | zero => simp [zeroRow]
  | succ n ih => simp [zeroRow, ih, Nat.add_mul]; omega
theorem zeroRow_get (zs : List Value) (n k : Nat) (h : k < n * zs.length) : (zeroRow zs n)[k]? = zs[k % zs.length]? := by
  induction n generalizing k with
  | zero => omega
  | succ n ih =>
    have hz : 0 < zs.length := Nat.pos_of_ne_zero fun e => by rw [e] at h; omega
    simp only [zeroRow]
    by_cases hk : k < zs.length
    · rw [List.getElem?_append_left hk, Nat.mod_eq_of_lt hk]
    · rw [List.getElem?_append_right (by omega), ih (k - zs.length) (by rw [Nat.add_mul] at h; omega), ← Nat.mod_eq_sub_mod (by omega)]
theorem zeros_eq (z : Value) (n : Nat) : (Array.range (n * z.cells.size)).map (fun k => z.cells[k % z.cells.size]!) = ⟨zeroRow z.cells.toList n⟩ := by
  apply Array.ext'
  apply List.ext_getElem?
  intro k
  by_cases hk : k < n * z.cells.size
  · rw [zeroRow_get z.cells.toList n k (by simpa using hk)]
    have hz : 0 < z.cells.size := Nat.pos_of_ne_zero fun e => by rw [e] at hk; omega
    have hm := Nat.mod_lt k hz
    simp [hk, hm]
  · rw [List.getElem?_eq_none (by simp; omega), List.getElem?_eq_none (by rw [zeroRow_length]; simp; omega)]

theorem ow_build {fs : Array Field} {z : Value} {zs cs : List Value} {pls : List (Nat × Option Nat)} {parts : Array (Nat × Operand)} (ht : P.underlying T = some (.struct fs)) (hz : (P.info? T).bind (·.zero) = some z) (hzs : z.cells = ⟨zs⟩)
    (hpl : fs.toList.map (fun f => (f.offset, (P.info? f.type).map (·.size))) = pls) (hf : fillL (fun i => (pls[i]?).bind fun p => p.2.map fun n => (p.1, n)) zs (parts.toList.map fun p => (p.1, ev l p.2)) = some cs)
    (hok : (pls.all fun p => p.2.isSome) = true) (h : next (put l d (.agg ⟨cs⟩)) w) : OW ro P ⟨d, .build T parts, ty, pos, aft, g⟩ l ds w next Q := by
  obtain ⟨ii, hii, hz'⟩ := Option.bind_eq_some_iff.1 hz
  refine ow_run (v := .agg ⟨cs⟩) ?_ rfl h
  have hplaces : ∀ W : World, (fs.mapM (fun f => do pure (f.offset, ← sizeOf f.type)) : Sem (Array (Nat × Nat))).run P W = .ok ⟨pls.map fun p => (p.1, p.2.getD 0)⟩ W := by
    intro W
    rw [Array.mapM_eq_mapM_toList]
    subst hpl
    generalize fs.toList = fl at *
    have key : ∀ fl : List Field, ((fl.map (fun f => (f.offset, (P.info? f.type).map (·.size)))).all fun p => p.2.isSome) = true →
        (fl.mapM (fun f => do pure (f.offset, ← sizeOf f.type)) : Sem (List (Nat × Nat))).run P W = .ok ((fl.map (fun f => (f.offset, (P.info? f.type).map (·.size)))).map fun p => (p.1, p.2.getD 0)) W := by
      intro fl
      induction fl with
      | nil => intro _; simp
      | cons f fl ih =>
        intro hok
        simp only [List.map_cons, List.all_cons, Bool.and_eq_true] at hok
        obtain ⟨h1, h2⟩ := hok
        obtain ⟨n, hn⟩ := Option.isSome_iff_exists.1 h1
        obtain ⟨iii, hi3, hi4⟩ := Option.map_eq_some_iff.1 hn
        have ih' := ih h2
        rw [List.mapM_cons, Sem.run_bind, Sem.run_bind]
        have hsz : (sizeOf f.type).run P W = .ok iii.size W := by simp [sizeOf, typeInfo, hi3]
        rw [hsz]
        simp only [Result.andThen_ok, Sem.run_pure, Sem.run_bind, ih', List.map_cons]
        rw [hn, hi4]
        rfl
    rw [Sem.run_map, key fl hok]
    rfl
  have hplace : (fun (i : Nat) => (({ toList := pls.map fun p => (p.1, p.2.getD 0) } : Array (Nat × Nat)))[i]?) = (fun (i : Nat) => (pls[i]?).bind fun (p : Nat × Option Nat) => p.2.map fun n => (p.1, n)) := by
    funext i
    simp only [List.getElem?_toArray, List.getElem?_map]
    cases hpi : pls[i]? with
    | none => rfl
    | some p =>
      have := List.all_eq_true.1 hok p (List.mem_of_getElem? hpi)
      obtain ⟨n, hn⟩ := Option.isSome_iff_exists.1 this
      simp [hn]
  have hparts : (parts.map fun (i, x) => (i, ev l x)).toList = parts.toList.map fun p => (p.1, ev l p.2) := by simp
  have hfill := fill_eq _ _ hf
  rw [← hplace, ← hparts] at hfill
  simp only [execOp, Instr.build, Sem.run_bind, zeroValue, typeInfo, run_program, Result.andThen_ok, hii, Sem.run_pure, hz', underlying, ht, hplaces, hzs]
  rw [hfill]
  simp

theorem ow_buildSlice {e : TypeId} {z : Value} {zs cs : List Value} {sz n : Nat} {parts : Array (Nat × Operand)} (ht : P.underlying T = some (.slice e)) (hinfo : (P.info? e).map (fun i => (i.zero, i.size)) = some (some z, sz)) (hzs : z.cells = ⟨zs⟩) (hzl : zs.length = sz)
    (hn : 0 < n * sz ∧ n * sz ≤ 16777216) (hf : fillL (fun i => some (i * sz, sz)) (zeroRow zs n) (parts.toList.map fun p => (p.1, ev l p.2)) = some cs) (hA : Sat E L w)
    (h : ∀ b w', Sat E (cells b cs e :: L) w' → next (put l d (.slice (some ⟨b, 0, none⟩) n n)) w') : OW ro P ⟨d, .buildSlice T n parts, ty, pos, aft, g⟩ l ds w next Q := by
  obtain ⟨ii, hii, hzz⟩ := Option.map_eq_some_iff.1 hinfo
  simp only [Prod.mk.injEq] at hzz
  obtain ⟨hz', rfl⟩ := hzz
  have hs := hA.alloc (.cells ⟨cs⟩ e)
  refine ow_run (v := .slice (some ⟨w.heap.size, 0, none⟩) n n) (w' := { w with heap := w.heap.push (.cells ⟨cs⟩ e) }) ?_ rfl (h _ _ hs)
  have hparts : (parts.map fun (i, x) => (i, ev l x)).toList = parts.toList.map fun p => (p.1, ev l p.2) := by simp
  have hfill := fill_eq _ _ hf
  rw [← hparts] at hfill
  have hsz : z.cells.size = ii.size := by rw [hzs, ← hzl]; rfl
  have hzr := zeros_eq z n
  rw [hsz, hzs] at hzr
  have hn' : ¬ (16777216 < n * ii.size) := by omega
  have h0' : ¬ (n * ii.size = 0) := by omega
  have hsz' : ({ toList := zs } : Array Value).size = ii.size := by rw [← hzl]; rfl
  simp only [execOp, Instr.buildSlice, Sem.run_bind, zeroValue, typeInfo, sizeOf, run_program, Result.andThen_ok, hii, Sem.run_pure, hz', underlying, ht, hzs]
  simp only [hn', gt_iff_lt, Nat.reducePow, h0', if_false, Sem.run_bind, run_program, Result.andThen_ok, hii, Sem.run_pure, hz', hzs, hsz', hzr, hfill]
  simp [newRow]
end
end Go.Proofs.YtomfoaaaeidpnaaDoor
