/-
  The call's own blocks as one piece: read, written, given back to what stays.
-/
import Derived.Test.YtomfoaaaeidpnaaDoorSlD
import Derived.Lib.MinMax
set_option linter.unusedVariables false
set_option linter.unusedSimpArgs false
namespace Go.Proofs.YtomfoaaaeidpnaaDoor
open Go Go.RowKit
section
variable {ro : Option Nat} {P : Program} {l : List Value} {ds : List Deferred} {w : World} {next : List Value → World → Prop} {Q : Exit → Act → World → Prop}
variable {d : Option Tmp} {ty : TypeId} {pos : String} {aft : Array Edge} {g : Option (Nat × Bool)} {T T' T'' : TypeId} {X Y Z : Operand}
variable {E E0 : Env} {L : List Item} {u u' : TypeDesc} {z z' : Value} {zs zs' : List Value} {sz sz' by_ by' : Nat}
/-- min(x, y) of two natural numbers. -/
theorem t_minN {k k' : IntKind} {x y : Nat} (hx : ev l X = .int k (x : Int)) (hy : ev l Y = .int k' (y : Int)) (h : next (put l d (.int k ((min x y : Nat) : Int))) w) :
    OW ro P ⟨d, .call { callee := .builtin .min, args := #[X, Y], argTypes := #[T, T'] }, ty, pos, aft, g⟩ l ds w next Q := by
  have e : (min (x : Int) (y : Int)) = ((min x y : Nat) : Int) := by omega
  refine ow_run (v := .int k ((min x y : Nat) : Int)) ?_ rfl h
  simp [execOp, resolve, invoke, builtin, hx, hy, Lib.run_min_ints, e]
theorem SlE.first {v : Value} {xs : List Value} {n : Nat} (h : SlE E sz v n xs) {i : Nat} (hi : i ≤ n) {a : Option Addr} {c : Nat} (hv : v = .slice a n c) :
    SlE E sz (.slice (if c = 0 then a else a.map (·.add 0)) i c) i (xs.take (i * sz)) := by
  have hcap := h.cap _ _ hv
  rcases h.sh with ⟨rfl, a', c', hv'⟩ | ⟨c', hv'⟩
  · obtain rfl : i = 0 := by omega
    refine ⟨.inl ⟨rfl, _, c, rfl⟩, by simp, by omega, by simp, fun _ _ _ => Nat.zero_le _⟩
  · have e1 : Value.slice a n c = .slice (some ⟨sB v, sO v, none⟩) n c' := hv.symm.trans hv'
    cases e1
    have e2 : (if c = 0 then some (⟨sB v, sO v, none⟩ : Addr) else (some (⟨sB v, sO v, none⟩ : Addr)).map (·.add 0)) = some ⟨sB v, sO v, none⟩ := by
      split
      · rfl
      · simp [Addr.add]
    rw [e2]
    have h2 := h.part (i := 0) (j := i) (Nat.zero_le _) hi c hv' c (by omega)
    simpa using h2
theorem ListE.first {α : Type} {R : Rd α} {v : Value} {xs : List α} (h : ListE R sz E v xs) {i : Nat} (hi : i ≤ xs.length) {a : Option Addr} {c : Nat} (hv : v = .slice a xs.length c) :
    ListE R sz E (.slice (if c = 0 then a else a.map (·.add 0)) i c) (xs.take i) := by
  obtain ⟨css, h1, h2, h3, h4⟩ := h
  have hl : (xs.take i).length = i := by simp; omega
  refine ⟨css.take i, by simp [h1], fun cs hc => h2 cs (List.mem_of_mem_take hc), fun j cs x hc hx => ?_, ?_⟩
  · rw [List.getElem?_take] at hc hx
    split at hc
    · rename_i hj; rw [if_pos hj] at hx; exact h3 j cs x hc hx
    · cases hc
  · rw [hl]
    have h5 := h4.first hi hv
    have e : (css.take i).flatten = css.flatten.take (i * sz) := by
      have q1 : css.flatten = (css.take i).flatten ++ (css.drop i).flatten := by rw [← List.flatten_append, List.take_append_drop]
      have q2 : (css.take i).flatten.length = i * sz := by
        rw [flat_len (sz := sz) fun cs hc => h2 cs (List.mem_of_mem_take hc)]
        simp; rw [Nat.min_eq_left (by omega)]
      rw [q1, List.take_append_of_le_length (by omega)]; exact (List.take_of_length_le (by omega)).symm
    rw [e]
    exact h5
/-- x[:i] of a list that stays. -/
theorem t_sliceL {α : Type} {R : Rd α} {e : TypeId} {k : IntKind} {i : Nat} {v : Value} {xs : List α} [t : Ty P T (.slice e) z zs sz by_] [t' : Ty P e u' z' zs' sz' by'] (hx : ev l X = v) (hs : ListE R sz' E0 v xs) (hi : ev l Y = .int k (i : Int)) (h0 : i ≤ xs.length)
    (h : ∀ v', ListE R sz' E0 v' (xs.take i) → next (put l d v') w) : OW ro P ⟨d, .slice T X none (some Y) none, ty, pos, aft, g⟩ l ds w next Q := by
  obtain ⟨cells, hc, hsl⟩ := hs.cs
  obtain ⟨a, c, hv⟩ := hsl.shape
  have hcap := hsl.cap _ _ hv
  obtain ⟨ii, hii, hss⟩ := Option.map_eq_some_iff.1 t'.size
  have h1 := hs.first h0 hv
  refine ow_run (v := .slice (if c = 0 then a else a.map (·.add 0)) i c) ?_ rfl (h _ h1)
  have hic : (i : Int) ≤ (c : Int) := by omega
  have hi0 : (0 : Int) ≤ (i : Int) := by omega
  have hci : ¬ c < i := by omega
  have hic2 : i ≤ c := by omega
  simp [execOp, hx, hi, hv, Instr.sliceAt, Instr.slice, Instr.sliceBounds, Instr.sliceBound, asIntOf, underlying, t.und, sizeOf, typeInfo, hii, hic2]
theorem ListE.oneAt {α : Type} {R : Rd α} {v : Value} {xs : List α} (h : ListE R sz E v xs) {i : Nat} {x : α} (hx : xs[i]? = some x) {c : Nat} (hc : 1 ≤ c) : ListE R sz E (.slice (some ⟨sB v, sO v + i * sz, none⟩) 1 c) [x] := by
  obtain ⟨cs, h1, h2, h3⟩ := h.get hx
  refine ⟨[cs], rfl, fun a ha => by rw [List.mem_singleton.1 ha]; exact h1, fun j a y ha hy => ?_, .inr ⟨c, rfl⟩, by simp [h1], by show 1 ≤ 9223372036854775807; omega, fun k u hk => h3 k u (by simpa using hk), fun a' c' e => by cases e; exact hc⟩
  match j with
  | 0 => cases ha; cases hy; exact h2
  | j + 1 => cases ha
/-- x[i:i+1] of a list that stays. -/
theorem t_slice1 {α : Type} {R : Rd α} {e : TypeId} {k k' : IntKind} {i : Nat} {v : Value} {xs : List α} {x : α} [t : Ty P T (.slice e) z zs sz by_] [t' : Ty P e u' z' zs' sz' by'] (hx : ev l X = v) (hi : ev l Y = .int k (i : Int)) (hj : ev l Z = .int k' ((i : Int) + 1)) (hs : ListE R sz' E0 v xs) (hxi : xs[i]? = some x)
    (h : ∀ v', ListE R sz' E0 v' [x] → next (put l d v') w) : OW ro P ⟨d, .slice T X (some Y) (some Z) none, ty, pos, aft, g⟩ l ds w next Q := by
  have hil : i < xs.length := (List.getElem?_eq_some_iff.1 hxi).1
  obtain ⟨cells, hc, hsl⟩ := hs.cs
  rcases hsl.sh with ⟨h0, _⟩ | ⟨c, hv⟩
  · omega
  have hcap := hsl.cap _ _ hv
  obtain ⟨ii, hii, hss⟩ := Option.map_eq_some_iff.1 t'.size
  have h1 := hs.oneAt hxi (c := c - i) (by omega)
  generalize sB v = b at *
  generalize sO v = o at *
  have a1 : ¬ ((i : Int) + 1 < 0) := by omega
  have a2 : ¬ ((c : Int) < (i : Int) + 1) := by omega
  have a3 : ((i : Int) + 1).toNat = i + 1 := by omega
  have a4 : ¬ c = i := by omega
  have a5 : i + 1 - i = 1 := by omega
  have a6 : ¬ c < i + 1 := by omega
  have a7 : i + 1 ≤ c := by omega
  have a8 : (i : Int) + 1 ≤ c := by omega
  have a9 : 0 ≤ (i : Int) + 1 := by omega
  refine ow_run (v := .slice (some ⟨b, o + i * sz', none⟩) 1 (c - i)) ?_ rfl (h _ h1)
  simp [execOp, hx, hi, hj, hv, Instr.sliceAt, Instr.slice, Instr.sliceBounds, Instr.sliceBound, asIntOf, underlying, t.und, sizeOf, typeInfo, hii, Addr.add, a1, a2, a3, a4, a5, a6, a7, a8, a9, hss]
theorem i64_wrap (z : Int) : I64 (IntKind.i64.wrap z) := by rw [IntKind.wrap_i64]; constructor <;> omega
end
section
variable {α : Type} {f : α → α}
theorem take_min {β : Type} (xs : List β) (k : Nat) : xs.take (min xs.length k) = xs.take k := by
  rcases Nat.le_total xs.length k with h | h
  · rw [Nat.min_eq_left h, List.take_length, List.take_of_length_le h]
  · rw [Nat.min_eq_right h]
theorem mapped_step {xs : List α} {i : Nat} {x : α} (hx : xs[i]? = some x) : ((xs.take i).map f ++ xs.drop i).set i (f x) = (xs.take (i + 1)).map f ++ xs.drop (i + 1) := by
  have hi := (List.getElem?_eq_some_iff.1 hx).1
  have hl : ((xs.take i).map f).length = i := by simp; omega
  rw [List.set_append_right _ _ (by omega), hl, Nat.sub_self, List.take_add_one, hx]
  have hd : xs.drop i = x :: xs.drop (i + 1) := by
    rw [List.drop_eq_getElem_cons hi]; congr 1
    exact Option.some.inj ((List.getElem?_eq_getElem hi).symm.trans hx)
  rw [hd]
  simp
theorem mapped_get {xs : List α} {i : Nat} {x : α} (hx : xs[i]? = some x) : ((xs.take i).map f ++ xs.drop i)[i]? = some x := by
  have hi := (List.getElem?_eq_some_iff.1 hx).1
  rw [List.getElem?_append_right (by simp; omega)]
  simp only [List.length_map, List.length_take, Nat.min_eq_left (Nat.le_of_lt hi), Nat.sub_self, List.getElem?_drop, Nat.add_zero]
  exact hx
theorem mapped_len {xs : List α} {i : Nat} (hi : i ≤ xs.length) : ((xs.take i).map f ++ xs.drop i).length = xs.length := by simp; omega
theorem mapped_done {xs : List α} {i : Nat} (hi : xs.length ≤ i) : (xs.take i).map f ++ xs.drop i = xs.map f := by
  rw [List.take_of_length_le hi, List.drop_eq_nil_of_le hi, List.append_nil]
end
end Go.Proofs.YtomfoaaaeidpnaaDoor
namespace Go.Proofs.YtomfoaaaeidpnaaDoor
open Go Go.RowKit
def plainO : Obj → Bool
  | .cells _ _ p => p == (0, 0)
  | _ => false
/-- What E has beyond E0: rows of cells, nothing of them frozen. -/
def Env.sub (E E0 : Env) : Env := { E with H := fun b => if (E0.H b).isSome then none else (E.H b).filter plainO }
theorem sub_at {E E0 : Env} {b : Nat} {o : Obj} : (E.sub E0).H b = some o ↔ E0.H b = none ∧ E.H b = some o ∧ plainO o = true := by
  simp only [Env.sub]
  split
  · rename_i h
    refine ⟨fun h' => (by cases h'), fun h' => ?_⟩
    rw [h'.1] at h; cases h
  · rename_i h
    rw [Option.filter_eq_some_iff]
    exact ⟨fun h' => ⟨by simpa using h, h'.1, h'.2⟩, fun h' => ⟨h'.2.1, h'.2.2⟩⟩
theorem Env.sub_le (E E0 : Env) : (E.sub E0).Le E := ⟨rfl, rfl, rfl, fun b o h => (sub_at.1 h).2.1⟩
theorem Env.sub_left {E E' : Env} (E0 : Env) (h : E.Le E') : (E.sub E0).Le (E'.sub E0) := ⟨h.os, h.tape, h.output, fun b o hb => by
  obtain ⟨h1, h2, h3⟩ := sub_at.1 hb
  exact sub_at.2 ⟨h1, h.H b o h2, h3⟩⟩
theorem Env.sub_right {E0 E1 : Env} (E : Env) (h : E0.Le E1) : (E.sub E1).Le (E.sub E0) := ⟨rfl, rfl, rfl, fun b o hb => by
  obtain ⟨h1, h2, h3⟩ := sub_at.1 hb
  refine sub_at.2 ⟨?_, h2, h3⟩
  cases h0 : E0.H b with
  | none => rfl
  | some o' => rw [h.H b o' h0] at h1; cases h1⟩
theorem CsE.env {α : Type} {R : Rd α} {sz : Nat} {E E' : Env} {cells : List Value} {xs : List α} (hR : ∀ cs x, R E cs x → R E' cs x) (h : CsE R sz E cells xs) : CsE R sz E' cells xs := by
  obtain ⟨css, h1, h2, h3, h4⟩ := h
  exact ⟨css, h1, h2, h3, fun i cs x hc hx => hR cs x (h4 i cs x hc hx)⟩
/-- The first elements are as F says; so is the next one. -/
theorem CsE.pre {α : Type} {R : Rd α} {sz : Nat} {E F : Env} {cells old : List Value} {xs : List α} (h : CsE R sz E cells xs) {i : Nat} {x : α} (hx : xs[i]? = some x) (h0 : CsE R sz F (old.take (i * sz)) (xs.take i)) (he : cells.take (i * sz) = old.take (i * sz))
    (hR : ∀ cs, cs.length = sz → R E cs x → (∀ k, k < sz → cells[i * sz + k]? = cs[k]?) → R F cs x) : CsE R sz F (cells.take ((i + 1) * sz)) (xs.take (i + 1)) := by
  obtain ⟨cs, hl, hR1, hg⟩ := h.get hx
  have e : cells.take ((i + 1) * sz) = old.take (i * sz) ++ cs := by
    rw [Nat.add_mul, Nat.one_mul, List.take_add, he]
    congr 1
    apply List.ext_getElem? fun k => ?_
    rw [List.getElem?_take]
    split
    · rename_i hk; rw [List.getElem?_drop]; exact hg k hk
    · rw [List.getElem?_eq_none (by omega)]
  rw [e, List.take_add_one, hx]
  exact h0.snoc hl (hR cs hl hR1 hg)
theorem CsE.ints {E : Env} (E' : Env) {cells : List Value} {xs : List Int} (h : CsE intR 1 E cells xs) : CsE intR 1 E' cells xs := h.env fun _ _ h => h
section
variable {E : Env} {L : List Item} {w : World}
theorem Sat.freezeS {e : TypeId} {sz n : Nat} {v : Value} {xs : List Value} (E0 : Env) (h : Sat E (row e sz v n xs :: L) w) (h0 : E0.Le E) : ∃ E', E.Le E' ∧ Sat E' L w ∧ SlE (E'.sub E0) sz v n xs := by
  have hown : w.ownsRow 0 e sz v n xs := h.own _ (List.mem_cons_self ..)
  rcases row_shape hown with ⟨rfl, rfl, rfl⟩ | ⟨g, cap, cur, rfl, h1, h2, h4, h5, h6⟩
  · exact ⟨E, Env.Le.refl E, h.tail, SlE.nil⟩
  · have h' : Sat E (obj g (.cells cur e) :: L) w := h.change rfl rfl rfl (Nat.le_refl _) (fun _ _ _ => rfl) h1 (by simp [obj, row, Value.ownBlock]) (by simp [obj])
    have hk := h'.keep 0 rfl
    have hn : E.H g = none := h'.off _ (List.mem_cons_self ..) g (by simp [obj])
    have hn0 : E0.H g = none := by
      cases h8 : E0.H g with
      | none => rfl
      | some o => rw [h0.H g o h8] at hn; cases hn
    refine ⟨_, Env.le_keep (o := .cells cur e) hn, hk, .inr ⟨cap, rfl⟩, hown.1, by unfold maxLen at h6; omega, fun k u hu => ?_, fun a c e => by cases e; exact h2⟩
    have hs : (({ E with H := fun k => if k = g then some (.cells cur e (0, 0)) else E.H k } : Env).sub E0).H g = some (.cells cur e (0, 0)) := sub_at.2 ⟨hn0, if_pos rfl, rfl⟩
    simp only [Env.cell?, sB, sO, Nat.zero_add, hs, Option.isSome_none, Bool.false_eq_true, if_false]
    rw [← h5, List.getElem?_take] at hu
    split at hu
    · simpa using hu
    · cases hu
theorem Sat.freezeListS {α : Type} {R : Rd α} [RdMono R] {e : TypeId} {sz : Nat} {v : Value} {xs : List α} {cells : List Value} (E0 : Env) (h : Sat E (row e sz v xs.length cells :: L) w) (h0 : E0.Le E) (hc : CsE R sz (E.sub E0) cells xs) : ∃ E', E.Le E' ∧ Sat E' L w ∧ ListE R sz (E'.sub E0) v xs := by
  obtain ⟨E', h1, h2, h3⟩ := h.freezeS E0 h0
  exact ⟨E', h1, h2, (hc.mono (Env.sub_left E0 h1)).sl h3⟩
/-- Blocks of the call's own, with all that they hold. -/
def heap (H : Nat → Option Obj) (ks : List Nat) : Item :=
  ⟨ks, fun w => ∀ b ∈ ks, ∃ o, H b = some o ∧ w.heap[b]? = some o, fun w w' h hp b hb => by
    obtain ⟨o, h1, h2⟩ := hp b hb
    exact ⟨o, h1, (h b hb).trans h2⟩, fun w hp b hb => by
    obtain ⟨o, _, h2⟩ := hp b hb
    exact (Array.getElem?_eq_some_iff.1 h2).1⟩
theorem Sat.thaw {E0 : Env} (h : Sat E L w) (h0 : E0.Le E) : ∃ ks, (∀ b, b ∈ ks ↔ ((E.sub E0).H b).isSome) ∧ Sat E0 (heap (E.sub E0).H ks :: L) w := by
  have hlt : ∀ b o, E.H b = some o → b < w.heap.size := fun b o hb => (Array.getElem?_eq_some_iff.1 (h.per b o hb)).1
  have hks : ∀ b, b ∈ (List.range w.heap.size).filter (fun b => ((E.sub E0).H b).isSome) ↔ ((E.sub E0).H b).isSome := by
    intro b
    rw [List.mem_filter, List.mem_range]
    refine ⟨fun h => h.2, fun hb => ⟨?_, hb⟩⟩
    obtain ⟨o, ho⟩ := Option.isSome_iff_exists.1 hb
    exact hlt b o ((Env.sub_le E E0).H b o ho)
  refine ⟨_, hks, ⟨h.os.trans h0.os, h.tape.trans h0.tape, h.output.trans h0.output, fun i o hi => h.per i o (h0.H i o hi), ?_, ?_, ?_⟩⟩
  · intro it hit
    rcases List.mem_cons.1 hit with rfl | hit
    · intro b hb
      obtain ⟨o, ho⟩ := Option.isSome_iff_exists.1 ((hks b).1 hb)
      exact ⟨o, ho, h.per b o ((Env.sub_le E E0).H b o ho)⟩
    · exact h.own it hit
  · intro it hit b hb
    rcases List.mem_cons.1 hit with rfl | hit
    · have := (hks b).1 hb
      simp only [Env.sub] at this
      split at this
      · cases this
      · rename_i hn; simpa using hn
    · have h3 := h.off it hit b hb
      cases h8 : E0.H b with
      | none => rfl
      | some o => rw [h0.H b o h8] at h3; cases h3
  · rw [List.flatMap_cons, List.nodup_append]
    refine ⟨List.Pairwise.filter _ List.nodup_range, h.nd, ?_⟩
    intro a ha b hb hab
    subst hab
    obtain ⟨it, hit, hbi⟩ := List.mem_flatMap.1 hb
    have h3 := h.off it hit a hbi
    obtain ⟨o, ho⟩ := Option.isSome_iff_exists.1 ((hks a).1 ha)
    rw [(Env.sub_le E E0).H a o ho] at h3
    cases h3
end
end Go.Proofs.YtomfoaaaeidpnaaDoor
namespace Go.Proofs.YtomfoaaaeidpnaaDoor
open Go Go.RowKit
/-- Rows of cells only. -/
def Plain (F : Env) : Prop := ∀ b o, F.H b = some o → plainO o = true
theorem sub_plain (E E0 : Env) : Plain (E.sub E0) := fun b o h => (sub_at.1 h).2.2
theorem plainO_shape {o : Obj} (h : plainO o = true) : ∃ c e, o = .cells c e (0, 0) := by
  unfold plainO at h
  split at h
  · rename_i c e p; exact ⟨c, e, by rw [eq_of_beq h]⟩
  · cases h
/-- One cell replaced. -/
def Env.put (F : Env) (b k : Nat) (v : Value) : Env := { F with H := fun c => if c = b then (match F.H b with | some (.cells cur e p) => some (.cells (cur.setIfInBounds k v) e p) | o => o) else F.H c }
theorem Env.put_some {F : Env} {b k : Nat} {v : Value} (c : Nat) : ((F.put b k v).H c).isSome = (F.H c).isSome := by
  simp only [Env.put]
  split
  · rename_i h; subst h
    split
    · rename_i h; rw [h]; rfl
    · rfl
  · rfl
theorem Env.put_plain {F : Env} {b k : Nat} {v : Value} (h : Plain F) : Plain (F.put b k v) := by
  intro c o ho
  simp only [Env.put] at ho
  split at ho
  · split at ho
    · rename_i cur e p hb
      have := h _ _ hb
      cases ho
      exact this
    · rename_i hc hn
      exact h _ _ ho
  · exact h _ _ ho
theorem Env.put_cell {F : Env} {b k c j : Nat} {v old : Value} (hv : F.cell? ⟨b, k, none⟩ = some old) : (F.put b k v).cell? ⟨c, j, none⟩ = if c = b ∧ j = k then some v else F.cell? ⟨c, j, none⟩ := by
  simp only [Env.cell?, Env.put] at hv ⊢
  by_cases hc : c = b
  · subst hc
    simp only [if_true, true_and]
    cases hb : F.H c with
    | none => rw [hb] at hv; cases hv
    | some o =>
      rw [hb] at hv
      cases o <;> first | (cases hv; done) | skip
      rename_i cur e p
      simp only [Option.isSome_none, Bool.false_eq_true, if_false] at hv ⊢
      by_cases hj : j = k
      · subst hj
        have : j < cur.size := (Array.getElem?_eq_some_iff.1 hv).1
        simp [this]
      · rw [if_neg hj, Array.getElem?_setIfInBounds, if_neg (fun e => hj e.symm)]
  · simp only [hc, if_false, false_and]
section
variable {E : Env} {L : List Item} {w : World}
/-- The blocks of F, as a piece. -/
structure HeapOk (F : Env) (ks : List Nat) : Prop where
  mem : ∀ b, b ∈ ks ↔ (F.H b).isSome
  plain : Plain F
  nd : ks.Nodup
theorem HeapOk.put {F : Env} {ks : List Nat} (h : HeapOk F ks) {b k : Nat} {v : Value} : HeapOk (F.put b k v) ks := ⟨fun c => (h.mem c).trans (by rw [Env.put_some]), Env.put_plain h.plain, h.nd⟩
theorem Sat.thawS {E0 : Env} (h : Sat E L w) (h0 : E0.Le E) : ∃ ks, HeapOk (E.sub E0) ks ∧ Sat E0 (heap (E.sub E0).H ks :: L) w := by
  obtain ⟨ks, h1, h2⟩ := h.thaw h0
  have := h2.nd
  rw [List.flatMap_cons, List.nodup_append] at this
  exact ⟨ks, ⟨h1, sub_plain _ _, this.1⟩, h2⟩
theorem Sat.cellHeap {F : Env} {ks : List Nat} {i b k : Nat} {r : Value} (h : Sat E L w) (hi : L[i]? = some (heap F.H ks)) (hk : HeapOk F ks) (hv : F.cell? ⟨b, k, none⟩ = some r) : w.cell? ⟨b, k, none⟩ = some r ∧ w.frozen? ⟨b, k, none⟩ = false := by
  have hp : (heap F.H ks).p w := h.at_ hi
  unfold Env.cell? at hv
  cases hb : F.H b with
  | none => simp only [hb] at hv; cases hv
  | some o =>
    obtain ⟨c, e, rfl⟩ := plainO_shape (hk.plain _ _ hb)
    simp only [hb] at hv
    obtain ⟨o', h1, h2⟩ := hp b ((hk.mem b).2 (by rw [hb]; rfl))
    rw [hb] at h1; cases h1
    exact ⟨by simp only [World.cell?, h2]; exact hv, by simp [World.frozen?, h2]⟩
theorem Sat.putHeap {F : Env} {ks : List Nat} {i b k : Nat} {r old : Value} (h : Sat E L w) (hi : L[i]? = some (heap F.H ks)) (hk : HeapOk F ks) (hv : F.cell? ⟨b, k, none⟩ = some old) : Sat E (L.set i (heap (F.put b k r).H ks)) (w.setCell ⟨b, k, none⟩ r) := by
  have hp : (heap F.H ks).p w := h.at_ hi
  unfold Env.cell? at hv
  cases hb : F.H b with
  | none => simp only [hb] at hv; cases hv
  | some o =>
    obtain ⟨cur, e, rfl⟩ := plainO_shape (hk.plain _ _ hb)
    obtain ⟨o', h1, h2⟩ := hp b ((hk.mem b).2 (by rw [hb]; rfl))
    rw [hb] at h1; cases h1
    have hbk : b ∈ ks := (hk.mem b).2 (by rw [hb]; rfl)
    refine h.changeAt i hi rfl rfl rfl (by simp [World.setCell]) (fun c hc hne => ?_) ?_ (fun b hb => .inl hb) hk.nd
    · have hne' : b ≠ c := fun e => hne (by subst e; exact hbk)
      simp [World.setCell, Array.getElem?_modify, hne']
    · intro c hc
      by_cases hcb : c = b
      · subst hcb
        exact ⟨.cells (cur.setIfInBounds k r) e (0, 0), by simp only [Env.put, if_true, hb], by simp [World.setCell, Array.getElem?_modify, h2]⟩
      · obtain ⟨o', h3, h4⟩ := hp c hc
        refine ⟨o', by simp only [Env.put, hcb, if_false]; exact h3, ?_⟩
        simp [World.setCell, Array.getElem?_modify, Ne.symm hcb, h4]
theorem Sat.refreeze {F : Env} {ks : List Nat} (h : Sat E (heap F.H ks :: L) w) (hk : HeapOk F ks) : ∃ E', E.Le E' ∧ (∀ a r, F.cell? a = some r → E'.cell? a = some r) ∧ Sat E' L w := by
  have hp : (heap F.H ks).p w := h.own _ (List.mem_cons_self ..)
  have hoff : ∀ b, (F.H b).isSome → E.H b = none := fun b hb => h.off _ (List.mem_cons_self ..) b ((hk.mem b).2 hb)
  refine ⟨{ E with H := fun b => if (F.H b).isSome then F.H b else E.H b }, ⟨rfl, rfl, rfl, fun b o hb => ?_⟩, fun a r ha => ?_, ⟨h.os, h.tape, h.output, fun b o hb => ?_, h.tail.own, fun it hit b hb => ?_, h.tail.nd⟩⟩
  · dsimp only
    split
    · rename_i hs; rw [hoff b hs] at hb; cases hb
    · exact hb
  · unfold Env.cell? at ha ⊢
    dsimp only
    cases hb : F.H a.block with
    | none => rw [hb] at ha; cases ha
    | some o => rw [hb] at ha; simp only [Option.isSome_some, if_true]; exact ha
  · dsimp only at hb
    split at hb
    · rename_i hs
      obtain ⟨o', h1, h2⟩ := hp b ((hk.mem b).2 hs)
      rw [hb] at h1; cases h1; exact h2
    · exact h.per b o hb
  · dsimp only
    split
    · rename_i hs
      have hbk := (hk.mem b).2 hs
      have hnd := h.nd
      rw [List.flatMap_cons, List.nodup_append] at hnd
      exact absurd rfl (hnd.2.2 b hbk b (List.mem_flatMap.2 ⟨it, hit, hb⟩))
    · exact h.off it (List.mem_cons_of_mem _ hit) b hb
theorem ListE.empty {α : Type} {R : Rd α} {sz : Nat} {E E' : Env} {v : Value} (h : ListE R sz E v ([] : List α)) : ListE R sz E' v ([] : List α) := by
  obtain ⟨c, hc⟩ := h.sl
  obtain ⟨a, c', rfl⟩ := hc.shape
  exact ListE.nil
/-- A literal list becomes what stays. -/
theorem Sat.freezeLit {α : Type} {R : Rd α} [RdMono R] {sz b : Nat} {T : TypeId} {xs : List α} {cs : List Value} (i : Nat) (E0 : Env) (h : Sat E L w) (hi : L[i]? = some (cells b cs T)) (h0 : E0.Le E) (hc : CsE R sz (E.sub E0) cs xs) (hn : xs.length ≤ 9223372036854775807) :
    ∃ E', E.Le E' ∧ Sat E' (L.eraseIdx i) w ∧ ListE R sz (E'.sub E0) (.slice (some ⟨b, 0, none⟩) xs.length xs.length) xs := by
  have hn1 : E.H b = none := h.off _ (List.mem_of_getElem? hi) b (by simp [obj])
  have hn0 : E0.H b = none := by
    cases h8 : E0.H b with
    | none => rfl
    | some o => rw [h0.H b o h8] at hn1; cases hn1
  have hle : E.Le { E with H := fun k => if k = b then some (.cells ⟨cs⟩ T (0, 0)) else E.H k } := Env.le_keep hn1
  refine ⟨_, hle, h.keep i hi, (hc.mono (Env.sub_left E0 hle)).sl ⟨.inr ⟨_, rfl⟩, hc.len, hn, fun k u hu => ?_, fun a c e => by cases e; exact Nat.le_refl _⟩⟩
  have hs : (({ E with H := fun k => if k = b then some (.cells ⟨cs⟩ T (0, 0)) else E.H k } : Env).sub E0).H b = some (.cells ⟨cs⟩ T (0, 0)) := sub_at.2 ⟨hn0, if_pos rfl, rfl⟩
  simp only [Env.cell?, sB, sO, Nat.zero_add, hs, Option.isSome_none, Bool.false_eq_true, if_false]
  simpa using hu
theorem Sat.freezeLitE {α : Type} {R : Rd α} [RdMono R] {sz b : Nat} {T : TypeId} {xs : List α} {cs : List Value} (i : Nat) (h : Sat E L w) (hi : L[i]? = some (cells b cs T)) (hc : CsE R sz E cs xs) (hn : xs.length ≤ 9223372036854775807) :
    ∃ E', E.Le E' ∧ Sat E' (L.eraseIdx i) w ∧ ListE R sz E' (.slice (some ⟨b, 0, none⟩) xs.length xs.length) xs := by
  have hn1 : E.H b = none := h.off _ (List.mem_of_getElem? hi) b (by simp [obj])
  have hle : E.Le { E with H := fun k => if k = b then some (.cells ⟨cs⟩ T (0, 0)) else E.H k } := Env.le_keep hn1
  refine ⟨_, hle, h.keep i hi, (hc.mono hle).sl ⟨.inr ⟨_, rfl⟩, hc.len, hn, fun k u hu => ?_, fun a c e => by cases e; exact Nat.le_refl _⟩⟩
  simp only [Env.cell?, sB, sO, Nat.zero_add, if_true, Option.isSome_none, Bool.false_eq_true, if_false]
  simpa using hu
end
section
variable {ro : Option Nat} {P : Program} {l : List Value} {ds : List Deferred} {w : World} {next : List Value → World → Prop} {Q : Exit → Act → World → Prop}
variable {d : Option Tmp} {ty : TypeId} {pos : String} {aft : Array Edge} {g : Option (Nat × Bool)} {T T' T'' : TypeId} {X Y Z : Operand}
variable {E E0 : Env} {L : List Item} {u u' : TypeDesc} {z z' : Value} {zs zs' : List Value} {sz sz' by_ by' : Nat}
theorem t_load_heap (i k : Nat) {F : Env} {ks : List Nat} {b off : Nat} {r : Value} [t : Ty P T u z zs sz by_] (hu : plainT u = true) (hx : ev l X = .pointer (some ⟨b, off, none⟩)) (he : off = k) (hA : Sat E L w) (hi : L[i]? = some (heap F.H ks)) (hk : HeapOk F ks) (hv : F.cell? ⟨b, k, none⟩ = some r)
    (h : next (put l d r) w) : OW ro P ⟨d, .load T X, ty, pos, aft, g⟩ l ds w next Q := by
  subst he; exact ow_load_w t.und hu hx (hA.cellHeap hi hk hv).1 h
theorem t_store_heap (i k : Nat) {F : Env} {ks : List Nat} {b off : Nat} {r old : Value} [t : Ty P T u z zs 1 by_] (hx : ev l X = .pointer (some ⟨b, off, none⟩)) (he : off = k) (hy : ev l Y = r) (h1 : r.oneCell' = true) (hA : Sat E L w) (hi : L[i]? = some (heap F.H ks)) (hk : HeapOk F ks) (hv : F.cell? ⟨b, k, none⟩ = some old)
    (h : ∀ w', Sat E (L.set i (heap (F.put b k r).H ks)) w' → next (put l d undef) w') : OW ro P ⟨d, .store T X Y, ty, pos, aft, g⟩ l ds w next Q := by
  subst he
  obtain ⟨ii, hii, hss⟩ := Option.map_eq_some_iff.1 t.size
  obtain ⟨h2, h3⟩ := hA.cellHeap hi hk hv
  have h4 := hA.putHeap (r := r) hi hk hv
  have hv' : r.cells = #[r] := by cases r <;> simp_all [Value.cells, Value.oneCell']
  refine ow_skip ?_ rfl (h _ h4)
  simp [execOp, hx, hy, Instr.storeAt, Instr.sureAddr, storeVar, hv', sizeOf, typeInfo, hii, hss, storeCells, run_store P w _ r _ h1, h2, h3, Addr.add]
end
end Go.Proofs.YtomfoaaaeidpnaaDoor
