/-
  min; the first elements of a list.
-/
import Derived.Test.YtomfoaaaeidpnaaDoorSlD
import Derived.Lib.MinMax
set_option linter.unusedVariables false
set_option linter.unusedSimpArgs false
namespace Go.Proofs.YtomfoaaaeidpnaaDoor
open Go Go.RowKit
section
variable {ro : Option Nat} {P : Program} {l : List Value} {ds : List Deferred} {w : World} {next : List Value → World → Prop} {Q : Exit → Act → World → Prop}
variable {d : Option Tmp} {ty : TypeId} {pos : String} {aft : Array Edge} {g : Option (Nat × Bool)} {T T' T'' : TypeId} {X Y Z : Operand}
variable {E E0 : Env} {L : List Item} {u u' : TypeDesc} {z z' : Value} {zs zs' : List Value} {sz sz' by_ by' : Nat}
/-- min(x, y) of two natural numbers. -/
theorem t_minN {k k' : IntKind} {x y : Nat} (hx : ev l X = .int k (x : Int)) (hy : ev l Y = .int k' (y : Int)) (h : next (put l d (.int k ((min x y : Nat) : Int))) w) :
    OW ro P ⟨d, .call { callee := .builtin .min, args := #[X, Y], argTypes := #[T, T'] }, ty, pos, aft, g⟩ l ds w next Q := by
  have e : (min (x : Int) (y : Int)) = ((min x y : Nat) : Int) := by omega
  refine ow_run (v := .int k ((min x y : Nat) : Int)) ?_ rfl h
  simp [execOp, resolve, invoke, builtin, hx, hy, Lib.run_min_ints, e]
theorem SlE.first {v : Value} {xs : List Value} {n : Nat} (h : SlE E sz v n xs) {i : Nat} (hi : i ≤ n) {a : Option Addr} {c : Nat} (hv : v = .slice a n c) :
    SlE E sz (.slice (if c = 0 then a else a.map (·.add 0)) i c) i (xs.take (i * sz)) := by
  have hcap := h.cap _ _ hv
  rcases h.sh with ⟨rfl, a', c', hv'⟩ | ⟨c', hv'⟩
  · obtain rfl : i = 0 := by omega
    refine ⟨.inl ⟨rfl, _, c, rfl⟩, by simp, by omega, by simp, fun _ _ _ => Nat.zero_le _⟩
  · have e1 : Value.slice a n c = .slice (some ⟨sB v, sO v, none⟩) n c' := hv.symm.trans hv'
    cases e1
    have e2 : (if c = 0 then some (⟨sB v, sO v, none⟩ : Addr) else (some (⟨sB v, sO v, none⟩ : Addr)).map (·.add 0)) = some ⟨sB v, sO v, none⟩ := by
      split
      · rfl
      · simp [Addr.add]
    rw [e2]
    have h2 := h.part (i := 0) (j := i) (Nat.zero_le _) hi c hv' c (by omega)
    simpa using h2
theorem ListE.first {α : Type} {R : Rd α} {v : Value} {xs : List α} (h : ListE R sz E v xs) {i : Nat} (hi : i ≤ xs.length) {a : Option Addr} {c : Nat} (hv : v = .slice a xs.length c) :
    ListE R sz E (.slice (if c = 0 then a else a.map (·.add 0)) i c) (xs.take i) := by
  obtain ⟨css, h1, h2, h3, h4⟩ := h
  have hl : (xs.take i).length = i := by simp; omega
  refine ⟨css.take i, by simp [h1], fun cs hc => h2 cs (List.mem_of_mem_take hc), fun j cs x hc hx => ?_, ?_⟩
  · rw [List.getElem?_take] at hc hx
    split at hc
    · rename_i hj; rw [if_pos hj] at hx; exact h3 j cs x hc hx
    · cases hc
  · rw [hl]
    have h5 := h4.first hi hv
    have e : (css.take i).flatten = css.flatten.take (i * sz) := by
      have q1 : css.flatten = (css.take i).flatten ++ (css.drop i).flatten := by rw [← List.flatten_append, List.take_append_drop]
      have q2 : (css.take i).flatten.length = i * sz := by
        rw [flat_len (sz := sz) fun cs hc => h2 cs (List.mem_of_mem_take hc)]
        simp; rw [Nat.min_eq_left (by omega)]
      rw [q1, List.take_append_of_le_length (by omega)]; exact (List.take_of_length_le (by omega)).symm
    rw [e]
    exact h5
/-- x[:i] of a list that stays. -/
theorem t_sliceL {α : Type} {R : Rd α} {e : TypeId} {k : IntKind} {i : Nat} {v : Value} {xs : List α} [t : Ty P T (.slice e) z zs sz by_] [t' : Ty P e u' z' zs' sz' by'] (hx : ev l X = v) (hs : ListE R sz' E0 v xs) (hi : ev l Y = .int k (i : Int)) (h0 : i ≤ xs.length)
    (h : ∀ v', ListE R sz' E0 v' (xs.take i) → next (put l d v') w) : OW ro P ⟨d, .slice T X none (some Y) none, ty, pos, aft, g⟩ l ds w next Q := by
  obtain ⟨cells, hc, hsl⟩ := hs.cs
  obtain ⟨a, c, hv⟩ := hsl.shape
  have hcap := hsl.cap _ _ hv
  obtain ⟨ii, hii, hss⟩ := Option.map_eq_some_iff.1 t'.size
  have h1 := hs.first h0 hv
  refine ow_run (v := .slice (if c = 0 then a else a.map (·.add 0)) i c) ?_ rfl (h _ h1)
  have hic : (i : Int) ≤ (c : Int) := by omega
  have hi0 : (0 : Int) ≤ (i : Int) := by omega
  have hci : ¬ c < i := by omega
  have hic2 : i ≤ c := by omega
  simp [execOp, hx, hi, hv, Instr.sliceAt, Instr.slice, Instr.sliceBounds, Instr.sliceBound, asIntOf, underlying, t.und, sizeOf, typeInfo, hii, hic2]
theorem ListE.oneAt {α : Type} {R : Rd α} {v : Value} {xs : List α} (h : ListE R sz E v xs) {i : Nat} {x : α} (hx : xs[i]? = some x) {c : Nat} (hc : 1 ≤ c) : ListE R sz E (.slice (some ⟨sB v, sO v + i * sz, none⟩) 1 c) [x] := by
  obtain ⟨cs, h1, h2, h3⟩ := h.get hx
  refine ⟨[cs], rfl, fun a ha => by rw [List.mem_singleton.1 ha]; exact h1, fun j a y ha hy => ?_, .inr ⟨c, rfl⟩, by simp [h1], by show 1 ≤ 9223372036854775807; omega, fun k u hk => h3 k u (by simpa using hk), fun a' c' e => by cases e; exact hc⟩
  match j with
  | 0 => cases ha; cases hy; exact h2
  | j + 1 => cases ha
/-- x[i:i+1] of a list that stays. -/
theorem t_slice1 {α : Type} {R : Rd α} {e : TypeId} {k k' : IntKind} {i : Nat} {v : Value} {xs : List α} {x : α} [t : Ty P T (.slice e) z zs sz by_] [t' : Ty P e u' z' zs' sz' by'] (hx : ev l X = v) (hi : ev l Y = .int k (i : Int)) (hj : ev l Z = .int k' ((i : Int) + 1)) (hs : ListE R sz' E0 v xs) (hxi : xs[i]? = some x)
    (h : ∀ v', ListE R sz' E0 v' [x] → next (put l d v') w) : OW ro P ⟨d, .slice T X (some Y) (some Z) none, ty, pos, aft, g⟩ l ds w next Q := by
  have hil : i < xs.length := (List.getElem?_eq_some_iff.1 hxi).1
  obtain ⟨cells, hc, hsl⟩ := hs.cs
  rcases hsl.sh with ⟨h0, _⟩ | ⟨c, hv⟩
  · omega
  have hcap := hsl.cap _ _ hv
  obtain ⟨ii, hii, hss⟩ := Option.map_eq_some_iff.1 t'.size
  have h1 := hs.oneAt hxi (c := c - i) (by omega)
  generalize sB v = b at *
  generalize sO v = o at *
  have a1 : ¬ ((i : Int) + 1 < 0) := by omega
  have a2 : ¬ ((c : Int) < (i : Int) + 1) := by omega
  have a3 : ((i : Int) + 1).toNat = i + 1 := by omega
  have a4 : ¬ c = i := by omega
  have a5 : i + 1 - i = 1 := by omega
  have a6 : ¬ c < i + 1 := by omega
  have a7 : i + 1 ≤ c := by omega
  have a8 : (i : Int) + 1 ≤ c := by omega
  have a9 : 0 ≤ (i : Int) + 1 := by omega
  refine ow_run (v := .slice (some ⟨b, o + i * sz', none⟩) 1 (c - i)) ?_ rfl (h _ h1)
  simp [execOp, hx, hi, hj, hv, Instr.sliceAt, Instr.slice, Instr.sliceBounds, Instr.sliceBound, asIntOf, underlying, t.und, sizeOf, typeInfo, hii, Addr.add, a1, a2, a3, a4, a5, a6, a7, a8, a9, hss]
theorem i64_wrap (z : Int) : I64 (IntKind.i64.wrap z) := by rw [IntKind.wrap_i64]; constructor <;> omega
end
section
variable {α : Type} {f : α → α}
theorem take_min {β : Type} (xs : List β) (k : Nat) : xs.take (min xs.length k) = xs.take k := by
  rcases Nat.le_total xs.length k with h | h
  · rw [Nat.min_eq_left h, List.take_length, List.take_of_length_le h]
  · rw [Nat.min_eq_right h]
theorem mapped_step {xs : List α} {i : Nat} {x : α} (hx : xs[i]? = some x) : ((xs.take i).map f ++ xs.drop i).set i (f x) = (xs.take (i + 1)).map f ++ xs.drop (i + 1) := by
  have hi := (List.getElem?_eq_some_iff.1 hx).1
  have hl : ((xs.take i).map f).length = i := by simp; omega
  rw [List.set_append_right _ _ (by omega), hl, Nat.sub_self, List.take_add_one, hx]
  have hd : xs.drop i = x :: xs.drop (i + 1) := by
    rw [List.drop_eq_getElem_cons hi]; congr 1
    exact Option.some.inj ((List.getElem?_eq_getElem hi).symm.trans hx)
  rw [hd]
  simp
theorem mapped_get {xs : List α} {i : Nat} {x : α} (hx : xs[i]? = some x) : ((xs.take i).map f ++ xs.drop i)[i]? = some x := by
  have hi := (List.getElem?_eq_some_iff.1 hx).1
  rw [List.getElem?_append_right (by simp; omega)]
  simp only [List.length_map, List.length_take, Nat.min_eq_left (Nat.le_of_lt hi), Nat.sub_self, List.getElem?_drop, Nat.add_zero]
  exact hx
theorem mapped_len {xs : List α} {i : Nat} (hi : i ≤ xs.length) : ((xs.take i).map f ++ xs.drop i).length = xs.length := by simp; omega
theorem mapped_done {xs : List α} {i : Nat} (hi : xs.length ≤ i) : (xs.take i).map f ++ xs.drop i = xs.map f := by
  rw [List.take_of_length_le hi, List.drop_eq_nil_of_le hi, List.append_nil]
end
end Go.Proofs.YtomfoaaaeidpnaaDoor
