/-
  What Bins counts, and that a valid macroblock has small numbers (plain law).
-/
import Derived.Test.YtomfoaaaeidpnaaDoorM7
import Derived.Test.YtomfoaaaeidpnaaDoorD2
set_option linter.unusedVariables false
set_option linter.unusedSimpArgs false
namespace Go.Proofs.YtomfoaaaeidpnaaDoor
open Go Go.RowKit
theorem firstE_zero {F : List Fld} : firstE F = 0 ↔ ∀ x ∈ F, fldErr x = 0 := by
  induction F with
  | nil => exact ⟨fun _ x hx => (List.not_mem_nil hx).elim, fun _ => rfl⟩
  | cons a r ih =>
    rw [firstE]
    by_cases h : fldErr a = 0
    · rw [if_neg (by omega), ih]
      exact ⟨fun hr x hx => by rcases List.mem_cons.1 hx with rfl | hx; exact h; exact hr x hx, fun hr x hx => hr x (List.mem_cons_of_mem _ hx)⟩
    · rw [if_pos h]
      exact ⟨fun h0 => absurd h0 h, fun hr => hr a (List.mem_cons_self ..)⟩
theorem fields_zero {m : Mb} {refs : Int} : firstE (fieldsL m refs) = 0 ↔ ∀ i < 10, ∀ x, (fieldsL m refs)[i]? = some x → fldErr x = 0 := by
  rw [firstE_zero]
  constructor
  · intro h i _ x hx; exact h x (List.mem_of_getElem? hx)
  · intro h x hx
    obtain ⟨i, hi⟩ := List.getElem?_of_mem hx
    have : i < (fieldsL m refs).length := (List.getElem?_eq_some_iff.1 hi).1
    exact h i (by have e : (fieldsL m refs).length = 10 := rfl; omega) x hi
/-- The one field that speaks of reference indices. -/
theorem fields_refs {m : Mb} {a b : Int} (h : firstE (fieldsL m a) = 0) (h4 : fldErr (decide ((0 : Int) < (partsN m.kind : Int)), decide ((m.refs.length : Int) = 0), rangedL m.refs (partsN m.kind) 0 (a - 1)) = 0 →
    fldErr (decide ((0 : Int) < (partsN m.kind : Int)), decide ((m.refs.length : Int) = 0), rangedL m.refs (partsN m.kind) 0 (b - 1)) = 0) : firstE (fieldsL m b) = 0 := by
  rw [fields_zero] at h ⊢
  intro i hi x hx
  have : i = 0 ∨ i = 1 ∨ i = 2 ∨ i = 3 ∨ i = 4 ∨ i = 5 ∨ i = 6 ∨ i = 7 ∨ i = 8 ∨ i = 9 := by omega
  rcases this with rfl | rfl | rfl | rfl | rfl | rfl | rfl | rfl | rfl | rfl
  · exact h 0 hi x hx
  · exact h 1 hi x hx
  · exact h 2 hi x hx
  · exact h 3 hi x hx
  · have hx := (Option.some.inj hx)
    subst hx
    exact h4 (h 4 hi _ rfl)
  · exact h 5 hi x hx
  · exact h 6 hi x hx
  · exact h 7 hi x hx
  · exact h 8 hi x hx
  · exact h 9 hi x hx
theorem checkE_inter {m : Mb} {a : Int} (h1 : 1 ≤ a) (h2 : a ≤ 32) : checkE m false a = if decide ((7 : Int) < (m.kind.toNat : Int)) = true then 9 else firstE (fieldsL m a) := by
  unfold checkE
  rw [if_neg (by simp; omega)]
  simp only [Bool.false_and, Bool.or_false]
/-- What is valid for some reference indices is valid for more. -/
theorem check_more (m : Mb) (a b : Int) (h1 : 1 ≤ a) (h2 : a ≤ b) (h3 : b ≤ 32) (h : checkE m false a = 0) : checkE m false b = 0 := by
  rw [checkE_inter (by omega) (by omega)] at h ⊢
  split at h
  · omega
  · rename_i hk
    rw [if_neg hk]
    refine fields_refs h ?_
    unfold fldErr
    cases decide ((0 : Int) < (partsN m.kind : Int)) with
    | false => exact id
    | true =>
      simp only [if_true]
      unfold rangedL
      intro h
      split at h
      · omega
      · rename_i hn
        rw [if_neg hn]
        split at h
        · rename_i ha
          rw [if_pos (List.all_eq_true.2 fun x hx => ?_)]
          have := of_decide_eq_true (List.all_eq_true.1 ha x hx)
          exact decide_eq_true (by omega)
        · omega
theorem partsN_intra {k : UInt8} (h : k.toNat ≤ 2) : partsN k = 0 := by unfold partsN; rw [if_neg (by omega), if_neg (by omega), if_neg (by omega), if_neg (by omega)]
/-- What is valid in a slice of kind I is valid in one of kind P. -/
theorem check_intra (m : Mb) (a : Int) (h1 : 1 ≤ a) (h2 : a ≤ 32) (h : checkE m true 0 = 0) : checkE m false a = 0 := by
  rw [checkE_inter (by omega) (by omega)]
  unfold checkE at h
  rw [if_neg (by decide)] at h
  split at h
  · omega
  · rename_i hk
    simp only [Bool.true_and, Bool.or_eq_true, decide_eq_true_eq, Bool.not_eq_true', decide_eq_false_iff_not, not_or, Classical.not_not] at hk
    rw [if_neg (by simp only [decide_eq_true_eq]; omega)]
    refine fields_refs h ?_
    rw [partsN_intra hk.2]
    exact id
def binsN (m : Mb) : Nat :=
  if m.kind.toNat = 7 then 2 else if m.kind.toNat = 2 then 10 else
  10 + (if m.kind.toNat = 0 then sumN predN m.preds.toList else 0) + (if m.kind.toNat ≤ 1 then 3 else 0) + (if m.kind.toNat = 6 then 12 else 0)
    + sumN refN m.refs + sumN vecN m.mvds + 60 + sumN blockN m.blocks
/-- Whether a macroblock is valid in some slice. -/
def validB (m : Mb) : Bool := decide (checkE m false 32 = 0)
def binsV (m : Mb) : Nat := if validB m = true then binsN m else 0
def bitsV (m : Mb) : Nat := 6 * binsV m + (if 0 < binsV m ∧ m.kind.toNat = 2 then 3100 else 0)
theorem valid_or (m : Mb) : (decide (checkE m true 0 = 0) || decide (checkE m false 32 = 0)) = validB m := by
  unfold validB
  by_cases h : checkE m true 0 = 0
  · rw [decide_eq_true (check_intra m 32 (by decide) (by decide) h)]; simp
  · rw [decide_eq_false h]; rfl
/-- The numbers of a macroblock are small. -/
structure Sm (m : Mb) : Prop where
  refs : ∀ r ∈ m.refs, 0 ≤ r ∧ r ≤ 31
  mvds : ∀ v ∈ m.mvds, v.x.natAbs ≤ 8192 ∧ v.y.natAbs ≤ 8192
  blocks : ∀ b ∈ m.blocks, b.length ≤ 16 ∧ ∀ x ∈ b, x.natAbs ≤ 32768
  nrefs : m.refs.length ≤ 4
  nmvds : m.mvds.length ≤ 16
  nblocks : m.blocks.length ≤ 27
theorem rangedL_ok {l : List Int} {n lo hi : Int} (h : rangedL l n lo hi = 0) : (l.length : Int) = n ∧ ∀ x ∈ l, lo ≤ x ∧ x ≤ hi := by
  unfold rangedL at h
  split at h
  · omega
  · rename_i h1
    split at h
    · rename_i h2
      exact ⟨Classical.not_not.1 h1, fun x hx => of_decide_eq_true (List.all_eq_true.1 h2 x hx)⟩
    · omega
theorem partsN_le (k : UInt8) : partsN k ≤ 4 := by unfold partsN; (repeat' split) <;> omega
theorem sizeN_le (c : UInt8) : sizeN c ≤ 16 := by unfold sizeN; (repeat' split) <;> omega
theorem blocksGo_in {bs : List (List Int)} {cs : List Coded} (hl : bs.length = cs.length) (h : blocksGo bs cs = 0) : ∀ b ∈ bs, b.length ≤ 16 ∧ ∀ x ∈ b, -32768 ≤ x ∧ x ≤ 32768 := by
  induction bs generalizing cs with
  | nil => intro b hb; cases hb
  | cons b bs ih =>
    cases cs with
    | nil => cases hl
    | cons c cs =>
      rw [blocksGo] at h
      split at h
      · rename_i h1; exact absurd h h1
      · rename_i h1
        have h1 := rangedL_ok (Classical.not_not.1 h1)
        have := sizeN_le c.cat
        intro b' hb'
        rcases List.mem_cons.1 hb' with rfl | hb'
        · exact ⟨by omega, h1.2⟩
        · exact ih (Nat.succ.inj hl) h b' hb'
theorem fld_at {m : Mb} {refs : Int} (h : firstE (fieldsL m refs) = 0) {i : Nat} {x : Fld} (hx : (fieldsL m refs)[i]? = some x) : (x.1 = true ∧ x.2.2 = 0) ∨ (x.1 = false ∧ x.2.1 = true) := by
  have h1 := firstE_zero.1 h x (List.mem_of_getElem? hx)
  unfold fldErr at h1
  cases h2 : x.1 with
  | true => rw [h2, if_pos rfl] at h1; exact .inl ⟨rfl, h1⟩
  | false =>
    rw [h2, if_neg (by decide)] at h1
    cases h3 : x.2.1 with
    | true => exact .inr ⟨rfl, rfl⟩
    | false => rw [h3, if_neg (by decide)] at h1; omega
theorem valid_fields {m : Mb} (h : validB m = true) : m.kind.toNat ≤ 7 ∧ firstE (fieldsL m 32) = 0 := by
  have h := of_decide_eq_true h
  rw [checkE_inter (by omega) (by omega)] at h
  split at h
  · omega
  · rename_i h1
    exact ⟨by simp only [decide_eq_true_eq] at h1; omega, h⟩
theorem valid_sm {m : Mb} (h : validB m = true) : Sm m := by
  have h := (valid_fields h).2
  have f4 := fld_at h (i := 4) rfl
  have f5 := fld_at h (i := 5) rfl
  have f8 := fld_at h (i := 8) rfl
  have p4 := partsN_le m.kind
  have hr : m.refs.length ≤ 4 ∧ ∀ r ∈ m.refs, 0 ≤ r ∧ r ≤ 31 := by
    rcases f4 with ⟨_, f4⟩ | ⟨_, f4⟩
    · have h1 := rangedL_ok f4
      exact ⟨by omega, fun r hr => by have := h1.2 r hr; omega⟩
    · have h1 := of_decide_eq_true f4
      have h2 : m.refs = [] := List.eq_nil_of_length_eq_zero (by omega)
      rw [h2]
      exact ⟨by decide, fun r hr => by cases hr⟩
  have hv : m.mvds.length ≤ 16 ∧ ∀ v ∈ m.mvds, v.x.natAbs ≤ 8192 ∧ v.y.natAbs ≤ 8192 := by
    rcases f5 with ⟨_, f5⟩ | ⟨_, f5⟩
    · have f5 : vectorsE m = 0 := f5
      unfold vectorsE at f5
      split at f5
      · omega
      · rename_i h0
        have h1 := rangedL_ok f5
        have h2 := piecesP_le m.kind m.sub
        have h3 : m.mvds.length = (piecesP m.kind m.sub).1 := Classical.not_not.1 fun hh => h0 (.inr hh)
        refine ⟨by omega, fun v hv => ?_⟩
        have hx := h1.2 v.x (List.mem_flatMap.2 ⟨v, hv, by simp⟩)
        have hy := h1.2 v.y (List.mem_flatMap.2 ⟨v, hv, by simp⟩)
        omega
    · have h1 := of_decide_eq_true f5
      have h2 : m.mvds = [] := List.eq_nil_of_length_eq_zero (by omega)
      rw [h2]
      exact ⟨by decide, fun r hr => by cases hr⟩
  have hb : m.blocks.length ≤ 27 ∧ ∀ b ∈ m.blocks, b.length ≤ 16 ∧ ∀ x ∈ b, -32768 ≤ x ∧ x ≤ 32768 := by
    rcases f8 with ⟨_, f8⟩ | ⟨_, f8⟩
    · have f8 : blocksE m = 0 := f8
      unfold blocksE at f8
      split at f8
      · omega
      · rename_i h0
        have h3 : m.blocks.length = (blocksL m).length := Classical.not_not.1 h0
        have := blocksL_len m
        exact ⟨by omega, blocksGo_in h3 f8⟩
    · have h1 := of_decide_eq_true f8
      have h2 : m.blocks = [] := List.eq_nil_of_length_eq_zero (by omega)
      rw [h2]
      exact ⟨by decide, fun r hr => by cases hr⟩
  exact ⟨hr.2, hv.2, fun b hb' => ⟨(hb.2 b hb').1, fun x hx => by have := (hb.2 b hb').2 x hx; omega⟩, hr.1, hv.1, hb.1⟩
theorem Sm.block {m : Mb} (h : Sm m) : ∀ b ∈ m.blocks, blockN b ≤ 1089 := fun b hb => by
  have h1 := h.blocks b hb
  have := blockN_le b fun x hx => by have := h1.2 x hx; omega
  omega
theorem binsN_le {m : Mb} (h : Sm m) : binsN m ≤ 100000 := by
  have h1 := sumN_le predN m.preds.toList 4 fun x _ => predN_le x
  have h2 := sumN_le refN m.refs 32 fun x hx => by have := h.refs x hx; unfold refN; omega
  have h3 := sumN_le vecN m.mvds 122 fun v hv => by
    have := h.mvds v hv
    have := compN_le v.x (by omega)
    have := compN_le v.y (by omega)
    unfold vecN; omega
  have h4 := sumN_le blockN m.blocks 1089 h.block
  have hl : m.preds.toList.length = 16 := by simp
  have := h.nrefs
  have := h.nmvds
  have := h.nblocks
  unfold binsN
  split
  · omega
  · split
    · omega
    · have a1 : (if m.kind.toNat = 0 then sumN predN m.preds.toList else 0) ≤ 64 := by split <;> omega
      have a2 : (if m.kind.toNat ≤ 1 then 3 else 0) ≤ 3 := by split <;> omega
      have a3 : (if m.kind.toNat = 6 then 12 else 0) ≤ 12 := by split <;> omega
      omega
theorem binsV_le (m : Mb) : binsV m ≤ 100000 := by
  unfold binsV
  split
  · rename_i h; exact binsN_le (valid_sm h)
  · omega
theorem bitsV_le (m : Mb) : bitsV m ≤ 1000000 := by
  have := binsV_le m
  unfold bitsV
  split <;> omega
end Go.Proofs.YtomfoaaaeidpnaaDoor
