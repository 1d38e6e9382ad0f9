/-
  What MbLists asks of Plain's macroblocks, in words for the walk.
-/
import Derived.Test.YteeeabnfgpolgaaDoorM21
set_option linter.unusedVariables false
set_option linter.unusedSimpArgs false
namespace Go.Proofs.YteeeabnfgpolgaaDoor
open Go Go.RowKit
theorem plain_bounds (kind cbp : UInt8) : (plainK kind).toNat < 8 ∧ (plainC kind cbp).toNat < 48 := by
  have h := plainC_ok kind cbp
  refine ⟨by rw [plainK_nat]; omega, ?_⟩
  generalize plainK kind = k at *
  generalize plainC kind cbp = c at *
  unfold cbpB at h
  cases hcd : codedB k with
  | false => rw [hcd] at h; simp at h; omega
  | true =>
    rw [hcd] at h
    simp only [cond_true] at h
    by_cases h1 : k.toNat = 1
    · rw [decide_eq_true h1] at h; simp at h; omega
    · rw [decide_eq_false h1] at h; simp at h; omega
theorem sizeN_le (c : UInt8) : sizeN c ≤ 16 := by unfold sizeN; (repeat' split) <;> omega
theorem plM_fits (k c : UInt8) : Fits (plM k c) := by
  have h4 : partsN k ≤ 4 := by unfold partsN; (repeat' split) <;> omega
  have h27 := blocksL_len (mbK k c)
  refine ⟨?_, ?_, ?_, fun b hb => ?_⟩
  · show (List.replicate (partsN k) (0 : Int)).length ≤ _; rw [List.length_replicate]; omega
  · show (List.replicate (partsN k) (⟨0, 0⟩ : Vec)).length ≤ _; rw [List.length_replicate]; omega
  · show ((blocksL (mbK k c)).map zeroB).length ≤ _; rw [List.length_map]; omega
  · obtain ⟨x, _, rfl⟩ := List.mem_map.1 (show b ∈ (blocksL (mbK k c)).map zeroB from hb)
    have := sizeN_le x.cat
    show (List.replicate (sizeN x.cat) (0 : Int)).length ≤ _
    rw [List.length_replicate]; omega
structure ListsOk (m : Mb) : Prop where
  fits : Fits m
  len : m.blocks.length = (blocksL m).length
  none : m.kind.toNat = 1 ∨ m.cbp.toNat ≠ 0 ∨ blocksL m = []
  ord : ∀ (i j : Nat) (x y : Coded), j < i → (blocksL m)[i]? = some x → (blocksL m)[j]? = some y → x ≠ y ∧ y.cat.toNat ≤ x.cat.toNat
  block : ∀ x ∈ blocksL m, ∃ b, blockO m x = some b ∧ b.length = sizeN x.cat
  ok : checkE m false 1 = 0
  more : checkE { m with blocks := m.blocks ++ [[0]] } false 1 = 2
  less : blocksL m ≠ [] → checkE { m with blocks := m.blocks.dropLast } false 1 = 2
  short : ∀ i b, m.blocks[i]? = some b → checkE { m with blocks := m.blocks.set i b.tail } false 1 = 2
theorem plain_lists (kind cbp : UInt8) : ListsOk (plainM kind cbp) := by
  have hok := pl_ok kind cbp
  have h := plainC_ok kind cbp
  obtain ⟨hk, hc⟩ := plain_bounds kind cbp
  unfold plainM at hok ⊢
  generalize plainK kind = k at *
  generalize plainC kind cbp = c at *
  have h1 := pl_list ⟨k.toNat, hk⟩ ⟨c.toNat, hc⟩
  have h2 := pl_short ⟨k.toNat, hk⟩ ⟨c.toNat, hc⟩
  simp only [UInt8.ofNat_toNat] at h1 h2
  unfold plList at h1
  unfold plShort at h2
  rw [h] at h1 h2
  simp only [Bool.not_true, Bool.false_or, Bool.and_eq_true] at h1 h2
  obtain ⟨⟨⟨⟨a1, a2⟩, a3⟩, a4⟩, a5⟩ := h1
  have eW : blocksL (plM k c) = plW k c := rfl
  have hlen : (plM k c).blocks.length = (plW k c).length := by show ((blocksL (mbK k c)).map zeroB).length = _; rw [List.length_map]
  refine ⟨plM_fits k c, by rw [eW]; exact hlen, ?_, ?_, ?_, hok.1, of_decide_eq_true a4, ?_, ?_⟩
  · rw [eW]
    simp only [Bool.or_eq_true, decide_eq_true_eq, Bool.not_eq_true', decide_eq_false_iff_not, List.isEmpty_iff] at a1
    rcases a1 with (h | h) | h
    · exact .inl h
    · exact .inr (.inl h)
    · exact .inr (.inr h)
  · rw [eW]
    intro i j x y hji hx hy
    have hi : i < (plW k c).length := (List.getElem?_eq_some_iff.1 hx).1
    rw [List.all_eq_true] at a2
    have h3 := a2 i (List.mem_range.2 hi)
    rw [List.all_eq_true] at h3
    have h4 := h3 j (List.mem_range.2 hji)
    rw [hx, hy] at h4
    simp only [Bool.and_eq_true, Bool.not_eq_true', decide_eq_false_iff_not, decide_eq_true_eq, Option.map_some, Option.getD_some, Option.some.injEq] at h4
    exact h4
  · rw [eW]
    intro x hx
    rw [List.all_eq_true] at a3
    have h3 := of_decide_eq_true (a3 x hx)
    cases hb : blockO (plM k c) x with
    | none => rw [hb] at h3; cases h3
    | some b => rw [hb] at h3; exact ⟨b, rfl, by simpa using h3⟩
  · rw [eW]
    intro hne
    simp only [Bool.or_eq_true, List.isEmpty_iff, decide_eq_true_eq] at a5
    rcases a5 with h | h
    · exact absurd h hne
    · exact h
  · intro i b hb
    have hi : i < (plW k c).length := by rw [← hlen]; exact (List.getElem?_eq_some_iff.1 hb).1
    rw [List.all_eq_true] at h2
    have h3 := of_decide_eq_true (h2 i (List.mem_range.2 hi))
    rw [hb] at h3
    exact h3
end Go.Proofs.YteeeabnfgpolgaaDoor
