/-
  What Plain returns is valid; its blocks.
-/
import Derived.Test.YteeeabnfgpolgaaDoorM7
import Derived.Test.YteeeabnfgpolgaaDoorM19
import Derived.Test.YteeeabnfgpolgaaDoorM20
set_option linter.unusedVariables false
set_option linter.unusedSimpArgs false
namespace Go.Proofs.YteeeabnfgpolgaaDoor
open Go Go.RowKit
/-- Whether Cbp may be that of a kind. -/
def cbpB (k c : UInt8) : Bool := bif codedB k then (bif decide (k.toNat = 1) then decide (c.toNat ≤ 47) && (decide (c.toNat % 16 = 0) || decide (c.toNat % 16 = 15)) else decide (c.toNat ≤ 47)) else decide (c.toNat = 0)
theorem plainC_ok (kind cbp : UInt8) : cbpB (plainK kind) (plainC kind cbp) = true := by
  unfold cbpB plainC
  have h8 := cbp.toNat_lt
  cases hc : codedB (plainK kind) with
  | false => rw [if_neg (by decide)]; rfl
  | true =>
    rw [if_pos rfl]
    by_cases h1 : (plainK kind).toNat = 1
    · have e : (UInt8.ofNat (cbp.toNat % 3 * 16 + cbp.toNat / 3 % 2 * 15)).toNat = cbp.toNat % 3 * 16 + cbp.toNat / 3 % 2 * 15 := by rw [UInt8.toNat_ofNat']; omega
      rw [if_pos h1, h1]
      simp only [e]
      simp only [cond_true, decide_true, Bool.and_eq_true, Bool.or_eq_true, decide_eq_true_eq]
      rcases Nat.mod_two_eq_zero_or_one (cbp.toNat / 3) with h | h <;> rw [h] <;> omega
    · have e : (UInt8.ofNat (cbp.toNat % 48)).toNat = cbp.toNat % 48 := by rw [UInt8.toNat_ofNat']; omega
      rw [if_neg h1, e, decide_eq_false h1]
      simp only [cond_true, cond_false, decide_eq_true_eq]
      omega
/-- All kinds with all Cbp: valid, and the blocks stand in order, and differ. -/
def plOk (k c : UInt8) : Bool :=
  !cbpB k c || (decide (checkE (plM k c) false 1 = 0) && decide (checkE (plM k c) false 3 = 0) && (decide (checkE (plM k c) true 0 = 0) == decide (k.toNat ≤ 2)))
set_option maxRecDepth 100000 in
theorem pl_all : ∀ (k : Fin 8) (c : Fin 48), plOk (UInt8.ofNat k.val) (UInt8.ofNat c.val) = true := by decide +kernel
theorem pl_ok (kind cbp : UInt8) : checkE (plainM kind cbp) false 1 = 0 ∧ checkE (plainM kind cbp) false 3 = 0 ∧ (checkE (plainM kind cbp) true 0 = 0 ↔ (plainK kind).toNat ≤ 2) := by
  have h := plainC_ok kind cbp
  unfold plainM
  have hk : (plainK kind).toNat < 8 := by rw [plainK_nat]; omega
  generalize plainK kind = k at *
  generalize plainC kind cbp = c at *
  have hc : c.toNat < 48 := by
    unfold cbpB at h
    cases hcd : codedB k with
    | false => rw [hcd] at h; simp at h; omega
    | true =>
      rw [hcd] at h
      simp only [cond_true] at h
      by_cases h1 : k.toNat = 1
      · rw [decide_eq_true h1] at h; simp at h; omega
      · rw [decide_eq_false h1] at h; simp at h; omega
  have := pl_all ⟨k.toNat, hk⟩ ⟨c.toNat, hc⟩
  simp only [UInt8.ofNat_toNat] at this
  unfold plOk at this
  rw [h] at this
  simp only [Bool.not_true, Bool.false_or, Bool.and_eq_true, decide_eq_true_eq, beq_iff_eq] at this
  exact ⟨this.1.1, this.1.2, by rw [← decide_eq_decide]; exact this.2⟩
/-- The blocks of a kind with this Cbp. -/
abbrev plW (k c : UInt8) : List Coded := blocksL (mbK k c)
def plList (k c : UInt8) : Bool :=
  !cbpB k c || ((decide (k.toNat = 1) || !decide (c.toNat = 0) || (plW k c).isEmpty)
    && ((List.range (plW k c).length).all fun i => (List.range i).all fun j => !decide ((plW k c)[i]? = (plW k c)[j]?) && decide ((((plW k c)[j]?.map fun x => x.cat.toNat).getD 0) ≤ (((plW k c)[i]?.map fun x => x.cat.toNat).getD 0)))
    && ((plW k c).all fun x => decide ((blockO (plM k c) x).map (·.length) = some (sizeN x.cat)))
    && decide (checkE { plM k c with blocks := (plM k c).blocks ++ [[0]] } false 1 = 2)
    && ((plW k c).isEmpty || decide (checkE { plM k c with blocks := (plM k c).blocks.dropLast } false 1 = 2)))
set_option maxRecDepth 100000 in
theorem pl_list : ∀ (k : Fin 8) (c : Fin 48), plList (UInt8.ofNat k.val) (UInt8.ofNat c.val) = true := by decide +kernel
def plShort (k c : UInt8) : Bool :=
  !cbpB k c || ((List.range (plW k c).length).all fun i => decide (checkE { plM k c with blocks := (plM k c).blocks.set i (((plM k c).blocks[i]?.getD []).tail) } false 1 = 2))
set_option maxRecDepth 100000 in
theorem pl_short : ∀ (k : Fin 8) (c : Fin 48), plShort (UInt8.ofNat k.val) (UInt8.ofNat c.val) = true := by decide +kernel
end Go.Proofs.YteeeabnfgpolgaaDoor
