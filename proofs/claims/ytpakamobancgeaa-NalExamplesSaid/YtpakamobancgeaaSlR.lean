/-
  Small steps for the rows.
-/
import Derived.Test.YtpakamobancgeaaSl9
import Derived.ChangeOld
import Derived.WalkKit
namespace Go.Proofs.Ytpakamobancgeaa
open Go Go.RowKit
theorem bs_ex (x : ByteArray) : ∃ s : List UInt8, x = bs s := ⟨x.data.toList, by cases x; simp [bs]⟩
theorem u8_ex {n : Int} (h : (Lit.int .u8 n).wf = true) : ∃ b : UInt8, n = (b.toNat : Int) := by
  have h' : 0 ≤ n ∧ n ≤ 255 := by simpa [Lit.wf, IntKind.min, IntKind.max, IntKind.signed, IntKind.bits] using h
  exact ⟨UInt8.ofNat n.toNat, by rw [UInt8.toNat_ofNat']; omega⟩
theorem trod_lts {H : Type} {enc : TypeId × Value → H} {P : Program} {w : World} {base : Nat} {sp : Nat → Bool} {held : Bool} {t : TypeId} {v : Value} {d : DataW H} {ps : List MemPlace} (h : DataW.Trod enc P w base sp held t v d ps) : ∀ x ∈ ps, x.block < w.heap.size := by
  obtain ⟨m, hm⟩ := h; exact DataW.trod_lt m _ _ _ hm
end Go.Proofs.Ytpakamobancgeaa
