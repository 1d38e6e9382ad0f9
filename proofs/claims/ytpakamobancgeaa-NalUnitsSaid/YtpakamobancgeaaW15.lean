/-
  spindlelaw03.NalUnits: walked.
-/
import Derived.Test.YtpakamobancgeaaW14
set_option linter.unusedVariables false
set_option linter.unusedSimpArgs false
namespace Go.Proofs.Ytpakamobancgeaa
open Go Go.RowKit
attribute [local irreducible] WC RL OW bodyPostM ThenQ BlockQ LoopQ
theorem dec_enc (t : List UInt8) (h : (decodeR t).2 = 0) : encodeR (decodeR t).1.1 (decodeR t).1.2.1 (decodeR t).1.2.2 = (t, 0) := by
  cases t with
  | nil => exact absurd h (by decide)
  | cons c t =>
    by_cases hb : escape (unescape t) = t ∧ encodeR (c / 32) (c % 32) (unescape t) = (c :: t, 0)
    · simp only [decodeR, if_pos hb]; exact hb.2
    · simp only [decodeR, if_neg hb] at h; exact absurd h (by decide)
theorem hd_parts (r k : UInt8) (hr : r.toNat ≤ 3) (hk : k.toNat ≤ 31) : (32 * r + k) / 32 = r ∧ (32 * r + k) % 32 = k ∧ (32 * r + k).toNat = 32 * r.toNat + k.toNat := by
  have h : (32 * r + k).toNat = 32 * r.toNat + k.toNat := by simp only [UInt8.toNat_add, UInt8.toNat_mul]; simp; omega
  refine ⟨UInt8.toNat_inj.1 ?_, UInt8.toNat_inj.1 ?_, h⟩
  · rw [UInt8.toNat_div, h]; simp; omega
  · rw [UInt8.toNat_mod, h]; simp; omega
theorem enc_good (r k : UInt8) (s : List UInt8) (hr : r.toNat ≤ 3) (hk : k.toNat ≤ 31) (h0 : 32 * r.toNat + k.toNat ≠ 0) (hl : escape s = [] ∨ ∃ b, (escape s).getLast? = some b ∧ b.toNat ≠ 0) : encodeR r k s = ((32 * r + k) :: escape s, 0) := by
  have hh := (hd_parts r k hr hk).2.2
  unfold encodeR
  rw [if_neg (by rw [UInt8.lt_iff_toNat_lt, UInt8.lt_iff_toNat_lt]; simp; omega), if_neg]
  rintro (h | h)
  · rcases hl with e | ⟨b, e, hb⟩
    · rw [e] at h
      have : 32 * r + k = 0 := by simpa using h
      rw [this] at hh; simp at hh; omega
    · have : ((32 * r + k) :: escape s).getLast? = some b := by
        cases hs : escape s with
        | nil => rw [hs] at e; cases e
        | cons x y => rw [hs] at e; rw [List.getLast?_cons_cons]; exact e
      rw [this] at h
      have : b = 0 := Option.some.inj h
      rw [this] at hb; exact hb rfl
  · rw [h] at hh; simp at hh; omega
theorem enc_bad (r k : UInt8) (s : List UInt8) (hr : r.toNat ≤ 3) (hk : k.toNat ≤ 31) (h : 32 * r.toNat + k.toNat = 0 ∨ (escape s).getLast? = some 0) : encodeR r k s = ([], 4) := by
  have hh := (hd_parts r k hr hk).2.2
  unfold encodeR
  rw [if_neg (by rw [UInt8.lt_iff_toNat_lt, UInt8.lt_iff_toNat_lt]; simp; omega), if_pos]
  rcases h with h | h
  · exact .inr (UInt8.toNat_inj.1 (by rw [hh, h]; rfl))
  · refine .inl ?_
    cases hs : escape s with
    | nil => rw [hs] at h; cases h
    | cons x y => rw [hs] at h; rw [List.getLast?_cons_cons]; exact h
theorem dec_good (r k : UInt8) (s : List UInt8) (hr : r.toNat ≤ 3) (hk : k.toNat ≤ 31) (h : encodeR r k s = ((32 * r + k) :: escape s, 0)) : decodeR ((32 * r + k) :: escape s) = ((r, k, s), 0) := by
  obtain ⟨h1, h2, _⟩ := hd_parts r k hr hk
  simp only [decodeR, h1, h2, unescape_escape]
  rw [if_pos ⟨trivial, h⟩]
end Go.Proofs.Ytpakamobancgeaa
