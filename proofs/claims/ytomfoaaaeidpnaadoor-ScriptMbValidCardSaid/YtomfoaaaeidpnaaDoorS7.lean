/-
  script's source: macroblocks, walked.
-/
import Derived.Test.YtomfoaaaeidpnaaDoorS6
import Derived.Test.YtomfoaaaeidpnaaDoorSlF
set_option linter.unusedVariables false
set_option linter.unusedSimpArgs false
namespace Go.Proofs.YtomfoaaaeidpnaaDoor
open Go Go.RowKit
attribute [local irreducible] WC RL OW bodyPostM ThenQ BlockQ LoopQ ScopeQ
def mF (k mo ch : UInt8) (pr sl : List UInt8) (c : UInt8) (qp : Int) : Mb := ⟨k, mo, ch, vec16 pr, vec4 sl, [], [], c, qp, [], []⟩
theorem mM_pred (k mo ch : UInt8) (l : List UInt8) (x : UInt8) (r v u : Value) (hl : l.length < 16) : (mbC (mM k mo ch (vec16 l) []) r v u).set (3 + l.length) (u8 x) = mbC (mM k mo ch (vec16 (l ++ [x])) []) r v u := by
  match l, hl with
  | [], _ => rfl
  | [a0], _ => rfl
  | [a0, a1], _ => rfl
  | [a0, a1, a2], _ => rfl
  | [a0, a1, a2, a3], _ => rfl
  | [a0, a1, a2, a3, a4], _ => rfl
  | [a0, a1, a2, a3, a4, a5], _ => rfl
  | [a0, a1, a2, a3, a4, a5, a6], _ => rfl
  | [a0, a1, a2, a3, a4, a5, a6, a7], _ => rfl
  | [a0, a1, a2, a3, a4, a5, a6, a7, a8], _ => rfl
  | [a0, a1, a2, a3, a4, a5, a6, a7, a8, a9], _ => rfl
  | [a0, a1, a2, a3, a4, a5, a6, a7, a8, a9, a10], _ => rfl
  | [a0, a1, a2, a3, a4, a5, a6, a7, a8, a9, a10, a11], _ => rfl
  | [a0, a1, a2, a3, a4, a5, a6, a7, a8, a9, a10, a11, a12], _ => rfl
  | [a0, a1, a2, a3, a4, a5, a6, a7, a8, a9, a10, a11, a12, a13], _ => rfl
  | [a0, a1, a2, a3, a4, a5, a6, a7, a8, a9, a10, a11, a12, a13, a14], _ => rfl
  | a0 :: a1 :: a2 :: a3 :: a4 :: a5 :: a6 :: a7 :: a8 :: a9 :: a10 :: a11 :: a12 :: a13 :: a14 :: a15 :: rest, h => exact absurd h (by simp only [List.length_cons]; omega)
theorem mbP_pcm {intra : Bool} {refs : Nat} {σ : Nat → UInt8} {p : Nat} {k : UInt8} {p1 : Nat} (h1 : u8P (if intra then 3 else 8) σ p = (k, p1)) (h2 : k.toNat = 2) : mbP intra refs σ p = (pcmM (pcmP σ p1).1, (pcmP σ p1).2) := by
  have : mbP intra refs σ p = (if (u8P (if intra then 3 else 8) σ p).1.toNat = 2 then pcmP.bnd fun s => .ret (pcmM s) else _) σ (u8P (if intra then 3 else 8) σ p).2 := rfl
  rw [this, h1, if_pos h2]
  rfl
theorem mbP_skip {intra : Bool} {refs : Nat} {σ : Nat → UInt8} {p : Nat} {k : UInt8} {p1 : Nat} (h1 : u8P (if intra then 3 else 8) σ p = (k, p1)) (h2 : k.toNat = 7) : mbP intra refs σ p = (mF 7 0 0 [] [] 0 0, p1) := by
  have : mbP intra refs σ p = (if (u8P (if intra then 3 else 8) σ p).1.toNat = 2 then pcmP.bnd fun s => .ret (pcmM s) else if (u8P (if intra then 3 else 8) σ p).1.toNat = 7 then .ret (mF 7 0 0 [] [] 0 0) else _) σ (u8P (if intra then 3 else 8) σ p).2 := rfl
  rw [this, h1, if_neg (by rw [h2]; decide), if_pos h2]
  rfl
theorem mbP_eq {intra : Bool} {refs : Nat} {σ : Nat → UInt8} {p : Nat} {k mo ch c : UInt8} {p1 p2 p3 p4 p5 p6 p7 p8 : Nat} {pr sl : List UInt8} {rl : List Int} {vl : List Vec} {qp : Int} {bl : List (List Int)} (h1 : u8P (if intra then 3 else 8) σ p = (k, p1)) (h2 : ¬ k.toNat = 2) (h7 : ¬ k.toNat = 7)
    (hmo : optP (decide (k.toNat = 1)) (u8P 4) 0 σ p1 = (mo, p2)) (hch : optP (decide (k.toNat ≤ 1)) (u8P 4) 0 σ p2 = (ch, p3)) (hpr : optP (decide (k.toNat = 0)) (repP (u8P 9) 16) [] σ p3 = (pr, p4)) (hmot : motP k refs σ p4 = ((sl, rl, vl), p5)) (hc : cbpP k σ p5 = (c, p6))
    (hqp : optP (decide (k.toNat = 1) || !decide (c.toNat = 0)) ((tk 52).bnd fun a => .ret ((a : Int) - 26)) 0 σ p6 = (qp, p7)) (hbl : mapP (fun x : Coded => blkP (sizeN x.cat)) (blocksL (mF k mo ch pr sl c qp)) σ p7 = (bl, p8)) :
    mbP intra refs σ p = (⟨k, mo, ch, vec16 pr, vec4 sl, rl, vl, c, qp, bl, []⟩, p8) := by
  unfold mbP
  simp only [Par.bnd, h1]
  rw [if_neg h2, if_neg h7]
  simp only [Par.bnd, hmo, hch, hpr, hmot, hc, hqp]
  have hb : mapP (fun x : Coded => blkP (sizeN x.cat)) (blocksL ⟨k, mo, ch, vec16 pr, vec4 sl, rl, vl, c, qp, [], []⟩) σ p7 = (bl, p8) := hbl
  rw [hb]
  rfl
theorem blkLen (m : Mb) : (blocksL m).length ≤ 27 := by
  unfold blocksL
  split
  · have h1 := lumaL_len (if m.kind.toNat = 1 then 1 else 2) m.cbp 16
    have h2 := chacL_len 8
    simp only [List.length_append]
    have h3 : (if m.kind.toNat = 1 then [(⟨0, 0, 0⟩ : Coded)] else []).length ≤ 1 := by split <;> simp
    have h4 : (if 0 < m.cbp.toNat / 16 then [(⟨3, 0, 0⟩ : Coded), ⟨3, 1, 0⟩] else []).length ≤ 2 := by split <;> simp
    have h5 : (if m.cbp.toNat / 16 = 2 then chacL 8 else []).length ≤ 8 := by split <;> simp [h2]
    omega
  · simp
theorem blkCat (m : Mb) : ∀ c ∈ blocksL m, c.cat.toNat < 5 := by
  intro c hc
  unfold blocksL at hc
  split at hc
  · simp only [List.mem_append] at hc
    rcases hc with ((hc | hc) | hc) | hc
    · split at hc
      · rw [List.mem_singleton.1 hc]; decide
      · cases hc
    · unfold lumaL at hc
      obtain ⟨k, _, rfl⟩ := List.mem_map.1 hc
      show (if m.kind.toNat = 1 then (1 : UInt8) else 2).toNat < 5
      split <;> decide
    · split at hc
      · rcases List.mem_cons.1 hc with rfl | hc
        · decide
        · rw [List.mem_singleton.1 hc]; decide
      · cases hc
    · split at hc
      · unfold chacL at hc
        obtain ⟨k, _, rfl⟩ := List.mem_map.1 hc
        show (4 : UInt8).toNat < 5
        decide
      · cases hc
  · cases hc
end Go.Proofs.YtomfoaaaeidpnaaDoor
