/-
  Macroblocks, as they are handed in.
-/
import Derived.Test.YtomfoaaaeidpnaaDoorSlO
import Derived.Test.YtomfoaaaeidpnaaDoorK4
set_option linter.unusedVariables false
set_option linter.unusedSimpArgs false
namespace Go.Proofs.YtomfoaaaeidpnaaDoor
open Go Go.RowKit
attribute [local irreducible] WC RL OW bodyPostM ThenQ BlockQ LoopQ
theorem opens_vec : Opens Tryd.prog 37 2 vecR (fun _ => True) := by
  intro H enc W sp held n cs x h hw
  obtain ⟨hl0, hf⟩ := struct_parts Tryd.underlying37 h hw
  have hl : cs.length = 2 := hl0.trans (by kernel_rfl)
  obtain ⟨m0, y0, t0, w0⟩ := hf 0 _ 0 1 3 rfl rfl rfl (by kernel_rfl)
  obtain ⟨-, x0, ⟨q0, b0⟩, o0⟩ := (opens_int (by kernel_rfl)) H enc W sp held _ _ _ t0 w0
  obtain ⟨m1, y1, t1, w1⟩ := hf 1 _ 1 1 3 rfl rfl rfl (by kernel_rfl)
  obtain ⟨-, x1, ⟨q1, b1⟩, o1⟩ := (opens_int (by kernel_rfl)) H enc W sp held _ _ _ t1 w1
  have e : cs = cs.drop 0 := rfl
  rw [drop_split cs 0 1 1 rfl, (show List.take 1 (List.drop 0 cs) = _ from q0), drop_split cs 1 1 2 rfl, (show List.take 1 (List.drop 1 cs) = _ from q1), List.drop_eq_nil_of_le (show cs.length ≤ 2 by omega)] at e
  exact ⟨hl, ⟨x0, x1⟩, ⟨e, b0, b1⟩, trivial⟩
theorem arr16_of (xs : List UInt8) (h : xs.length = 16) : ∃ p : Vector UInt8 16, xs.map u8 = arr16 p := by
  match xs, h with
  | [a0, a1, a2, a3, a4, a5, a6, a7, a8, a9, a10, a11, a12, a13, a14, a15], _ => exact ⟨#v[a0, a1, a2, a3, a4, a5, a6, a7, a8, a9, a10, a11, a12, a13, a14, a15], rfl⟩
theorem arr4_of (xs : List UInt8) (h : xs.length = 4) : ∃ p : Vector UInt8 4, xs.map u8 = arr4 p := by
  match xs, h with
  | [a0, a1, a2, a3], _ => exact ⟨#v[a0, a1, a2, a3], rfl⟩
theorem opens_arr16 : Opens Tryd.prog 22 16 (fun _ cs (xs : List UInt8) => xs.length = 16 ∧ cs = xs.map u8) (fun _ => True) := opens_array Tryd.underlying22 (by kernel_rfl) (by kernel_rfl) (opens_u8 (by kernel_rfl)) (fun _ _ _ h => h)
theorem opens_arr4 : Opens Tryd.prog 23 4 (fun _ cs (xs : List UInt8) => xs.length = 4 ∧ cs = xs.map u8) (fun _ => True) := opens_array Tryd.underlying23 (by kernel_rfl) (by kernel_rfl) (opens_u8 (by kernel_rfl)) (fun _ _ _ h => h)
theorem opens_ints : Opens Tryd.prog 24 1 (listR intR 1) (SOk Tryd.prog 3 fun _ => True) := opens_slice (P := Tryd.prog) Tryd.underlying24 (by kernel_rfl) (by decide) (opens_int (by kernel_rfl))
theorem opens_vecs : Opens Tryd.prog 25 1 (listR vecR 2) (SOk Tryd.prog 37 fun _ => True) := opens_slice (P := Tryd.prog) Tryd.underlying25 (by kernel_rfl) (by decide) opens_vec
theorem opens_blocks : Opens Tryd.prog 26 1 (listR (listR intR 1) 1) (SOk Tryd.prog 24 (SOk Tryd.prog 3 fun _ => True)) := opens_slice (P := Tryd.prog) Tryd.underlying26 (by kernel_rfl) (by decide) opens_ints
theorem bytes_int : Tryd.prog.bytesOf 3 = 8 := by kernel_rfl
theorem opens_mb : Opens Tryd.prog 28 29 mbR (fun m => Short m.blocks) := by
  intro H enc W sp held n cs x h hw
  obtain ⟨hl0, hf⟩ := struct_parts Tryd.underlying28 h hw
  have hl : cs.length = 29 := hl0.trans (by kernel_rfl)
  obtain ⟨m0, y0, t0, w0⟩ := hf 0 _ 0 1 5 rfl rfl rfl (by kernel_rfl)
  obtain ⟨-, x0, q0, o0⟩ := (opens_u8 (by kernel_rfl)) H enc W sp held _ _ _ t0 w0
  obtain ⟨m1, y1, t1, w1⟩ := hf 1 _ 1 1 5 rfl rfl rfl (by kernel_rfl)
  obtain ⟨-, x1, q1, o1⟩ := (opens_u8 (by kernel_rfl)) H enc W sp held _ _ _ t1 w1
  obtain ⟨m2, y2, t2, w2⟩ := hf 2 _ 2 1 5 rfl rfl rfl (by kernel_rfl)
  obtain ⟨-, x2, q2, o2⟩ := (opens_u8 (by kernel_rfl)) H enc W sp held _ _ _ t2 w2
  obtain ⟨m3, y3, t3, w3⟩ := hf 3 _ 3 16 22 rfl rfl rfl (by kernel_rfl)
  obtain ⟨-, x3, ⟨n3, q3⟩, o3⟩ := opens_arr16 H enc W sp held _ _ _ t3 w3
  obtain ⟨m4, y4, t4, w4⟩ := hf 4 _ 19 4 23 rfl rfl rfl (by kernel_rfl)
  obtain ⟨-, x4, ⟨n4, q4⟩, o4⟩ := opens_arr4 H enc W sp held _ _ _ t4 w4
  obtain ⟨m5, y5, t5, w5⟩ := hf 5 _ 23 1 24 rfl rfl rfl (by kernel_rfl)
  obtain ⟨-, x5, ⟨v5, q5, l5⟩, o5⟩ := opens_ints H enc W sp held _ _ _ t5 w5
  obtain ⟨m6, y6, t6, w6⟩ := hf 6 _ 24 1 25 rfl rfl rfl (by kernel_rfl)
  obtain ⟨-, x6, ⟨v6, q6, l6⟩, o6⟩ := opens_vecs H enc W sp held _ _ _ t6 w6
  obtain ⟨m7, y7, t7, w7⟩ := hf 7 _ 25 1 5 rfl rfl rfl (by kernel_rfl)
  obtain ⟨-, x7, q7, o7⟩ := (opens_u8 (by kernel_rfl)) H enc W sp held _ _ _ t7 w7
  obtain ⟨m8, y8, t8, w8⟩ := hf 8 _ 26 1 3 rfl rfl rfl (by kernel_rfl)
  obtain ⟨-, x8, ⟨q8, b8⟩, o8⟩ := (opens_int (by kernel_rfl)) H enc W sp held _ _ _ t8 w8
  obtain ⟨m9, y9, t9, w9⟩ := hf 9 _ 27 1 26 rfl rfl rfl (by kernel_rfl)
  obtain ⟨-, x9, ⟨v9, q9, l9⟩, o9⟩ := opens_blocks H enc W sp held _ _ _ t9 w9
  obtain ⟨m10, y10, t10, w10⟩ := hf 10 _ 28 1 9 rfl rfl rfl (by kernel_rfl)
  obtain ⟨-, x10, ⟨q10, b10⟩, o10⟩ := (opens_str (by kernel_rfl)) H enc W sp held _ _ _ t10 w10
  have e : cs = cs.drop 0 := rfl
  rw [drop_split cs 0 1 1 rfl, (show List.take 1 (List.drop 0 cs) = _ from q0), drop_split cs 1 1 2 rfl, (show List.take 1 (List.drop 1 cs) = _ from q1), drop_split cs 2 1 3 rfl, (show List.take 1 (List.drop 2 cs) = _ from q2), drop_split cs 3 16 19 rfl, (show List.take 16 (List.drop 3 cs) = _ from q3), drop_split cs 19 4 23 rfl, (show List.take 4 (List.drop 19 cs) = _ from q4), drop_split cs 23 1 24 rfl, (show List.take 1 (List.drop 23 cs) = _ from q5), drop_split cs 24 1 25 rfl, (show List.take 1 (List.drop 24 cs) = _ from q6), drop_split cs 25 1 26 rfl, (show List.take 1 (List.drop 25 cs) = _ from q7), drop_split cs 26 1 27 rfl, (show List.take 1 (List.drop 26 cs) = _ from q8), drop_split cs 27 1 28 rfl, (show List.take 1 (List.drop 27 cs) = _ from q9), drop_split cs 28 1 29 rfl, (show List.take 1 (List.drop 28 cs) = _ from q10), List.drop_eq_nil_of_le (show cs.length ≤ 29 by omega)] at e
  obtain ⟨p, hp⟩ := arr16_of x3 n3
  obtain ⟨s, hs⟩ := arr4_of x4 n4
  rw [hp, hs] at e
  refine ⟨hl, ⟨x0, x1, x2, p, s, x5, x6, x7, x8, x9, x10⟩, ⟨v5, v6, v9, e, l5, l6, l9, b8, b10⟩, fun b hb => ?_⟩
  have := (o9.1 b hb).2
  rw [bytes_int] at this
  unfold reachBytes at this
  omega
end Go.Proofs.YtomfoaaaeidpnaaDoor
