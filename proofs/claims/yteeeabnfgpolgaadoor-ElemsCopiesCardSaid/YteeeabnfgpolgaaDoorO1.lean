/-
  Nodes, slices, headers, macroblocks, as they are handed in.
-/
import Derived.Test.YteeeabnfgpolgaaDoorSlO
import Derived.Test.YteeeabnfgpolgaaDoorF2
import Derived.LaidMore
set_option linter.unusedVariables false
set_option linter.unusedSimpArgs false
namespace Go.Proofs.YteeeabnfgpolgaaDoor
open Go Go.RowKit
theorem opens_vec : Opens Tryd.prog 43 2 vecR (fun _ => True) := by
  intro H enc W sp held n cs x h hw
  obtain ⟨hl0, hf⟩ := struct_parts Tryd.underlying43 h hw
  have hl : cs.length = 2 := hl0.trans (by kernel_rfl)
  obtain ⟨m0, y0, t0, w0⟩ := hf 0 _ 0 1 3 rfl rfl rfl (by kernel_rfl)
  obtain ⟨-, x0, ⟨q0, b0⟩, o0⟩ := (opens_int (by kernel_rfl)) H enc W sp held _ _ _ t0 w0
  obtain ⟨m1, y1, t1, w1⟩ := hf 1 _ 1 1 3 rfl rfl rfl (by kernel_rfl)
  obtain ⟨-, x1, ⟨q1, b1⟩, o1⟩ := (opens_int (by kernel_rfl)) H enc W sp held _ _ _ t1 w1
  have e : cs = cs.drop 0 := rfl
  rw [drop_split cs 0 1 1 rfl, (show List.take 1 (List.drop 0 cs) = _ from q0), drop_split cs 1 1 2 rfl, (show List.take 1 (List.drop 1 cs) = _ from q1), List.drop_eq_nil_of_le (show cs.length ≤ 2 by omega)] at e
  exact ⟨hl, ⟨x0, x1⟩, ⟨e, b0, b1⟩, trivial⟩
theorem opens_cmd : Opens Tryd.prog 78 3 cmdR (fun _ => True) := by
  intro H enc W sp held n cs x h hw
  obtain ⟨hl0, hf⟩ := struct_parts Tryd.underlying78 h hw
  have hl : cs.length = 3 := hl0.trans (by kernel_rfl)
  obtain ⟨m0, y0, t0, w0⟩ := hf 0 _ 0 1 5 rfl rfl rfl (by kernel_rfl)
  obtain ⟨-, x0, q0, o0⟩ := (opens_u8 (by kernel_rfl)) H enc W sp held _ _ _ t0 w0
  obtain ⟨m1, y1, t1, w1⟩ := hf 1 _ 1 1 3 rfl rfl rfl (by kernel_rfl)
  obtain ⟨-, x1, ⟨q1, b1⟩, o1⟩ := (opens_int (by kernel_rfl)) H enc W sp held _ _ _ t1 w1
  obtain ⟨m2, y2, t2, w2⟩ := hf 2 _ 2 1 3 rfl rfl rfl (by kernel_rfl)
  obtain ⟨-, x2, ⟨q2, b2⟩, o2⟩ := (opens_int (by kernel_rfl)) H enc W sp held _ _ _ t2 w2
  have e : cs = cs.drop 0 := rfl
  rw [drop_split cs 0 1 1 rfl, (show List.take 1 (List.drop 0 cs) = _ from q0), drop_split cs 1 1 2 rfl, (show List.take 1 (List.drop 1 cs) = _ from q1), drop_split cs 2 1 3 rfl, (show List.take 1 (List.drop 2 cs) = _ from q2), List.drop_eq_nil_of_le (show cs.length ≤ 3 by omega)] at e
  exact ⟨hl, ⟨x0, x1, x2⟩, ⟨e, b1, b2⟩, trivial⟩
theorem arr16_of (xs : List UInt8) (h : xs.length = 16) : ∃ p : Vector UInt8 16, xs.map u8 = arr16 p := by
  match xs, h with
  | [a0, a1, a2, a3, a4, a5, a6, a7, a8, a9, a10, a11, a12, a13, a14, a15], _ => exact ⟨#v[a0, a1, a2, a3, a4, a5, a6, a7, a8, a9, a10, a11, a12, a13, a14, a15], rfl⟩
theorem arr4_of (xs : List UInt8) (h : xs.length = 4) : ∃ p : Vector UInt8 4, xs.map u8 = arr4 p := by
  match xs, h with
  | [a0, a1, a2, a3], _ => exact ⟨#v[a0, a1, a2, a3], rfl⟩
theorem opens_arr16 : Opens Tryd.prog 22 16 (fun _ cs (xs : List UInt8) => xs.length = 16 ∧ cs = xs.map u8) (fun _ => True) := opens_array Tryd.underlying22 (by kernel_rfl) (by kernel_rfl) (opens_u8 (by kernel_rfl)) (fun _ _ _ h => h)
theorem opens_arr4 : Opens Tryd.prog 23 4 (fun _ cs (xs : List UInt8) => xs.length = 4 ∧ cs = xs.map u8) (fun _ => True) := opens_array Tryd.underlying23 (by kernel_rfl) (by kernel_rfl) (opens_u8 (by kernel_rfl)) (fun _ _ _ h => h)
theorem opens_arr2 : Opens Tryd.prog 68 2 (fun _ cs (xs : List Bool) => xs.length = 2 ∧ cs = xs.map Value.bool) (fun _ => True) := opens_array Tryd.underlying68 (by kernel_rfl) (by kernel_rfl) (opens_bool (by kernel_rfl)) (fun _ _ _ h => h)
theorem opens_ints : Opens Tryd.prog 24 1 (listR intR 1) (SOk Tryd.prog 3 fun _ => True) := opens_slice (P := Tryd.prog) Tryd.underlying24 (by kernel_rfl) (by decide) (opens_int (by kernel_rfl))
theorem opens_vecs : Opens Tryd.prog 25 1 (listR vecR 2) (SOk Tryd.prog 43 fun _ => True) := opens_slice (P := Tryd.prog) Tryd.underlying25 (by kernel_rfl) (by decide) opens_vec
theorem opens_blocks : Opens Tryd.prog 26 1 (listR (listR intR 1) 1) (SOk Tryd.prog 24 (SOk Tryd.prog 3 fun _ => True)) := opens_slice (P := Tryd.prog) Tryd.underlying26 (by kernel_rfl) (by decide) opens_ints
theorem opens_cmds : Opens Tryd.prog 67 1 (listR cmdR 3) (SOk Tryd.prog 78 fun _ => True) := opens_slice (P := Tryd.prog) Tryd.underlying67 (by kernel_rfl) (by decide) opens_cmd
theorem bytes_int : Tryd.prog.bytesOf 3 = 8 := by kernel_rfl
theorem opens_mb : Opens Tryd.prog 28 29 mbR (fun m => Short m.blocks) := by
  intro H enc W sp held n cs x h hw
  obtain ⟨hl0, hf⟩ := struct_parts Tryd.underlying28 h hw
  have hl : cs.length = 29 := hl0.trans (by kernel_rfl)
  obtain ⟨m0, y0, t0, w0⟩ := hf 0 _ 0 1 5 rfl rfl rfl (by kernel_rfl)
  obtain ⟨-, x0, q0, o0⟩ := (opens_u8 (by kernel_rfl)) H enc W sp held _ _ _ t0 w0
  obtain ⟨m1, y1, t1, w1⟩ := hf 1 _ 1 1 5 rfl rfl rfl (by kernel_rfl)
  obtain ⟨-, x1, q1, o1⟩ := (opens_u8 (by kernel_rfl)) H enc W sp held _ _ _ t1 w1
  obtain ⟨m2, y2, t2, w2⟩ := hf 2 _ 2 1 5 rfl rfl rfl (by kernel_rfl)
  obtain ⟨-, x2, q2, o2⟩ := (opens_u8 (by kernel_rfl)) H enc W sp held _ _ _ t2 w2
  obtain ⟨m3, y3, t3, w3⟩ := hf 3 _ 3 16 22 rfl rfl rfl (by kernel_rfl)
  obtain ⟨-, x3, ⟨n3, q3⟩, o3⟩ := opens_arr16 H enc W sp held _ _ _ t3 w3
  obtain ⟨m4, y4, t4, w4⟩ := hf 4 _ 19 4 23 rfl rfl rfl (by kernel_rfl)
  obtain ⟨-, x4, ⟨n4, q4⟩, o4⟩ := opens_arr4 H enc W sp held _ _ _ t4 w4
  obtain ⟨m5, y5, t5, w5⟩ := hf 5 _ 23 1 24 rfl rfl rfl (by kernel_rfl)
  obtain ⟨-, x5, ⟨v5, q5, l5⟩, o5⟩ := opens_ints H enc W sp held _ _ _ t5 w5
  obtain ⟨m6, y6, t6, w6⟩ := hf 6 _ 24 1 25 rfl rfl rfl (by kernel_rfl)
  obtain ⟨-, x6, ⟨v6, q6, l6⟩, o6⟩ := opens_vecs H enc W sp held _ _ _ t6 w6
  obtain ⟨m7, y7, t7, w7⟩ := hf 7 _ 25 1 5 rfl rfl rfl (by kernel_rfl)
  obtain ⟨-, x7, q7, o7⟩ := (opens_u8 (by kernel_rfl)) H enc W sp held _ _ _ t7 w7
  obtain ⟨m8, y8, t8, w8⟩ := hf 8 _ 26 1 3 rfl rfl rfl (by kernel_rfl)
  obtain ⟨-, x8, ⟨q8, b8⟩, o8⟩ := (opens_int (by kernel_rfl)) H enc W sp held _ _ _ t8 w8
  obtain ⟨m9, y9, t9, w9⟩ := hf 9 _ 27 1 26 rfl rfl rfl (by kernel_rfl)
  obtain ⟨-, x9, ⟨v9, q9, l9⟩, o9⟩ := opens_blocks H enc W sp held _ _ _ t9 w9
  obtain ⟨m10, y10, t10, w10⟩ := hf 10 _ 28 1 9 rfl rfl rfl (by kernel_rfl)
  obtain ⟨-, x10, ⟨q10, b10⟩, o10⟩ := (opens_str (by kernel_rfl)) H enc W sp held _ _ _ t10 w10
  have e : cs = cs.drop 0 := rfl
  rw [drop_split cs 0 1 1 rfl, (show List.take 1 (List.drop 0 cs) = _ from q0), drop_split cs 1 1 2 rfl, (show List.take 1 (List.drop 1 cs) = _ from q1), drop_split cs 2 1 3 rfl, (show List.take 1 (List.drop 2 cs) = _ from q2), drop_split cs 3 16 19 rfl, (show List.take 16 (List.drop 3 cs) = _ from q3), drop_split cs 19 4 23 rfl, (show List.take 4 (List.drop 19 cs) = _ from q4), drop_split cs 23 1 24 rfl, (show List.take 1 (List.drop 23 cs) = _ from q5), drop_split cs 24 1 25 rfl, (show List.take 1 (List.drop 24 cs) = _ from q6), drop_split cs 25 1 26 rfl, (show List.take 1 (List.drop 25 cs) = _ from q7), drop_split cs 26 1 27 rfl, (show List.take 1 (List.drop 26 cs) = _ from q8), drop_split cs 27 1 28 rfl, (show List.take 1 (List.drop 27 cs) = _ from q9), drop_split cs 28 1 29 rfl, (show List.take 1 (List.drop 28 cs) = _ from q10), List.drop_eq_nil_of_le (show cs.length ≤ 29 by omega)] at e
  obtain ⟨p, hp⟩ := arr16_of x3 n3
  obtain ⟨s, hs⟩ := arr4_of x4 n4
  rw [hp, hs] at e
  refine ⟨hl, ⟨x0, x1, x2, p, s, x5, x6, x7, x8, x9, x10⟩, ⟨v5, v6, v9, e, l5, l6, l9, b8, b10⟩, fun b hb => ?_⟩
  have := (o9.1 b hb).2
  rw [bytes_int] at this
  unfold reachBytes at this
  omega
theorem opens_sps : Opens Tryd.prog 66 9 (fun _ cs x => cs = spsC x ∧ spsI x) (fun _ => True) := by
  intro H enc W sp held n cs x h hw
  obtain ⟨hl0, hf⟩ := struct_parts Tryd.underlying66 h hw
  have hl : cs.length = 9 := hl0.trans (by kernel_rfl)
  obtain ⟨m0, y0, t0, w0⟩ := hf 0 _ 0 1 5 rfl rfl rfl (by kernel_rfl)
  obtain ⟨-, x0, q0, o0⟩ := (opens_u8 (by kernel_rfl)) H enc W sp held _ _ _ t0 w0
  obtain ⟨m1, y1, t1, w1⟩ := hf 1 _ 1 1 5 rfl rfl rfl (by kernel_rfl)
  obtain ⟨-, x1, q1, o1⟩ := (opens_u8 (by kernel_rfl)) H enc W sp held _ _ _ t1 w1
  obtain ⟨m2, y2, t2, w2⟩ := hf 2 _ 2 1 5 rfl rfl rfl (by kernel_rfl)
  obtain ⟨-, x2, q2, o2⟩ := (opens_u8 (by kernel_rfl)) H enc W sp held _ _ _ t2 w2
  obtain ⟨m3, y3, t3, w3⟩ := hf 3 _ 3 1 3 rfl rfl rfl (by kernel_rfl)
  obtain ⟨-, x3, ⟨q3, b3⟩, o3⟩ := (opens_int (by kernel_rfl)) H enc W sp held _ _ _ t3 w3
  obtain ⟨m4, y4, t4, w4⟩ := hf 4 _ 4 1 3 rfl rfl rfl (by kernel_rfl)
  obtain ⟨-, x4, ⟨q4, b4⟩, o4⟩ := (opens_int (by kernel_rfl)) H enc W sp held _ _ _ t4 w4
  obtain ⟨m5, y5, t5, w5⟩ := hf 5 _ 5 1 3 rfl rfl rfl (by kernel_rfl)
  obtain ⟨-, x5, ⟨q5, b5⟩, o5⟩ := (opens_int (by kernel_rfl)) H enc W sp held _ _ _ t5 w5
  obtain ⟨m6, y6, t6, w6⟩ := hf 6 _ 6 1 3 rfl rfl rfl (by kernel_rfl)
  obtain ⟨-, x6, ⟨q6, b6⟩, o6⟩ := (opens_int (by kernel_rfl)) H enc W sp held _ _ _ t6 w6
  obtain ⟨m7, y7, t7, w7⟩ := hf 7 _ 7 1 3 rfl rfl rfl (by kernel_rfl)
  obtain ⟨-, x7, ⟨q7, b7⟩, o7⟩ := (opens_int (by kernel_rfl)) H enc W sp held _ _ _ t7 w7
  obtain ⟨m8, y8, t8, w8⟩ := hf 8 _ 8 1 3 rfl rfl rfl (by kernel_rfl)
  obtain ⟨-, x8, ⟨q8, b8⟩, o8⟩ := (opens_int (by kernel_rfl)) H enc W sp held _ _ _ t8 w8
  have e : cs = cs.drop 0 := rfl
  rw [drop_split cs 0 1 1 rfl, (show List.take 1 (List.drop 0 cs) = _ from q0), drop_split cs 1 1 2 rfl, (show List.take 1 (List.drop 1 cs) = _ from q1), drop_split cs 2 1 3 rfl, (show List.take 1 (List.drop 2 cs) = _ from q2), drop_split cs 3 1 4 rfl, (show List.take 1 (List.drop 3 cs) = _ from q3), drop_split cs 4 1 5 rfl, (show List.take 1 (List.drop 4 cs) = _ from q4), drop_split cs 5 1 6 rfl, (show List.take 1 (List.drop 5 cs) = _ from q5), drop_split cs 6 1 7 rfl, (show List.take 1 (List.drop 6 cs) = _ from q6), drop_split cs 7 1 8 rfl, (show List.take 1 (List.drop 7 cs) = _ from q7), drop_split cs 8 1 9 rfl, (show List.take 1 (List.drop 8 cs) = _ from q8), List.drop_eq_nil_of_le (show cs.length ≤ 9 by omega)] at e
  exact ⟨hl, ⟨x0, x1, x2, x3, x4, x5, x6, x7, x8⟩, ⟨e, b3, b4, b5, b6, b7, b8⟩, trivial⟩
theorem opens_pps : Opens Tryd.prog 64 10 (fun _ cs x => cs = ppsC x ∧ ppsI x) (fun _ => True) := by
  intro H enc W sp held n cs x h hw
  obtain ⟨hl0, hf⟩ := struct_parts Tryd.underlying64 h hw
  have hl : cs.length = 10 := hl0.trans (by kernel_rfl)
  obtain ⟨m0, y0, t0, w0⟩ := hf 0 _ 0 1 3 rfl rfl rfl (by kernel_rfl)
  obtain ⟨-, x0, ⟨q0, b0⟩, o0⟩ := (opens_int (by kernel_rfl)) H enc W sp held _ _ _ t0 w0
  obtain ⟨m1, y1, t1, w1⟩ := hf 1 _ 1 1 3 rfl rfl rfl (by kernel_rfl)
  obtain ⟨-, x1, ⟨q1, b1⟩, o1⟩ := (opens_int (by kernel_rfl)) H enc W sp held _ _ _ t1 w1
  obtain ⟨m2, y2, t2, w2⟩ := hf 2 _ 2 1 4 rfl rfl rfl (by kernel_rfl)
  obtain ⟨-, x2, q2, o2⟩ := (opens_bool (by kernel_rfl)) H enc W sp held _ _ _ t2 w2
  obtain ⟨m3, y3, t3, w3⟩ := hf 3 _ 3 1 3 rfl rfl rfl (by kernel_rfl)
  obtain ⟨-, x3, ⟨q3, b3⟩, o3⟩ := (opens_int (by kernel_rfl)) H enc W sp held _ _ _ t3 w3
  obtain ⟨m4, y4, t4, w4⟩ := hf 4 _ 4 1 3 rfl rfl rfl (by kernel_rfl)
  obtain ⟨-, x4, ⟨q4, b4⟩, o4⟩ := (opens_int (by kernel_rfl)) H enc W sp held _ _ _ t4 w4
  obtain ⟨m5, y5, t5, w5⟩ := hf 5 _ 5 1 3 rfl rfl rfl (by kernel_rfl)
  obtain ⟨-, x5, ⟨q5, b5⟩, o5⟩ := (opens_int (by kernel_rfl)) H enc W sp held _ _ _ t5 w5
  obtain ⟨m6, y6, t6, w6⟩ := hf 6 _ 6 1 3 rfl rfl rfl (by kernel_rfl)
  obtain ⟨-, x6, ⟨q6, b6⟩, o6⟩ := (opens_int (by kernel_rfl)) H enc W sp held _ _ _ t6 w6
  obtain ⟨m7, y7, t7, w7⟩ := hf 7 _ 7 1 3 rfl rfl rfl (by kernel_rfl)
  obtain ⟨-, x7, ⟨q7, b7⟩, o7⟩ := (opens_int (by kernel_rfl)) H enc W sp held _ _ _ t7 w7
  obtain ⟨m8, y8, t8, w8⟩ := hf 8 _ 8 1 4 rfl rfl rfl (by kernel_rfl)
  obtain ⟨-, x8, q8, o8⟩ := (opens_bool (by kernel_rfl)) H enc W sp held _ _ _ t8 w8
  obtain ⟨m9, y9, t9, w9⟩ := hf 9 _ 9 1 4 rfl rfl rfl (by kernel_rfl)
  obtain ⟨-, x9, q9, o9⟩ := (opens_bool (by kernel_rfl)) H enc W sp held _ _ _ t9 w9
  have e : cs = cs.drop 0 := rfl
  rw [drop_split cs 0 1 1 rfl, (show List.take 1 (List.drop 0 cs) = _ from q0), drop_split cs 1 1 2 rfl, (show List.take 1 (List.drop 1 cs) = _ from q1), drop_split cs 2 1 3 rfl, (show List.take 1 (List.drop 2 cs) = _ from q2), drop_split cs 3 1 4 rfl, (show List.take 1 (List.drop 3 cs) = _ from q3), drop_split cs 4 1 5 rfl, (show List.take 1 (List.drop 4 cs) = _ from q4), drop_split cs 5 1 6 rfl, (show List.take 1 (List.drop 5 cs) = _ from q5), drop_split cs 6 1 7 rfl, (show List.take 1 (List.drop 6 cs) = _ from q6), drop_split cs 7 1 8 rfl, (show List.take 1 (List.drop 7 cs) = _ from q7), drop_split cs 8 1 9 rfl, (show List.take 1 (List.drop 8 cs) = _ from q8), drop_split cs 9 1 10 rfl, (show List.take 1 (List.drop 9 cs) = _ from q9), List.drop_eq_nil_of_le (show cs.length ≤ 10 by omega)] at e
  exact ⟨hl, ⟨x0, x1, x2, x3, x4, x5, x6, x7, x8, x9⟩, ⟨e, b0, b1, b3, b4, b5, b6, b7⟩, trivial⟩
theorem opens_nal : Opens Tryd.prog 74 3 (fun _ cs x => cs = nalC x ∧ nalI x) (fun _ => True) := by
  intro H enc W sp held n cs x h hw
  obtain ⟨hl0, hf⟩ := struct_parts Tryd.underlying74 h hw
  have hl : cs.length = 3 := hl0.trans (by kernel_rfl)
  obtain ⟨m0, y0, t0, w0⟩ := hf 0 _ 0 1 5 rfl rfl rfl (by kernel_rfl)
  obtain ⟨-, x0, q0, o0⟩ := (opens_u8 (by kernel_rfl)) H enc W sp held _ _ _ t0 w0
  obtain ⟨m1, y1, t1, w1⟩ := hf 1 _ 1 1 5 rfl rfl rfl (by kernel_rfl)
  obtain ⟨-, x1, q1, o1⟩ := (opens_u8 (by kernel_rfl)) H enc W sp held _ _ _ t1 w1
  obtain ⟨m2, y2, t2, w2⟩ := hf 2 _ 2 1 9 rfl rfl rfl (by kernel_rfl)
  obtain ⟨-, x2, ⟨q2, b2⟩, o2⟩ := (opens_str (by kernel_rfl)) H enc W sp held _ _ _ t2 w2
  have e : cs = cs.drop 0 := rfl
  rw [drop_split cs 0 1 1 rfl, (show List.take 1 (List.drop 0 cs) = _ from q0), drop_split cs 1 1 2 rfl, (show List.take 1 (List.drop 1 cs) = _ from q1), drop_split cs 2 1 3 rfl, (show List.take 1 (List.drop 2 cs) = _ from q2), List.drop_eq_nil_of_le (show cs.length ≤ 3 by omega)] at e
  exact ⟨hl, ⟨x0, x1, x2⟩, ⟨e, b2⟩, trivial⟩
theorem opens_head : Opens Tryd.prog 70 20 (fun E cs x => ∃ m k, cs = headC x m k ∧ HeadL E x m k) (fun _ => True) := by
  intro H enc W sp held n cs x h hw
  obtain ⟨hl0, hf⟩ := struct_parts Tryd.underlying70 h hw
  have hl : cs.length = 20 := hl0.trans (by kernel_rfl)
  obtain ⟨m0, y0, t0, w0⟩ := hf 0 _ 0 1 3 rfl rfl rfl (by kernel_rfl)
  obtain ⟨-, x0, ⟨q0, b0⟩, o0⟩ := (opens_int (by kernel_rfl)) H enc W sp held _ _ _ t0 w0
  obtain ⟨m1, y1, t1, w1⟩ := hf 1 _ 1 1 4 rfl rfl rfl (by kernel_rfl)
  obtain ⟨-, x1, q1, o1⟩ := (opens_bool (by kernel_rfl)) H enc W sp held _ _ _ t1 w1
  obtain ⟨m2, y2, t2, w2⟩ := hf 2 _ 2 1 4 rfl rfl rfl (by kernel_rfl)
  obtain ⟨-, x2, q2, o2⟩ := (opens_bool (by kernel_rfl)) H enc W sp held _ _ _ t2 w2
  obtain ⟨m3, y3, t3, w3⟩ := hf 3 _ 3 1 3 rfl rfl rfl (by kernel_rfl)
  obtain ⟨-, x3, ⟨q3, b3⟩, o3⟩ := (opens_int (by kernel_rfl)) H enc W sp held _ _ _ t3 w3
  obtain ⟨m4, y4, t4, w4⟩ := hf 4 _ 4 1 3 rfl rfl rfl (by kernel_rfl)
  obtain ⟨-, x4, ⟨q4, b4⟩, o4⟩ := (opens_int (by kernel_rfl)) H enc W sp held _ _ _ t4 w4
  obtain ⟨m5, y5, t5, w5⟩ := hf 5 _ 5 1 3 rfl rfl rfl (by kernel_rfl)
  obtain ⟨-, x5, ⟨q5, b5⟩, o5⟩ := (opens_int (by kernel_rfl)) H enc W sp held _ _ _ t5 w5
  obtain ⟨m6, y6, t6, w6⟩ := hf 6 _ 6 1 3 rfl rfl rfl (by kernel_rfl)
  obtain ⟨-, x6, ⟨q6, b6⟩, o6⟩ := (opens_int (by kernel_rfl)) H enc W sp held _ _ _ t6 w6
  obtain ⟨m7, y7, t7, w7⟩ := hf 7 _ 7 1 4 rfl rfl rfl (by kernel_rfl)
  obtain ⟨-, x7, q7, o7⟩ := (opens_bool (by kernel_rfl)) H enc W sp held _ _ _ t7 w7
  obtain ⟨m8, y8, t8, w8⟩ := hf 8 _ 8 1 3 rfl rfl rfl (by kernel_rfl)
  obtain ⟨-, x8, ⟨q8, b8⟩, o8⟩ := (opens_int (by kernel_rfl)) H enc W sp held _ _ _ t8 w8
  obtain ⟨m9, y9, t9, w9⟩ := hf 9 _ 9 1 4 rfl rfl rfl (by kernel_rfl)
  obtain ⟨-, x9, q9, o9⟩ := (opens_bool (by kernel_rfl)) H enc W sp held _ _ _ t9 w9
  obtain ⟨m10, y10, t10, w10⟩ := hf 10 _ 10 1 67 rfl rfl rfl (by kernel_rfl)
  obtain ⟨-, x10, ⟨v10, q10, l10⟩, o10⟩ := opens_cmds H enc W sp held _ _ _ t10 w10
  obtain ⟨m11, y11, t11, w11⟩ := hf 11 _ 11 2 68 rfl rfl rfl (by kernel_rfl)
  obtain ⟨-, x11, ⟨n11, q11⟩, o11⟩ := opens_arr2 H enc W sp held _ _ _ t11 w11
  obtain ⟨m12, y12, t12, w12⟩ := hf 12 _ 13 1 4 rfl rfl rfl (by kernel_rfl)
  obtain ⟨-, x12, q12, o12⟩ := (opens_bool (by kernel_rfl)) H enc W sp held _ _ _ t12 w12
  obtain ⟨m13, y13, t13, w13⟩ := hf 13 _ 14 1 67 rfl rfl rfl (by kernel_rfl)
  obtain ⟨-, x13, ⟨v13, q13, l13⟩, o13⟩ := opens_cmds H enc W sp held _ _ _ t13 w13
  obtain ⟨m14, y14, t14, w14⟩ := hf 14 _ 15 1 3 rfl rfl rfl (by kernel_rfl)
  obtain ⟨-, x14, ⟨q14, b14⟩, o14⟩ := (opens_int (by kernel_rfl)) H enc W sp held _ _ _ t14 w14
  obtain ⟨m15, y15, t15, w15⟩ := hf 15 _ 16 1 3 rfl rfl rfl (by kernel_rfl)
  obtain ⟨-, x15, ⟨q15, b15⟩, o15⟩ := (opens_int (by kernel_rfl)) H enc W sp held _ _ _ t15 w15
  obtain ⟨m16, y16, t16, w16⟩ := hf 16 _ 17 1 3 rfl rfl rfl (by kernel_rfl)
  obtain ⟨-, x16, ⟨q16, b16⟩, o16⟩ := (opens_int (by kernel_rfl)) H enc W sp held _ _ _ t16 w16
  obtain ⟨m17, y17, t17, w17⟩ := hf 17 _ 18 1 3 rfl rfl rfl (by kernel_rfl)
  obtain ⟨-, x17, ⟨q17, b17⟩, o17⟩ := (opens_int (by kernel_rfl)) H enc W sp held _ _ _ t17 w17
  obtain ⟨m18, y18, t18, w18⟩ := hf 18 _ 19 1 3 rfl rfl rfl (by kernel_rfl)
  obtain ⟨-, x18, ⟨q18, b18⟩, o18⟩ := (opens_int (by kernel_rfl)) H enc W sp held _ _ _ t18 w18
  have e : cs = cs.drop 0 := rfl
  rw [drop_split cs 0 1 1 rfl, (show List.take 1 (List.drop 0 cs) = _ from q0), drop_split cs 1 1 2 rfl, (show List.take 1 (List.drop 1 cs) = _ from q1), drop_split cs 2 1 3 rfl, (show List.take 1 (List.drop 2 cs) = _ from q2), drop_split cs 3 1 4 rfl, (show List.take 1 (List.drop 3 cs) = _ from q3), drop_split cs 4 1 5 rfl, (show List.take 1 (List.drop 4 cs) = _ from q4), drop_split cs 5 1 6 rfl, (show List.take 1 (List.drop 5 cs) = _ from q5), drop_split cs 6 1 7 rfl, (show List.take 1 (List.drop 6 cs) = _ from q6), drop_split cs 7 1 8 rfl, (show List.take 1 (List.drop 7 cs) = _ from q7), drop_split cs 8 1 9 rfl, (show List.take 1 (List.drop 8 cs) = _ from q8), drop_split cs 9 1 10 rfl, (show List.take 1 (List.drop 9 cs) = _ from q9), drop_split cs 10 1 11 rfl, (show List.take 1 (List.drop 10 cs) = _ from q10), drop_split cs 11 2 13 rfl, (show List.take 2 (List.drop 11 cs) = _ from q11), drop_split cs 13 1 14 rfl, (show List.take 1 (List.drop 13 cs) = _ from q12), drop_split cs 14 1 15 rfl, (show List.take 1 (List.drop 14 cs) = _ from q13), drop_split cs 15 1 16 rfl, (show List.take 1 (List.drop 15 cs) = _ from q14), drop_split cs 16 1 17 rfl, (show List.take 1 (List.drop 16 cs) = _ from q15), drop_split cs 17 1 18 rfl, (show List.take 1 (List.drop 17 cs) = _ from q16), drop_split cs 18 1 19 rfl, (show List.take 1 (List.drop 18 cs) = _ from q17), drop_split cs 19 1 20 rfl, (show List.take 1 (List.drop 19 cs) = _ from q18), List.drop_eq_nil_of_le (show cs.length ≤ 20 by omega)] at e
  obtain ⟨f0, f1, hff⟩ : ∃ f0 f1, x11 = [f0, f1] := by
    match x11, n11 with
    | [f0, f1], _ => exact ⟨f0, f1, rfl⟩
  rw [hff] at e
  exact ⟨hl, ⟨x0, x1, x2, x3, x4, x5, x6, x7, x8, x9, x10, f0, f1, x12, x13, x14, x15, x16, x17, x18⟩, ⟨v10, v13, e, l10, l13, b0, b3, b4, b5, b6, b8, b14, b15, b16, b17, b18⟩, trivial⟩
theorem opens_mbs : Opens Tryd.prog 49 1 (listR mbR 29) (SOk Tryd.prog 28 fun m => Short m.blocks) := opens_slice (P := Tryd.prog) Tryd.underlying49 (by kernel_rfl) (by decide) opens_mb
theorem opens_slc : Opens Tryd.prog 72 23 (fun E cs x => ∃ m k b, cs = sliceC x m k b ∧ SliceL E x m k b) (fun s => ∀ m ∈ s.mbs, Short m.blocks) := by
  intro H enc W sp held n cs x h hw
  obtain ⟨hl0, hf⟩ := struct_parts Tryd.underlying72 h hw
  have hl : cs.length = 23 := hl0.trans (by kernel_rfl)
  obtain ⟨m0, y0, t0, w0⟩ := hf 0 _ 0 1 5 rfl rfl rfl (by kernel_rfl)
  obtain ⟨-, x0, q0, o0⟩ := (opens_u8 (by kernel_rfl)) H enc W sp held _ _ _ t0 w0
  obtain ⟨m1, y1, t1, w1⟩ := hf 1 _ 1 1 4 rfl rfl rfl (by kernel_rfl)
  obtain ⟨-, x1, q1, o1⟩ := (opens_bool (by kernel_rfl)) H enc W sp held _ _ _ t1 w1
  obtain ⟨m2, y2, t2, w2⟩ := hf 2 _ 2 20 70 rfl rfl rfl (by kernel_rfl)
  obtain ⟨-, x2, ⟨v2, k2, q2, l2⟩, o2⟩ := opens_head H enc W sp held _ _ _ t2 w2
  obtain ⟨m3, y3, t3, w3⟩ := hf 3 _ 22 1 49 rfl rfl rfl (by kernel_rfl)
  obtain ⟨-, x3, ⟨v3, q3, l3⟩, o3⟩ := opens_mbs H enc W sp held _ _ _ t3 w3
  have e : cs = cs.drop 0 := rfl
  rw [drop_split cs 0 1 1 rfl, (show List.take 1 (List.drop 0 cs) = _ from q0), drop_split cs 1 1 2 rfl, (show List.take 1 (List.drop 1 cs) = _ from q1), drop_split cs 2 20 22 rfl, (show List.take 20 (List.drop 2 cs) = _ from q2), drop_split cs 22 1 23 rfl, (show List.take 1 (List.drop 22 cs) = _ from q3), List.drop_eq_nil_of_le (show cs.length ≤ 23 by omega)] at e
  exact ⟨hl, ⟨x0, x1, x2, x3⟩, ⟨v2, k2, v3, e, l2, l3⟩, o3.1⟩
theorem opens_node : Opens Tryd.prog 76 47 nodeR NodeS := by
  intro H enc W sp held n cs x h hw
  obtain ⟨hl0, hf⟩ := struct_parts Tryd.underlying76 h hw
  have hl : cs.length = 47 := hl0.trans (by kernel_rfl)
  obtain ⟨m0, y0, t0, w0⟩ := hf 0 _ 0 1 5 rfl rfl rfl (by kernel_rfl)
  obtain ⟨-, x0, q0, o0⟩ := (opens_u8 (by kernel_rfl)) H enc W sp held _ _ _ t0 w0
  obtain ⟨m1, y1, t1, w1⟩ := hf 1 _ 1 1 5 rfl rfl rfl (by kernel_rfl)
  obtain ⟨-, x1, q1, o1⟩ := (opens_u8 (by kernel_rfl)) H enc W sp held _ _ _ t1 w1
  obtain ⟨m2, y2, t2, w2⟩ := hf 2 _ 2 9 66 rfl rfl rfl (by kernel_rfl)
  obtain ⟨-, x2, ⟨q2, b2⟩, o2⟩ := opens_sps H enc W sp held _ _ _ t2 w2
  obtain ⟨m3, y3, t3, w3⟩ := hf 3 _ 11 10 64 rfl rfl rfl (by kernel_rfl)
  obtain ⟨-, x3, ⟨q3, b3⟩, o3⟩ := opens_pps H enc W sp held _ _ _ t3 w3
  obtain ⟨m4, y4, t4, w4⟩ := hf 4 _ 21 23 72 rfl rfl rfl (by kernel_rfl)
  obtain ⟨-, x4, ⟨v4, k4, z4, q4, l4⟩, o4⟩ := opens_slc H enc W sp held _ _ _ t4 w4
  obtain ⟨m5, y5, t5, w5⟩ := hf 5 _ 44 3 74 rfl rfl rfl (by kernel_rfl)
  obtain ⟨-, x5, ⟨q5, b5⟩, o5⟩ := opens_nal H enc W sp held _ _ _ t5 w5
  have e : cs = cs.drop 0 := rfl
  rw [drop_split cs 0 1 1 rfl, (show List.take 1 (List.drop 0 cs) = _ from q0), drop_split cs 1 1 2 rfl, (show List.take 1 (List.drop 1 cs) = _ from q1), drop_split cs 2 9 11 rfl, (show List.take 9 (List.drop 2 cs) = _ from q2), drop_split cs 11 10 21 rfl, (show List.take 10 (List.drop 11 cs) = _ from q3), drop_split cs 21 23 44 rfl, (show List.take 23 (List.drop 21 cs) = _ from q4), drop_split cs 44 3 47 rfl, (show List.take 3 (List.drop 44 cs) = _ from q5), List.drop_eq_nil_of_le (show cs.length ≤ 47 by omega)] at e
  exact ⟨hl, ⟨x0, x1, x2, x3, x4, x5⟩, ⟨v4, k4, z4, e, l4, b2, b3, b5⟩, o4⟩
theorem opens_nodes : Opens Tryd.prog 57 1 (listR nodeR 47) (SOk Tryd.prog 76 NodeS) := opens_slice (P := Tryd.prog) Tryd.underlying57 (by kernel_rfl) (by decide) opens_node
theorem deep_of {W : World} {g : Nat} {t : TypeId} {cs : Array Value} {fuel : Nat} {p : List MemPlace} (hg : Tryd.prog.globalNamed "spindle/elems.deep" = some g) (ht : (Tryd.prog.globals[g]?).map (·.type) = some t) (hv : W.var? Tryd.prog "spindle/elems.deep" = some cs)
    (hd : DataW.trod (funcToken Tryd.prog) Tryd.prog W 0 (fun _ => true) true fuel t cs.toList = some (.agg [.held [115, 112, 105, 110, 100, 108, 101, 47, 101, 108, 101, 109, 115, 46, 100, 101, 101, 112, 36, 49], .held [115, 112, 105, 110, 100, 108, 101, 47, 101, 108, 101, 109, 115, 46, 100, 101, 101, 112, 36, 50]], p)) : DeepG (envOf W) := by
  have hg0 := hg
  obtain rfl : g = 1 := (Option.some.inj ((show Tryd.prog.globalNamed "spindle/elems.deep" = some 1 by kernel_rfl).symm.trans hg)).symm
  obtain rfl : t = 122 := (Option.some.inj ((show (Tryd.prog.globals[1]?).map (·.type) = some 122 by kernel_rfl).symm.trans ht)).symm
  obtain ⟨xs, m, _, hx, hl0, hxl, hf⟩ := DataW.trod_struct Tryd.underlying122 hd
  have hl : cs.toList.length = 2 := hl0.trans (by kernel_rfl)
  obtain ⟨a, b, hcs⟩ : ∃ a b, cs.toList = [a, b] := by
    match h : cs.toList, hl with
    | [a, b], _ => exact ⟨a, b, rfl⟩
  rw [hcs] at hf
  simp only [Prod.mk.injEq, DataW.agg.injEq] at hx
  obtain ⟨y0, y1, hxs⟩ : ∃ y0 y1, xs = [y0, y1] := by
    have : xs.length = 2 := hxl
    match xs, this with
    | [y0, y1], _ => exact ⟨y0, y1, rfl⟩
  subst hxs
  have e0 : y0.1 = .held [115, 112, 105, 110, 100, 108, 101, 47, 101, 108, 101, 109, 115, 46, 100, 101, 101, 112, 36, 49] := by have := hx.1; simp only [List.map_cons, List.map_nil, List.cons.injEq] at this; exact this.1.symm
  have e1 : y1.1 = .held [115, 112, 105, 110, 100, 108, 101, 47, 101, 108, 101, 109, 115, 46, 100, 101, 101, 112, 36, 50] := by have := hx.1; simp only [List.map_cons, List.map_nil, List.cons.injEq] at this; exact this.2.1.symm
  have c1 : Tryd.prog.cellsOf 121 = 1 := by kernel_rfl
  have c2 : Tryd.prog.cellsOf 118 = 1 := by kernel_rfl
  have h0 : DataW.trod (funcToken Tryd.prog) Tryd.prog W 0 (fun _ => true) true m 121 (([a, b].drop 0).take (Tryd.prog.cellsOf 121)) = some y0 := hf 0 _ rfl
  have h1 : DataW.trod (funcToken Tryd.prog) Tryd.prog W 0 (fun _ => true) true m 118 (([a, b].drop 1).take (Tryd.prog.cellsOf 118)) = some y1 := hf 1 _ rfl
  rw [c1] at h0
  rw [c2] at h1
  obtain ⟨d0, p0⟩ := y0
  obtain ⟨d1, p1⟩ := y1
  simp only at e0 e1
  subst e0 e1
  obtain rfl : a = .func (.func 127) #[] #[] := func_of_trod Tryd.underlying121 (by kernel_rfl) h0
  obtain rfl : b = .func (.func 128) #[] #[] := func_of_trod Tryd.underlying118 (by kernel_rfl) h1
  have v0 := World.var?_cell hg0 hv 0
  have v1 := World.var?_cell hg0 hv 1
  have g0 : cs[0]? = some (.func (.func 127) #[] #[]) := by rw [← Array.getElem?_toList, hcs]; rfl
  have g1 : cs[1]? = some (.func (.func 128) #[] #[]) := by rw [← Array.getElem?_toList, hcs]; rfl
  exact ⟨(env_of_cell (v0.trans g0)).2, (env_of_cell (v1.trans g1)).2⟩
end Go.Proofs.YteeeabnfgpolgaaDoor
