/-
  Nodes, slices, headers, as they are handed in.
-/
import Derived.Test.YtomfoaaaeidpnaaDoorMP
import Derived.Test.YtomfoaaaeidpnaaDoorK5
set_option linter.unusedVariables false
set_option linter.unusedSimpArgs false
namespace Go.Proofs.YtomfoaaaeidpnaaDoor
open Go Go.RowKit
attribute [local irreducible] WC RL OW bodyPostM ThenQ BlockQ LoopQ
/-- The blocks of a node are short. -/
abbrev NodeS (n : Node) : Prop := ∀ m ∈ n.slice.mbs, Short m.blocks
theorem opens_cmd : Opens Tryd.prog 188 3 cmdR (fun _ => True) := by
  intro H enc W sp held n cs x h hw
  obtain ⟨hl0, hf⟩ := struct_parts Tryd.underlying188 h hw
  have hl : cs.length = 3 := hl0.trans (by kernel_rfl)
  obtain ⟨m0, y0, t0, w0⟩ := hf 0 _ 0 1 5 rfl rfl rfl (by kernel_rfl)
  obtain ⟨-, x0, q0, o0⟩ := (opens_u8 (by kernel_rfl)) H enc W sp held _ _ _ t0 w0
  obtain ⟨m1, y1, t1, w1⟩ := hf 1 _ 1 1 3 rfl rfl rfl (by kernel_rfl)
  obtain ⟨-, x1, ⟨q1, b1⟩, o1⟩ := (opens_int (by kernel_rfl)) H enc W sp held _ _ _ t1 w1
  obtain ⟨m2, y2, t2, w2⟩ := hf 2 _ 2 1 3 rfl rfl rfl (by kernel_rfl)
  obtain ⟨-, x2, ⟨q2, b2⟩, o2⟩ := (opens_int (by kernel_rfl)) H enc W sp held _ _ _ t2 w2
  have e : cs = cs.drop 0 := rfl
  rw [drop_split cs 0 1 1 rfl, (show List.take 1 (List.drop 0 cs) = _ from q0), drop_split cs 1 1 2 rfl, (show List.take 1 (List.drop 1 cs) = _ from q1), drop_split cs 2 1 3 rfl, (show List.take 1 (List.drop 2 cs) = _ from q2), List.drop_eq_nil_of_le (show cs.length ≤ 3 by omega)] at e
  exact ⟨hl, ⟨x0, x1, x2⟩, ⟨e, b1, b2⟩, trivial⟩
theorem opens_arr2 : Opens Tryd.prog 49 2 (fun _ cs (xs : List Bool) => xs.length = 2 ∧ cs = xs.map Value.bool) (fun _ => True) := opens_array Tryd.underlying49 (by kernel_rfl) (by kernel_rfl) (opens_bool (by kernel_rfl)) (fun _ _ _ h => h)
theorem opens_cmds : Opens Tryd.prog 48 1 (listR cmdR 3) (SOk Tryd.prog 188 fun _ => True) := opens_slice (P := Tryd.prog) Tryd.underlying48 (by kernel_rfl) (by decide) opens_cmd
theorem opens_sps : Opens Tryd.prog 45 9 (fun _ cs x => cs = spsC x ∧ spsI x) (fun _ => True) := by
  intro H enc W sp held n cs x h hw
  obtain ⟨hl0, hf⟩ := struct_parts Tryd.underlying45 h hw
  have hl : cs.length = 9 := hl0.trans (by kernel_rfl)
  obtain ⟨m0, y0, t0, w0⟩ := hf 0 _ 0 1 5 rfl rfl rfl (by kernel_rfl)
  obtain ⟨-, x0, q0, o0⟩ := (opens_u8 (by kernel_rfl)) H enc W sp held _ _ _ t0 w0
  obtain ⟨m1, y1, t1, w1⟩ := hf 1 _ 1 1 5 rfl rfl rfl (by kernel_rfl)
  obtain ⟨-, x1, q1, o1⟩ := (opens_u8 (by kernel_rfl)) H enc W sp held _ _ _ t1 w1
  obtain ⟨m2, y2, t2, w2⟩ := hf 2 _ 2 1 5 rfl rfl rfl (by kernel_rfl)
  obtain ⟨-, x2, q2, o2⟩ := (opens_u8 (by kernel_rfl)) H enc W sp held _ _ _ t2 w2
  obtain ⟨m3, y3, t3, w3⟩ := hf 3 _ 3 1 3 rfl rfl rfl (by kernel_rfl)
  obtain ⟨-, x3, ⟨q3, b3⟩, o3⟩ := (opens_int (by kernel_rfl)) H enc W sp held _ _ _ t3 w3
  obtain ⟨m4, y4, t4, w4⟩ := hf 4 _ 4 1 3 rfl rfl rfl (by kernel_rfl)
  obtain ⟨-, x4, ⟨q4, b4⟩, o4⟩ := (opens_int (by kernel_rfl)) H enc W sp held _ _ _ t4 w4
  obtain ⟨m5, y5, t5, w5⟩ := hf 5 _ 5 1 3 rfl rfl rfl (by kernel_rfl)
  obtain ⟨-, x5, ⟨q5, b5⟩, o5⟩ := (opens_int (by kernel_rfl)) H enc W sp held _ _ _ t5 w5
  obtain ⟨m6, y6, t6, w6⟩ := hf 6 _ 6 1 3 rfl rfl rfl (by kernel_rfl)
  obtain ⟨-, x6, ⟨q6, b6⟩, o6⟩ := (opens_int (by kernel_rfl)) H enc W sp held _ _ _ t6 w6
  obtain ⟨m7, y7, t7, w7⟩ := hf 7 _ 7 1 3 rfl rfl rfl (by kernel_rfl)
  obtain ⟨-, x7, ⟨q7, b7⟩, o7⟩ := (opens_int (by kernel_rfl)) H enc W sp held _ _ _ t7 w7
  obtain ⟨m8, y8, t8, w8⟩ := hf 8 _ 8 1 3 rfl rfl rfl (by kernel_rfl)
  obtain ⟨-, x8, ⟨q8, b8⟩, o8⟩ := (opens_int (by kernel_rfl)) H enc W sp held _ _ _ t8 w8
  have e : cs = cs.drop 0 := rfl
  rw [drop_split cs 0 1 1 rfl, (show List.take 1 (List.drop 0 cs) = _ from q0), drop_split cs 1 1 2 rfl, (show List.take 1 (List.drop 1 cs) = _ from q1), drop_split cs 2 1 3 rfl, (show List.take 1 (List.drop 2 cs) = _ from q2), drop_split cs 3 1 4 rfl, (show List.take 1 (List.drop 3 cs) = _ from q3), drop_split cs 4 1 5 rfl, (show List.take 1 (List.drop 4 cs) = _ from q4), drop_split cs 5 1 6 rfl, (show List.take 1 (List.drop 5 cs) = _ from q5), drop_split cs 6 1 7 rfl, (show List.take 1 (List.drop 6 cs) = _ from q6), drop_split cs 7 1 8 rfl, (show List.take 1 (List.drop 7 cs) = _ from q7), drop_split cs 8 1 9 rfl, (show List.take 1 (List.drop 8 cs) = _ from q8), List.drop_eq_nil_of_le (show cs.length ≤ 9 by omega)] at e
  exact ⟨hl, ⟨x0, x1, x2, x3, x4, x5, x6, x7, x8⟩, ⟨e, b3, b4, b5, b6, b7, b8⟩, trivial⟩
theorem opens_pps : Opens Tryd.prog 47 10 (fun _ cs x => cs = ppsC x ∧ ppsI x) (fun _ => True) := by
  intro H enc W sp held n cs x h hw
  obtain ⟨hl0, hf⟩ := struct_parts Tryd.underlying47 h hw
  have hl : cs.length = 10 := hl0.trans (by kernel_rfl)
  obtain ⟨m0, y0, t0, w0⟩ := hf 0 _ 0 1 3 rfl rfl rfl (by kernel_rfl)
  obtain ⟨-, x0, ⟨q0, b0⟩, o0⟩ := (opens_int (by kernel_rfl)) H enc W sp held _ _ _ t0 w0
  obtain ⟨m1, y1, t1, w1⟩ := hf 1 _ 1 1 3 rfl rfl rfl (by kernel_rfl)
  obtain ⟨-, x1, ⟨q1, b1⟩, o1⟩ := (opens_int (by kernel_rfl)) H enc W sp held _ _ _ t1 w1
  obtain ⟨m2, y2, t2, w2⟩ := hf 2 _ 2 1 4 rfl rfl rfl (by kernel_rfl)
  obtain ⟨-, x2, q2, o2⟩ := (opens_bool (by kernel_rfl)) H enc W sp held _ _ _ t2 w2
  obtain ⟨m3, y3, t3, w3⟩ := hf 3 _ 3 1 3 rfl rfl rfl (by kernel_rfl)
  obtain ⟨-, x3, ⟨q3, b3⟩, o3⟩ := (opens_int (by kernel_rfl)) H enc W sp held _ _ _ t3 w3
  obtain ⟨m4, y4, t4, w4⟩ := hf 4 _ 4 1 3 rfl rfl rfl (by kernel_rfl)
  obtain ⟨-, x4, ⟨q4, b4⟩, o4⟩ := (opens_int (by kernel_rfl)) H enc W sp held _ _ _ t4 w4
  obtain ⟨m5, y5, t5, w5⟩ := hf 5 _ 5 1 3 rfl rfl rfl (by kernel_rfl)
  obtain ⟨-, x5, ⟨q5, b5⟩, o5⟩ := (opens_int (by kernel_rfl)) H enc W sp held _ _ _ t5 w5
  obtain ⟨m6, y6, t6, w6⟩ := hf 6 _ 6 1 3 rfl rfl rfl (by kernel_rfl)
  obtain ⟨-, x6, ⟨q6, b6⟩, o6⟩ := (opens_int (by kernel_rfl)) H enc W sp held _ _ _ t6 w6
  obtain ⟨m7, y7, t7, w7⟩ := hf 7 _ 7 1 3 rfl rfl rfl (by kernel_rfl)
  obtain ⟨-, x7, ⟨q7, b7⟩, o7⟩ := (opens_int (by kernel_rfl)) H enc W sp held _ _ _ t7 w7
  obtain ⟨m8, y8, t8, w8⟩ := hf 8 _ 8 1 4 rfl rfl rfl (by kernel_rfl)
  obtain ⟨-, x8, q8, o8⟩ := (opens_bool (by kernel_rfl)) H enc W sp held _ _ _ t8 w8
  obtain ⟨m9, y9, t9, w9⟩ := hf 9 _ 9 1 4 rfl rfl rfl (by kernel_rfl)
  obtain ⟨-, x9, q9, o9⟩ := (opens_bool (by kernel_rfl)) H enc W sp held _ _ _ t9 w9
  have e : cs = cs.drop 0 := rfl
  rw [drop_split cs 0 1 1 rfl, (show List.take 1 (List.drop 0 cs) = _ from q0), drop_split cs 1 1 2 rfl, (show List.take 1 (List.drop 1 cs) = _ from q1), drop_split cs 2 1 3 rfl, (show List.take 1 (List.drop 2 cs) = _ from q2), drop_split cs 3 1 4 rfl, (show List.take 1 (List.drop 3 cs) = _ from q3), drop_split cs 4 1 5 rfl, (show List.take 1 (List.drop 4 cs) = _ from q4), drop_split cs 5 1 6 rfl, (show List.take 1 (List.drop 5 cs) = _ from q5), drop_split cs 6 1 7 rfl, (show List.take 1 (List.drop 6 cs) = _ from q6), drop_split cs 7 1 8 rfl, (show List.take 1 (List.drop 7 cs) = _ from q7), drop_split cs 8 1 9 rfl, (show List.take 1 (List.drop 8 cs) = _ from q8), drop_split cs 9 1 10 rfl, (show List.take 1 (List.drop 9 cs) = _ from q9), List.drop_eq_nil_of_le (show cs.length ≤ 10 by omega)] at e
  exact ⟨hl, ⟨x0, x1, x2, x3, x4, x5, x6, x7, x8, x9⟩, ⟨e, b0, b1, b3, b4, b5, b6, b7⟩, trivial⟩
theorem opens_nal : Opens Tryd.prog 55 3 (fun _ cs x => cs = nalC x ∧ nalI x) (fun _ => True) := by
  intro H enc W sp held n cs x h hw
  obtain ⟨hl0, hf⟩ := struct_parts Tryd.underlying55 h hw
  have hl : cs.length = 3 := hl0.trans (by kernel_rfl)
  obtain ⟨m0, y0, t0, w0⟩ := hf 0 _ 0 1 5 rfl rfl rfl (by kernel_rfl)
  obtain ⟨-, x0, q0, o0⟩ := (opens_u8 (by kernel_rfl)) H enc W sp held _ _ _ t0 w0
  obtain ⟨m1, y1, t1, w1⟩ := hf 1 _ 1 1 5 rfl rfl rfl (by kernel_rfl)
  obtain ⟨-, x1, q1, o1⟩ := (opens_u8 (by kernel_rfl)) H enc W sp held _ _ _ t1 w1
  obtain ⟨m2, y2, t2, w2⟩ := hf 2 _ 2 1 9 rfl rfl rfl (by kernel_rfl)
  obtain ⟨-, x2, ⟨q2, b2⟩, o2⟩ := (opens_str (by kernel_rfl)) H enc W sp held _ _ _ t2 w2
  have e : cs = cs.drop 0 := rfl
  rw [drop_split cs 0 1 1 rfl, (show List.take 1 (List.drop 0 cs) = _ from q0), drop_split cs 1 1 2 rfl, (show List.take 1 (List.drop 1 cs) = _ from q1), drop_split cs 2 1 3 rfl, (show List.take 1 (List.drop 2 cs) = _ from q2), List.drop_eq_nil_of_le (show cs.length ≤ 3 by omega)] at e
  exact ⟨hl, ⟨x0, x1, x2⟩, ⟨e, b2⟩, trivial⟩
theorem opens_head : Opens Tryd.prog 51 20 (fun E cs x => ∃ m k, cs = headC x m k ∧ HeadL E x m k) (fun _ => True) := by
  intro H enc W sp held n cs x h hw
  obtain ⟨hl0, hf⟩ := struct_parts Tryd.underlying51 h hw
  have hl : cs.length = 20 := hl0.trans (by kernel_rfl)
  obtain ⟨m0, y0, t0, w0⟩ := hf 0 _ 0 1 3 rfl rfl rfl (by kernel_rfl)
  obtain ⟨-, x0, ⟨q0, b0⟩, o0⟩ := (opens_int (by kernel_rfl)) H enc W sp held _ _ _ t0 w0
  obtain ⟨m1, y1, t1, w1⟩ := hf 1 _ 1 1 4 rfl rfl rfl (by kernel_rfl)
  obtain ⟨-, x1, q1, o1⟩ := (opens_bool (by kernel_rfl)) H enc W sp held _ _ _ t1 w1
  obtain ⟨m2, y2, t2, w2⟩ := hf 2 _ 2 1 4 rfl rfl rfl (by kernel_rfl)
  obtain ⟨-, x2, q2, o2⟩ := (opens_bool (by kernel_rfl)) H enc W sp held _ _ _ t2 w2
  obtain ⟨m3, y3, t3, w3⟩ := hf 3 _ 3 1 3 rfl rfl rfl (by kernel_rfl)
  obtain ⟨-, x3, ⟨q3, b3⟩, o3⟩ := (opens_int (by kernel_rfl)) H enc W sp held _ _ _ t3 w3
  obtain ⟨m4, y4, t4, w4⟩ := hf 4 _ 4 1 3 rfl rfl rfl (by kernel_rfl)
  obtain ⟨-, x4, ⟨q4, b4⟩, o4⟩ := (opens_int (by kernel_rfl)) H enc W sp held _ _ _ t4 w4
  obtain ⟨m5, y5, t5, w5⟩ := hf 5 _ 5 1 3 rfl rfl rfl (by kernel_rfl)
  obtain ⟨-, x5, ⟨q5, b5⟩, o5⟩ := (opens_int (by kernel_rfl)) H enc W sp held _ _ _ t5 w5
  obtain ⟨m6, y6, t6, w6⟩ := hf 6 _ 6 1 3 rfl rfl rfl (by kernel_rfl)
  obtain ⟨-, x6, ⟨q6, b6⟩, o6⟩ := (opens_int (by kernel_rfl)) H enc W sp held _ _ _ t6 w6
  obtain ⟨m7, y7, t7, w7⟩ := hf 7 _ 7 1 4 rfl rfl rfl (by kernel_rfl)
  obtain ⟨-, x7, q7, o7⟩ := (opens_bool (by kernel_rfl)) H enc W sp held _ _ _ t7 w7
  obtain ⟨m8, y8, t8, w8⟩ := hf 8 _ 8 1 3 rfl rfl rfl (by kernel_rfl)
  obtain ⟨-, x8, ⟨q8, b8⟩, o8⟩ := (opens_int (by kernel_rfl)) H enc W sp held _ _ _ t8 w8
  obtain ⟨m9, y9, t9, w9⟩ := hf 9 _ 9 1 4 rfl rfl rfl (by kernel_rfl)
  obtain ⟨-, x9, q9, o9⟩ := (opens_bool (by kernel_rfl)) H enc W sp held _ _ _ t9 w9
  obtain ⟨m10, y10, t10, w10⟩ := hf 10 _ 10 1 48 rfl rfl rfl (by kernel_rfl)
  obtain ⟨-, x10, ⟨v10, q10, l10⟩, o10⟩ := opens_cmds H enc W sp held _ _ _ t10 w10
  obtain ⟨m11, y11, t11, w11⟩ := hf 11 _ 11 2 49 rfl rfl rfl (by kernel_rfl)
  obtain ⟨-, x11, ⟨n11, q11⟩, o11⟩ := opens_arr2 H enc W sp held _ _ _ t11 w11
  obtain ⟨m12, y12, t12, w12⟩ := hf 12 _ 13 1 4 rfl rfl rfl (by kernel_rfl)
  obtain ⟨-, x12, q12, o12⟩ := (opens_bool (by kernel_rfl)) H enc W sp held _ _ _ t12 w12
  obtain ⟨m13, y13, t13, w13⟩ := hf 13 _ 14 1 48 rfl rfl rfl (by kernel_rfl)
  obtain ⟨-, x13, ⟨v13, q13, l13⟩, o13⟩ := opens_cmds H enc W sp held _ _ _ t13 w13
  obtain ⟨m14, y14, t14, w14⟩ := hf 14 _ 15 1 3 rfl rfl rfl (by kernel_rfl)
  obtain ⟨-, x14, ⟨q14, b14⟩, o14⟩ := (opens_int (by kernel_rfl)) H enc W sp held _ _ _ t14 w14
  obtain ⟨m15, y15, t15, w15⟩ := hf 15 _ 16 1 3 rfl rfl rfl (by kernel_rfl)
  obtain ⟨-, x15, ⟨q15, b15⟩, o15⟩ := (opens_int (by kernel_rfl)) H enc W sp held _ _ _ t15 w15
  obtain ⟨m16, y16, t16, w16⟩ := hf 16 _ 17 1 3 rfl rfl rfl (by kernel_rfl)
  obtain ⟨-, x16, ⟨q16, b16⟩, o16⟩ := (opens_int (by kernel_rfl)) H enc W sp held _ _ _ t16 w16
  obtain ⟨m17, y17, t17, w17⟩ := hf 17 _ 18 1 3 rfl rfl rfl (by kernel_rfl)
  obtain ⟨-, x17, ⟨q17, b17⟩, o17⟩ := (opens_int (by kernel_rfl)) H enc W sp held _ _ _ t17 w17
  obtain ⟨m18, y18, t18, w18⟩ := hf 18 _ 19 1 3 rfl rfl rfl (by kernel_rfl)
  obtain ⟨-, x18, ⟨q18, b18⟩, o18⟩ := (opens_int (by kernel_rfl)) H enc W sp held _ _ _ t18 w18
  have e : cs = cs.drop 0 := rfl
  rw [drop_split cs 0 1 1 rfl, (show List.take 1 (List.drop 0 cs) = _ from q0), drop_split cs 1 1 2 rfl, (show List.take 1 (List.drop 1 cs) = _ from q1), drop_split cs 2 1 3 rfl, (show List.take 1 (List.drop 2 cs) = _ from q2), drop_split cs 3 1 4 rfl, (show List.take 1 (List.drop 3 cs) = _ from q3), drop_split cs 4 1 5 rfl, (show List.take 1 (List.drop 4 cs) = _ from q4), drop_split cs 5 1 6 rfl, (show List.take 1 (List.drop 5 cs) = _ from q5), drop_split cs 6 1 7 rfl, (show List.take 1 (List.drop 6 cs) = _ from q6), drop_split cs 7 1 8 rfl, (show List.take 1 (List.drop 7 cs) = _ from q7), drop_split cs 8 1 9 rfl, (show List.take 1 (List.drop 8 cs) = _ from q8), drop_split cs 9 1 10 rfl, (show List.take 1 (List.drop 9 cs) = _ from q9), drop_split cs 10 1 11 rfl, (show List.take 1 (List.drop 10 cs) = _ from q10), drop_split cs 11 2 13 rfl, (show List.take 2 (List.drop 11 cs) = _ from q11), drop_split cs 13 1 14 rfl, (show List.take 1 (List.drop 13 cs) = _ from q12), drop_split cs 14 1 15 rfl, (show List.take 1 (List.drop 14 cs) = _ from q13), drop_split cs 15 1 16 rfl, (show List.take 1 (List.drop 15 cs) = _ from q14), drop_split cs 16 1 17 rfl, (show List.take 1 (List.drop 16 cs) = _ from q15), drop_split cs 17 1 18 rfl, (show List.take 1 (List.drop 17 cs) = _ from q16), drop_split cs 18 1 19 rfl, (show List.take 1 (List.drop 18 cs) = _ from q17), drop_split cs 19 1 20 rfl, (show List.take 1 (List.drop 19 cs) = _ from q18), List.drop_eq_nil_of_le (show cs.length ≤ 20 by omega)] at e
  obtain ⟨f0, f1, hff⟩ : ∃ f0 f1, x11 = [f0, f1] := by
    match x11, n11 with
    | [f0, f1], _ => exact ⟨f0, f1, rfl⟩
  rw [hff] at e
  exact ⟨hl, ⟨x0, x1, x2, x3, x4, x5, x6, x7, x8, x9, x10, f0, f1, x12, x13, x14, x15, x16, x17, x18⟩, ⟨v10, v13, e, l10, l13, b0, b3, b4, b5, b6, b8, b14, b15, b16, b17, b18⟩, trivial⟩
theorem opens_mbs : Opens Tryd.prog 30 1 (listR mbR 29) (SOk Tryd.prog 28 fun m => Short m.blocks) := opens_slice (P := Tryd.prog) Tryd.underlying30 (by kernel_rfl) (by decide) opens_mb
theorem opens_slc : Opens Tryd.prog 53 23 (fun E cs x => ∃ m k b, cs = sliceC x m k b ∧ SliceL E x m k b) (fun s => ∀ m ∈ s.mbs, Short m.blocks) := by
  intro H enc W sp held n cs x h hw
  obtain ⟨hl0, hf⟩ := struct_parts Tryd.underlying53 h hw
  have hl : cs.length = 23 := hl0.trans (by kernel_rfl)
  obtain ⟨m0, y0, t0, w0⟩ := hf 0 _ 0 1 5 rfl rfl rfl (by kernel_rfl)
  obtain ⟨-, x0, q0, o0⟩ := (opens_u8 (by kernel_rfl)) H enc W sp held _ _ _ t0 w0
  obtain ⟨m1, y1, t1, w1⟩ := hf 1 _ 1 1 4 rfl rfl rfl (by kernel_rfl)
  obtain ⟨-, x1, q1, o1⟩ := (opens_bool (by kernel_rfl)) H enc W sp held _ _ _ t1 w1
  obtain ⟨m2, y2, t2, w2⟩ := hf 2 _ 2 20 51 rfl rfl rfl (by kernel_rfl)
  obtain ⟨-, x2, ⟨v2, k2, q2, l2⟩, o2⟩ := opens_head H enc W sp held _ _ _ t2 w2
  obtain ⟨m3, y3, t3, w3⟩ := hf 3 _ 22 1 30 rfl rfl rfl (by kernel_rfl)
  obtain ⟨-, x3, ⟨v3, q3, l3⟩, o3⟩ := opens_mbs H enc W sp held _ _ _ t3 w3
  have e : cs = cs.drop 0 := rfl
  rw [drop_split cs 0 1 1 rfl, (show List.take 1 (List.drop 0 cs) = _ from q0), drop_split cs 1 1 2 rfl, (show List.take 1 (List.drop 1 cs) = _ from q1), drop_split cs 2 20 22 rfl, (show List.take 20 (List.drop 2 cs) = _ from q2), drop_split cs 22 1 23 rfl, (show List.take 1 (List.drop 22 cs) = _ from q3), List.drop_eq_nil_of_le (show cs.length ≤ 23 by omega)] at e
  exact ⟨hl, ⟨x0, x1, x2, x3⟩, ⟨v2, k2, v3, e, l2, l3⟩, o3.1⟩
theorem opens_node : Opens Tryd.prog 57 47 nodeR NodeS := by
  intro H enc W sp held n cs x h hw
  obtain ⟨hl0, hf⟩ := struct_parts Tryd.underlying57 h hw
  have hl : cs.length = 47 := hl0.trans (by kernel_rfl)
  obtain ⟨m0, y0, t0, w0⟩ := hf 0 _ 0 1 5 rfl rfl rfl (by kernel_rfl)
  obtain ⟨-, x0, q0, o0⟩ := (opens_u8 (by kernel_rfl)) H enc W sp held _ _ _ t0 w0
  obtain ⟨m1, y1, t1, w1⟩ := hf 1 _ 1 1 5 rfl rfl rfl (by kernel_rfl)
  obtain ⟨-, x1, q1, o1⟩ := (opens_u8 (by kernel_rfl)) H enc W sp held _ _ _ t1 w1
  obtain ⟨m2, y2, t2, w2⟩ := hf 2 _ 2 9 45 rfl rfl rfl (by kernel_rfl)
  obtain ⟨-, x2, ⟨q2, b2⟩, o2⟩ := opens_sps H enc W sp held _ _ _ t2 w2
  obtain ⟨m3, y3, t3, w3⟩ := hf 3 _ 11 10 47 rfl rfl rfl (by kernel_rfl)
  obtain ⟨-, x3, ⟨q3, b3⟩, o3⟩ := opens_pps H enc W sp held _ _ _ t3 w3
  obtain ⟨m4, y4, t4, w4⟩ := hf 4 _ 21 23 53 rfl rfl rfl (by kernel_rfl)
  obtain ⟨-, x4, ⟨v4, k4, z4, q4, l4⟩, o4⟩ := opens_slc H enc W sp held _ _ _ t4 w4
  obtain ⟨m5, y5, t5, w5⟩ := hf 5 _ 44 3 55 rfl rfl rfl (by kernel_rfl)
  obtain ⟨-, x5, ⟨q5, b5⟩, o5⟩ := opens_nal H enc W sp held _ _ _ t5 w5
  have e : cs = cs.drop 0 := rfl
  rw [drop_split cs 0 1 1 rfl, (show List.take 1 (List.drop 0 cs) = _ from q0), drop_split cs 1 1 2 rfl, (show List.take 1 (List.drop 1 cs) = _ from q1), drop_split cs 2 9 11 rfl, (show List.take 9 (List.drop 2 cs) = _ from q2), drop_split cs 11 10 21 rfl, (show List.take 10 (List.drop 11 cs) = _ from q3), drop_split cs 21 23 44 rfl, (show List.take 23 (List.drop 21 cs) = _ from q4), drop_split cs 44 3 47 rfl, (show List.take 3 (List.drop 44 cs) = _ from q5), List.drop_eq_nil_of_le (show cs.length ≤ 47 by omega)] at e
  exact ⟨hl, ⟨x0, x1, x2, x3, x4, x5⟩, ⟨v4, k4, z4, e, l4, b2, b3, b5⟩, o4⟩
theorem opens_nodes : Opens Tryd.prog 41 1 (listR nodeR 47) (SOk Tryd.prog 57 NodeS) := opens_slice (P := Tryd.prog) Tryd.underlying41 (by kernel_rfl) (by decide) opens_node
end Go.Proofs.YtomfoaaaeidpnaaDoor
