/-
  The reference's parts of macroblocks, counted: walked.
-/
import Derived.Test.YtomfoaaaeidpnaaDoorM11
set_option linter.unusedVariables false
set_option linter.unusedSimpArgs false
namespace Go.Proofs.YtomfoaaaeidpnaaDoor
open Go Go.RowKit
attribute [local irreducible] WC RL OW bodyPostM ThenQ BlockQ LoopQ ScopeQ
section
variable (E : Env) (L : List Item) (w : World)
set_option maxRecDepth 4000 in
set_option maxHeartbeats 4000000 in
theorem within12_calls (x y wd ht : Int) (hx : 0 ≤ x ∧ x ≤ 100) (hy : 0 ≤ y ∧ y ≤ 100) (hw : 0 ≤ wd ∧ wd ≤ 100) (hh : 0 ≤ ht ∧ ht ≤ 100) (hA : Sat E L w) :
    Calls Tryd.prog 154 ⟨[vi x, vi y, vi wd, vi ht]⟩ w (fun e w' => ∃ a n c, e = .returned (.slice a n c) ∧ Sat E L w') := by
  refine enter (fn := Tryd.f154) Tryd.func154 rfl 58 rfl [vi x, vi y, vi wd, vi ht, undef, undef, undef, undef, undef, undef, undef, undef, undef, undef, undef, undef, undef, undef, undef, undef, undef, undef, undef, undef, undef, undef, undef, undef, undef, undef, undef, undef, undef, undef, undef, undef, undef, undef, undef, undef, undef, undef, undef, undef, undef, undef, undef, undef, undef, undef, undef, undef, undef, undef, undef, undef, undef, undef] rfl ?_
  have hA' := hA.nilRow 3 1
  clear hA; rename _ => hA
  repeat' (first | refine st ?_ | refine sr ?_ | refine sl hA ?_ | (refine s_w hA ?_; clear hA; (try clear w); intro w hA) | (refine s_v hA ?_; clear hA; (try clear w); intro v w hA hone hnil) | (refine s_b hA ?_; clear hA; (try clear w); intro b w hA) | refine sp (fun h => ?_) (fun h => ?_) | (refine wc_region ?_))
  refine wc_loopn (fun k l w => ∃ (i n : Nat) (u : Value) (cs : List Value), (∃ jk : Nat → Value, l = [vi x, vi y, vi wd, vi ht, jk 4, jk 5, jk 6, jk 7, jk 8, u, .int .i64 (i : Int), jk 11, jk 12, jk 13, jk 14, jk 15, jk 16, jk 17, jk 18, jk 19, jk 20, jk 21, jk 22, jk 23, jk 24, jk 25, jk 26, jk 27, jk 28, jk 29, jk 30, jk 31, jk 32, jk 33, jk 34, jk 35, jk 36, jk 37, jk 38, jk 39, jk 40, jk 41, jk 42, jk 43, jk 44, jk 45, jk 46, jk 47, jk 48, jk 49, jk 50, jk 51, jk 52, jk 53, jk 54, jk 55, jk 56, jk 57]) ∧ i + k = 16 ∧ n ≤ i ∧ u.oneCell' = true ∧ Sat E (row 3 1 u n cs :: L) w) 16 ⟨0, 0, _, _, (ex_getD rfl), by omega, by omega, rfl, hA⟩ ?_
  clear hA
  rintro k l w ⟨i, n, u, cs, ⟨jk, rfl⟩, hi, hn, hone, hA⟩
  by_cases hlt : i < 16
  · repeat' (first | refine st ?_ | refine sr ?_ | refine sl hA ?_ | (refine s_w hA ?_; clear hA; (try clear w); intro w hA) | (refine s_v hA ?_; clear hA; (try clear w); intro v w hA hone hnil) | (refine s_b hA ?_; clear hA; (try clear w); intro b w hA) | refine sp (fun h => ?_) (fun h => ?_) | (refine wc_regionS 6 rfl ?_; refine wc_region ?_))
    refine wc_region ?_
    refine rv hA ?_; clear hA; intro w hA
    refine rv hA ?_; clear hA; intro w hA
    refine rv hA ?_; clear hA; intro w hA
    refine rv hA ?_; clear hA; intro w hA
    refine rt hA ?_; clear hA; intro w hA
    refine rt hA ?_; clear hA; intro w hA
    refine rt hA ?_; clear hA; intro w hA
    refine rt hA ?_; clear hA; intro w hA
    refine rt hA ?_; clear hA; intro w hA
    refine rv hA ?_; clear hA; intro w hA
    refine rv hA ?_; clear hA; intro w hA
    refine rt hA ?_; clear hA; intro w hA
    refine rt hA ?_; clear hA; intro w hA
    refine rt hA ?_; clear hA; intro w hA
    refine rv hA ?_; clear hA; intro w hA
    refine rv hA ?_; clear hA; intro w hA
    refine rt hA ?_; clear hA; intro w hA
    refine rt hA ?_; clear hA; intro w hA
    refine rt hA ?_; clear hA; intro w hA
    refine rt hA ?_; clear hA; intro w hA
    refine rt hA ?_; clear hA; intro w hA
    refine rv hA ?_; clear hA; intro w hA
    refine rl_nil ?_
    refine tq_normal ?_
    refine wc_bb rfl (fun h => ?_) (fun h => ?_)
    · repeat' (first | refine st ?_ | refine sr ?_ | refine sl hA ?_ | (refine s_w hA ?_; clear hA; (try clear w); intro w hA) | (refine s_v hA ?_; clear hA; (try clear w); intro v w hA hone hnil) | (refine s_b hA ?_; clear hA; (try clear w); intro b w hA) | refine sp (fun h => ?_) (fun h => ?_) | (refine wc_region ?_))
      exact lq_next (k - 1) (by omega) ⟨i + 1, n + 1, _, _, (ex_getD rfl), by omega, by omega, by assumption, hA⟩
    · repeat' (first | refine st ?_ | refine sr ?_ | refine sl hA ?_ | (refine s_w hA ?_; clear hA; (try clear w); intro w hA) | (refine s_v hA ?_; clear hA; (try clear w); intro v w hA hone hnil) | (refine s_b hA ?_; clear hA; (try clear w); intro b w hA) | refine sp (fun h => ?_) (fun h => ?_) | (refine wc_region ?_))
      exact lq_next (k - 1) (by omega) ⟨i + 1, n, u, cs, (ex_getD rfl), by omega, by omega, hone, hA⟩
  · repeat' (first | refine st ?_ | refine sr ?_ | refine sl hA ?_ | (refine s_w hA ?_; clear hA; (try clear w); intro w hA) | (refine s_v hA ?_; clear hA; (try clear w); intro v w hA hone hnil) | (refine s_b hA ?_; clear hA; (try clear w); intro b w hA) | refine sp (fun h => ?_) (fun h => ?_) | (refine wc_region ?_))
    obtain ⟨a, c, rfl⟩ := row_len hA (i := 0) rfl
    exact fp_ret (res1 rfl rfl) ⟨a, n, c, rfl, hA.tail⟩
/-- A literal of so many pieces. -/
def PcR (E : Env) (L : List Item) (n : Nat) : Ending → World → Prop := fun e w' => ∃ b cs, e = .returned (.slice (some ⟨b, 0, none⟩) n n) ∧ cs.length = n * 2 ∧ (∀ u ∈ cs, u.oneCell' = true) ∧ Sat E (cells b cs 181 :: L) w'
set_option maxRecDepth 4000 in
set_option maxHeartbeats 4000000 in
theorem quarter_calls (i : Nat) (s : UInt8) (hi : i < 4) (hs : s.toNat ≤ 3) (hA : Sat E L w) :
    Calls Tryd.prog 155 ⟨[.int .i64 (i : Int), u8 s]⟩ w (PcR E L (quart s.toNat).length) := by
  refine enter (fn := Tryd.f155) Tryd.func155 rfl 75 rfl [.int .i64 (i : Int), u8 s, undef, undef, undef, undef, undef, undef, undef, undef, undef, undef, undef, undef, undef, undef, undef, undef, undef, undef, undef, undef, undef, undef, undef, undef, undef, undef, undef, undef, undef, undef, undef, undef, undef, undef, undef, undef, undef, undef, undef, undef, undef, undef, undef, undef, undef, undef, undef, undef, undef, undef, undef, undef, undef, undef, undef, undef, undef, undef, undef, undef, undef, undef, undef, undef, undef, undef, undef, undef, undef, undef, undef, undef, undef] rfl ?_
  by_cases h0 : s.toNat = 0
  · rw [h0]
    repeat' (first | (refine g_callf 154 ?_; refine ow_call Tryd.call154 rfl ((within12_calls _ _ _ _ _ _ _ (by omega) (by omega) (by omega) (by omega) hA).mono ?_); clear hA; (try clear w); rintro e w ⟨av, nv, cv, rfl, hA⟩; refine ⟨_, rfl, ?_⟩; refine rn ?_) | refine st ?_ | refine sr ?_ | refine sl hA ?_ | (refine s_w hA ?_; clear hA; (try clear w); intro w hA) | (refine s_v hA ?_; clear hA; (try clear w); intro v w hA hone hnil) | (refine s_b hA ?_; clear hA; (try clear w); intro b w hA) | refine sp (fun h => ?_) (fun h => ?_) | (refine wc_region ?_))
    refine fp_ret (res1 rfl rfl) ⟨_, _, rfl, ?_, ?_, hA⟩ <;> first | rfl | simp [Value.oneCell']
  by_cases h1 : s.toNat = 1
  · rw [h1]
    repeat' (first | (refine g_callf 154 ?_; refine ow_call Tryd.call154 rfl ((within12_calls _ _ _ _ _ _ _ (by omega) (by omega) (by omega) (by omega) hA).mono ?_); clear hA; (try clear w); rintro e w ⟨av, nv, cv, rfl, hA⟩; refine ⟨_, rfl, ?_⟩; refine rn ?_) | refine st ?_ | refine sr ?_ | refine sl hA ?_ | (refine s_w hA ?_; clear hA; (try clear w); intro w hA) | (refine s_v hA ?_; clear hA; (try clear w); intro v w hA hone hnil) | (refine s_b hA ?_; clear hA; (try clear w); intro b w hA) | refine sp (fun h => ?_) (fun h => ?_) | (refine wc_region ?_))
    refine fp_ret (res1 rfl rfl) ⟨_, _, rfl, ?_, ?_, hA⟩ <;> first | rfl | simp [Value.oneCell']
  by_cases h2 : s.toNat = 2
  · rw [h2]
    repeat' (first | (refine g_callf 154 ?_; refine ow_call Tryd.call154 rfl ((within12_calls _ _ _ _ _ _ _ (by omega) (by omega) (by omega) (by omega) hA).mono ?_); clear hA; (try clear w); rintro e w ⟨av, nv, cv, rfl, hA⟩; refine ⟨_, rfl, ?_⟩; refine rn ?_) | refine st ?_ | refine sr ?_ | refine sl hA ?_ | (refine s_w hA ?_; clear hA; (try clear w); intro w hA) | (refine s_v hA ?_; clear hA; (try clear w); intro v w hA hone hnil) | (refine s_b hA ?_; clear hA; (try clear w); intro b w hA) | refine sp (fun h => ?_) (fun h => ?_) | (refine wc_region ?_))
    refine fp_ret (res1 rfl rfl) ⟨_, _, rfl, ?_, ?_, hA⟩ <;> first | rfl | simp [Value.oneCell']
  have h3 : s.toNat = 3 := by omega
  rw [h3]
  repeat' (first | (refine g_callf 154 ?_; refine ow_call Tryd.call154 rfl ((within12_calls _ _ _ _ _ _ _ (by omega) (by omega) (by omega) (by omega) hA).mono ?_); clear hA; (try clear w); rintro e w ⟨av, nv, cv, rfl, hA⟩; refine ⟨_, rfl, ?_⟩; refine rn ?_) | refine st ?_ | refine sr ?_ | refine sl hA ?_ | (refine s_w hA ?_; clear hA; (try clear w); intro w hA) | (refine s_v hA ?_; clear hA; (try clear w); intro v w hA hone hnil) | (refine s_b hA ?_; clear hA; (try clear w); intro b w hA) | refine sp (fun h => ?_) (fun h => ?_) | (refine wc_region ?_))
  refine fp_ret (res1 rfl rfl) ⟨_, _, rfl, ?_, ?_, hA⟩ <;> first | rfl | simp [Value.oneCell']
set_option maxRecDepth 4000 in
set_option maxHeartbeats 4000000 in
theorem all12_calls (k : UInt8) (sub : Vector UInt8 4) (hA : Sat E L w) :
    Calls Tryd.prog 140 ⟨[u8 k, .agg ⟨arr4 sub⟩]⟩ w (PartsOK E L (piecesP k sub)) := by
  have hk := k.toNat_lt
  refine enter (fn := Tryd.f140) Tryd.func140 rfl 46 rfl [u8 k, .agg ⟨arr4 sub⟩, undef, undef, undef, undef, undef, undef, undef, undef, undef, undef, undef, undef, undef, undef, undef, undef, undef, undef, undef, undef, undef, undef, undef, undef, undef, undef, undef, undef, undef, undef, undef, undef, undef, undef, undef, undef, undef, undef, undef, undef, undef, undef, undef, undef] rfl ?_
  by_cases h3 : k.toNat = 3
  · rw [piecesP, if_pos h3]
    repeat' (first | (refine g_callf 154 ?_; refine ow_call Tryd.call154 rfl ((within12_calls _ _ _ _ _ _ _ (by omega) (by omega) (by omega) (by omega) hA).mono ?_); clear hA; (try clear w); rintro e w ⟨av, nv, cv, rfl, hA⟩; refine ⟨_, rfl, ?_⟩; refine rn ?_) | refine st ?_ | refine sr ?_ | refine sl hA ?_ | (refine s_w hA ?_; clear hA; (try clear w); intro w hA) | (refine s_v hA ?_; clear hA; (try clear w); intro v w hA hone hnil) | (refine s_b hA ?_; clear hA; (try clear w); intro b w hA) | refine sp (fun h => ?_) (fun h => ?_) | (refine wc_region ?_))
    exact fp_ret (res2 rfl rfl rfl) ⟨_, rfl, ⟨_, _, rfl⟩, hA.dropN 2⟩
  by_cases h4 : k.toNat = 4
  · rw [piecesP, if_neg h3, if_pos h4]
    repeat' (first | (refine g_callf 154 ?_; refine ow_call Tryd.call154 rfl ((within12_calls _ _ _ _ _ _ _ (by omega) (by omega) (by omega) (by omega) hA).mono ?_); clear hA; (try clear w); rintro e w ⟨av, nv, cv, rfl, hA⟩; refine ⟨_, rfl, ?_⟩; refine rn ?_) | refine st ?_ | refine sr ?_ | refine sl hA ?_ | (refine s_w hA ?_; clear hA; (try clear w); intro w hA) | (refine s_v hA ?_; clear hA; (try clear w); intro v w hA hone hnil) | (refine s_b hA ?_; clear hA; (try clear w); intro b w hA) | refine sp (fun h => ?_) (fun h => ?_) | (refine wc_region ?_))
    exact fp_ret (res2 rfl rfl rfl) ⟨_, rfl, ⟨_, _, rfl⟩, hA.dropN 2⟩
  by_cases h5 : k.toNat = 5
  · rw [piecesP, if_neg h3, if_neg h4, if_pos h5]
    repeat' (first | (refine g_callf 154 ?_; refine ow_call Tryd.call154 rfl ((within12_calls _ _ _ _ _ _ _ (by omega) (by omega) (by omega) (by omega) hA).mono ?_); clear hA; (try clear w); rintro e w ⟨av, nv, cv, rfl, hA⟩; refine ⟨_, rfl, ?_⟩; refine rn ?_) | refine st ?_ | refine sr ?_ | refine sl hA ?_ | (refine s_w hA ?_; clear hA; (try clear w); intro w hA) | (refine s_v hA ?_; clear hA; (try clear w); intro v w hA hone hnil) | (refine s_b hA ?_; clear hA; (try clear w); intro b w hA) | refine sp (fun h => ?_) (fun h => ?_) | (refine wc_region ?_))
    exact fp_ret (res2 rfl rfl rfl) ⟨_, rfl, ⟨_, _, rfl⟩, hA.dropN 2⟩
  by_cases h6 : k.toNat = 6
  · rw [piecesP, if_neg h3, if_neg h4, if_neg h5, if_pos h6]
    have hsl : sub.toList.length = 4 := by simp
    repeat' (first | refine st ?_ | refine sr ?_ | refine sl hA ?_ | (refine s_w hA ?_; clear hA; (try clear w); intro w hA) | (refine s_v hA ?_; clear hA; (try clear w); intro v w hA hone hnil) | (refine s_b hA ?_; clear hA; (try clear w); intro b w hA) | refine sp (fun h => ?_) (fun h => ?_) | (refine wc_regionS 9 rfl ?_; refine wc_region ?_))
    have hA' := hA.nilRow 181 2
    clear hA; rename _ => hA
    generalize hb3 : b = b3 at *
    repeat' (first | refine st ?_ | refine sr ?_ | refine sl hA ?_ | (refine s_w hA ?_; clear hA; (try clear w); intro w hA) | (refine s_v hA ?_; clear hA; (try clear w); intro v w hA hone hnil) | (refine s_b hA ?_; clear hA; (try clear w); intro b w hA) | refine sp (fun h => ?_) (fun h => ?_) | (refine wc_region ?_))
    refine wc_loopn (fun m l w => ∃ (i n : Nat) (u : Value) (cs : List Value), (∃ jk : Nat → Value, l = [jk 0, jk 1, jk 2, .pointer (some ⟨b3, 0, none⟩), jk 4, jk 5, u, .int .i64 (i : Int), jk 8, jk 9, jk 10, jk 11, jk 12, jk 13, jk 14, jk 15, jk 16, jk 17, jk 18, jk 19, jk 20, jk 21, jk 22, jk 23, jk 24, jk 25, jk 26, jk 27, jk 28, jk 29, jk 30, jk 31, jk 32, jk 33, jk 34, jk 35, jk 36, jk 37, jk 38, jk 39, jk 40, jk 41, jk 42, jk 43, jk 44, jk 45]) ∧ i + m = 4 ∧ u.oneCell' = true ∧ n = qsum (sub.toList.take i) ∧ (sub.toList.take i).all (fun s => decide (s.toNat ≤ 3)) = true ∧ Sat E (row 181 2 u n cs :: cells b3 (arr4 sub) 23 :: L) w) 4 ⟨0, 0, _, _, (ex_getD rfl), by omega, rfl, rfl, rfl, hA⟩ ?_
    clear hA
    rintro m l w ⟨i, n, u, cs, ⟨jk, rfl⟩, hi, hone, hn, hall, hA⟩
    by_cases hlt : i < 4
    · obtain ⟨x, hxi⟩ : ∃ x, sub.toList[i]? = some x := ⟨_, List.getElem?_eq_getElem (by omega)⟩
      have hx8 := x.toNat_lt
      have hx0 : (arr4 sub)[0 + (i : Int).toNat * 1]? = some (u8 x) := by rw [Int.toNat_natCast, Nat.mul_one, Nat.zero_add]; exact arr4_get sub i x hxi
      have hx1 : (arr4 sub)[(i : Int).toNat * 1]? = some (u8 x) := by rw [Int.toNat_natCast, Nat.mul_one]; exact arr4_get sub i x hxi
      have hts : sub.toList.take (i + 1) = sub.toList.take i ++ [x] := by rw [List.take_add_one, hxi]; rfl
      have hn16 : n ≤ 16 := by rw [hn]; have := qsum_le (sub.toList.take i); rw [List.length_take] at this; omega
      have hqn := quart_len x.toNat
      by_cases hx3 : x.toNat ≤ 3
      · repeat' (first | (refine g_ow ?_; refine t_indexAddrA rfl rfl (by omega) ?_; refine rn ?_) | (refine g_ow ?_; refine t_loadx rfl hA ?_ rfl (by first | exact ⟨0, rfl⟩ | exact ⟨1, rfl⟩) hx1; refine rn ?_) | (refine g_ow ?_; refine t_loadx rfl hA ?_ rfl (by first | exact ⟨0, rfl⟩ | exact ⟨1, rfl⟩) hx0; refine rn ?_) | (refine g_callf 155 ?_; refine ow_call Tryd.call155 rfl ((quarter_calls _ _ _ i x hlt hx3 hA).mono ?_); clear hA; (try clear w); rintro e w ⟨bq, cq, rfl, hcq, hoq, hA⟩; refine ⟨_, rfl, ?_⟩; refine rn ?_) | (refine g_call ?_; refine t_append1 1 0 (by decide) (by rfl) rfl rfl hA rfl rfl hcq hoq (by unfold maxLen; omega) (by omega) ?_; clear hA; intro v' w hA h1 h2; refine h_n hA ?_; clear hA; intro hA; refine rn ?_) | refine st ?_ | refine sr ?_ | refine sl hA ?_ | (refine s_w hA ?_; clear hA; (try clear w); intro w hA) | (refine s_v hA ?_; clear hA; (try clear w); intro v w hA hone hnil) | (refine s_b hA ?_; clear hA; (try clear w); intro b w hA) | refine sp (fun h => ?_) (fun h => ?_) | (refine wc_region ?_))
        refine lq_next (m - 1) (by omega) ⟨i + 1, n + (quart x.toNat).length, _, _, (ex_getD rfl), by omega, by assumption, ?_, ?_, hA⟩
        · rw [hts, qsum_snoc]; omega
        · rw [hts, List.all_append, hall, Bool.true_and, List.all_cons, List.all_nil, Bool.and_true]
          exact decide_eq_true hx3
      · rw [if_neg (by
          intro ha
          exact hx3 (of_decide_eq_true (List.all_eq_true.1 ha x (List.mem_of_getElem? hxi))))]
        repeat' (first | (refine g_ow ?_; refine t_indexAddrA rfl rfl (by omega) ?_; refine rn ?_) | (refine g_ow ?_; refine t_loadx rfl hA ?_ rfl (by first | exact ⟨0, rfl⟩ | exact ⟨1, rfl⟩) hx1; refine rn ?_) | (refine g_ow ?_; refine t_loadx rfl hA ?_ rfl (by first | exact ⟨0, rfl⟩ | exact ⟨1, rfl⟩) hx0; refine rn ?_) | refine st ?_ | refine sr ?_ | refine sl hA ?_ | (refine s_w hA ?_; clear hA; (try clear w); intro w hA) | (refine s_v hA ?_; clear hA; (try clear w); intro v w hA hone hnil) | (refine s_b hA ?_; clear hA; (try clear w); intro b w hA) | refine sp (fun h => ?_) (fun h => ?_) | (refine wc_region ?_))
        exact fp_ret (res2 rfl rfl rfl) ⟨_, rfl, ⟨_, _, rfl⟩, hA.dropN 2⟩
    · have e4 : sub.toList.take i = sub.toList := List.take_of_length_le (by omega)
      rw [e4] at hn hall
      rw [if_pos hall]
      repeat' (first | refine st ?_ | refine sr ?_ | refine sl hA ?_ | (refine s_w hA ?_; clear hA; (try clear w); intro w hA) | (refine s_v hA ?_; clear hA; (try clear w); intro v w hA hone hnil) | (refine s_b hA ?_; clear hA; (try clear w); intro b w hA) | refine sp (fun h => ?_) (fun h => ?_) | (refine wc_region ?_))
      exact fp_ret (res2 rfl rfl rfl) ⟨u, rfl, by rw [← hn]; exact row_len hA (i := 0) rfl, hA.dropN 2⟩
  · rw [piecesP, if_neg h3, if_neg h4, if_neg h5, if_neg h6]
    repeat' (first | refine st ?_ | refine sr ?_ | refine sl hA ?_ | (refine s_w hA ?_; clear hA; (try clear w); intro w hA) | (refine s_v hA ?_; clear hA; (try clear w); intro v w hA hone hnil) | (refine s_b hA ?_; clear hA; (try clear w); intro b w hA) | refine sp (fun h => ?_) (fun h => ?_) | (refine wc_region ?_))
    exact fp_ret (res2 rfl rfl rfl) ⟨_, rfl, ⟨_, _, rfl⟩, hA.tail⟩
theorem refPieces_calls (k : UInt8) (sub : Vector UInt8 4) (hA : Sat E L w) :
    Calls Tryd.prog 112 ⟨[u8 k, .agg ⟨arr4 sub⟩]⟩ w (Ret E L (.tuple ⟨[vi (piecesP k sub).1, vi (piecesP k sub).2]⟩)) := by
  refine enter (fn := Tryd.f112) Tryd.func112 rfl 17 rfl [u8 k, .agg ⟨arr4 sub⟩, undef, undef, undef, undef, undef, undef, undef, undef, undef, undef, undef, undef, undef, undef, undef] rfl ?_
  repeat' (first | (refine g_callf 140 ?_; refine ow_call Tryd.call140 rfl ((all12_calls _ _ _ k sub hA).mono ?_); clear hA; (try clear w); rintro e w ⟨v, rfl, ⟨a, c, rfl⟩, hA⟩; refine ⟨_, rfl, ?_⟩; refine rn ?_) | (refine g_call ?_; refine t_len_slice rfl ?_; refine rn ?_) | refine st ?_ | refine sr ?_ | refine sl hA ?_ | (refine s_w hA ?_; clear hA; (try clear w); intro w hA) | (refine s_v hA ?_; clear hA; (try clear w); intro v w hA hone hnil) | (refine s_b hA ?_; clear hA; (try clear w); intro b w hA) | refine sp (fun h => ?_) (fun h => ?_) | (refine wc_region ?_))
  exact ret2 hA.tail rfl rfl rfl
end
end Go.Proofs.YtomfoaaaeidpnaaDoor
