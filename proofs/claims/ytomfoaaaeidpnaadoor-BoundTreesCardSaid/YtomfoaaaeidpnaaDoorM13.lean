/-
  The reference's lists of errors, walked: small.
-/
import Derived.Test.YtomfoaaaeidpnaaDoorM12
import Derived.Test.YtomfoaaaeidpnaaDoorM7
set_option linter.unusedVariables false
set_option linter.unusedSimpArgs false
namespace Go.Proofs.YtomfoaaaeidpnaaDoor
open Go Go.RowKit
attribute [local irreducible] WC RL OW bodyPostM ThenQ BlockQ LoopQ ScopeQ
def smallF (k p : UInt8) : Int := if k.toNat = 0 then rngE (decide ((p.toNat : Int) ≤ 8)) else absE (decide ((p.toNat : Int) = 0))
def smallG (k p : UInt8) : Int := if k.toNat = 6 then rngE (decide ((p.toNat : Int) ≤ 3)) else absE (decide ((p.toNat : Int) = 0))
def smallA (m : Mb) : Int := if m.kind.toNat = 1 then rngE (decide ((m.mode.toNat : Int) ≤ 3)) else absE (decide ((m.mode.toNat : Int) = 0))
def smallB (m : Mb) : Int := if m.kind.toNat ≤ 1 then rngE (decide ((m.chroma.toNat : Int) ≤ 3)) else absE (decide ((m.chroma.toNat : Int) = 0))
def smallL (m : Mb) : List Int := [smallA m, smallB m] ++ m.preds.toList.map (smallF m.kind) ++ m.sub.toList.map (smallG m.kind)
set_option maxRecDepth 8000 in
set_option maxHeartbeats 8000000 in
theorem small_calls (m : Mb) (r v u : Value) (E : Env) (L : List Item) (w : World) (hA : Sat E L w) :
    Calls Tryd.prog 135 ⟨[.agg ⟨mbC m r v u⟩]⟩ w (fun e w' => ∃ q, e = .returned q ∧ q.oneCell' = true ∧ Sat E (row 65 1 q 22 ((smallL m).map vi) :: L) w') := by
  refine enter (fn := Tryd.f135) Tryd.func135 rfl 96 rfl [.agg ⟨mbC m r v u⟩, undef, undef, undef, undef, undef, undef, undef, undef, undef, undef, undef, undef, undef, undef, undef, undef, undef, undef, undef, undef, undef, undef, undef, undef, undef, undef, undef, undef, undef, undef, undef, undef, undef, undef, undef, undef, undef, undef, undef, undef, undef, undef, undef, undef, undef, undef, undef, undef, undef, undef, undef, undef, undef, undef, undef, undef, undef, undef, undef, undef, undef, undef, undef, undef, undef, undef, undef, undef, undef, undef, undef, undef, undef, undef, undef, undef, undef, undef, undef, undef, undef, undef, undef, undef, undef, undef, undef, undef, undef, undef, undef, undef, undef, undef, undef] rfl ?_
  repeat' (first | refine st ?_ | refine sr ?_ | refine sl hA ?_ | (refine s_w hA ?_; clear hA; (try clear w); intro w hA) | (refine s_v hA ?_; clear hA; (try clear w); intro v w hA hone hnil) | (refine s_b hA ?_; clear hA; (try clear w); intro b w hA) | refine sp (fun h => ?_) (fun h => ?_) | (refine wc_regionS 2 rfl ?_; refine wc_region ?_))
  obtain ⟨E1, hE1, hA1, g1⟩ := hA.freezeCells
  have hmA : MbAt E1 b m r v u := g1
  have c0 : E1.cell? ⟨b, 0, none⟩ = some (u8 m.kind) := hmA 0 _ rfl
  have c1 : E1.cell? ⟨b, 1, none⟩ = some (u8 m.mode) := hmA 1 _ rfl
  have c2 : E1.cell? ⟨b, 2, none⟩ = some (u8 m.chroma) := hmA 2 _ rfl
  have hP := preds_at hmA
  have hS := sub_at4 hmA
  have hPl : m.preds.toList.length = 16 := by simp
  have hSl : m.sub.toList.length = 4 := by simp
  clear hA
  have hA := hA1.nilRow 65 1
  clear hA1 g1
  refine wc_region ?_
  refine rv hA ?_; clear hA; intro w hA
  refine' rl_v hA ?o2_1 ?k2_1
  case o2_1 => intro w hA; first | (refine t_load_env rfl rfl hA c0 ?_; exact ⟨pe, hA⟩) | (refine oq ?_; exact ⟨pe, hA⟩)
  clear hA; intro w hA; refine rn ?_
  refine rv hA ?_; clear hA; intro w hA
  refine rl_nil ?_
  refine tq_normal ?_
  refine wc_mid (fun l w => ∃ q, (∃ jk : Nat → Value, l = [jk 0, .pointer (some ⟨b, 0, none⟩), jk 2, q, jk 4, jk 5, jk 6, jk 7, jk 8, jk 9, jk 10, jk 11, jk 12, jk 13, jk 14, jk 15, jk 16, jk 17, jk 18, jk 19, jk 20, jk 21, jk 22, jk 23, jk 24, jk 25, jk 26, jk 27, jk 28, jk 29, jk 30, jk 31, jk 32, jk 33, jk 34, jk 35, jk 36, jk 37, jk 38, jk 39, jk 40, jk 41, jk 42, jk 43, jk 44, jk 45, jk 46, jk 47, jk 48, jk 49, jk 50, jk 51, jk 52, jk 53, jk 54, jk 55, jk 56, jk 57, jk 58, jk 59, jk 60, jk 61, jk 62, jk 63, jk 64, jk 65, jk 66, jk 67, jk 68, jk 69, jk 70, jk 71, jk 72, jk 73, jk 74, jk 75, jk 76, jk 77, jk 78, jk 79, jk 80, jk 81, jk 82, jk 83, jk 84, jk 85, jk 86, jk 87, jk 88, jk 89, jk 90, jk 91, jk 92, jk 93, jk 94, jk 95]) ∧ q.oneCell' = true ∧ Sat E1 (row 65 1 q 1 [vi (smallA m)] :: L) w) ?_ ?_
  · by_cases h1 : m.kind.toNat = 1
    · rw [show smallA m = rngE (decide ((m.mode.toNat : Int) ≤ 3)) from if_pos h1]
      repeat' (first | (refine g_ow ?_; refine t_load_env rfl rfl hA c1 ?_; refine rn ?_) | (refine g_callf 152 ?_; refine ow_call Tryd.call152 rfl ((rng_calls _ _ _ _ hA).mono ?_); clear hA; (try clear w); rintro e w ⟨rfl, hA⟩; refine ⟨_, rfl, ?_⟩; refine rn ?_) | refine st ?_ | refine sr ?_ | refine sl hA ?_ | (refine s_w hA ?_; clear hA; (try clear w); intro w hA) | (refine s_v hA ?_; clear hA; (try clear w); intro v w hA hone hnil) | (refine s_b hA ?_; clear hA; (try clear w); intro b w hA) | refine sp (fun h => ?_) (fun h => ?_) | (refine wc_region ?_))
      exact mq_normal ⟨_, (ex_getD rfl), by assumption, hA⟩
    · rw [show smallA m = absE (decide ((m.mode.toNat : Int) = 0)) from if_neg h1]
      repeat' (first | (refine g_ow ?_; refine t_load_env rfl rfl hA c1 ?_; refine rn ?_) | (refine g_callf 153 ?_; refine ow_call Tryd.call153 rfl ((abs_calls _ _ _ _ hA).mono ?_); clear hA; (try clear w); rintro e w ⟨rfl, hA⟩; refine ⟨_, rfl, ?_⟩; refine rn ?_) | refine st ?_ | refine sr ?_ | refine sl hA ?_ | (refine s_w hA ?_; clear hA; (try clear w); intro w hA) | (refine s_v hA ?_; clear hA; (try clear w); intro v w hA hone hnil) | (refine s_b hA ?_; clear hA; (try clear w); intro b w hA) | refine sp (fun h => ?_) (fun h => ?_) | (refine wc_region ?_))
      exact mq_normal ⟨_, (ex_getD rfl), by assumption, hA⟩
  clear hA
  rintro l w ⟨q, ⟨jk, rfl⟩, hone, hA⟩
  repeat' (first | refine st ?_ | refine sr ?_ | refine sl hA ?_ | (refine s_w hA ?_; clear hA; (try clear w); intro w hA) | (refine s_v hA ?_; clear hA; (try clear w); intro v w hA hone hnil) | (refine s_b hA ?_; clear hA; (try clear w); intro b w hA) | refine sp (fun h => ?_) (fun h => ?_) | (refine wc_regionS 5 rfl ?_; refine wc_region ?_))
  refine wc_region ?_
  refine rv hA ?_; clear hA; intro w hA
  refine' rl_v hA ?o5_1 ?k5_1
  case o5_1 => intro w hA; first | (refine t_load_env rfl rfl hA c0 ?_; exact ⟨pe, hA⟩) | (refine oq ?_; exact ⟨pe, hA⟩)
  clear hA; intro w hA; refine rn ?_
  refine rv hA ?_; clear hA; intro w hA
  refine rv hA ?_; clear hA; intro w hA
  refine rf hA ?_; clear hA; intro w hA
  first | refine' rl_F rfl hA ?o5_5 ?k5_5 | refine' rl_Fn rfl hA ?o5_5 ?k5_5
  case o5_5 => intro hg w hA; first | (refine t_load_env rfl opr hA c0 ?_; exact ⟨pe, hA⟩) | (refine oqg ?_; exact ⟨pe, hA⟩)
  clear hA; intro w hA; refine rn ?_
  refine rf hA ?_; clear hA; intro w hA
  refine rv hA ?_; clear hA; intro w hA
  refine rl_nil ?_
  refine tq_normal ?_
  refine wc_mid (fun l w => ∃ q, (∃ jk : Nat → Value, l = [jk 0, .pointer (some ⟨b, 0, none⟩), jk 2, q, jk 4, jk 5, jk 6, jk 7, jk 8, jk 9, jk 10, jk 11, jk 12, jk 13, jk 14, jk 15, jk 16, jk 17, jk 18, jk 19, jk 20, jk 21, jk 22, jk 23, jk 24, jk 25, jk 26, jk 27, jk 28, jk 29, jk 30, jk 31, jk 32, jk 33, jk 34, jk 35, jk 36, jk 37, jk 38, jk 39, jk 40, jk 41, jk 42, jk 43, jk 44, jk 45, jk 46, jk 47, jk 48, jk 49, jk 50, jk 51, jk 52, jk 53, jk 54, jk 55, jk 56, jk 57, jk 58, jk 59, jk 60, jk 61, jk 62, jk 63, jk 64, jk 65, jk 66, jk 67, jk 68, jk 69, jk 70, jk 71, jk 72, jk 73, jk 74, jk 75, jk 76, jk 77, jk 78, jk 79, jk 80, jk 81, jk 82, jk 83, jk 84, jk 85, jk 86, jk 87, jk 88, jk 89, jk 90, jk 91, jk 92, jk 93, jk 94, jk 95]) ∧ q.oneCell' = true ∧ Sat E1 (row 65 1 q 2 [vi (smallA m), vi (smallB m)] :: L) w) ?_ ?_
  · by_cases h1 : m.kind.toNat ≤ 1
    · rw [show smallB m = rngE (decide ((m.chroma.toNat : Int) ≤ 3)) from if_pos h1]
      refine wc_bb rfl (fun h => ?_) (fun h => by simp at h; omega)
      repeat' (first | (refine g_ow ?_; refine t_load_env rfl rfl hA c2 ?_; refine rn ?_) | (refine g_callf 152 ?_; refine ow_call Tryd.call152 rfl ((rng_calls _ _ _ _ hA).mono ?_); clear hA; (try clear w); rintro e w ⟨rfl, hA⟩; refine ⟨_, rfl, ?_⟩; refine rn ?_) | refine st ?_ | refine sr ?_ | refine sl hA ?_ | (refine s_w hA ?_; clear hA; (try clear w); intro w hA) | (refine s_v hA ?_; clear hA; (try clear w); intro v w hA hone hnil) | (refine s_b hA ?_; clear hA; (try clear w); intro b w hA) | refine sp (fun h => ?_) (fun h => ?_) | (refine wc_region ?_))
      exact mq_normal ⟨_, (ex_getD rfl), by assumption, hA⟩
    · rw [show smallB m = absE (decide ((m.chroma.toNat : Int) = 0)) from if_neg h1]
      refine wc_bb rfl (fun h => by simp at h; omega) (fun h => ?_)
      repeat' (first | (refine g_ow ?_; refine t_load_env rfl rfl hA c2 ?_; refine rn ?_) | (refine g_callf 153 ?_; refine ow_call Tryd.call153 rfl ((abs_calls _ _ _ _ hA).mono ?_); clear hA; (try clear w); rintro e w ⟨rfl, hA⟩; refine ⟨_, rfl, ?_⟩; refine rn ?_) | refine st ?_ | refine sr ?_ | refine sl hA ?_ | (refine s_w hA ?_; clear hA; (try clear w); intro w hA) | (refine s_v hA ?_; clear hA; (try clear w); intro v w hA hone hnil) | (refine s_b hA ?_; clear hA; (try clear w); intro b w hA) | refine sp (fun h => ?_) (fun h => ?_) | (refine wc_region ?_))
      exact mq_normal ⟨_, (ex_getD rfl), by assumption, hA⟩
  clear hA hone
  rintro l w ⟨q, ⟨jk, rfl⟩, hone, hA⟩
  repeat' (first | refine st ?_ | refine sr ?_ | refine sl hA ?_ | (refine s_w hA ?_; clear hA; (try clear w); intro w hA) | (refine s_v hA ?_; clear hA; (try clear w); intro v w hA hone hnil) | (refine s_b hA ?_; clear hA; (try clear w); intro b w hA) | refine sp (fun h => ?_) (fun h => ?_) | (refine wc_region ?_))
  refine wc_loopn (fun k l w => ∃ (i n : Nat) (q : Value), (∃ jk : Nat → Value, l = [jk 0, .pointer (some ⟨b, 0, none⟩), jk 2, q, .int .i64 (i : Int), jk 5, jk 6, jk 7, jk 8, jk 9, jk 10, jk 11, jk 12, jk 13, jk 14, jk 15, jk 16, jk 17, jk 18, jk 19, jk 20, jk 21, jk 22, jk 23, jk 24, jk 25, jk 26, jk 27, jk 28, jk 29, jk 30, jk 31, jk 32, jk 33, jk 34, jk 35, jk 36, jk 37, jk 38, jk 39, jk 40, jk 41, jk 42, jk 43, jk 44, jk 45, jk 46, jk 47, jk 48, jk 49, jk 50, jk 51, jk 52, jk 53, jk 54, jk 55, jk 56, jk 57, jk 58, jk 59, jk 60, jk 61, jk 62, jk 63, jk 64, jk 65, jk 66, jk 67, jk 68, jk 69, jk 70, jk 71, jk 72, jk 73, jk 74, jk 75, jk 76, jk 77, jk 78, jk 79, jk 80, jk 81, jk 82, jk 83, jk 84, jk 85, jk 86, jk 87, jk 88, jk 89, jk 90, jk 91, jk 92, jk 93, jk 94, jk 95]) ∧ i + k = 16 ∧ n = 2 + i ∧ q.oneCell' = true ∧ Sat E1 (row 65 1 q n (([smallA m, smallB m] ++ (m.preds.toList.take i).map (smallF m.kind)).map vi) :: L) w) 16 ⟨0, 2, q, (ex_getD rfl), by omega, rfl, hone, hA⟩ ?_
  clear hA hone
  rintro k l w ⟨i, n, q, ⟨jk, rfl⟩, hi, hn, hone, hA⟩
  by_cases hlt : i < 16
  · obtain ⟨p, hp⟩ : ∃ p, m.preds.toList[i]? = some p := ⟨_, List.getElem?_eq_getElem (by omega)⟩
    obtain ⟨cs, hcsl, rfl, hg⟩ := hP.get hp
    have px : E1.cell? ⟨b, 3 + (i : Int).toNat * 1, none⟩ = some (u8 p) := by rw [Int.toNat_natCast]; exact hg 0 _ rfl
    have hts : m.preds.toList.take (i + 1) = m.preds.toList.take i ++ [p] := by rw [List.take_add_one, hp]; rfl
    by_cases h0 : m.kind.toNat = 0
    · have ef : smallF m.kind p = rngE (decide ((p.toNat : Int) ≤ 8)) := if_pos h0
      repeat' (first | (refine g_ow ?_; refine t_load_env rfl rfl hA c0 ?_; refine rn ?_) | (refine g_ow ?_; refine t_indexAddrA rfl rfl (by omega) ?_; refine rn ?_) | (refine g_ow ?_; refine t_load_env rfl rfl hA px ?_; refine rn ?_) | (refine g_callf 152 ?_; refine ow_call Tryd.call152 rfl ((rng_calls _ _ _ _ hA).mono ?_); clear hA; (try clear w); rintro e w ⟨rfl, hA⟩; refine ⟨_, rfl, ?_⟩; refine rn ?_) | refine st ?_ | refine sr ?_ | refine sl hA ?_ | (refine s_w hA ?_; clear hA; (try clear w); intro w hA) | (refine s_v hA ?_; clear hA; (try clear w); intro v w hA hone hnil) | (refine s_b hA ?_; clear hA; (try clear w); intro b w hA) | refine sp (fun h => ?_) (fun h => ?_) | (refine wc_region ?_))
      refine lq_next (k - 1) (by omega) ⟨i + 1, n + 1, _, (ex_getD rfl), by omega, by omega, by assumption, ?_⟩
      simp only [hts, List.map_append, List.map_cons, List.map_nil, ef, List.cons_append, List.nil_append, List.append_assoc] at hA ⊢
      exact hA
    · have ef : smallF m.kind p = absE (decide ((p.toNat : Int) = 0)) := if_neg h0
      repeat' (first | (refine g_ow ?_; refine t_load_env rfl rfl hA c0 ?_; refine rn ?_) | (refine g_ow ?_; refine t_indexAddrA rfl rfl (by omega) ?_; refine rn ?_) | (refine g_ow ?_; refine t_load_env rfl rfl hA px ?_; refine rn ?_) | (refine g_callf 153 ?_; refine ow_call Tryd.call153 rfl ((abs_calls _ _ _ _ hA).mono ?_); clear hA; (try clear w); rintro e w ⟨rfl, hA⟩; refine ⟨_, rfl, ?_⟩; refine rn ?_) | refine st ?_ | refine sr ?_ | refine sl hA ?_ | (refine s_w hA ?_; clear hA; (try clear w); intro w hA) | (refine s_v hA ?_; clear hA; (try clear w); intro v w hA hone hnil) | (refine s_b hA ?_; clear hA; (try clear w); intro b w hA) | refine sp (fun h => ?_) (fun h => ?_) | (refine wc_region ?_))
      refine lq_next (k - 1) (by omega) ⟨i + 1, n + 1, _, (ex_getD rfl), by omega, by omega, by assumption, ?_⟩
      simp only [hts, List.map_append, List.map_cons, List.map_nil, ef, List.cons_append, List.nil_append, List.append_assoc] at hA ⊢
      exact hA
  obtain rfl : i = 16 := by omega
  rw [List.take_of_length_le (by omega)] at hA
  obtain ⟨pl, hpl⟩ : ∃ pl, [smallA m, smallB m] ++ m.preds.toList.map (smallF m.kind) = pl := ⟨_, rfl⟩
  rw [hpl] at hA
  repeat' (first | refine st ?_ | refine sr ?_ | refine sl hA ?_ | (refine s_w hA ?_; clear hA; (try clear w); intro w hA) | (refine s_v hA ?_; clear hA; (try clear w); intro v w hA hone hnil) | (refine s_b hA ?_; clear hA; (try clear w); intro b w hA) | refine sp (fun h => ?_) (fun h => ?_) | (refine wc_region ?_))
  refine wc_loopn (fun k l w => ∃ (i n : Nat) (q : Value), (∃ jk : Nat → Value, l = [jk 0, .pointer (some ⟨b, 0, none⟩), jk 2, q, jk 4, .int .i64 (i : Int), jk 6, jk 7, jk 8, jk 9, jk 10, jk 11, jk 12, jk 13, jk 14, jk 15, jk 16, jk 17, jk 18, jk 19, jk 20, jk 21, jk 22, jk 23, jk 24, jk 25, jk 26, jk 27, jk 28, jk 29, jk 30, jk 31, jk 32, jk 33, jk 34, jk 35, jk 36, jk 37, jk 38, jk 39, jk 40, jk 41, jk 42, jk 43, jk 44, jk 45, jk 46, jk 47, jk 48, jk 49, jk 50, jk 51, jk 52, jk 53, jk 54, jk 55, jk 56, jk 57, jk 58, jk 59, jk 60, jk 61, jk 62, jk 63, jk 64, jk 65, jk 66, jk 67, jk 68, jk 69, jk 70, jk 71, jk 72, jk 73, jk 74, jk 75, jk 76, jk 77, jk 78, jk 79, jk 80, jk 81, jk 82, jk 83, jk 84, jk 85, jk 86, jk 87, jk 88, jk 89, jk 90, jk 91, jk 92, jk 93, jk 94, jk 95]) ∧ i + k = 4 ∧ n = 18 + i ∧ q.oneCell' = true ∧ Sat E1 (row 65 1 q n ((pl ++ (m.sub.toList.take i).map (smallG m.kind)).map vi) :: L) w) 4 ⟨0, n, q, (ex_getD rfl), by omega, by omega, hone, by rw [show (m.sub.toList.take 0).map (smallG m.kind) = [] from rfl, List.append_nil]; exact hA⟩ ?_
  clear hA hone hn hi hlt
  clear n q k
  rintro k l w ⟨i, n, q, ⟨jk, rfl⟩, hi, hn, hone, hA⟩
  by_cases hlt : i < 4
  · obtain ⟨p, hp⟩ : ∃ p, m.sub.toList[i]? = some p := ⟨_, List.getElem?_eq_getElem (by omega)⟩
    obtain ⟨cs, hcsl, rfl, hg⟩ := hS.get hp
    have px : E1.cell? ⟨b, 19 + (i : Int).toNat * 1, none⟩ = some (u8 p) := by rw [Int.toNat_natCast]; exact hg 0 _ rfl
    have hts : m.sub.toList.take (i + 1) = m.sub.toList.take i ++ [p] := by rw [List.take_add_one, hp]; rfl
    by_cases h0 : m.kind.toNat = 6
    · have ef : smallG m.kind p = rngE (decide ((p.toNat : Int) ≤ 3)) := if_pos h0
      repeat' (first | (refine g_ow ?_; refine t_load_env rfl rfl hA c0 ?_; refine rn ?_) | (refine g_ow ?_; refine t_indexAddrA rfl rfl (by omega) ?_; refine rn ?_) | (refine g_ow ?_; refine t_load_env rfl rfl hA px ?_; refine rn ?_) | (refine g_callf 152 ?_; refine ow_call Tryd.call152 rfl ((rng_calls _ _ _ _ hA).mono ?_); clear hA; (try clear w); rintro e w ⟨rfl, hA⟩; refine ⟨_, rfl, ?_⟩; refine rn ?_) | refine st ?_ | refine sr ?_ | refine sl hA ?_ | (refine s_w hA ?_; clear hA; (try clear w); intro w hA) | (refine s_v hA ?_; clear hA; (try clear w); intro v w hA hone hnil) | (refine s_b hA ?_; clear hA; (try clear w); intro b w hA) | refine sp (fun h => ?_) (fun h => ?_) | (refine wc_region ?_))
      refine lq_next (k - 1) (by omega) ⟨i + 1, n + 1, _, (ex_getD rfl), by omega, by omega, by assumption, ?_⟩
      simp only [hts, List.map_append, List.map_cons, List.map_nil, ef, List.cons_append, List.nil_append, List.append_assoc] at hA ⊢
      exact hA
    · have ef : smallG m.kind p = absE (decide ((p.toNat : Int) = 0)) := if_neg h0
      repeat' (first | (refine g_ow ?_; refine t_load_env rfl rfl hA c0 ?_; refine rn ?_) | (refine g_ow ?_; refine t_indexAddrA rfl rfl (by omega) ?_; refine rn ?_) | (refine g_ow ?_; refine t_load_env rfl rfl hA px ?_; refine rn ?_) | (refine g_callf 153 ?_; refine ow_call Tryd.call153 rfl ((abs_calls _ _ _ _ hA).mono ?_); clear hA; (try clear w); rintro e w ⟨rfl, hA⟩; refine ⟨_, rfl, ?_⟩; refine rn ?_) | refine st ?_ | refine sr ?_ | refine sl hA ?_ | (refine s_w hA ?_; clear hA; (try clear w); intro w hA) | (refine s_v hA ?_; clear hA; (try clear w); intro v w hA hone hnil) | (refine s_b hA ?_; clear hA; (try clear w); intro b w hA) | refine sp (fun h => ?_) (fun h => ?_) | (refine wc_region ?_))
      refine lq_next (k - 1) (by omega) ⟨i + 1, n + 1, _, (ex_getD rfl), by omega, by omega, by assumption, ?_⟩
      simp only [hts, List.map_append, List.map_cons, List.map_nil, ef, List.cons_append, List.nil_append, List.append_assoc] at hA ⊢
      exact hA
  obtain rfl : i = 4 := by omega
  rw [List.take_of_length_le (by omega)] at hA
  repeat' (first | refine st ?_ | refine sr ?_ | refine sl hA ?_ | (refine s_w hA ?_; clear hA; (try clear w); intro w hA) | (refine s_v hA ?_; clear hA; (try clear w); intro v w hA hone hnil) | (refine s_b hA ?_; clear hA; (try clear w); intro b w hA) | refine sp (fun h => ?_) (fun h => ?_) | (refine wc_region ?_))
  refine fp_ret (res1 rfl rfl) ⟨q, rfl, hone, ?_⟩
  rw [show smallL m = pl ++ m.sub.toList.map (smallG m.kind) by rw [← hpl]; rfl]
  subst hn
  exact hA.le hE1
end Go.Proofs.YtomfoaaaeidpnaaDoor
