/-
  The reference's block, Bins and Bits, walked.
-/
import Derived.Test.YtomfoaaaeidpnaaDoorD1
import Derived.Test.YtomfoaaaeidpnaaDoorM17
set_option linter.unusedVariables false
set_option linter.unusedSimpArgs false
namespace Go.Proofs.YtomfoaaaeidpnaaDoor
open Go Go.RowKit
attribute [local irreducible] WC RL OW bodyPostM ThenQ BlockQ LoopQ ScopeQ
set_option maxHeartbeats 4000000 in
theorem rblock_calls (v : Value) (xs : List Int) (E : Env) (L : List Item) (w : World) (hA : Sat E L w) (hx : ListE intR 1 E v xs) (hs : ∀ x ∈ xs, x.natAbs ≤ 100000) (hl : xs.length ≤ 100000) :
    Calls Tryd.prog 49 ⟨[v]⟩ w (Ret E L (vi ((blockN xs : Nat) : Int))) := by
  obtain ⟨cx, hcx⟩ := hx.sl
  have ov := hx.one
  have hn := sumN_le levelN xs 66 fun x hx => levelN_le x (hs x hx)
  refine enter (fn := Tryd.f49) Tryd.func49 rfl 42 rfl [v, undef, undef, undef, undef, undef, undef, undef, undef, undef, undef, undef, undef, undef, undef, undef, undef, undef, undef, undef, undef, undef, undef, undef, undef, undef, undef, undef, undef, undef, undef, undef, undef, undef, undef, undef, undef, undef, undef, undef, undef, undef] rfl ?_
  repeat' (first | refine st ?_ | refine sr ?_ | refine sl hA ?_ | (refine s_w hA ?_; clear hA; (try clear w); intro w hA) | (refine s_v hA ?_; clear hA; (try clear w); intro v w hA hone hnil) | (refine s_b hA ?_; clear hA; (try clear w); intro b w hA) | refine sp (fun h => ?_) (fun h => ?_) | (refine wc_region ?_))
  refine wc_loopn (fun m l w => ∃ (i : Nat) (n : Int) (s : Bool), (∃ jk : Nat → Value, l = [v, jk 1, vi 0, vi n, .bool s, vi (i : Int), jk 6, jk 7, jk 8, jk 9, jk 10, jk 11, jk 12, jk 13, jk 14, jk 15, jk 16, jk 17, jk 18, jk 19, jk 20, jk 21, jk 22, jk 23, jk 24, jk 25, jk 26, jk 27, jk 28, jk 29, jk 30, jk 31, jk 32, jk 33, jk 34, jk 35, jk 36, jk 37, jk 38, jk 39, jk 40, jk 41]) ∧ i + m = xs.length ∧ n = 1 + ((sumN levelN (xs.take i) : Nat) : Int) ∧ s = decide (0 < sumN levelN (xs.take i)) ∧ Sat E L w) xs.length ⟨0, 1, false, (ex_getD rfl), by omega, rfl, rfl, hA⟩ ?_
  clear hA
  rintro m l w ⟨i, n, s, ⟨jk, rfl⟩, hi, hnn, hss, hA⟩
  by_cases hlt : i < xs.length
  · obtain ⟨x, hxi⟩ : ∃ x, xs[i]? = some x := ⟨_, List.getElem?_eq_getElem (by omega)⟩
    have hxs := hs x (List.mem_of_getElem? hxi)
    obtain ⟨cs, hcsl, ⟨rfl, h64⟩, hg⟩ := hx.get hxi
    have hx0 : E.cell? ⟨sB v, sO v + (i : Int).toNat * 1, none⟩ = some (vi x) := hg 0 _ rfl
    have hst := sumN_take levelN xs i x hxi
    have hmo := sumN_mono levelN xs (i + 1)
    by_cases h0 : x = 0
    · have e0 : levelN x = 0 := by unfold levelN; rw [if_pos h0]
      repeat' (first | (refine g_call ?_; refine t_lenS rfl hcx ?_; refine rn ?_) | (refine g_ow ?_; refine t_indexAddrS rfl hcx rfl (by omega) ?_; refine rn ?_) | (refine g_ow ?_; refine t_load_env rfl rfl hA hx0 ?_; refine rn ?_) | refine st ?_ | refine sr ?_ | refine sl hA ?_ | (refine s_w hA ?_; clear hA; (try clear w); intro w hA) | (refine s_v hA ?_; clear hA; (try clear w); intro v w hA hone hnil) | (refine s_b hA ?_; clear hA; (try clear w); intro b w hA) | refine sp (fun h => ?_) (fun h => ?_) | (refine wc_region ?_))
      exact lq_next (m - 1) (by omega) ⟨i + 1, n, s, (ex_getD rfl), by omega, by omega, by rw [hss, hst, e0]; rfl, hA⟩
    · by_cases h15 : 15 ≤ x.natAbs
      · have he := escN_le (x.natAbs - 15) 0 (by omega) (by omega)
        have e0 : levelN x = 16 + escN (x.natAbs - 15) 0 := by unfold levelN; rw [if_neg h0, if_pos h15]
        have hsub : (x.natAbs : Int) - 15 = ((x.natAbs - 15 : Nat) : Int) := by omega
        repeat' (first | (refine g_call ?_; refine t_lenS rfl hcx ?_; refine rn ?_) | (refine g_ow ?_; refine t_indexAddrS rfl hcx rfl (by omega) ?_; refine rn ?_) | (refine g_ow ?_; refine t_load_env rfl rfl hA hx0 ?_; refine rn ?_) | (refine g_callf 101 ?_; refine ow_call Tryd.call101 rfl ((rabs_calls _ _ _ x hxs hA).mono ?_); clear hA; (try clear w); rintro e w ⟨rfl, hA⟩; refine ⟨_, rfl, ?_⟩; refine rn ?_) | (refine g_callf 102 ?_; refine ow_call Tryd.call102 rfl ((hsub ▸ resc_calls _ _ _ (x.natAbs - 15) 0 (by omega) (by omega) hA).mono ?_); clear hA; (try clear w); rintro e w ⟨rfl, hA⟩; refine ⟨_, rfl, ?_⟩; refine rn ?_) | refine st ?_ | refine sr ?_ | refine sl hA ?_ | (refine s_w hA ?_; clear hA; (try clear w); intro w hA) | (refine s_v hA ?_; clear hA; (try clear w); intro v w hA hone hnil) | (refine s_b hA ?_; clear hA; (try clear w); intro b w hA) | refine sp (fun h => ?_) (fun h => ?_) | (refine wc_region ?_))
        exact lq_next (m - 1) (by omega) ⟨i + 1, _, true, (ex_getD rfl), by omega, by omega, by rw [decide_eq_true (by omega)], hA⟩
      · have e0 : levelN x = 16 := by unfold levelN; rw [if_neg h0, if_neg h15]
        repeat' (first | (refine g_call ?_; refine t_lenS rfl hcx ?_; refine rn ?_) | (refine g_ow ?_; refine t_indexAddrS rfl hcx rfl (by omega) ?_; refine rn ?_) | (refine g_ow ?_; refine t_load_env rfl rfl hA hx0 ?_; refine rn ?_) | (refine g_callf 101 ?_; refine ow_call Tryd.call101 rfl ((rabs_calls _ _ _ x hxs hA).mono ?_); clear hA; (try clear w); rintro e w ⟨rfl, hA⟩; refine ⟨_, rfl, ?_⟩; refine rn ?_) | refine st ?_ | refine sr ?_ | refine sl hA ?_ | (refine s_w hA ?_; clear hA; (try clear w); intro w hA) | (refine s_v hA ?_; clear hA; (try clear w); intro v w hA hone hnil) | (refine s_b hA ?_; clear hA; (try clear w); intro b w hA) | refine sp (fun h => ?_) (fun h => ?_) | (refine wc_region ?_))
        exact lq_next (m - 1) (by omega) ⟨i + 1, _, true, (ex_getD rfl), by omega, by omega, by rw [decide_eq_true (by omega)], hA⟩
  · have ei : i = xs.length := by omega
    have e1 : xs.take i = xs := by rw [ei, List.take_length]
    rw [e1] at hnn hss
    cases s with
    | true =>
      have hp := of_decide_eq_true hss.symm
      have hpos : 0 < xs.length := by
        cases xs with
        | nil => exact absurd hp (by decide)
        | cons a r => exact Nat.succ_pos _
      rw [blockN, if_neg (by omega)]
      repeat' (first | (refine g_call ?_; refine t_lenS rfl hcx ?_; refine rn ?_) | refine st ?_ | refine sr ?_ | refine sl hA ?_ | (refine s_w hA ?_; clear hA; (try clear w); intro w hA) | (refine s_v hA ?_; clear hA; (try clear w); intro v w hA hone hnil) | (refine s_b hA ?_; clear hA; (try clear w); intro b w hA) | refine sp (fun h => ?_) (fun h => ?_) | (refine wc_region ?_))
      exact ret1 hA rfl (by show vi _ = vi _; congr 1; omega)
    | false =>
      have hp := of_decide_eq_false hss.symm
      rw [blockN, if_pos (by omega)]
      repeat' (first | (refine g_call ?_; refine t_lenS rfl hcx ?_; refine rn ?_) | refine st ?_ | refine sr ?_ | refine sl hA ?_ | (refine s_w hA ?_; clear hA; (try clear w); intro w hA) | (refine s_v hA ?_; clear hA; (try clear w); intro v w hA hone hnil) | (refine s_b hA ?_; clear hA; (try clear w); intro b w hA) | refine sp (fun h => ?_) (fun h => ?_) | (refine wc_region ?_))
      exact ret1 hA rfl (by show vi _ = vi _; congr 1; omega)
theorem rvalid_calls (m : Mb) (r v u : Value) (E : Env) (L : List Item) (w : World) (hA : Sat E L w) (hm : MbL E m r v u) (hf : Fits m) (hfb : ∀ b ∈ m.blocks, b.length ≤ 1000000) :
    Calls Tryd.prog 47 ⟨[.agg ⟨mbC m r v u⟩]⟩ w (Ret E L (.bool (validB m))) := by
  have o1 := hm.refs.one
  have o2 := hm.mvds.one
  have o3 := hm.blocks.one
  have hc := fun L w hA => refCheck_calls m r v u false 32 _ E L w hA hm hf hfb (ref_check _ _ _)
  refine enter (fn := Tryd.f47) Tryd.func47 rfl 6 rfl [.agg ⟨mbC m r v u⟩, undef, undef, undef, undef, undef] rfl ?_
  repeat' (first | (refine g_callf 100 ?_; refine ow_call Tryd.call100 rfl ((hc _ _ hA).mono ?_); clear hA; (try clear w); rintro e w ⟨rfl, hA⟩; refine ⟨_, rfl, ?_⟩; refine rn ?_) | refine st ?_ | refine sr ?_ | refine sl hA ?_ | (refine s_w hA ?_; clear hA; (try clear w); intro w hA) | (refine s_v hA ?_; clear hA; (try clear w); intro v w hA hone hnil) | (refine s_b hA ?_; clear hA; (try clear w); intro b w hA) | refine sp (fun h => ?_) (fun h => ?_) | (refine wc_region ?_))
  exact ret1 hA.tail rfl rfl
set_option maxRecDepth 16000 in
set_option maxHeartbeats 8000000 in
theorem rBins_calls (m : Mb) (r v u : Value) (E : Env) (L : List Item) (w : World) (hA : Sat E L w) (hm : MbL E m r v u) (hf : Fits m) (hfb : ∀ b ∈ m.blocks, b.length ≤ 1000000) :
    Calls Tryd.prog 20 ⟨[.agg ⟨mbC m r v u⟩]⟩ w (Ret E L (vi ((binsV m : Nat) : Int))) := by
  have o1 := hm.refs.one
  have o2 := hm.mvds.one
  have o3 := hm.blocks.one
  have hv := rvalid_calls m r v u E
  refine enter (fn := Tryd.f20) Tryd.func20 rfl 105 rfl [.agg ⟨mbC m r v u⟩, undef, undef, undef, undef, undef, undef, undef, undef, undef, undef, undef, undef, undef, undef, undef, undef, undef, undef, undef, undef, undef, undef, undef, undef, undef, undef, undef, undef, undef, undef, undef, undef, undef, undef, undef, undef, undef, undef, undef, undef, undef, undef, undef, undef, undef, undef, undef, undef, undef, undef, undef, undef, undef, undef, undef, undef, undef, undef, undef, undef, undef, undef, undef, undef, undef, undef, undef, undef, undef, undef, undef, undef, undef, undef, undef, undef, undef, undef, undef, undef, undef, undef, undef, undef, undef, undef, undef, undef, undef, undef, undef, undef, undef, undef, undef, undef, undef, undef, undef, undef, undef, undef, undef, undef] rfl ?_
  repeat' (first | refine st ?_ | refine sr ?_ | refine sl hA ?_ | (refine s_w hA ?_; clear hA; (try clear w); intro w hA) | (refine s_v hA ?_; clear hA; (try clear w); intro v w hA hone hnil) | (refine s_b hA ?_; clear hA; (try clear w); intro b w hA) | refine sp (fun h => ?_) (fun h => ?_) | (refine wc_regionS 1 rfl ?_; refine wc_region ?_))
  obtain ⟨E1, hE1, hA1, hfz⟩ := hA.freezeCells
  have hmA : MbAt E1 b m r v u := hfz
  clear hfz hA hv
  have hA := hA1
  clear hA1
  have hall := mb_load m r v u b E1 hmA
  have c0 : E1.cell? ⟨b, 0, none⟩ = some (u8 m.kind) := hmA 0 _ rfl
  have c5 : E1.cell? ⟨b, 23, none⟩ = some r := hmA 23 _ rfl
  have c6 : E1.cell? ⟨b, 24, none⟩ = some v := hmA 24 _ rfl
  have c9 : E1.cell? ⟨b, 27, none⟩ = some u := hmA 27 _ rfl
  have hm1 := hm.mono hE1
  obtain ⟨x1, hs1⟩ := hm1.refs.sl
  obtain ⟨x2, hs2⟩ := hm1.mvds.sl
  obtain ⟨x3, hs3⟩ := hm1.blocks.sl
  have hv := rvalid_calls m r v u E1 L
  unfold binsV
  cases h : validB m with
  | false =>
    rw [h] at hv
    rw [if_neg (by decide)]
    repeat' (first | (refine g_ow ?_; refine t_load_agg_env rfl rfl hA hall rfl ?_; refine rn ?_) | (refine g_callf 47 ?_; refine ow_call Tryd.call47 rfl ((hv _ hA hm1 hf hfb).mono ?_); clear hA; (try clear w); rintro e w ⟨rfl, hA⟩; refine ⟨_, rfl, ?_⟩; refine rn ?_) | refine st ?_ | refine sr ?_ | refine sl hA ?_ | (refine s_w hA ?_; clear hA; (try clear w); intro w hA) | (refine s_v hA ?_; clear hA; (try clear w); intro v w hA hone hnil) | (refine s_b hA ?_; clear hA; (try clear w); intro b w hA) | refine sp (fun h => ?_) (fun h => ?_) | (refine wc_region ?_))
    exact ret1 (hA.le hE1) rfl rfl
  | true =>
  have hs := valid_sm h
  rw [h] at hv
  rw [if_pos rfl]
  have n1 := sumN_le predN m.preds.toList 4 fun x _ => predN_le x
  have n2 := sumN_le refN m.refs 32 fun x hx => by have := hs.refs x hx; unfold refN; omega
  have n3 := sumN_le vecN m.mvds 122 fun v hv => by
    have := hs.mvds v hv
    have := compN_le v.x (by omega)
    have := compN_le v.y (by omega)
    unfold vecN; omega
  have n4 := sumN_le blockN m.blocks 1089 hs.block
  have l1 : m.preds.toList.length = 16 := by simp
  have l2 := hs.nrefs
  have l3 := hs.nmvds
  have l4 := hs.nblocks
  have hprs := preds_at hmA
  by_cases k7 : m.kind.toNat = 7
  · rw [binsN, if_pos k7]
    repeat' (first | (refine g_ow ?_; refine t_load_env rfl rfl hA c0 ?_; refine rn ?_) | (refine g_ow ?_; refine t_load_agg_env rfl rfl hA hall rfl ?_; refine rn ?_) | (refine g_callf 47 ?_; refine ow_call Tryd.call47 rfl ((hv _ hA hm1 hf hfb).mono ?_); clear hA; (try clear w); rintro e w ⟨rfl, hA⟩; refine ⟨_, rfl, ?_⟩; refine rn ?_) | refine st ?_ | refine sr ?_ | refine sl hA ?_ | (refine s_w hA ?_; clear hA; (try clear w); intro w hA) | (refine s_v hA ?_; clear hA; (try clear w); intro v w hA hone hnil) | (refine s_b hA ?_; clear hA; (try clear w); intro b w hA) | refine sp (fun h => ?_) (fun h => ?_) | (refine wc_region ?_))
    exact ret1 (hA.le hE1) rfl rfl
  by_cases k2 : m.kind.toNat = 2
  · rw [binsN, if_neg k7, if_pos k2]
    repeat' (first | (refine g_ow ?_; refine t_load_env rfl rfl hA c0 ?_; refine rn ?_) | (refine g_ow ?_; refine t_load_agg_env rfl rfl hA hall rfl ?_; refine rn ?_) | (refine g_callf 47 ?_; refine ow_call Tryd.call47 rfl ((hv _ hA hm1 hf hfb).mono ?_); clear hA; (try clear w); rintro e w ⟨rfl, hA⟩; refine ⟨_, rfl, ?_⟩; refine rn ?_) | refine st ?_ | refine sr ?_ | refine sl hA ?_ | (refine s_w hA ?_; clear hA; (try clear w); intro w hA) | (refine s_v hA ?_; clear hA; (try clear w); intro v w hA hone hnil) | (refine s_b hA ?_; clear hA; (try clear w); intro b w hA) | refine sp (fun h => ?_) (fun h => ?_) | (refine wc_region ?_))
    exact ret1 (hA.le hE1) rfl rfl
  rw [binsN, if_neg k7, if_neg k2]
  repeat' (first | (refine g_ow ?_; refine t_load_env rfl rfl hA c0 ?_; refine rn ?_) | (refine g_ow ?_; refine t_load_agg_env rfl rfl hA hall rfl ?_; refine rn ?_) | (refine g_callf 47 ?_; refine ow_call Tryd.call47 rfl ((hv _ hA hm1 hf hfb).mono ?_); clear hA; (try clear w); rintro e w ⟨rfl, hA⟩; refine ⟨_, rfl, ?_⟩; refine rn ?_) | refine st ?_ | refine sr ?_ | refine sl hA ?_ | (refine s_w hA ?_; clear hA; (try clear w); intro w hA) | (refine s_v hA ?_; clear hA; (try clear w); intro v w hA hone hnil) | (refine s_b hA ?_; clear hA; (try clear w); intro b w hA) | refine sp (fun h => ?_) (fun h => ?_) | (refine wc_regionS 9 rfl ?_; refine wc_region ?_))
  refine wc_loopn (fun k l w => ∃ (i : Nat) (n : Int), (∃ jk : Nat → Value, l = [jk 0, .pointer (some ⟨b, 0, none⟩), vi 0, vi n, vi (i : Int), jk 5, jk 6, jk 7, jk 8, jk 9, jk 10, jk 11, jk 12, jk 13, jk 14, jk 15, jk 16, jk 17, jk 18, jk 19, jk 20, jk 21, jk 22, jk 23, jk 24, jk 25, jk 26, jk 27, jk 28, jk 29, jk 30, jk 31, jk 32, jk 33, jk 34, jk 35, jk 36, jk 37, jk 38, jk 39, jk 40, jk 41, jk 42, jk 43, jk 44, jk 45, jk 46, jk 47, jk 48, jk 49, jk 50, jk 51, jk 52, jk 53, jk 54, jk 55, jk 56, jk 57, jk 58, jk 59, jk 60, jk 61, jk 62, jk 63, jk 64, jk 65, jk 66, jk 67, jk 68, jk 69, jk 70, jk 71, jk 72, jk 73, jk 74, jk 75, jk 76, jk 77, jk 78, jk 79, jk 80, jk 81, jk 82, jk 83, jk 84, jk 85, jk 86, jk 87, jk 88, jk 89, jk 90, jk 91, jk 92, jk 93, jk 94, jk 95, jk 96, jk 97, jk 98, jk 99, jk 100, jk 101, jk 102, jk 103, jk 104]) ∧ i + k = 16 ∧ n = 70 + ((if m.kind.toNat = 0 then sumN predN (m.preds.toList.take i) else 0 : Nat) : Int) ∧ n ≤ 1000 ∧ Sat E1 L w) 16 ⟨0, 70, (ex_getD rfl), by omega, by split <;> rfl, by omega, hA⟩ ?_
  clear hA
  rintro k l w ⟨i, n, ⟨jk, rfl⟩, hi, hnn, hn0, hA⟩
  have hn2 : 70 ≤ n := by omega
  repeat' (first | refine st ?_ | refine sr ?_ | refine sl hA ?_ | (refine s_w hA ?_; clear hA; (try clear w); intro w hA) | (refine s_v hA ?_; clear hA; (try clear w); intro v w hA hone hnil) | (refine s_b hA ?_; clear hA; (try clear w); intro b w hA) | refine sp (fun h => ?_) (fun h => ?_) | (refine wc_regionS 9 rfl ?_; refine wc_region ?_))
  refine wc_region ?_
  refine rv hA ?_; clear hA; intro w hA
  refine rv hA ?_; clear hA; intro w hA
  refine rv hA ?_; clear hA; intro w hA
  refine rt hA ?_; clear hA; intro w hA
  first | refine' rl_T rfl hA ?o9_4 ?k9_4 | refine' rl_Tn rfl hA ?o9_4 ?k9_4
  case o9_4 => intro hg w hA; first | (refine t_load_env rfl opr hA c0 ?_; exact ⟨pe, hA⟩) | (refine oqg ?_; exact ⟨pe, hA⟩)
  clear hA; intro w hA; refine rn ?_
  refine rt hA ?_; clear hA; intro w hA
  refine rv hA ?_; clear hA; intro w hA
  refine rl_nil ?_
  refine tq_normal ?_
  by_cases hlt : i < 16 ∧ m.kind.toNat = 0
  · obtain ⟨hlt, k0⟩ := hlt
    obtain ⟨p, hp⟩ : ∃ p, m.preds.toList[i]? = some p := ⟨_, List.getElem?_eq_getElem (by omega)⟩
    obtain ⟨cs, hcsl, rfl, hg⟩ := hprs.get hp
    have px : E1.cell? ⟨b, 3 + (i : Int).toNat * 1, none⟩ = some (u8 p) := by rw [Int.toNat_natCast]; exact hg 0 _ rfl
    have hst := sumN_take predN m.preds.toList i p hp
    have hmo := sumN_mono predN m.preds.toList (i + 1)
    rw [if_pos k0] at hnn
    refine wc_true (by show Value.bool (_ && _) = _; rw [decide_eq_true (by omega), decide_eq_true (by omega)]; rfl) ?_
    by_cases hp0 : p.toNat = 0
    · have ep : predN p = 1 := by unfold predN; rw [if_pos hp0]
      repeat' (first | (refine g_ow ?_; refine t_indexAddrA rfl rfl (by omega) ?_; refine rn ?_) | (refine g_ow ?_; refine t_load_env rfl rfl hA px ?_; refine rn ?_) | refine st ?_ | refine sr ?_ | refine sl hA ?_ | (refine s_w hA ?_; clear hA; (try clear w); intro w hA) | (refine s_v hA ?_; clear hA; (try clear w); intro v w hA hone hnil) | (refine s_b hA ?_; clear hA; (try clear w); intro b w hA) | refine sp (fun h => ?_) (fun h => ?_) | (refine wc_region ?_))
      exact lq_next (k - 1) (by omega) ⟨i + 1, _, (ex_getD rfl), by omega, by rw [if_pos k0]; omega, by omega, hA⟩
    · have ep : predN p = 4 := by unfold predN; rw [if_neg hp0]
      repeat' (first | (refine g_ow ?_; refine t_indexAddrA rfl rfl (by omega) ?_; refine rn ?_) | (refine g_ow ?_; refine t_load_env rfl rfl hA px ?_; refine rn ?_) | refine st ?_ | refine sr ?_ | refine sl hA ?_ | (refine s_w hA ?_; clear hA; (try clear w); intro w hA) | (refine s_v hA ?_; clear hA; (try clear w); intro v w hA hone hnil) | (refine s_b hA ?_; clear hA; (try clear w); intro b w hA) | refine sp (fun h => ?_) (fun h => ?_) | (refine wc_region ?_))
      exact lq_next (k - 1) (by omega) ⟨i + 1, _, (ex_getD rfl), by omega, by rw [if_pos k0]; omega, by omega, hA⟩
  refine wc_false (by show Value.bool (_ && _) = _; rw [← Bool.decide_and, decide_eq_false (by omega)]) ?_
  have hnn : n = 70 + ((if m.kind.toNat = 0 then sumN predN m.preds.toList else 0 : Nat) : Int) := by
    rw [hnn]
    by_cases k0 : m.kind.toNat = 0
    · rw [if_pos k0, if_pos k0, List.take_of_length_le (by omega)]
    · rw [if_neg k0, if_neg k0]
  repeat' (first | refine st ?_ | refine sr ?_ | refine sl hA ?_ | (refine s_w hA ?_; clear hA; (try clear w); intro w hA) | (refine s_v hA ?_; clear hA; (try clear w); intro v w hA hone hnil) | (refine s_b hA ?_; clear hA; (try clear w); intro b w hA) | refine sp (fun h => ?_) (fun h => ?_) | (refine wc_regionS 14 rfl ?_; refine wc_region ?_))
  refine wc_region ?_
  refine rv hA ?_; clear hA; intro w hA
  refine' rl_v hA ?o14_1 ?k14_1
  case o14_1 => intro w hA; first | (refine t_load_env rfl rfl hA c0 ?_; exact ⟨pe, hA⟩) | (refine oq ?_; exact ⟨pe, hA⟩)
  clear hA; intro w hA; refine rn ?_
  refine rv hA ?_; clear hA; intro w hA
  refine rv hA ?_; clear hA; intro w hA
  refine rf hA ?_; clear hA; intro w hA
  first | refine' rl_F rfl hA ?o14_5 ?k14_5 | refine' rl_Fn rfl hA ?o14_5 ?k14_5
  case o14_5 => intro hg w hA; first | (refine t_load_env rfl opr hA c0 ?_; exact ⟨pe, hA⟩) | (refine oqg ?_; exact ⟨pe, hA⟩)
  clear hA; intro w hA; refine rn ?_
  refine rf hA ?_; clear hA; intro w hA
  refine rv hA ?_; clear hA; intro w hA
  refine rl_nil ?_
  refine tq_normal ?_
  generalize hq0 : n = p0 at hnn
  refine wc_mid (fun l w => ∃ n : Int, (∃ jk : Nat → Value, l = [jk 0, .pointer (some ⟨b, 0, none⟩), vi 0, vi n, jk 4, jk 5, jk 6, jk 7, jk 8, jk 9, jk 10, jk 11, jk 12, jk 13, jk 14, jk 15, jk 16, jk 17, jk 18, jk 19, jk 20, jk 21, jk 22, jk 23, jk 24, jk 25, jk 26, jk 27, jk 28, jk 29, jk 30, jk 31, jk 32, jk 33, jk 34, jk 35, jk 36, jk 37, jk 38, jk 39, jk 40, jk 41, jk 42, jk 43, jk 44, jk 45, jk 46, jk 47, jk 48, jk 49, jk 50, jk 51, jk 52, jk 53, jk 54, jk 55, jk 56, jk 57, jk 58, jk 59, jk 60, jk 61, jk 62, jk 63, jk 64, jk 65, jk 66, jk 67, jk 68, jk 69, jk 70, jk 71, jk 72, jk 73, jk 74, jk 75, jk 76, jk 77, jk 78, jk 79, jk 80, jk 81, jk 82, jk 83, jk 84, jk 85, jk 86, jk 87, jk 88, jk 89, jk 90, jk 91, jk 92, jk 93, jk 94, jk 95, jk 96, jk 97, jk 98, jk 99, jk 100, jk 101, jk 102, jk 103, jk 104]) ∧ n = p0 + ((if m.kind.toNat ≤ 1 then 3 else 0 : Nat) : Int) ∧ 70 ≤ n ∧ n ≤ 2000 ∧ Sat E1 L w) ?_ ?_
  · by_cases k0 : m.kind.toNat ≤ 1
    · rw [if_pos k0]
      refine wc_true (by show Value.bool (_ || _) = _; rw [← Bool.decide_or, decide_eq_true (by omega)]) ?_
      repeat' (first | refine st ?_ | refine sr ?_ | refine sl hA ?_ | (refine s_w hA ?_; clear hA; (try clear w); intro w hA) | (refine s_v hA ?_; clear hA; (try clear w); intro v w hA hone hnil) | (refine s_b hA ?_; clear hA; (try clear w); intro b w hA) | refine sp (fun h => ?_) (fun h => ?_) | (refine wc_region ?_))
      exact mq_normal ⟨_, (ex_getD rfl), by omega, by omega, by omega, hA⟩
    · rw [if_neg k0]
      refine wc_false (by show Value.bool (_ || _) = _; rw [← Bool.decide_or, decide_eq_false (by omega)]) ?_
      repeat' (first | refine st ?_ | refine sr ?_ | refine sl hA ?_ | (refine s_w hA ?_; clear hA; (try clear w); intro w hA) | (refine s_v hA ?_; clear hA; (try clear w); intro v w hA hone hnil) | (refine s_b hA ?_; clear hA; (try clear w); intro b w hA) | refine sp (fun h => ?_) (fun h => ?_) | (refine wc_region ?_))
      exact mq_normal ⟨_, (ex_getD rfl), by omega, by omega, by omega, hA⟩
  clear hA hn0 hn2 hq0
  rintro l w ⟨n, ⟨jk, rfl⟩, hp, hp0, hple, hA⟩
  rw [hnn] at hp
  clear hnn
  repeat' (first | refine st ?_ | refine sr ?_ | refine sl hA ?_ | (refine s_w hA ?_; clear hA; (try clear w); intro w hA) | (refine s_v hA ?_; clear hA; (try clear w); intro v w hA hone hnil) | (refine s_b hA ?_; clear hA; (try clear w); intro b w hA) | refine sp (fun h => ?_) (fun h => ?_) | (refine wc_regionS 16 rfl ?_; refine wc_region ?_))
  refine wc_region ?_
  refine rv hA ?_; clear hA; intro w hA
  refine' rl_v hA ?o16_1 ?k16_1
  case o16_1 => intro w hA; first | (refine t_load_env rfl rfl hA c0 ?_; exact ⟨pe, hA⟩) | (refine oq ?_; exact ⟨pe, hA⟩)
  clear hA; intro w hA; refine rn ?_
  refine rv hA ?_; clear hA; intro w hA
  refine rl_nil ?_
  refine tq_normal ?_
  have hp' := hp
  generalize hq0 : n = p1 at hp'
  refine wc_mid (fun l w => ∃ n : Int, (∃ jk : Nat → Value, l = [jk 0, .pointer (some ⟨b, 0, none⟩), vi 0, vi n, jk 4, jk 5, jk 6, jk 7, jk 8, jk 9, jk 10, jk 11, jk 12, jk 13, jk 14, jk 15, jk 16, jk 17, jk 18, jk 19, jk 20, jk 21, jk 22, jk 23, jk 24, jk 25, jk 26, jk 27, jk 28, jk 29, jk 30, jk 31, jk 32, jk 33, jk 34, jk 35, jk 36, jk 37, jk 38, jk 39, jk 40, jk 41, jk 42, jk 43, jk 44, jk 45, jk 46, jk 47, jk 48, jk 49, jk 50, jk 51, jk 52, jk 53, jk 54, jk 55, jk 56, jk 57, jk 58, jk 59, jk 60, jk 61, jk 62, jk 63, jk 64, jk 65, jk 66, jk 67, jk 68, jk 69, jk 70, jk 71, jk 72, jk 73, jk 74, jk 75, jk 76, jk 77, jk 78, jk 79, jk 80, jk 81, jk 82, jk 83, jk 84, jk 85, jk 86, jk 87, jk 88, jk 89, jk 90, jk 91, jk 92, jk 93, jk 94, jk 95, jk 96, jk 97, jk 98, jk 99, jk 100, jk 101, jk 102, jk 103, jk 104]) ∧ n = p1 + ((if m.kind.toNat = 6 then 12 else 0 : Nat) : Int) ∧ 70 ≤ n ∧ n ≤ 3000 ∧ Sat E1 L w) ?_ ?_
  · by_cases k0 : m.kind.toNat = 6
    · rw [if_pos k0]
      repeat' (first | refine st ?_ | refine sr ?_ | refine sl hA ?_ | (refine s_w hA ?_; clear hA; (try clear w); intro w hA) | (refine s_v hA ?_; clear hA; (try clear w); intro v w hA hone hnil) | (refine s_b hA ?_; clear hA; (try clear w); intro b w hA) | refine sp (fun h => ?_) (fun h => ?_) | (refine wc_region ?_))
      exact mq_normal ⟨_, (ex_getD rfl), by omega, by omega, by omega, hA⟩
    · rw [if_neg k0]
      repeat' (first | refine st ?_ | refine sr ?_ | refine sl hA ?_ | (refine s_w hA ?_; clear hA; (try clear w); intro w hA) | (refine s_v hA ?_; clear hA; (try clear w); intro v w hA hone hnil) | (refine s_b hA ?_; clear hA; (try clear w); intro b w hA) | refine sp (fun h => ?_) (fun h => ?_) | (refine wc_region ?_))
      exact mq_normal ⟨_, (ex_getD rfl), by omega, by omega, by omega, hA⟩
  clear hA hp hple hp0 hq0
  rintro l w ⟨n, ⟨jk, rfl⟩, hp, hp0, hple, hA⟩
  rw [hp'] at hp
  clear hp'
  generalize hP : (70 + ((if m.kind.toNat = 0 then sumN predN m.preds.toList else 0 : Nat) : Int) + ((if m.kind.toNat ≤ 1 then 3 else 0 : Nat) : Int) + ((if m.kind.toNat = 6 then 12 else 0 : Nat) : Int)) = P at hp
  have hP0 : 0 ≤ P ∧ P ≤ 3000 := by omega
  repeat' (first | refine st ?_ | refine sr ?_ | refine sl hA ?_ | (refine s_w hA ?_; clear hA; (try clear w); intro w hA) | (refine s_v hA ?_; clear hA; (try clear w); intro v w hA hone hnil) | (refine s_b hA ?_; clear hA; (try clear w); intro b w hA) | refine sp (fun h => ?_) (fun h => ?_) | (refine wc_region ?_))
  refine wc_loopn (fun k l w => ∃ (i : Nat) (n : Int), (∃ jk : Nat → Value, l = [jk 0, .pointer (some ⟨b, 0, none⟩), vi 0, vi n, jk 4, vi (i : Int), jk 6, jk 7, jk 8, jk 9, jk 10, jk 11, jk 12, jk 13, jk 14, jk 15, jk 16, jk 17, jk 18, jk 19, jk 20, jk 21, jk 22, jk 23, jk 24, jk 25, jk 26, jk 27, jk 28, jk 29, jk 30, jk 31, jk 32, jk 33, jk 34, jk 35, jk 36, jk 37, jk 38, jk 39, jk 40, jk 41, jk 42, jk 43, jk 44, jk 45, jk 46, jk 47, jk 48, jk 49, jk 50, jk 51, jk 52, jk 53, jk 54, jk 55, jk 56, jk 57, jk 58, jk 59, jk 60, jk 61, jk 62, jk 63, jk 64, jk 65, jk 66, jk 67, jk 68, jk 69, jk 70, jk 71, jk 72, jk 73, jk 74, jk 75, jk 76, jk 77, jk 78, jk 79, jk 80, jk 81, jk 82, jk 83, jk 84, jk 85, jk 86, jk 87, jk 88, jk 89, jk 90, jk 91, jk 92, jk 93, jk 94, jk 95, jk 96, jk 97, jk 98, jk 99, jk 100, jk 101, jk 102, jk 103, jk 104]) ∧ i + k = m.refs.length ∧ n = P + ((sumN refN (m.refs.take i) : Nat) : Int) ∧ Sat E1 L w) m.refs.length ⟨0, n, (ex_getD rfl), by omega, by rw [hp]; show P = P + 0; omega, hA⟩ ?_
  clear hA hp hp0 hple
  rintro k l w ⟨i, n, ⟨jk, rfl⟩, hi, hp, hA⟩
  have hmo := sumN_mono refN m.refs i
  by_cases hlt : i < m.refs.length
  · obtain ⟨x, hxi⟩ : ∃ x, m.refs[i]? = some x := ⟨_, List.getElem?_eq_getElem (by omega)⟩
    have hxs := hs.refs x (List.mem_of_getElem? hxi)
    obtain ⟨cs, hcsl, ⟨rfl, h64⟩, hg⟩ := hm1.refs.get hxi
    have hx0 : E1.cell? ⟨sB r, sO r + (i : Int).toNat * 1, none⟩ = some (vi x) := hg 0 _ rfl
    have hst := sumN_take refN m.refs i x hxi
    have er : ((refN x : Nat) : Int) = 1 + x := by unfold refN; omega
    repeat' (first | (refine g_ow ?_; refine t_load_env rfl rfl hA c5 ?_; refine rn ?_) | (refine g_ow ?_; refine t_load_env rfl rfl hA hx0 ?_; refine rn ?_) | (refine g_ow ?_; refine t_indexAddrS rfl hs1 rfl (by omega) ?_; refine rn ?_) | (refine g_call ?_; refine t_lenS rfl hs1 ?_; refine rn ?_) | refine st ?_ | refine sr ?_ | refine sl hA ?_ | (refine s_w hA ?_; clear hA; (try clear w); intro w hA) | (refine s_v hA ?_; clear hA; (try clear w); intro v w hA hone hnil) | (refine s_b hA ?_; clear hA; (try clear w); intro b w hA) | refine sp (fun h => ?_) (fun h => ?_) | (refine wc_region ?_))
    exact lq_next (k - 1) (by omega) ⟨i + 1, _, (ex_getD rfl), by omega, by omega, hA⟩
  have ei : i = m.refs.length := by omega
  rw [ei, List.take_length] at hp
  clear hmo
  repeat' (first | (refine g_ow ?_; refine t_load_env rfl rfl hA c5 ?_; refine rn ?_) | (refine g_call ?_; refine t_lenS rfl hs1 ?_; refine rn ?_) | refine st ?_ | refine sr ?_ | refine sl hA ?_ | (refine s_w hA ?_; clear hA; (try clear w); intro w hA) | (refine s_v hA ?_; clear hA; (try clear w); intro v w hA hone hnil) | (refine s_b hA ?_; clear hA; (try clear w); intro b w hA) | refine sp (fun h => ?_) (fun h => ?_) | (refine wc_region ?_))
  generalize hP1 : P + ((sumN refN m.refs : Nat) : Int) = P1 at hp
  refine wc_loopn (fun k l w => ∃ (i : Nat) (n : Int), (∃ jk : Nat → Value, l = [jk 0, .pointer (some ⟨b, 0, none⟩), vi 0, vi n, jk 4, jk 5, vi (i : Int), jk 7, jk 8, jk 9, jk 10, jk 11, jk 12, jk 13, jk 14, jk 15, jk 16, jk 17, jk 18, jk 19, jk 20, jk 21, jk 22, jk 23, jk 24, jk 25, jk 26, jk 27, jk 28, jk 29, jk 30, jk 31, jk 32, jk 33, jk 34, jk 35, jk 36, jk 37, jk 38, jk 39, jk 40, jk 41, jk 42, jk 43, jk 44, jk 45, jk 46, jk 47, jk 48, jk 49, jk 50, jk 51, jk 52, jk 53, jk 54, jk 55, jk 56, jk 57, jk 58, jk 59, jk 60, jk 61, jk 62, jk 63, jk 64, jk 65, jk 66, jk 67, jk 68, jk 69, jk 70, jk 71, jk 72, jk 73, jk 74, jk 75, jk 76, jk 77, jk 78, jk 79, jk 80, jk 81, jk 82, jk 83, jk 84, jk 85, jk 86, jk 87, jk 88, jk 89, jk 90, jk 91, jk 92, jk 93, jk 94, jk 95, jk 96, jk 97, jk 98, jk 99, jk 100, jk 101, jk 102, jk 103, jk 104]) ∧ i + k = m.mvds.length ∧ n = P1 + ((sumN vecN (m.mvds.take i) : Nat) : Int) ∧ Sat E1 L w) m.mvds.length ⟨0, n, (ex_getD rfl), by omega, by rw [hp]; show P1 = P1 + 0; omega, hA⟩ ?_
  clear hA hp hlt hi ei
  rintro k l w ⟨i, n, ⟨jk, rfl⟩, hi, hp, hA⟩
  have hmo := sumN_mono vecN m.mvds i
  by_cases hlt : i < m.mvds.length
  · obtain ⟨x, hxi⟩ : ∃ x, m.mvds[i]? = some x := ⟨_, List.getElem?_eq_getElem (by omega)⟩
    have hxs := hs.mvds x (List.mem_of_getElem? hxi)
    have q1 := compN_le x.x (by omega)
    have q2 := compN_le x.y (by omega)
    obtain ⟨cs, hcsl, ⟨rfl, h64⟩, hg⟩ := hm1.mvds.get hxi
    have hx0 : E1.cell? ⟨sB v, sO v + (i : Int).toNat * 2, none⟩ = some (vi x.x) := hg 0 _ rfl
    have hx1 : E1.cell? ⟨sB v, sO v + (i : Int).toNat * 2 + 1, none⟩ = some (vi x.y) := hg 1 _ rfl
    have hst := sumN_take vecN m.mvds i x hxi
    have er : vecN x = compN x.x + compN x.y := rfl
    repeat' (first | (refine g_ow ?_; refine t_load_env rfl rfl hA c6 ?_; refine rn ?_) | (refine g_call ?_; refine t_lenS rfl hs2 ?_; refine rn ?_) | refine st ?_ | refine sr ?_ | refine sl hA ?_ | (refine s_w hA ?_; clear hA; (try clear w); intro w hA) | (refine s_v hA ?_; clear hA; (try clear w); intro v w hA hone hnil) | (refine s_b hA ?_; clear hA; (try clear w); intro b w hA) | refine sp (fun h => ?_) (fun h => ?_) | (refine wc_regionS 25 rfl ?_; refine wc_region ?_))
    refine' wc_vals 17 [72, 73, 74, 75, 76, 77, 78, 79, 80, 81, 82, 83, 84, 85, 86, 87, 88] [_, _, _, _, _, _, _, _, _, _, _, _, _, _, _, _, _] rfl (by kernel_rfl) (by kernel_rfl) (by kernel_rfl) hA ?ops25 ?k25
    case ops25 =>
      refine' VOps.c0 rfl [] (by decide) [] (by decide) rfl ?o25_0 ?r25_0
      case o25_0 => intro E' Lx w lf hE hl hA; replace hl := hz hl; subst hl; first | (refine oq ?_; exact ⟨pe, hA⟩)
      refine' VOps.c0 rfl [] (by decide) [] (by decide) rfl ?o25_1 ?r25_1
      case o25_1 => intro E' Lx w lf hE hl hA; replace hl := hz hl; subst hl; first | (refine oq ?_; exact ⟨pe, hA⟩)
      refine' VOps.c0 rfl [1] (by decide) [73] (by decide) rfl ?o25_2 ?r25_2
      case o25_2 => intro E' Lx w lf hE hl hA; replace hl := hz hl; subst hl; first | (refine t_load_env rfl rfl hA (hE.cell c6) ?_; exact ⟨pe, hA⟩) | (refine t_load_env rfl rfl hA (hE.cell hx0) ?_; exact ⟨pe, hA⟩) | (refine t_load_env rfl rfl hA (hE.cell hx1) ?_; exact ⟨pe, hA⟩) | (refine oq ?_; exact ⟨pe, hA⟩)
      refine' VOps.c0 rfl [] (by decide) [] (by decide) rfl ?o25_3 ?r25_3
      case o25_3 => intro E' Lx w lf hE hl hA; replace hl := hz hl; subst hl; first | (refine oq ?_; exact ⟨pe, hA⟩)
      refine' VOps.c0 rfl [2, 3] (by decide) [74, 75] (by decide) rfl ?o25_4 ?r25_4
      case o25_4 => intro E' Lx w lf hE hl hA; replace hl := hz hl; subst hl; first | (refine t_indexAddrS rfl (hs2.mono hE) rfl (by omega) ?_; exact ⟨pe, hA⟩) | (refine oq ?_; exact ⟨pe, hA⟩) | (refine t_indexAddrS rfl rfl (by omega) ?_; exact ⟨pe, hA⟩)
      refine' VOps.c0 rfl [4] (by decide) [76] (by decide) rfl ?o25_5 ?r25_5
      case o25_5 => intro E' Lx w lf hE hl hA; replace hl := hz hl; subst hl; first | (refine oq ?_; exact ⟨pe, hA⟩)
      refine' VOps.c0 rfl [5] (by decide) [77] (by decide) rfl ?o25_6 ?r25_6
      case o25_6 => intro E' Lx w lf hE hl hA; replace hl := hz hl; subst hl; first | (refine t_load_env rfl rfl hA (hE.cell c6) ?_; exact ⟨pe, hA⟩) | (refine t_load_env rfl rfl hA (hE.cell hx0) ?_; exact ⟨pe, hA⟩) | (refine t_load_env rfl rfl hA (hE.cell hx1) ?_; exact ⟨pe, hA⟩) | (refine oq ?_; exact ⟨pe, hA⟩)
      refine' VOps.c0 rfl [6] (by decide) [78] (by decide) rfl ?o25_7 ?r25_7
      case o25_7 => intro E' Lx w lf hE hl hA; replace hl := hz hl; subst hl; first | (refine ow_call Tryd.call48 rfl ((rcomp_calls _ _ _ x.x (by omega) hA).mono ?_); clear hA; rintro e w ⟨rfl, hA⟩; refine ⟨_, rfl, ?_⟩; exact ⟨put_eq (by rfl), hA⟩)
      refine' VOps.c0 rfl [] (by decide) [] (by decide) rfl ?o25_8 ?r25_8
      case o25_8 => intro E' Lx w lf hE hl hA; replace hl := hz hl; subst hl; first | (refine oq ?_; exact ⟨pe, hA⟩)
      refine' VOps.c0 rfl [8] (by decide) [80] (by decide) rfl ?o25_9 ?r25_9
      case o25_9 => intro E' Lx w lf hE hl hA; replace hl := hz hl; subst hl; first | (refine t_load_env rfl rfl hA (hE.cell c6) ?_; exact ⟨pe, hA⟩) | (refine t_load_env rfl rfl hA (hE.cell hx0) ?_; exact ⟨pe, hA⟩) | (refine t_load_env rfl rfl hA (hE.cell hx1) ?_; exact ⟨pe, hA⟩) | (refine oq ?_; exact ⟨pe, hA⟩)
      refine' VOps.c0 rfl [] (by decide) [] (by decide) rfl ?o25_10 ?r25_10
      case o25_10 => intro E' Lx w lf hE hl hA; replace hl := hz hl; subst hl; first | (refine oq ?_; exact ⟨pe, hA⟩)
      refine' VOps.c0 rfl [9, 10] (by decide) [81, 82] (by decide) rfl ?o25_11 ?r25_11
      case o25_11 => intro E' Lx w lf hE hl hA; replace hl := hz hl; subst hl; first | (refine t_indexAddrS rfl (hs2.mono hE) rfl (by omega) ?_; exact ⟨pe, hA⟩) | (refine oq ?_; exact ⟨pe, hA⟩) | (refine t_indexAddrS rfl rfl (by omega) ?_; exact ⟨pe, hA⟩)
      refine' VOps.c0 rfl [11] (by decide) [83] (by decide) rfl ?o25_12 ?r25_12
      case o25_12 => intro E' Lx w lf hE hl hA; replace hl := hz hl; subst hl; first | (refine oq ?_; exact ⟨pe, hA⟩)
      refine' VOps.c0 rfl [12] (by decide) [84] (by decide) rfl ?o25_13 ?r25_13
      case o25_13 => intro E' Lx w lf hE hl hA; replace hl := hz hl; subst hl; first | (refine t_load_env rfl rfl hA (hE.cell c6) ?_; exact ⟨pe, hA⟩) | (refine t_load_env rfl rfl hA (hE.cell hx0) ?_; exact ⟨pe, hA⟩) | (refine t_load_env rfl rfl hA (hE.cell hx1) ?_; exact ⟨pe, hA⟩) | (refine oq ?_; exact ⟨pe, hA⟩)
      refine' VOps.c0 rfl [13, 7] (by decide) [85, 79] (by decide) rfl ?o25_14 ?r25_14
      case o25_14 => intro E' Lx w lf hE hl hA; replace hl := hz hl; subst hl; first | (refine ow_call Tryd.call48 rfl ((rcomp_calls _ _ _ x.y (by omega) hA).mono ?_); clear hA; rintro e w ⟨rfl, hA⟩; refine ⟨_, rfl, ?_⟩; exact ⟨put_eq (by rfl), hA⟩)
      refine' VOps.c0 rfl [7, 14] (by decide) [79, 86] (by decide) rfl ?o25_15 ?r25_15
      case o25_15 => intro E' Lx w lf hE hl hA; replace hl := hz hl; subst hl; first | (refine oq ?_; exact ⟨pe, hA⟩)
      refine' VOps.c0 rfl [0, 15] (by decide) [72, 87] (by decide) rfl ?o25_16 ?r25_16
      case o25_16 => intro E' Lx w lf hE hl hA; replace hl := hz hl; subst hl; first | (refine oq ?_; exact ⟨pe, hA⟩)
      exact TameOps.nil
    case' k25 => (try clear hA); intro w hA; refine rn ?_
    repeat' (first | refine st ?_ | refine sr ?_ | refine sl hA ?_ | (refine s_w hA ?_; clear hA; (try clear w); intro w hA) | (refine s_v hA ?_; clear hA; (try clear w); intro v w hA hone hnil) | (refine s_b hA ?_; clear hA; (try clear w); intro b w hA) | refine sp (fun h => ?_) (fun h => ?_) | (refine wc_region ?_))
    exact lq_next (k - 1) (by omega) ⟨i + 1, _, (ex_getD rfl), by omega, by omega, hA⟩
  have ei : i = m.mvds.length := by omega
  rw [ei, List.take_length] at hp
  clear hmo
  repeat' (first | (refine g_ow ?_; refine t_load_env rfl rfl hA c6 ?_; refine rn ?_) | (refine g_call ?_; refine t_lenS rfl hs2 ?_; refine rn ?_) | refine st ?_ | refine sr ?_ | refine sl hA ?_ | (refine s_w hA ?_; clear hA; (try clear w); intro w hA) | (refine s_v hA ?_; clear hA; (try clear w); intro v w hA hone hnil) | (refine s_b hA ?_; clear hA; (try clear w); intro b w hA) | refine sp (fun h => ?_) (fun h => ?_) | (refine wc_region ?_))
  generalize hP2 : P1 + ((sumN vecN m.mvds : Nat) : Int) = P2 at hp
  refine wc_loopn (fun k l w => ∃ (i : Nat) (n : Int), (∃ jk : Nat → Value, l = [jk 0, .pointer (some ⟨b, 0, none⟩), vi 0, vi n, jk 4, jk 5, jk 6, vi (i : Int), jk 8, jk 9, jk 10, jk 11, jk 12, jk 13, jk 14, jk 15, jk 16, jk 17, jk 18, jk 19, jk 20, jk 21, jk 22, jk 23, jk 24, jk 25, jk 26, jk 27, jk 28, jk 29, jk 30, jk 31, jk 32, jk 33, jk 34, jk 35, jk 36, jk 37, jk 38, jk 39, jk 40, jk 41, jk 42, jk 43, jk 44, jk 45, jk 46, jk 47, jk 48, jk 49, jk 50, jk 51, jk 52, jk 53, jk 54, jk 55, jk 56, jk 57, jk 58, jk 59, jk 60, jk 61, jk 62, jk 63, jk 64, jk 65, jk 66, jk 67, jk 68, jk 69, jk 70, jk 71, jk 72, jk 73, jk 74, jk 75, jk 76, jk 77, jk 78, jk 79, jk 80, jk 81, jk 82, jk 83, jk 84, jk 85, jk 86, jk 87, jk 88, jk 89, jk 90, jk 91, jk 92, jk 93, jk 94, jk 95, jk 96, jk 97, jk 98, jk 99, jk 100, jk 101, jk 102, jk 103, jk 104]) ∧ i + k = m.blocks.length ∧ n = P2 + ((sumN blockN (m.blocks.take i) : Nat) : Int) ∧ Sat E1 L w) m.blocks.length ⟨0, n, (ex_getD rfl), by omega, by rw [hp]; show P2 = P2 + 0; omega, hA⟩ ?_
  clear hA hp hlt hi ei
  rintro k l w ⟨i, n, ⟨jk, rfl⟩, hi, hp, hA⟩
  have hmo := sumN_mono blockN m.blocks i
  by_cases hlt : i < m.blocks.length
  · obtain ⟨x, hxi⟩ : ∃ x, m.blocks[i]? = some x := ⟨_, List.getElem?_eq_getElem (by omega)⟩
    have hxs := hs.blocks x (List.mem_of_getElem? hxi)
    have hble := hs.block x (List.mem_of_getElem? hxi)
    obtain ⟨cs, hcsl, ⟨q, rfl, hq⟩, hg⟩ := hm1.blocks.get hxi
    have hx0 : E1.cell? ⟨sB u, sO u + (i : Int).toNat * 1, none⟩ = some q := hg 0 _ rfl
    have oq := hq.one
    have hst := sumN_take blockN m.blocks i x hxi
    have hc := rblock_calls q x E1 L
    have hx9 : ∀ z ∈ x, z.natAbs ≤ 100000 := fun z hz => by have := hxs.2 z hz; omega
    repeat' (first | (refine g_ow ?_; refine t_load_env rfl rfl hA c9 ?_; refine rn ?_) | (refine g_ow ?_; refine t_load_env rfl rfl hA hx0 ?_; refine rn ?_) | (refine g_ow ?_; refine t_indexAddrS rfl hs3 rfl (by omega) ?_; refine rn ?_) | (refine g_call ?_; refine t_lenS rfl hs3 ?_; refine rn ?_) | (refine g_callf 49 ?_; refine ow_call Tryd.call49 rfl ((hc _ hA hq hx9 (by omega)).mono ?_); clear hA; (try clear w); rintro e w ⟨rfl, hA⟩; refine ⟨_, rfl, ?_⟩; refine rn ?_) | refine st ?_ | refine sr ?_ | refine sl hA ?_ | (refine s_w hA ?_; clear hA; (try clear w); intro w hA) | (refine s_v hA ?_; clear hA; (try clear w); intro v w hA hone hnil) | (refine s_b hA ?_; clear hA; (try clear w); intro b w hA) | refine sp (fun h => ?_) (fun h => ?_) | (refine wc_region ?_))
    exact lq_next (k - 1) (by omega) ⟨i + 1, _, (ex_getD rfl), by omega, by omega, hA⟩
  have ei : i = m.blocks.length := by omega
  rw [ei, List.take_length] at hp
  repeat' (first | (refine g_ow ?_; refine t_load_env rfl rfl hA c9 ?_; refine rn ?_) | (refine g_call ?_; refine t_lenS rfl hs3 ?_; refine rn ?_) | refine st ?_ | refine sr ?_ | refine sl hA ?_ | (refine s_w hA ?_; clear hA; (try clear w); intro w hA) | (refine s_v hA ?_; clear hA; (try clear w); intro v w hA hone hnil) | (refine s_b hA ?_; clear hA; (try clear w); intro b w hA) | refine sp (fun h => ?_) (fun h => ?_) | (refine wc_region ?_))
  exact ret1 (hA.le hE1) rfl (by show vi _ = vi _; congr 1; omega)
theorem rBits_calls (m : Mb) (r v u : Value) (E : Env) (L : List Item) (w : World) (hA : Sat E L w) (hm : MbL E m r v u) (hf : Fits m) (hfb : ∀ b ∈ m.blocks, b.length ≤ 1000000) :
    Calls Tryd.prog 22 ⟨[.agg ⟨mbC m r v u⟩]⟩ w (Ret E L (vi ((bitsV m : Nat) : Int))) := by
  have o1 := hm.refs.one
  have o2 := hm.mvds.one
  have o3 := hm.blocks.one
  have hle := binsV_le m
  unfold bitsV
  refine enter (fn := Tryd.f22) Tryd.func22 rfl 17 rfl [.agg ⟨mbC m r v u⟩, undef, undef, undef, undef, undef, undef, undef, undef, undef, undef, undef, undef, undef, undef, undef, undef] rfl ?_
  repeat' (first | (refine g_callf 20 ?_; refine ow_call Tryd.call20 rfl ((rBins_calls m r v u _ _ _ hA hm hf hfb).mono ?_); clear hA; (try clear w); rintro e w ⟨rfl, hA⟩; refine ⟨_, rfl, ?_⟩; refine rn ?_) | refine st ?_ | refine sr ?_ | refine sl hA ?_ | (refine s_w hA ?_; clear hA; (try clear w); intro w hA) | (refine s_v hA ?_; clear hA; (try clear w); intro v w hA hone hnil) | (refine s_b hA ?_; clear hA; (try clear w); intro b w hA) | refine sp (fun h => ?_) (fun h => ?_) | (refine wc_regionS 2 rfl ?_; refine wc_region ?_))
  refine wc_region ?_
  refine rv hA ?_; clear hA; intro w hA
  refine rv hA ?_; clear hA; intro w hA
  refine rv hA ?_; clear hA; intro w hA
  refine rt hA ?_; clear hA; intro w hA
  refine rt hA ?_; clear hA; intro w hA
  refine rt hA ?_; clear hA; intro w hA
  refine rv hA ?_; clear hA; intro w hA
  refine rl_nil ?_
  refine tq_normal ?_
  by_cases h : 0 < binsV m ∧ m.kind.toNat = 2
  · rw [if_pos h]
    refine wc_true (by show Value.bool (_ && _) = _; rw [decide_eq_true (by omega), decide_eq_true (by omega)]; rfl) ?_
    repeat' (first | refine st ?_ | refine sr ?_ | refine sl hA ?_ | (refine s_w hA ?_; clear hA; (try clear w); intro w hA) | (refine s_v hA ?_; clear hA; (try clear w); intro v w hA hone hnil) | (refine s_b hA ?_; clear hA; (try clear w); intro b w hA) | refine sp (fun h => ?_) (fun h => ?_) | (refine wc_region ?_))
    exact ret1 hA.tail rfl (by show vi _ = vi _; congr 1 <;> omega)
  · rw [if_neg h]
    refine wc_false (by show Value.bool (_ && _) = _; rw [← Bool.decide_and, decide_eq_false (by omega)]) ?_
    repeat' (first | refine st ?_ | refine sr ?_ | refine sl hA ?_ | (refine s_w hA ?_; clear hA; (try clear w); intro w hA) | (refine s_v hA ?_; clear hA; (try clear w); intro v w hA hone hnil) | (refine s_b hA ?_; clear hA; (try clear w); intro b w hA) | refine sp (fun h => ?_) (fun h => ?_) | (refine wc_region ?_))
    exact ret1 hA.tail rfl (by show vi _ = vi _; congr 1 <;> omega)
end Go.Proofs.YtomfoaaaeidpnaaDoor
