/-
  spindlelaw40.ScriptMbValid, walked.
-/
import Derived.Test.YtomfoaaaeidpnaaDoorS10
import Derived.Test.YtomfoaaaeidpnaaDoorS14
set_option linter.unusedVariables false
set_option linter.unusedSimpArgs false
namespace Go.Proofs.YtomfoaaaeidpnaaDoor
open Go Go.RowKit
attribute [local irreducible] WC RL OW bodyPostM ThenQ BlockQ LoopQ ScopeQ
theorem mbCheckS (m : Mb) (r v u : Value) (intra : Bool) (refs : Int) (c : Int) (E : Env) (L : List Item) (w : World) (hA : Sat E L w) (hm : MbL E m r v u) (hG : MbG E) (hc : checkE m intra refs = c) :
    Calls Tryd.prog 38 ⟨[.agg ⟨mbC m r v u⟩, .bool intra, vi refs]⟩ w (Ret E L (vi c)) :=
  (mbCheck_calls m r v u E L w intra refs hA hm hG).mono fun e w' h => by
    obtain ⟨E', rfl, hE, hA'⟩ := h
    rw [hc]
    exact ⟨rfl, hA'.le hE⟩
set_option maxRecDepth 16000 in
set_option maxHeartbeats 16000000 in
theorem scriptMbValid_calls (s : List UInt8) (intra : Bool) (rf : UInt8) (E : Env) (L : List Item) (w : World) (hA : Sat E L w) (hG : MbG E) :
    Calls Tryd.prog 12 ⟨[vs s, .bool intra, u8 rf]⟩ w (Ret E L (.bool true)) := by
  have hrf := rf.toNat_lt
  have hGS : SzG E := hG.sizes
  refine enter (fn := Tryd.f12) Tryd.func12 rfl 50 rfl [vs s, .bool intra, u8 rf, undef, undef, undef, undef, undef, undef, undef, undef, undef, undef, undef, undef, undef, undef, undef, undef, undef, undef, undef, undef, undef, undef, undef, undef, undef, undef, undef, undef, undef, undef, undef, undef, undef, undef, undef, undef, undef, undef, undef, undef, undef, undef, undef, undef, undef, undef, undef] rfl ?_
  by_cases h2000 : 2000 < s.length
  · repeat' (first | (refine g_callf 35 ?_; refine ow_call Tryd.call35 rfl ((known_calls _ _ _ hA hGS).mono ?_); clear hA; (try clear w); rintro e w ⟨rfl, hA⟩; refine ⟨_, rfl, ?_⟩; refine rn ?_) | refine st ?_ | (refine wc_region ?_) | (refine su ?_; refine rn ?_) | (refine g_conv ?_; refine p_c hA ?_; refine rn ?_) | (refine g_load ?_; (first | refine t_loadx rfl hA ?_ | refine t_loada rfl hA ?_); refine rn ?_) | (refine g_call ?_; refine t_appx rfl rfl hA rfl ?_; clear hA; (try clear w); intro v w hA hone hnil; refine h_n hA ?_; clear hA; intro hA; refine rn ?_) | (refine g_store ?_; (first | refine t_storex rfl rfl hA ?_ | refine t_storea rfl rfl hA ?_); clear hA; (try clear w); intro w hA; refine h_m hA ?_; clear hA; intro hA; refine rn ?_) | (refine g_ow ?_; (first | refine t_alloc hA ?_ | refine ow_box rfl rfl hA ?_ | refine t_buildSlice rfl (by decide) rfl hA ?_); clear hA; (try clear w); intro b w hA; refine h_n hA ?_; clear hA; intro hA; refine rn ?_) | (refine g_ow ?_; refine t_make rfl rfl (by omega) (by omega) hA ?_; clear hA; (try clear w); intro v w hA hone hnil; refine rn ?_) | refine wc_pp rfl (fun h => ?_) (fun h => ?_) | refine wc_nn rfl (fun h => ?_) (fun h => ?_) | refine rl_pp rfl (fun h => o_n ?_) (fun h => rn ?_) | refine rl_qq rfl (fun h => o_n ?_) (fun h => rn ?_) | refine rl_nn rfl (fun h => o_n ?_) (fun h => rn ?_) | refine rl_mm rfl (fun h => o_n ?_) (fun h => rn ?_))
    exact ret1 hA rfl rfl
  repeat' (first | (refine g_ow ?_; refine t_conv64 rfl (by omega) ?_; refine rn ?_) | (refine g_bin ?_; refine ow_remp rfl rfl (by omega) ?_; refine rn ?_) | refine st ?_ | (refine wc_regionS 4 rfl ?_; refine wc_region ?_) | (refine su ?_; refine rn ?_) | (refine g_conv ?_; refine p_c hA ?_; refine rn ?_) | (refine g_load ?_; (first | refine t_loadx rfl hA ?_ | refine t_loada rfl hA ?_); refine rn ?_) | (refine g_call ?_; refine t_appx rfl rfl hA rfl ?_; clear hA; (try clear w); intro v w hA hone hnil; refine h_n hA ?_; clear hA; intro hA; refine rn ?_) | (refine g_store ?_; (first | refine t_storex rfl rfl hA ?_ | refine t_storea rfl rfl hA ?_); clear hA; (try clear w); intro w hA; refine h_m hA ?_; clear hA; intro hA; refine rn ?_) | (refine g_ow ?_; (first | refine t_alloc hA ?_ | refine ow_box rfl rfl hA ?_ | refine t_buildSlice rfl (by decide) rfl hA ?_); clear hA; (try clear w); intro b w hA; refine h_n hA ?_; clear hA; intro hA; refine rn ?_) | (refine g_ow ?_; refine t_make rfl rfl (by omega) (by omega) hA ?_; clear hA; (try clear w); intro v w hA hone hnil; refine rn ?_) | refine wc_pp rfl (fun h => ?_) (fun h => ?_) | refine wc_nn rfl (fun h => ?_) (fun h => ?_) | refine rl_pp rfl (fun h => o_n ?_) (fun h => rn ?_) | refine rl_qq rfl (fun h => o_n ?_) (fun h => rn ?_) | refine rl_nn rfl (fun h => o_n ?_) (fun h => rn ?_) | refine rl_mm rfl (fun h => o_n ?_) (fun h => rn ?_))
  refine wc_region ?_
  refine' rl_v hA ?o4_0 ?k4_0
  case o4_0 => intro w hA; first | (refine ow_move_v rfl ?_; exact ⟨pe, hA⟩)
  case' k4_0 => clear hA; intro w hA; refine rn ?_
  refine rl_nil ?_
  refine tq_normal ?_
  refine wc_mid (fun l w => ∃ (n : Nat), (∃ jk : Nat → Value, l = [vs s, .bool intra, jk 2, jk 3, jk 4, jk 5, .bool false, vi n, jk 8, jk 9, jk 10, jk 11, jk 12, jk 13, jk 14, jk 15, jk 16, jk 17, jk 18, jk 19, jk 20, jk 21, jk 22, jk 23, jk 24, jk 25, jk 26, jk 27, jk 28, jk 29, jk 30, jk 31, jk 32, jk 33, jk 34, jk 35, jk 36, jk 37, jk 38, jk 39, jk 40, jk 41, jk 42, jk 43, jk 44, jk 45, jk 46, jk 47, jk 48, jk 49]) ∧ (intra = true ∧ n = 0 ∨ intra = false ∧ 1 ≤ n ∧ n ≤ 32) ∧ Sat E L w) ?_ ?_
  · cases intra with
    | true =>
      repeat' (first | refine st ?_ | (refine wc_region ?_) | (refine su ?_; refine rn ?_) | (refine g_conv ?_; refine p_c hA ?_; refine rn ?_) | (refine g_load ?_; (first | refine t_loadx rfl hA ?_ | refine t_loada rfl hA ?_); refine rn ?_) | (refine g_call ?_; refine t_appx rfl rfl hA rfl ?_; clear hA; (try clear w); intro v w hA hone hnil; refine h_n hA ?_; clear hA; intro hA; refine rn ?_) | (refine g_store ?_; (first | refine t_storex rfl rfl hA ?_ | refine t_storea rfl rfl hA ?_); clear hA; (try clear w); intro w hA; refine h_m hA ?_; clear hA; intro hA; refine rn ?_) | (refine g_ow ?_; (first | refine t_alloc hA ?_ | refine ow_box rfl rfl hA ?_ | refine t_buildSlice rfl (by decide) rfl hA ?_); clear hA; (try clear w); intro b w hA; refine h_n hA ?_; clear hA; intro hA; refine rn ?_) | (refine g_ow ?_; refine t_make rfl rfl (by omega) (by omega) hA ?_; clear hA; (try clear w); intro v w hA hone hnil; refine rn ?_) | refine wc_pp rfl (fun h => ?_) (fun h => ?_) | refine wc_nn rfl (fun h => ?_) (fun h => ?_) | refine rl_pp rfl (fun h => o_n ?_) (fun h => rn ?_) | refine rl_qq rfl (fun h => o_n ?_) (fun h => rn ?_) | refine rl_nn rfl (fun h => o_n ?_) (fun h => rn ?_) | refine rl_mm rfl (fun h => o_n ?_) (fun h => rn ?_))
      exact mq_normal ⟨0, (ex_getD rfl), .inl ⟨rfl, rfl⟩, hA⟩
    | false =>
      repeat' (first | refine st ?_ | (refine wc_region ?_) | (refine su ?_; refine rn ?_) | (refine g_conv ?_; refine p_c hA ?_; refine rn ?_) | (refine g_load ?_; (first | refine t_loadx rfl hA ?_ | refine t_loada rfl hA ?_); refine rn ?_) | (refine g_call ?_; refine t_appx rfl rfl hA rfl ?_; clear hA; (try clear w); intro v w hA hone hnil; refine h_n hA ?_; clear hA; intro hA; refine rn ?_) | (refine g_store ?_; (first | refine t_storex rfl rfl hA ?_ | refine t_storea rfl rfl hA ?_); clear hA; (try clear w); intro w hA; refine h_m hA ?_; clear hA; intro hA; refine rn ?_) | (refine g_ow ?_; (first | refine t_alloc hA ?_ | refine ow_box rfl rfl hA ?_ | refine t_buildSlice rfl (by decide) rfl hA ?_); clear hA; (try clear w); intro b w hA; refine h_n hA ?_; clear hA; intro hA; refine rn ?_) | (refine g_ow ?_; refine t_make rfl rfl (by omega) (by omega) hA ?_; clear hA; (try clear w); intro v w hA hone hnil; refine rn ?_) | refine wc_pp rfl (fun h => ?_) (fun h => ?_) | refine wc_nn rfl (fun h => ?_) (fun h => ?_) | refine rl_pp rfl (fun h => o_n ?_) (fun h => rn ?_) | refine rl_qq rfl (fun h => o_n ?_) (fun h => rn ?_) | refine rl_nn rfl (fun h => o_n ?_) (fun h => rn ?_) | refine rl_mm rfl (fun h => o_n ?_) (fun h => rn ?_))
      have en : (1 : Int) + (rf.toNat : Int) % 32 = ((1 + rf.toNat % 32 : Nat) : Int) := by omega
      rw [en]
      exact mq_normal ⟨1 + rf.toNat % 32, (ex_getD rfl), .inr ⟨rfl, by omega, by omega⟩, hA⟩
  clear hA
  rintro l w ⟨n, ⟨jk, rfl⟩, hv, hA⟩
  have hval := valid_mb intra n (strm s) 0 hv
  repeat' (first | (refine g_callf 36 ?_; refine ow_call Tryd.call36 rfl ((script_calls s intra n _ _ _ hv (by omega) hA hGS).mono ?_); clear hA; (try clear w); rintro e w ⟨E1, r, vv, u, rfl, hE1, hm, hA⟩; refine ⟨_, rfl, ?_⟩; (try have o1 := hm.refs.one; have o2 := hm.mvds.one; have o3 := hm.blocks.one); refine rn ?_) | refine st ?_ | (refine wc_regionS 7 rfl ?_; refine wc_region ?_) | (refine su ?_; refine rn ?_) | (refine g_conv ?_; refine p_c hA ?_; refine rn ?_) | (refine g_load ?_; (first | refine t_loadx rfl hA ?_ | refine t_loada rfl hA ?_); refine rn ?_) | (refine g_call ?_; refine t_appx rfl rfl hA rfl ?_; clear hA; (try clear w); intro v w hA hone hnil; refine h_n hA ?_; clear hA; intro hA; refine rn ?_) | (refine g_store ?_; (first | refine t_storex rfl rfl hA ?_ | refine t_storea rfl rfl hA ?_); clear hA; (try clear w); intro w hA; refine h_m hA ?_; clear hA; intro hA; refine rn ?_) | (refine g_ow ?_; (first | refine t_alloc hA ?_ | refine ow_box rfl rfl hA ?_ | refine t_buildSlice rfl (by decide) rfl hA ?_); clear hA; (try clear w); intro b w hA; refine h_n hA ?_; clear hA; intro hA; refine rn ?_) | (refine g_ow ?_; refine t_make rfl rfl (by omega) (by omega) hA ?_; clear hA; (try clear w); intro v w hA hone hnil; refine rn ?_) | refine wc_pp rfl (fun h => ?_) (fun h => ?_) | refine wc_nn rfl (fun h => ?_) (fun h => ?_) | refine rl_pp rfl (fun h => o_n ?_) (fun h => rn ?_) | refine rl_qq rfl (fun h => o_n ?_) (fun h => rn ?_) | refine rl_nn rfl (fun h => o_n ?_) (fun h => rn ?_) | refine rl_mm rfl (fun h => o_n ?_) (fun h => rn ?_))
  generalize hb1 : b = b1 at *
  clear hb1
  generalize hR : mbP intra n (strm s) 0 = R at *
  obtain ⟨m, K⟩ := R
  dsimp only at hm hA hval o1 o2 o3
  have hm := hm.mono (Env.sub_le _ _)
  have hG1 := hG.mono hE1
  have hGS1 : SzG E1 := hG1.sizes
  refine wc_region ?_
  refine' rl_v hA ?o7_0 ?k7_0
  case o7_0 => intro w hA; first | (refine ow_move_v rfl ?_; exact ⟨pe, hA⟩)
  case' k7_0 => clear hA; intro w hA; refine rn ?_
  refine' rl_v hA ?o7_1 ?k7_1
  case o7_1 => intro w hA; first | (refine ow_eql rfl rfl ?_; exact ⟨pe, hA⟩) | (refine ow_eqs rfl rfl ?_; exact ⟨pe, hA⟩) | (refine t_eqlb rfl rfl ?_; exact ⟨pe, hA⟩)
  case' k7_1 => clear hA; intro w hA; refine rn ?_
  refine' rl_v hA ?o7_2 ?k7_2
  case o7_2 => intro w hA; first | (refine ow_move_v rfl ?_; exact ⟨pe, hA⟩)
  case' k7_2 => clear hA; intro w hA; refine rn ?_
  first | refine' rl_T rfl hA ?o7_3 ?k7_3 | refine' rl_Tn rfl hA ?o7_3 ?k7_3
  case o7_3 => intro hg w hA; first | (refine ow_move_v opr ?_; exact ⟨pe, hA⟩)
  case' k7_3 => clear hA; intro w hA; refine rn ?_
  first | refine' rl_T rfl hA ?o7_4 ?k7_4 | refine' rl_Tn rfl hA ?o7_4 ?k7_4
  case o7_4 => intro hg w hA; first | (refine ow_geq opr opr ?_; exact ⟨pe, hA⟩)
  case' k7_4 => clear hA; intro w hA; refine rn ?_
  refine' rl_v hA ?o7_5 ?k7_5
  case o7_5 => intro w hA; first | (refine ow_and rfl (by first | rfl) rfl ?_; exact ⟨pe, hA⟩) | (refine ow_pick rfl rfl rfl ?_; exact ⟨pe, hA⟩)
  case' k7_5 => clear hA; intro w hA; refine rn ?_
  refine' rl_v hA ?o7_6 ?k7_6
  case o7_6 => intro w hA; first | (refine ow_move_v rfl ?_; exact ⟨pe, hA⟩)
  case' k7_6 => clear hA; intro w hA; refine rn ?_
  first | refine' rl_T rfl hA ?o7_7 ?k7_7 | refine' rl_Tn rfl hA ?o7_7 ?k7_7
  case o7_7 => intro hg w hA; first | (refine ow_move_v opr ?_; exact ⟨pe, hA⟩)
  case' k7_7 => clear hA; intro w hA; refine rn ?_
  first | refine' rl_T rfl hA ?o7_8 ?k7_8 | refine' rl_Tn rfl hA ?o7_8 ?k7_8
  case o7_8 => intro hg w hA; first | (refine ow_move_v opr ?_; exact ⟨pe, hA⟩)
  case' k7_8 => clear hA; intro w hA; refine rn ?_
  first | refine' rl_T rfl hA ?o7_9 ?k7_9 | refine' rl_Tn rfl hA ?o7_9 ?k7_9
  case o7_9 => intro hg w hA; first | (refine t_len_str opr ?_; exact ⟨pe, hA⟩) | (refine t_len_slice opr ?_; exact ⟨pe, hA⟩) | (refine t_lenS opr (by assumption) ?_; exact ⟨pe, hA⟩)
  case' k7_9 => clear hA; intro w hA; refine rn ?_
  first | refine' rl_T rfl hA ?o7_10 ?k7_10 | refine' rl_Tn rfl hA ?o7_10 ?k7_10
  case o7_10 => intro hg w hA; first | (refine ow_leq opr opr ?_; exact ⟨pe, hA⟩)
  case' k7_10 => clear hA; intro w hA; refine rn ?_
  refine' rl_v hA ?o7_11 ?k7_11
  case o7_11 => intro w hA; first | (refine ow_and rfl (by first | rfl) rfl ?_; exact ⟨pe, hA⟩) | (refine ow_pick rfl rfl rfl ?_; exact ⟨pe, hA⟩)
  case' k7_11 => clear hA; intro w hA; refine rn ?_
  refine' rl_v hA ?o7_12 ?k7_12
  case o7_12 => intro w hA; first | (refine ow_move_v rfl ?_; exact ⟨pe, hA⟩)
  case' k7_12 => clear hA; intro w hA; refine rn ?_
  first | refine' rl_T rfl hA ?o7_13 ?k7_13 | refine' rl_Tn rfl hA ?o7_13 ?k7_13
  case o7_13 => intro hg w hA; first | (refine t_loadx opr hA ?_; exact ⟨pe, hA⟩) | (refine t_loada opr hA ?_; exact ⟨pe, hA⟩)
  case' k7_13 => clear hA; intro w hA; refine rn ?_
  first | refine' rl_T rfl hA ?o7_14 ?k7_14 | refine' rl_Tn rfl hA ?o7_14 ?k7_14
  case o7_14 => intro hg w hA; first | (refine ow_move_v opr ?_; exact ⟨pe, hA⟩)
  case' k7_14 => clear hA; intro w hA; refine rn ?_
  first | refine' rl_T rfl hA ?o7_15 ?k7_15 | refine' rl_Tn rfl hA ?o7_15 ?k7_15
  case o7_15 => intro hg w hA; first | (refine ow_move_v opr ?_; exact ⟨pe, hA⟩)
  case' k7_15 => clear hA; intro w hA; refine rn ?_
  first | refine' rl_T rfl hA ?o7_16 ?k7_16 | refine' rl_Tn rfl hA ?o7_16 ?k7_16
  case o7_16 => intro hg w hA; first | (refine ow_call Tryd.call38 (evs3 opr opr opr) ((mbCheckS m r vv u intra (n : Int) 0 _ _ _ hA hm hG1 hval).mono ?_); clear hA; rintro e w ⟨rfl, hA⟩; refine ⟨_, rfl, ?_⟩; exact ⟨put_eq (by rfl), hA⟩)
  case' k7_16 => clear hA; intro w hA; refine rn ?_
  first | refine' rl_T rfl hA ?o7_17 ?k7_17 | refine' rl_Tn rfl hA ?o7_17 ?k7_17
  case o7_17 => intro hg w hA; first | (refine ow_eql opr opr ?_; exact ⟨pe, hA⟩) | (refine ow_eqs opr opr ?_; exact ⟨pe, hA⟩) | (refine t_eqlb opr opr ?_; exact ⟨pe, hA⟩)
  case' k7_17 => clear hA; intro w hA; refine rn ?_
  refine' rl_v hA ?o7_18 ?k7_18
  case o7_18 => intro w hA; first | (refine ow_and rfl (by first | rfl) rfl ?_; exact ⟨pe, hA⟩) | (refine ow_pick rfl rfl rfl ?_; exact ⟨pe, hA⟩)
  case' k7_18 => clear hA; intro w hA; refine rn ?_
  refine' rl_v hA ?o7_19 ?k7_19
  case o7_19 => intro w hA; first | (refine ow_move_v rfl ?_; exact ⟨pe, hA⟩)
  case' k7_19 => clear hA; intro w hA; refine rn ?_
  first | refine' rl_T rfl hA ?o7_20 ?k7_20 | refine' rl_Tn rfl hA ?o7_20 ?k7_20
  case o7_20 => intro hg w hA; first | (refine ow_call Tryd.call35 rfl ((known_calls _ _ _ hA hGS1).mono ?_); clear hA; rintro e w ⟨rfl, hA⟩; refine ⟨_, rfl, ?_⟩; exact ⟨put_eq (by rfl), hA⟩)
  case' k7_20 => clear hA; intro w hA; refine rn ?_
  refine' rl_v hA ?o7_21 ?k7_21
  case o7_21 => intro w hA; first | (refine ow_and rfl (by first | rfl) rfl ?_; exact ⟨pe, hA⟩) | (refine ow_pick rfl rfl rfl ?_; exact ⟨pe, hA⟩)
  case' k7_21 => clear hA; intro w hA; refine rn ?_
  refine' rl_v hA ?o7_22 ?k7_22
  case o7_22 => intro w hA; first | (refine ow_assign_v rfl ?_; exact ⟨pe, hA⟩)
  case' k7_22 => clear hA; intro w hA; refine rn ?_
  refine rl_nil ?_
  repeat' (first | refine st ?_ | (refine wc_region ?_) | (refine su ?_; refine rn ?_) | (refine g_conv ?_; refine p_c hA ?_; refine rn ?_) | (refine g_load ?_; (first | refine t_loadx rfl hA ?_ | refine t_loada rfl hA ?_); refine rn ?_) | (refine g_call ?_; refine t_appx rfl rfl hA rfl ?_; clear hA; (try clear w); intro v w hA hone hnil; refine h_n hA ?_; clear hA; intro hA; refine rn ?_) | (refine g_store ?_; (first | refine t_storex rfl rfl hA ?_ | refine t_storea rfl rfl hA ?_); clear hA; (try clear w); intro w hA; refine h_m hA ?_; clear hA; intro hA; refine rn ?_) | (refine g_ow ?_; (first | refine t_alloc hA ?_ | refine ow_box rfl rfl hA ?_ | refine t_buildSlice rfl (by decide) rfl hA ?_); clear hA; (try clear w); intro b w hA; refine h_n hA ?_; clear hA; intro hA; refine rn ?_) | (refine g_ow ?_; refine t_make rfl rfl (by omega) (by omega) hA ?_; clear hA; (try clear w); intro v w hA hone hnil; refine rn ?_) | refine wc_pp rfl (fun h => ?_) (fun h => ?_) | refine wc_nn rfl (fun h => ?_) (fun h => ?_) | refine rl_pp rfl (fun h => o_n ?_) (fun h => rn ?_) | refine rl_qq rfl (fun h => o_n ?_) (fun h => rn ?_) | refine rl_nn rfl (fun h => o_n ?_) (fun h => rn ?_) | refine rl_mm rfl (fun h => o_n ?_) (fun h => rn ?_))
  refine ret1 ((hA.le hE1).dropN 1) rfl ?_
  show Value.bool _ = Value.bool true
  simp
  omega
end Go.Proofs.YtomfoaaaeidpnaaDoor
