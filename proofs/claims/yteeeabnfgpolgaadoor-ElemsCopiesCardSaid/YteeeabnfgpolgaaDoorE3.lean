/-
  elems.equalHeader, equalNode, Equal, walked.
-/
import Derived.Test.YteeeabnfgpolgaaDoorE2
import Derived.Test.YteeeabnfgpolgaaDoorSlD
set_option linter.unusedVariables false
set_option linter.unusedSimpArgs false
namespace Go.Proofs.YteeeabnfgpolgaaDoor
open Go Go.RowKit
attribute [local irreducible] WC RL OW bodyPostM ThenQ BlockQ LoopQ
set_option maxRecDepth 20000 in
set_option maxHeartbeats 4000000 in
theorem eEqualHeader_calls (x y : Header) (m k m' k' : Value) (E : Env) (L : List Item) (w : World) (hA : Sat E L w) (hx : HeadL E x m k) (hy : HeadL E y m' k') :
    Calls Tryd.prog 99 ⟨[.agg ⟨headC x m k⟩, .agg ⟨headC y m' k'⟩]⟩ w (Ret E L (.bool (decide (x = y)))) := by
  refine enter (fn := Tryd.f99) Tryd.func99 rfl 140 rfl [.agg ⟨headC x m k⟩, .agg ⟨headC y m' k'⟩, undef, undef, undef, undef, undef, undef, undef, undef, undef, undef, undef, undef, undef, undef, undef, undef, undef, undef, undef, undef, undef, undef, undef, undef, undef, undef, undef, undef, undef, undef, undef, undef, undef, undef, undef, undef, undef, undef, undef, undef, undef, undef, undef, undef, undef, undef, undef, undef, undef, undef, undef, undef, undef, undef, undef, undef, undef, undef, undef, undef, undef, undef, undef, undef, undef, undef, undef, undef, undef, undef, undef, undef, undef, undef, undef, undef, undef, undef, undef, undef, undef, undef, undef, undef, undef, undef, undef, undef, undef, undef, undef, undef, undef, undef, undef, undef, undef, undef, undef, undef, undef, undef, undef, undef, undef, undef, undef, undef, undef, undef, undef, undef, undef, undef, undef, undef, undef, undef, undef, undef, undef, undef, undef, undef, undef, undef, undef, undef, undef, undef, undef, undef, undef, undef, undef, undef, undef, undef] rfl ?_
  repeat' (first | ((refine g_wc ?_; first | (refine wc_seq ?_) | (refine wc_regionS 1 rfl ?_; refine wc_region ?_) | (refine wc_block ?_) | (refine wc_true rfl ?_) | (refine wc_false rfl ?_) | (refine wc_pt rfl (by omega) ?_) | (refine wc_pf rfl (by omega) ?_) | (refine wc_nt rfl (by omega) ?_) | (refine wc_nf rfl (by omega) ?_) | (refine wc_pp rfl (fun h => ?_) (fun h => ?_)) | (refine wc_nn rfl (fun h => ?_) (fun h => ?_)) | (refine wc_skip ?_) | (refine wc_exit ?_) | (refine wc_ret ?_))) | (refine g_rl ?_; first | (first | (refine rl_op ?_) | (refine rl_nil ?_) | (refine rl_on rfl ?_) | (refine rl_pt rfl (by omega) ?_) | (refine rl_qt rfl (by omega) ?_) | (refine rl_nt rfl (by omega) ?_) | (refine rl_mt rfl (by omega) ?_)) | ((first | (refine rl_off rfl rfl ?_) | (refine rl_undef rfl ?_) | (refine rl_pf rfl (by omega) ?_) | (refine rl_qf rfl (by omega) ?_) | (refine rl_nf rfl (by omega) ?_) | (refine rl_mf rfl (by omega) ?_)); refine rn ?_) | (first | (refine rl_pp rfl (fun h => o_n ?_) (fun h => rn ?_)) | (refine rl_qq rfl (fun h => o_n ?_) (fun h => rn ?_)) | (refine rl_nn rfl (fun h => o_n ?_) (fun h => rn ?_)) | (refine rl_mm rfl (fun h => o_n ?_) (fun h => rn ?_)))) | ((refine g_bin ?_; refine p_b ?_); refine rn ?_) | (refine g_call ?_; first | ((first | (refine p_l ?_)); refine rn ?_) | ((first | (refine t_appx rfl rfl hA rfl ?_)); clear hA; (try clear w); intro v w hA hone hnil; refine h_n hA ?_; clear hA; intro hA; refine rn ?_)) | ((refine g_conv ?_; first | (refine p_c hA ?_)); refine rn ?_) | ((refine g_load ?_; first | (refine t_loadx rfl hA ?_) | (refine t_loada rfl hA ?_)); refine rn ?_) | (refine g_store ?_; first | ((first | (refine t_storex rfl rfl hA ?_)); clear hA; (try clear w); intro w hA; refine h_n hA ?_; clear hA; intro hA; refine rn ?_) | ((first | (refine t_storea rfl rfl hA ?_)); clear hA; (try clear w); intro w hA; (try simp only [List.drop_zero, List.drop_nil, List.drop_succ_cons, List.take_succ_cons, List.take_zero, List.length_cons, List.length_nil, Nat.zero_add, Nat.reduceAdd] at hA); refine h_n hA ?_; clear hA; intro hA; refine rn ?_)) | (refine g_ow ?_; first | ((first | (refine p_o ?_)); refine rn ?_) | ((first | (refine t_alloc hA ?_) | (refine ow_box rfl rfl hA ?_) | (refine t_buildSlice rfl (by decide) rfl hA ?_)); clear hA; (try clear w); intro b w hA; refine h_n hA ?_; clear hA; intro hA; refine rn ?_) | ((first | (refine t_make rfl rfl (by omega) (by omega) hA ?_)); clear hA; (try clear w); intro v w hA hone hnil; refine rn ?_)) | (refine tq_normal ?_) | (refine bq_normal ?_) | (refine bq_hit ?_) | (refine bq_miss (by decide) ?_) | (refine tq_exit ?_) | (refine lq_exit ?_) | (refine tq_ret ?_) | (refine bq_ret ?_) | (refine lq_ret ?_))
  refine wc_region ?_
  refine' rl_v hA ?o1_0 ?k1_0
  case o1_0 => intro w hA; first | (refine t_fieldAddr rfl ?_; exact ⟨pe, hA⟩)
  case' k1_0 => clear hA; intro w hA; refine rn ?_
  refine' rl_v hA ?o1_1 ?k1_1
  case o1_1 => intro w hA; first | (refine t_loadx rfl hA ?_; exact ⟨pe, hA⟩) | (refine t_loada rfl hA ?_; exact ⟨pe, hA⟩)
  case' k1_1 => clear hA; intro w hA; refine rn ?_
  refine' rl_v hA ?o1_2 ?k1_2
  case o1_2 => intro w hA; first | (refine t_fieldAddr rfl ?_; exact ⟨pe, hA⟩)
  case' k1_2 => clear hA; intro w hA; refine rn ?_
  refine' rl_v hA ?o1_3 ?k1_3
  case o1_3 => intro w hA; first | (refine t_loadx rfl hA ?_; exact ⟨pe, hA⟩) | (refine t_loada rfl hA ?_; exact ⟨pe, hA⟩)
  case' k1_3 => clear hA; intro w hA; refine rn ?_
  refine' rl_v hA ?o1_4 ?k1_4
  case o1_4 => intro w hA; first | (refine ow_call Tryd.call107 rfl ((sEqMods_calls _ _ _ _ _ _ _ hA hx.mods hy.mods).mono ?_); clear hA; rintro e w ⟨rfl, hA⟩; refine ⟨_, rfl, ?_⟩; exact ⟨put_eq (by rfl), hA⟩)
  case' k1_4 => clear hA; intro w hA; refine rn ?_
  refine' rl_v hA ?o1_5 ?k1_5
  case o1_5 => intro w hA; first | (refine ow_move_v rfl ?_; exact ⟨pe, hA⟩)
  case' k1_5 => clear hA; intro w hA; refine rn ?_
  first | refine' rl_T rfl hA ?o1_6 ?k1_6 | refine' rl_Tn rfl hA ?o1_6 ?k1_6
  case o1_6 => intro hg w hA; first | (refine t_fieldAddr opr ?_; exact ⟨pe, hA⟩)
  case' k1_6 => clear hA; intro w hA; refine rn ?_
  first | refine' rl_T rfl hA ?o1_7 ?k1_7 | refine' rl_Tn rfl hA ?o1_7 ?k1_7
  case o1_7 => intro hg w hA; first | (refine t_loadx opr hA ?_; exact ⟨pe, hA⟩) | (refine t_loada opr hA ?_; exact ⟨pe, hA⟩)
  case' k1_7 => clear hA; intro w hA; refine rn ?_
  first | refine' rl_T rfl hA ?o1_8 ?k1_8 | refine' rl_Tn rfl hA ?o1_8 ?k1_8
  case o1_8 => intro hg w hA; first | (refine t_fieldAddr opr ?_; exact ⟨pe, hA⟩)
  case' k1_8 => clear hA; intro w hA; refine rn ?_
  first | refine' rl_T rfl hA ?o1_9 ?k1_9 | refine' rl_Tn rfl hA ?o1_9 ?k1_9
  case o1_9 => intro hg w hA; first | (refine t_loadx opr hA ?_; exact ⟨pe, hA⟩) | (refine t_loada opr hA ?_; exact ⟨pe, hA⟩)
  case' k1_9 => clear hA; intro w hA; refine rn ?_
  first | refine' rl_T rfl hA ?o1_10 ?k1_10 | refine' rl_Tn rfl hA ?o1_10 ?k1_10
  case o1_10 => intro hg w hA; first | (refine ow_call Tryd.call107 (evs2 opr opr) ((sEqMods_calls _ _ _ _ _ _ _ hA hx.marks hy.marks).mono ?_); clear hA; rintro e w ⟨rfl, hA⟩; refine ⟨_, rfl, ?_⟩; exact ⟨put_eq (by rfl), hA⟩)
  case' k1_10 => clear hA; intro w hA; refine rn ?_
  refine' rl_v hA ?o1_11 ?k1_11
  case o1_11 => intro w hA; first | (refine ow_and rfl (by first | rfl) rfl ?_; exact ⟨pe, hA⟩) | (refine ow_pick rfl rfl rfl ?_; exact ⟨pe, hA⟩)
  case' k1_11 => clear hA; intro w hA; refine rn ?_
  refine' rl_v hA ?o1_12 ?k1_12
  case o1_12 => intro w hA; first | (refine ow_assign_v rfl ?_; exact ⟨pe, hA⟩)
  case' k1_12 => clear hA; intro w hA; refine rn ?_
  refine rl_nil ?_
  repeat' (first | ((refine g_wc ?_; first | (refine wc_seq ?_) | (refine wc_regionS 2 rfl ?_; refine wc_region ?_) | (refine wc_block ?_) | (refine wc_true rfl ?_) | (refine wc_false rfl ?_) | (refine wc_pt rfl (by omega) ?_) | (refine wc_pf rfl (by omega) ?_) | (refine wc_nt rfl (by omega) ?_) | (refine wc_nf rfl (by omega) ?_) | (refine wc_pp rfl (fun h => ?_) (fun h => ?_)) | (refine wc_nn rfl (fun h => ?_) (fun h => ?_)) | (refine wc_skip ?_) | (refine wc_exit ?_) | (refine wc_ret ?_))) | (refine g_rl ?_; first | (first | (refine rl_op ?_) | (refine rl_nil ?_) | (refine rl_on rfl ?_) | (refine rl_pt rfl (by omega) ?_) | (refine rl_qt rfl (by omega) ?_) | (refine rl_nt rfl (by omega) ?_) | (refine rl_mt rfl (by omega) ?_)) | ((first | (refine rl_off rfl rfl ?_) | (refine rl_undef rfl ?_) | (refine rl_pf rfl (by omega) ?_) | (refine rl_qf rfl (by omega) ?_) | (refine rl_nf rfl (by omega) ?_) | (refine rl_mf rfl (by omega) ?_)); refine rn ?_) | (first | (refine rl_pp rfl (fun h => o_n ?_) (fun h => rn ?_)) | (refine rl_qq rfl (fun h => o_n ?_) (fun h => rn ?_)) | (refine rl_nn rfl (fun h => o_n ?_) (fun h => rn ?_)) | (refine rl_mm rfl (fun h => o_n ?_) (fun h => rn ?_)))) | ((refine g_bin ?_; refine p_b ?_); refine rn ?_) | (refine g_call ?_; first | ((first | (refine p_l ?_)); refine rn ?_) | ((first | (refine t_appx rfl rfl hA rfl ?_)); clear hA; (try clear w); intro v w hA hone hnil; refine h_n hA ?_; clear hA; intro hA; refine rn ?_)) | ((refine g_conv ?_; first | (refine p_c hA ?_)); refine rn ?_) | ((refine g_load ?_; first | (refine t_loadx rfl hA ?_) | (refine t_loada rfl hA ?_)); refine rn ?_) | (refine g_store ?_; first | ((first | (refine t_storex rfl rfl hA ?_)); clear hA; (try clear w); intro w hA; refine h_n hA ?_; clear hA; intro hA; refine rn ?_) | ((first | (refine t_storea rfl rfl hA ?_)); clear hA; (try clear w); intro w hA; (try simp only [List.drop_zero, List.drop_nil, List.drop_succ_cons, List.take_succ_cons, List.take_zero, List.length_cons, List.length_nil, Nat.zero_add, Nat.reduceAdd] at hA); refine h_n hA ?_; clear hA; intro hA; refine rn ?_)) | (refine g_ow ?_; first | ((first | (refine p_o ?_)); refine rn ?_) | ((first | (refine t_alloc hA ?_) | (refine ow_box rfl rfl hA ?_) | (refine t_buildSlice rfl (by decide) rfl hA ?_)); clear hA; (try clear w); intro b w hA; refine h_n hA ?_; clear hA; intro hA; refine rn ?_) | ((first | (refine t_make rfl rfl (by omega) (by omega) hA ?_)); clear hA; (try clear w); intro v w hA hone hnil; refine rn ?_)) | (refine tq_normal ?_) | (refine bq_normal ?_) | (refine bq_hit ?_) | (refine bq_miss (by decide) ?_) | (refine tq_exit ?_) | (refine lq_exit ?_) | (refine tq_ret ?_) | (refine bq_ret ?_) | (refine lq_ret ?_))
  refine wc_region ?_
  refine' rl_v hA ?o2_0 ?k2_0
  case o2_0 => intro w hA; first | (refine t_fieldAddr rfl ?_; exact ⟨pe, hA⟩)
  case' k2_0 => clear hA; intro w hA; refine rn ?_
  refine' rl_v hA ?o2_1 ?k2_1
  case o2_1 => intro w hA; first | (refine t_loadx rfl hA ?_; exact ⟨pe, hA⟩) | (refine t_loada rfl hA ?_; exact ⟨pe, hA⟩)
  case' k2_1 => clear hA; intro w hA; refine rn ?_
  refine' rl_v hA ?o2_2 ?k2_2
  case o2_2 => intro w hA; first | (refine t_fieldAddr rfl ?_; exact ⟨pe, hA⟩)
  case' k2_2 => clear hA; intro w hA; refine rn ?_
  refine' rl_v hA ?o2_3 ?k2_3
  case o2_3 => intro w hA; first | (refine t_loadx rfl hA ?_; exact ⟨pe, hA⟩) | (refine t_loada rfl hA ?_; exact ⟨pe, hA⟩)
  case' k2_3 => clear hA; intro w hA; refine rn ?_
  refine' rl_v hA ?o2_4 ?k2_4
  case o2_4 => intro w hA; first | (refine ow_eql rfl rfl ?_; exact ⟨pe, hA⟩) | (refine ow_eqs rfl rfl ?_; exact ⟨pe, hA⟩) | (refine t_eqlb rfl rfl ?_; exact ⟨pe, hA⟩)
  case' k2_4 => clear hA; intro w hA; refine rn ?_
  refine' rl_v hA ?o2_5 ?k2_5
  case o2_5 => intro w hA; first | (refine ow_move_v rfl ?_; exact ⟨pe, hA⟩)
  case' k2_5 => clear hA; intro w hA; refine rn ?_
  first | refine' rl_T rfl hA ?o2_6 ?k2_6 | refine' rl_Tn rfl hA ?o2_6 ?k2_6
  case o2_6 => intro hg w hA; first | (refine t_fieldAddr opr ?_; exact ⟨pe, hA⟩)
  case' k2_6 => clear hA; intro w hA; refine rn ?_
  first | refine' rl_T rfl hA ?o2_7 ?k2_7 | refine' rl_Tn rfl hA ?o2_7 ?k2_7
  case o2_7 => intro hg w hA; first | (refine t_loadx opr hA ?_; exact ⟨pe, hA⟩) | (refine t_loada opr hA ?_; exact ⟨pe, hA⟩)
  case' k2_7 => clear hA; intro w hA; refine rn ?_
  first | refine' rl_T rfl hA ?o2_8 ?k2_8 | refine' rl_Tn rfl hA ?o2_8 ?k2_8
  case o2_8 => intro hg w hA; first | (refine t_fieldAddr opr ?_; exact ⟨pe, hA⟩)
  case' k2_8 => clear hA; intro w hA; refine rn ?_
  first | refine' rl_T rfl hA ?o2_9 ?k2_9 | refine' rl_Tn rfl hA ?o2_9 ?k2_9
  case o2_9 => intro hg w hA; first | (refine t_loadx opr hA ?_; exact ⟨pe, hA⟩) | (refine t_loada opr hA ?_; exact ⟨pe, hA⟩)
  case' k2_9 => clear hA; intro w hA; refine rn ?_
  first | refine' rl_T rfl hA ?o2_10 ?k2_10 | refine' rl_Tn rfl hA ?o2_10 ?k2_10
  case o2_10 => intro hg w hA; first | (refine ow_eql opr opr ?_; exact ⟨pe, hA⟩) | (refine ow_eqs opr opr ?_; exact ⟨pe, hA⟩) | (refine t_eqlb opr opr ?_; exact ⟨pe, hA⟩)
  case' k2_10 => clear hA; intro w hA; refine rn ?_
  refine' rl_v hA ?o2_11 ?k2_11
  case o2_11 => intro w hA; first | (refine ow_and rfl (by first | rfl) rfl ?_; exact ⟨pe, hA⟩) | (refine ow_pick rfl rfl rfl ?_; exact ⟨pe, hA⟩)
  case' k2_11 => clear hA; intro w hA; refine rn ?_
  refine' rl_v hA ?o2_12 ?k2_12
  case o2_12 => intro w hA; first | (refine ow_move_v rfl ?_; exact ⟨pe, hA⟩)
  case' k2_12 => clear hA; intro w hA; refine rn ?_
  first | refine' rl_T rfl hA ?o2_13 ?k2_13 | refine' rl_Tn rfl hA ?o2_13 ?k2_13
  case o2_13 => intro hg w hA; first | (refine t_fieldAddr opr ?_; exact ⟨pe, hA⟩)
  case' k2_13 => clear hA; intro w hA; refine rn ?_
  first | refine' rl_T rfl hA ?o2_14 ?k2_14 | refine' rl_Tn rfl hA ?o2_14 ?k2_14
  case o2_14 => intro hg w hA; first | (refine t_loadx opr hA ?_; exact ⟨pe, hA⟩) | (refine t_loada opr hA ?_; exact ⟨pe, hA⟩)
  case' k2_14 => clear hA; intro w hA; refine rn ?_
  first | refine' rl_T rfl hA ?o2_15 ?k2_15 | refine' rl_Tn rfl hA ?o2_15 ?k2_15
  case o2_15 => intro hg w hA; first | (refine t_fieldAddr opr ?_; exact ⟨pe, hA⟩)
  case' k2_15 => clear hA; intro w hA; refine rn ?_
  first | refine' rl_T rfl hA ?o2_16 ?k2_16 | refine' rl_Tn rfl hA ?o2_16 ?k2_16
  case o2_16 => intro hg w hA; first | (refine t_loadx opr hA ?_; exact ⟨pe, hA⟩) | (refine t_loada opr hA ?_; exact ⟨pe, hA⟩)
  case' k2_16 => clear hA; intro w hA; refine rn ?_
  first | refine' rl_T rfl hA ?o2_17 ?k2_17 | refine' rl_Tn rfl hA ?o2_17 ?k2_17
  case o2_17 => intro hg w hA; first | (refine ow_eql opr opr ?_; exact ⟨pe, hA⟩) | (refine ow_eqs opr opr ?_; exact ⟨pe, hA⟩) | (refine t_eqlb opr opr ?_; exact ⟨pe, hA⟩)
  case' k2_17 => clear hA; intro w hA; refine rn ?_
  refine' rl_v hA ?o2_18 ?k2_18
  case o2_18 => intro w hA; first | (refine ow_and rfl (by first | rfl) rfl ?_; exact ⟨pe, hA⟩) | (refine ow_pick rfl rfl rfl ?_; exact ⟨pe, hA⟩)
  case' k2_18 => clear hA; intro w hA; refine rn ?_
  refine' rl_v hA ?o2_19 ?k2_19
  case o2_19 => intro w hA; first | (refine ow_move_v rfl ?_; exact ⟨pe, hA⟩)
  case' k2_19 => clear hA; intro w hA; refine rn ?_
  first | refine' rl_T rfl hA ?o2_20 ?k2_20 | refine' rl_Tn rfl hA ?o2_20 ?k2_20
  case o2_20 => intro hg w hA; first | (refine t_fieldAddr opr ?_; exact ⟨pe, hA⟩)
  case' k2_20 => clear hA; intro w hA; refine rn ?_
  first | refine' rl_T rfl hA ?o2_21 ?k2_21 | refine' rl_Tn rfl hA ?o2_21 ?k2_21
  case o2_21 => intro hg w hA; first | (refine t_loadx opr hA ?_; exact ⟨pe, hA⟩) | (refine t_loada opr hA ?_; exact ⟨pe, hA⟩)
  case' k2_21 => clear hA; intro w hA; refine rn ?_
  first | refine' rl_T rfl hA ?o2_22 ?k2_22 | refine' rl_Tn rfl hA ?o2_22 ?k2_22
  case o2_22 => intro hg w hA; first | (refine t_fieldAddr opr ?_; exact ⟨pe, hA⟩)
  case' k2_22 => clear hA; intro w hA; refine rn ?_
  first | refine' rl_T rfl hA ?o2_23 ?k2_23 | refine' rl_Tn rfl hA ?o2_23 ?k2_23
  case o2_23 => intro hg w hA; first | (refine t_loadx opr hA ?_; exact ⟨pe, hA⟩) | (refine t_loada opr hA ?_; exact ⟨pe, hA⟩)
  case' k2_23 => clear hA; intro w hA; refine rn ?_
  first | refine' rl_T rfl hA ?o2_24 ?k2_24 | refine' rl_Tn rfl hA ?o2_24 ?k2_24
  case o2_24 => intro hg w hA; first | (refine ow_eql opr opr ?_; exact ⟨pe, hA⟩) | (refine ow_eqs opr opr ?_; exact ⟨pe, hA⟩) | (refine t_eqlb opr opr ?_; exact ⟨pe, hA⟩)
  case' k2_24 => clear hA; intro w hA; refine rn ?_
  refine' rl_v hA ?o2_25 ?k2_25
  case o2_25 => intro w hA; first | (refine ow_and rfl (by first | rfl) rfl ?_; exact ⟨pe, hA⟩) | (refine ow_pick rfl rfl rfl ?_; exact ⟨pe, hA⟩)
  case' k2_25 => clear hA; intro w hA; refine rn ?_
  refine' rl_v hA ?o2_26 ?k2_26
  case o2_26 => intro w hA; first | (refine ow_move_v rfl ?_; exact ⟨pe, hA⟩)
  case' k2_26 => clear hA; intro w hA; refine rn ?_
  first | refine' rl_T rfl hA ?o2_27 ?k2_27 | refine' rl_Tn rfl hA ?o2_27 ?k2_27
  case o2_27 => intro hg w hA; first | (refine t_fieldAddr opr ?_; exact ⟨pe, hA⟩)
  case' k2_27 => clear hA; intro w hA; refine rn ?_
  first | refine' rl_T rfl hA ?o2_28 ?k2_28 | refine' rl_Tn rfl hA ?o2_28 ?k2_28
  case o2_28 => intro hg w hA; first | (refine t_loadx opr hA ?_; exact ⟨pe, hA⟩) | (refine t_loada opr hA ?_; exact ⟨pe, hA⟩)
  case' k2_28 => clear hA; intro w hA; refine rn ?_
  first | refine' rl_T rfl hA ?o2_29 ?k2_29 | refine' rl_Tn rfl hA ?o2_29 ?k2_29
  case o2_29 => intro hg w hA; first | (refine t_fieldAddr opr ?_; exact ⟨pe, hA⟩)
  case' k2_29 => clear hA; intro w hA; refine rn ?_
  first | refine' rl_T rfl hA ?o2_30 ?k2_30 | refine' rl_Tn rfl hA ?o2_30 ?k2_30
  case o2_30 => intro hg w hA; first | (refine t_loadx opr hA ?_; exact ⟨pe, hA⟩) | (refine t_loada opr hA ?_; exact ⟨pe, hA⟩)
  case' k2_30 => clear hA; intro w hA; refine rn ?_
  first | refine' rl_T rfl hA ?o2_31 ?k2_31 | refine' rl_Tn rfl hA ?o2_31 ?k2_31
  case o2_31 => intro hg w hA; first | (refine ow_eql opr opr ?_; exact ⟨pe, hA⟩) | (refine ow_eqs opr opr ?_; exact ⟨pe, hA⟩) | (refine t_eqlb opr opr ?_; exact ⟨pe, hA⟩)
  case' k2_31 => clear hA; intro w hA; refine rn ?_
  refine' rl_v hA ?o2_32 ?k2_32
  case o2_32 => intro w hA; first | (refine ow_and rfl (by first | rfl) rfl ?_; exact ⟨pe, hA⟩) | (refine ow_pick rfl rfl rfl ?_; exact ⟨pe, hA⟩)
  case' k2_32 => clear hA; intro w hA; refine rn ?_
  refine' rl_v hA ?o2_33 ?k2_33
  case o2_33 => intro w hA; first | (refine ow_move_v rfl ?_; exact ⟨pe, hA⟩)
  case' k2_33 => clear hA; intro w hA; refine rn ?_
  first | refine' rl_T rfl hA ?o2_34 ?k2_34 | refine' rl_Tn rfl hA ?o2_34 ?k2_34
  case o2_34 => intro hg w hA; first | (refine t_fieldAddr opr ?_; exact ⟨pe, hA⟩)
  case' k2_34 => clear hA; intro w hA; refine rn ?_
  first | refine' rl_T rfl hA ?o2_35 ?k2_35 | refine' rl_Tn rfl hA ?o2_35 ?k2_35
  case o2_35 => intro hg w hA; first | (refine t_loadx opr hA ?_; exact ⟨pe, hA⟩) | (refine t_loada opr hA ?_; exact ⟨pe, hA⟩)
  case' k2_35 => clear hA; intro w hA; refine rn ?_
  first | refine' rl_T rfl hA ?o2_36 ?k2_36 | refine' rl_Tn rfl hA ?o2_36 ?k2_36
  case o2_36 => intro hg w hA; first | (refine t_fieldAddr opr ?_; exact ⟨pe, hA⟩)
  case' k2_36 => clear hA; intro w hA; refine rn ?_
  first | refine' rl_T rfl hA ?o2_37 ?k2_37 | refine' rl_Tn rfl hA ?o2_37 ?k2_37
  case o2_37 => intro hg w hA; first | (refine t_loadx opr hA ?_; exact ⟨pe, hA⟩) | (refine t_loada opr hA ?_; exact ⟨pe, hA⟩)
  case' k2_37 => clear hA; intro w hA; refine rn ?_
  first | refine' rl_T rfl hA ?o2_38 ?k2_38 | refine' rl_Tn rfl hA ?o2_38 ?k2_38
  case o2_38 => intro hg w hA; first | (refine ow_eql opr opr ?_; exact ⟨pe, hA⟩) | (refine ow_eqs opr opr ?_; exact ⟨pe, hA⟩) | (refine t_eqlb opr opr ?_; exact ⟨pe, hA⟩)
  case' k2_38 => clear hA; intro w hA; refine rn ?_
  refine' rl_v hA ?o2_39 ?k2_39
  case o2_39 => intro w hA; first | (refine ow_and rfl (by first | rfl) rfl ?_; exact ⟨pe, hA⟩) | (refine ow_pick rfl rfl rfl ?_; exact ⟨pe, hA⟩)
  case' k2_39 => clear hA; intro w hA; refine rn ?_
  refine' rl_v hA ?o2_40 ?k2_40
  case o2_40 => intro w hA; first | (refine ow_move_v rfl ?_; exact ⟨pe, hA⟩)
  case' k2_40 => clear hA; intro w hA; refine rn ?_
  first | refine' rl_T rfl hA ?o2_41 ?k2_41 | refine' rl_Tn rfl hA ?o2_41 ?k2_41
  case o2_41 => intro hg w hA; first | (refine t_fieldAddr opr ?_; exact ⟨pe, hA⟩)
  case' k2_41 => clear hA; intro w hA; refine rn ?_
  first | refine' rl_T rfl hA ?o2_42 ?k2_42 | refine' rl_Tn rfl hA ?o2_42 ?k2_42
  case o2_42 => intro hg w hA; first | (refine t_loadx opr hA ?_; exact ⟨pe, hA⟩) | (refine t_loada opr hA ?_; exact ⟨pe, hA⟩)
  case' k2_42 => clear hA; intro w hA; refine rn ?_
  first | refine' rl_T rfl hA ?o2_43 ?k2_43 | refine' rl_Tn rfl hA ?o2_43 ?k2_43
  case o2_43 => intro hg w hA; first | (refine t_fieldAddr opr ?_; exact ⟨pe, hA⟩)
  case' k2_43 => clear hA; intro w hA; refine rn ?_
  first | refine' rl_T rfl hA ?o2_44 ?k2_44 | refine' rl_Tn rfl hA ?o2_44 ?k2_44
  case o2_44 => intro hg w hA; first | (refine t_loadx opr hA ?_; exact ⟨pe, hA⟩) | (refine t_loada opr hA ?_; exact ⟨pe, hA⟩)
  case' k2_44 => clear hA; intro w hA; refine rn ?_
  first | refine' rl_T rfl hA ?o2_45 ?k2_45 | refine' rl_Tn rfl hA ?o2_45 ?k2_45
  case o2_45 => intro hg w hA; first | (refine ow_eql opr opr ?_; exact ⟨pe, hA⟩) | (refine ow_eqs opr opr ?_; exact ⟨pe, hA⟩) | (refine t_eqlb opr opr ?_; exact ⟨pe, hA⟩)
  case' k2_45 => clear hA; intro w hA; refine rn ?_
  refine' rl_v hA ?o2_46 ?k2_46
  case o2_46 => intro w hA; first | (refine ow_and rfl (by first | rfl) rfl ?_; exact ⟨pe, hA⟩) | (refine ow_pick rfl rfl rfl ?_; exact ⟨pe, hA⟩)
  case' k2_46 => clear hA; intro w hA; refine rn ?_
  refine' rl_v hA ?o2_47 ?k2_47
  case o2_47 => intro w hA; first | (refine ow_move_v rfl ?_; exact ⟨pe, hA⟩)
  case' k2_47 => clear hA; intro w hA; refine rn ?_
  first | refine' rl_T rfl hA ?o2_48 ?k2_48 | refine' rl_Tn rfl hA ?o2_48 ?k2_48
  case o2_48 => intro hg w hA; first | (refine t_fieldAddr opr ?_; exact ⟨pe, hA⟩)
  case' k2_48 => clear hA; intro w hA; refine rn ?_
  first | refine' rl_T rfl hA ?o2_49 ?k2_49 | refine' rl_Tn rfl hA ?o2_49 ?k2_49
  case o2_49 => intro hg w hA; first | (refine t_loadx opr hA ?_; exact ⟨pe, hA⟩) | (refine t_loada opr hA ?_; exact ⟨pe, hA⟩)
  case' k2_49 => clear hA; intro w hA; refine rn ?_
  first | refine' rl_T rfl hA ?o2_50 ?k2_50 | refine' rl_Tn rfl hA ?o2_50 ?k2_50
  case o2_50 => intro hg w hA; first | (refine t_fieldAddr opr ?_; exact ⟨pe, hA⟩)
  case' k2_50 => clear hA; intro w hA; refine rn ?_
  first | refine' rl_T rfl hA ?o2_51 ?k2_51 | refine' rl_Tn rfl hA ?o2_51 ?k2_51
  case o2_51 => intro hg w hA; first | (refine t_loadx opr hA ?_; exact ⟨pe, hA⟩) | (refine t_loada opr hA ?_; exact ⟨pe, hA⟩)
  case' k2_51 => clear hA; intro w hA; refine rn ?_
  first | refine' rl_T rfl hA ?o2_52 ?k2_52 | refine' rl_Tn rfl hA ?o2_52 ?k2_52
  case o2_52 => intro hg w hA; first | (refine ow_eql opr opr ?_; exact ⟨pe, hA⟩) | (refine ow_eqs opr opr ?_; exact ⟨pe, hA⟩) | (refine t_eqlb opr opr ?_; exact ⟨pe, hA⟩)
  case' k2_52 => clear hA; intro w hA; refine rn ?_
  refine' rl_v hA ?o2_53 ?k2_53
  case o2_53 => intro w hA; first | (refine ow_and rfl (by first | rfl) rfl ?_; exact ⟨pe, hA⟩) | (refine ow_pick rfl rfl rfl ?_; exact ⟨pe, hA⟩)
  case' k2_53 => clear hA; intro w hA; refine rn ?_
  refine' rl_v hA ?o2_54 ?k2_54
  case o2_54 => intro w hA; first | (refine ow_move_v rfl ?_; exact ⟨pe, hA⟩)
  case' k2_54 => clear hA; intro w hA; refine rn ?_
  first | refine' rl_T rfl hA ?o2_55 ?k2_55 | refine' rl_Tn rfl hA ?o2_55 ?k2_55
  case o2_55 => intro hg w hA; first | (refine t_fieldAddr opr ?_; exact ⟨pe, hA⟩)
  case' k2_55 => clear hA; intro w hA; refine rn ?_
  first | refine' rl_T rfl hA ?o2_56 ?k2_56 | refine' rl_Tn rfl hA ?o2_56 ?k2_56
  case o2_56 => intro hg w hA; first | (refine t_loadx opr hA ?_; exact ⟨pe, hA⟩) | (refine t_loada opr hA ?_; exact ⟨pe, hA⟩)
  case' k2_56 => clear hA; intro w hA; refine rn ?_
  first | refine' rl_T rfl hA ?o2_57 ?k2_57 | refine' rl_Tn rfl hA ?o2_57 ?k2_57
  case o2_57 => intro hg w hA; first | (refine t_fieldAddr opr ?_; exact ⟨pe, hA⟩)
  case' k2_57 => clear hA; intro w hA; refine rn ?_
  first | refine' rl_T rfl hA ?o2_58 ?k2_58 | refine' rl_Tn rfl hA ?o2_58 ?k2_58
  case o2_58 => intro hg w hA; first | (refine t_loadx opr hA ?_; exact ⟨pe, hA⟩) | (refine t_loada opr hA ?_; exact ⟨pe, hA⟩)
  case' k2_58 => clear hA; intro w hA; refine rn ?_
  first | refine' rl_T rfl hA ?o2_59 ?k2_59 | refine' rl_Tn rfl hA ?o2_59 ?k2_59
  case o2_59 => intro hg w hA; first | (refine ow_eql opr opr ?_; exact ⟨pe, hA⟩) | (refine ow_eqs opr opr ?_; exact ⟨pe, hA⟩) | (refine t_eqlb opr opr ?_; exact ⟨pe, hA⟩)
  case' k2_59 => clear hA; intro w hA; refine rn ?_
  refine' rl_v hA ?o2_60 ?k2_60
  case o2_60 => intro w hA; first | (refine ow_and rfl (by first | rfl) rfl ?_; exact ⟨pe, hA⟩) | (refine ow_pick rfl rfl rfl ?_; exact ⟨pe, hA⟩)
  case' k2_60 => clear hA; intro w hA; refine rn ?_
  refine' rl_v hA ?o2_61 ?k2_61
  case o2_61 => intro w hA; first | (refine ow_move_v rfl ?_; exact ⟨pe, hA⟩)
  case' k2_61 => clear hA; intro w hA; refine rn ?_
  first | refine' rl_T rfl hA ?o2_62 ?k2_62 | refine' rl_Tn rfl hA ?o2_62 ?k2_62
  case o2_62 => intro hg w hA; first | (refine t_fieldAddr opr ?_; exact ⟨pe, hA⟩)
  case' k2_62 => clear hA; intro w hA; refine rn ?_
  first | refine' rl_T rfl hA ?o2_63 ?k2_63 | refine' rl_Tn rfl hA ?o2_63 ?k2_63
  case o2_63 => intro hg w hA; first | (refine t_loadx opr hA ?_; exact ⟨pe, hA⟩) | (refine t_loada opr hA ?_; exact ⟨pe, hA⟩)
  case' k2_63 => clear hA; intro w hA; refine rn ?_
  first | refine' rl_T rfl hA ?o2_64 ?k2_64 | refine' rl_Tn rfl hA ?o2_64 ?k2_64
  case o2_64 => intro hg w hA; first | (refine t_fieldAddr opr ?_; exact ⟨pe, hA⟩)
  case' k2_64 => clear hA; intro w hA; refine rn ?_
  first | refine' rl_T rfl hA ?o2_65 ?k2_65 | refine' rl_Tn rfl hA ?o2_65 ?k2_65
  case o2_65 => intro hg w hA; first | (refine t_loadx opr hA ?_; exact ⟨pe, hA⟩) | (refine t_loada opr hA ?_; exact ⟨pe, hA⟩)
  case' k2_65 => clear hA; intro w hA; refine rn ?_
  first | refine' rl_T rfl hA ?o2_66 ?k2_66 | refine' rl_Tn rfl hA ?o2_66 ?k2_66
  case o2_66 => intro hg w hA; first | (refine ow_eql opr opr ?_; exact ⟨pe, hA⟩) | (refine ow_eqs opr opr ?_; exact ⟨pe, hA⟩) | (refine t_eqlb opr opr ?_; exact ⟨pe, hA⟩)
  case' k2_66 => clear hA; intro w hA; refine rn ?_
  refine' rl_v hA ?o2_67 ?k2_67
  case o2_67 => intro w hA; first | (refine ow_and rfl (by first | rfl) rfl ?_; exact ⟨pe, hA⟩) | (refine ow_pick rfl rfl rfl ?_; exact ⟨pe, hA⟩)
  case' k2_67 => clear hA; intro w hA; refine rn ?_
  refine' rl_v hA ?o2_68 ?k2_68
  case o2_68 => intro w hA; first | (refine ow_assign_v rfl ?_; exact ⟨pe, hA⟩)
  case' k2_68 => clear hA; intro w hA; refine rn ?_
  refine rl_nil ?_
  repeat' (first | ((refine g_wc ?_; first | (refine wc_seq ?_) | (refine wc_regionS 3 rfl ?_; refine wc_region ?_) | (refine wc_block ?_) | (refine wc_true rfl ?_) | (refine wc_false rfl ?_) | (refine wc_pt rfl (by omega) ?_) | (refine wc_pf rfl (by omega) ?_) | (refine wc_nt rfl (by omega) ?_) | (refine wc_nf rfl (by omega) ?_) | (refine wc_pp rfl (fun h => ?_) (fun h => ?_)) | (refine wc_nn rfl (fun h => ?_) (fun h => ?_)) | (refine wc_skip ?_) | (refine wc_exit ?_) | (refine wc_ret ?_))) | (refine g_rl ?_; first | (first | (refine rl_op ?_) | (refine rl_nil ?_) | (refine rl_on rfl ?_) | (refine rl_pt rfl (by omega) ?_) | (refine rl_qt rfl (by omega) ?_) | (refine rl_nt rfl (by omega) ?_) | (refine rl_mt rfl (by omega) ?_)) | ((first | (refine rl_off rfl rfl ?_) | (refine rl_undef rfl ?_) | (refine rl_pf rfl (by omega) ?_) | (refine rl_qf rfl (by omega) ?_) | (refine rl_nf rfl (by omega) ?_) | (refine rl_mf rfl (by omega) ?_)); refine rn ?_) | (first | (refine rl_pp rfl (fun h => o_n ?_) (fun h => rn ?_)) | (refine rl_qq rfl (fun h => o_n ?_) (fun h => rn ?_)) | (refine rl_nn rfl (fun h => o_n ?_) (fun h => rn ?_)) | (refine rl_mm rfl (fun h => o_n ?_) (fun h => rn ?_)))) | ((refine g_bin ?_; refine p_b ?_); refine rn ?_) | (refine g_call ?_; first | ((first | (refine p_l ?_)); refine rn ?_) | ((first | (refine t_appx rfl rfl hA rfl ?_)); clear hA; (try clear w); intro v w hA hone hnil; refine h_n hA ?_; clear hA; intro hA; refine rn ?_)) | ((refine g_conv ?_; first | (refine p_c hA ?_)); refine rn ?_) | ((refine g_load ?_; first | (refine t_loadx rfl hA ?_) | (refine t_loada rfl hA ?_)); refine rn ?_) | (refine g_store ?_; first | ((first | (refine t_storex rfl rfl hA ?_)); clear hA; (try clear w); intro w hA; refine h_n hA ?_; clear hA; intro hA; refine rn ?_) | ((first | (refine t_storea rfl rfl hA ?_)); clear hA; (try clear w); intro w hA; (try simp only [List.drop_zero, List.drop_nil, List.drop_succ_cons, List.take_succ_cons, List.take_zero, List.length_cons, List.length_nil, Nat.zero_add, Nat.reduceAdd] at hA); refine h_n hA ?_; clear hA; intro hA; refine rn ?_)) | (refine g_ow ?_; first | ((first | (refine p_o ?_)); refine rn ?_) | ((first | (refine t_alloc hA ?_) | (refine ow_box rfl rfl hA ?_) | (refine t_buildSlice rfl (by decide) rfl hA ?_)); clear hA; (try clear w); intro b w hA; refine h_n hA ?_; clear hA; intro hA; refine rn ?_) | ((first | (refine t_make rfl rfl (by omega) (by omega) hA ?_)); clear hA; (try clear w); intro v w hA hone hnil; refine rn ?_)) | (refine tq_normal ?_) | (refine bq_normal ?_) | (refine bq_hit ?_) | (refine bq_miss (by decide) ?_) | (refine tq_exit ?_) | (refine lq_exit ?_) | (refine tq_ret ?_) | (refine bq_ret ?_) | (refine lq_ret ?_))
  refine wc_region ?_
  refine' rl_v hA ?o3_0 ?k3_0
  case o3_0 => intro w hA; first | (refine ow_move_v rfl ?_; exact ⟨pe, hA⟩)
  case' k3_0 => clear hA; intro w hA; refine rn ?_
  refine' rl_v hA ?o3_1 ?k3_1
  case o3_1 => intro w hA; first | (refine ow_move_v rfl ?_; exact ⟨pe, hA⟩)
  case' k3_1 => clear hA; intro w hA; refine rn ?_
  first | refine' rl_T rfl hA ?o3_2 ?k3_2 | refine' rl_Tn rfl hA ?o3_2 ?k3_2
  case o3_2 => intro hg w hA; first | (refine ow_move_v opr ?_; exact ⟨pe, hA⟩)
  case' k3_2 => clear hA; intro w hA; refine rn ?_
  refine' rl_v hA ?o3_3 ?k3_3
  case o3_3 => intro w hA; first | (refine ow_and rfl (by first | rfl) rfl ?_; exact ⟨pe, hA⟩) | (refine ow_pick rfl rfl rfl ?_; exact ⟨pe, hA⟩)
  case' k3_3 => clear hA; intro w hA; refine rn ?_
  refine' rl_v hA ?o3_4 ?k3_4
  case o3_4 => intro w hA; first | (refine ow_move_v rfl ?_; exact ⟨pe, hA⟩)
  case' k3_4 => clear hA; intro w hA; refine rn ?_
  first | refine' rl_T rfl hA ?o3_5 ?k3_5 | refine' rl_Tn rfl hA ?o3_5 ?k3_5
  case o3_5 => intro hg w hA; first | (refine t_fieldAddr opr ?_; exact ⟨pe, hA⟩)
  case' k3_5 => clear hA; intro w hA; refine rn ?_
  first | refine' rl_T rfl hA ?o3_6 ?k3_6 | refine' rl_Tn rfl hA ?o3_6 ?k3_6
  case o3_6 => intro hg w hA; first | (refine t_loadx opr hA ?_; exact ⟨pe, hA⟩) | (refine t_loada opr hA ?_; exact ⟨pe, hA⟩)
  case' k3_6 => clear hA; intro w hA; refine rn ?_
  first | refine' rl_T rfl hA ?o3_7 ?k3_7 | refine' rl_Tn rfl hA ?o3_7 ?k3_7
  case o3_7 => intro hg w hA; first | (refine t_fieldAddr opr ?_; exact ⟨pe, hA⟩)
  case' k3_7 => clear hA; intro w hA; refine rn ?_
  first | refine' rl_T rfl hA ?o3_8 ?k3_8 | refine' rl_Tn rfl hA ?o3_8 ?k3_8
  case o3_8 => intro hg w hA; first | (refine t_loadx opr hA ?_; exact ⟨pe, hA⟩) | (refine t_loada opr hA ?_; exact ⟨pe, hA⟩)
  case' k3_8 => clear hA; intro w hA; refine rn ?_
  first | refine' rl_T rfl hA ?o3_9 ?k3_9 | refine' rl_Tn rfl hA ?o3_9 ?k3_9
  case o3_9 => intro hg w hA; first | (refine t_eqTwo opr opr ?_; exact ⟨pe, hA⟩) | (refine ow_eql opr opr ?_; exact ⟨pe, hA⟩) | (refine ow_eqs opr opr ?_; exact ⟨pe, hA⟩) | (refine t_eqlb opr opr ?_; exact ⟨pe, hA⟩)
  case' k3_9 => clear hA; intro w hA; refine rn ?_
  refine' rl_v hA ?o3_10 ?k3_10
  case o3_10 => intro w hA; first | (refine ow_and rfl (by first | rfl) rfl ?_; exact ⟨pe, hA⟩) | (refine ow_pick rfl rfl rfl ?_; exact ⟨pe, hA⟩)
  case' k3_10 => clear hA; intro w hA; refine rn ?_
  refine' rl_v hA ?o3_11 ?k3_11
  case o3_11 => intro w hA; first | (refine ow_move_v rfl ?_; exact ⟨pe, hA⟩)
  case' k3_11 => clear hA; intro w hA; refine rn ?_
  first | refine' rl_T rfl hA ?o3_12 ?k3_12 | refine' rl_Tn rfl hA ?o3_12 ?k3_12
  case o3_12 => intro hg w hA; first | (refine t_fieldAddr opr ?_; exact ⟨pe, hA⟩)
  case' k3_12 => clear hA; intro w hA; refine rn ?_
  first | refine' rl_T rfl hA ?o3_13 ?k3_13 | refine' rl_Tn rfl hA ?o3_13 ?k3_13
  case o3_13 => intro hg w hA; first | (refine t_loadx opr hA ?_; exact ⟨pe, hA⟩) | (refine t_loada opr hA ?_; exact ⟨pe, hA⟩)
  case' k3_13 => clear hA; intro w hA; refine rn ?_
  first | refine' rl_T rfl hA ?o3_14 ?k3_14 | refine' rl_Tn rfl hA ?o3_14 ?k3_14
  case o3_14 => intro hg w hA; first | (refine t_fieldAddr opr ?_; exact ⟨pe, hA⟩)
  case' k3_14 => clear hA; intro w hA; refine rn ?_
  first | refine' rl_T rfl hA ?o3_15 ?k3_15 | refine' rl_Tn rfl hA ?o3_15 ?k3_15
  case o3_15 => intro hg w hA; first | (refine t_loadx opr hA ?_; exact ⟨pe, hA⟩) | (refine t_loada opr hA ?_; exact ⟨pe, hA⟩)
  case' k3_15 => clear hA; intro w hA; refine rn ?_
  first | refine' rl_T rfl hA ?o3_16 ?k3_16 | refine' rl_Tn rfl hA ?o3_16 ?k3_16
  case o3_16 => intro hg w hA; first | (refine t_eqTwo opr opr ?_; exact ⟨pe, hA⟩) | (refine ow_eql opr opr ?_; exact ⟨pe, hA⟩) | (refine ow_eqs opr opr ?_; exact ⟨pe, hA⟩) | (refine t_eqlb opr opr ?_; exact ⟨pe, hA⟩)
  case' k3_16 => clear hA; intro w hA; refine rn ?_
  refine' rl_v hA ?o3_17 ?k3_17
  case o3_17 => intro w hA; first | (refine ow_and rfl (by first | rfl) rfl ?_; exact ⟨pe, hA⟩) | (refine ow_pick rfl rfl rfl ?_; exact ⟨pe, hA⟩)
  case' k3_17 => clear hA; intro w hA; refine rn ?_
  refine' rl_v hA ?o3_18 ?k3_18
  case o3_18 => intro w hA; first | (refine ow_move_v rfl ?_; exact ⟨pe, hA⟩)
  case' k3_18 => clear hA; intro w hA; refine rn ?_
  first | refine' rl_T rfl hA ?o3_19 ?k3_19 | refine' rl_Tn rfl hA ?o3_19 ?k3_19
  case o3_19 => intro hg w hA; first | (refine t_fieldAddr opr ?_; exact ⟨pe, hA⟩)
  case' k3_19 => clear hA; intro w hA; refine rn ?_
  first | refine' rl_T rfl hA ?o3_20 ?k3_20 | refine' rl_Tn rfl hA ?o3_20 ?k3_20
  case o3_20 => intro hg w hA; first | (refine t_loadx opr hA ?_; exact ⟨pe, hA⟩) | (refine t_loada opr hA ?_; exact ⟨pe, hA⟩)
  case' k3_20 => clear hA; intro w hA; refine rn ?_
  first | refine' rl_T rfl hA ?o3_21 ?k3_21 | refine' rl_Tn rfl hA ?o3_21 ?k3_21
  case o3_21 => intro hg w hA; first | (refine t_fieldAddr opr ?_; exact ⟨pe, hA⟩)
  case' k3_21 => clear hA; intro w hA; refine rn ?_
  first | refine' rl_T rfl hA ?o3_22 ?k3_22 | refine' rl_Tn rfl hA ?o3_22 ?k3_22
  case o3_22 => intro hg w hA; first | (refine t_loadx opr hA ?_; exact ⟨pe, hA⟩) | (refine t_loada opr hA ?_; exact ⟨pe, hA⟩)
  case' k3_22 => clear hA; intro w hA; refine rn ?_
  first | refine' rl_T rfl hA ?o3_23 ?k3_23 | refine' rl_Tn rfl hA ?o3_23 ?k3_23
  case o3_23 => intro hg w hA; first | (refine t_eqTwo opr opr ?_; exact ⟨pe, hA⟩) | (refine ow_eql opr opr ?_; exact ⟨pe, hA⟩) | (refine ow_eqs opr opr ?_; exact ⟨pe, hA⟩) | (refine t_eqlb opr opr ?_; exact ⟨pe, hA⟩)
  case' k3_23 => clear hA; intro w hA; refine rn ?_
  refine' rl_v hA ?o3_24 ?k3_24
  case o3_24 => intro w hA; first | (refine ow_and rfl (by first | rfl) rfl ?_; exact ⟨pe, hA⟩) | (refine ow_pick rfl rfl rfl ?_; exact ⟨pe, hA⟩)
  case' k3_24 => clear hA; intro w hA; refine rn ?_
  refine' rl_v hA ?o3_25 ?k3_25
  case o3_25 => intro w hA; first | (refine ow_move_v rfl ?_; exact ⟨pe, hA⟩)
  case' k3_25 => clear hA; intro w hA; refine rn ?_
  first | refine' rl_T rfl hA ?o3_26 ?k3_26 | refine' rl_Tn rfl hA ?o3_26 ?k3_26
  case o3_26 => intro hg w hA; first | (refine t_fieldAddr opr ?_; exact ⟨pe, hA⟩)
  case' k3_26 => clear hA; intro w hA; refine rn ?_
  first | refine' rl_T rfl hA ?o3_27 ?k3_27 | refine' rl_Tn rfl hA ?o3_27 ?k3_27
  case o3_27 => intro hg w hA; first | (refine t_loadx opr hA ?_; exact ⟨pe, hA⟩) | (refine t_loada opr hA ?_; exact ⟨pe, hA⟩)
  case' k3_27 => clear hA; intro w hA; refine rn ?_
  first | refine' rl_T rfl hA ?o3_28 ?k3_28 | refine' rl_Tn rfl hA ?o3_28 ?k3_28
  case o3_28 => intro hg w hA; first | (refine t_fieldAddr opr ?_; exact ⟨pe, hA⟩)
  case' k3_28 => clear hA; intro w hA; refine rn ?_
  first | refine' rl_T rfl hA ?o3_29 ?k3_29 | refine' rl_Tn rfl hA ?o3_29 ?k3_29
  case o3_29 => intro hg w hA; first | (refine t_loadx opr hA ?_; exact ⟨pe, hA⟩) | (refine t_loada opr hA ?_; exact ⟨pe, hA⟩)
  case' k3_29 => clear hA; intro w hA; refine rn ?_
  first | refine' rl_T rfl hA ?o3_30 ?k3_30 | refine' rl_Tn rfl hA ?o3_30 ?k3_30
  case o3_30 => intro hg w hA; first | (refine t_eqTwo opr opr ?_; exact ⟨pe, hA⟩) | (refine ow_eql opr opr ?_; exact ⟨pe, hA⟩) | (refine ow_eqs opr opr ?_; exact ⟨pe, hA⟩) | (refine t_eqlb opr opr ?_; exact ⟨pe, hA⟩)
  case' k3_30 => clear hA; intro w hA; refine rn ?_
  refine' rl_v hA ?o3_31 ?k3_31
  case o3_31 => intro w hA; first | (refine ow_and rfl (by first | rfl) rfl ?_; exact ⟨pe, hA⟩) | (refine ow_pick rfl rfl rfl ?_; exact ⟨pe, hA⟩)
  case' k3_31 => clear hA; intro w hA; refine rn ?_
  refine' rl_v hA ?o3_32 ?k3_32
  case o3_32 => intro w hA; first | (refine ow_move_v rfl ?_; exact ⟨pe, hA⟩)
  case' k3_32 => clear hA; intro w hA; refine rn ?_
  first | refine' rl_T rfl hA ?o3_33 ?k3_33 | refine' rl_Tn rfl hA ?o3_33 ?k3_33
  case o3_33 => intro hg w hA; first | (refine t_fieldAddr opr ?_; exact ⟨pe, hA⟩)
  case' k3_33 => clear hA; intro w hA; refine rn ?_
  first | refine' rl_T rfl hA ?o3_34 ?k3_34 | refine' rl_Tn rfl hA ?o3_34 ?k3_34
  case o3_34 => intro hg w hA; first | (refine t_loadx opr hA ?_; exact ⟨pe, hA⟩) | (refine t_loada opr hA ?_; exact ⟨pe, hA⟩)
  case' k3_34 => clear hA; intro w hA; refine rn ?_
  first | refine' rl_T rfl hA ?o3_35 ?k3_35 | refine' rl_Tn rfl hA ?o3_35 ?k3_35
  case o3_35 => intro hg w hA; first | (refine t_fieldAddr opr ?_; exact ⟨pe, hA⟩)
  case' k3_35 => clear hA; intro w hA; refine rn ?_
  first | refine' rl_T rfl hA ?o3_36 ?k3_36 | refine' rl_Tn rfl hA ?o3_36 ?k3_36
  case o3_36 => intro hg w hA; first | (refine t_loadx opr hA ?_; exact ⟨pe, hA⟩) | (refine t_loada opr hA ?_; exact ⟨pe, hA⟩)
  case' k3_36 => clear hA; intro w hA; refine rn ?_
  first | refine' rl_T rfl hA ?o3_37 ?k3_37 | refine' rl_Tn rfl hA ?o3_37 ?k3_37
  case o3_37 => intro hg w hA; first | (refine t_eqTwo opr opr ?_; exact ⟨pe, hA⟩) | (refine ow_eql opr opr ?_; exact ⟨pe, hA⟩) | (refine ow_eqs opr opr ?_; exact ⟨pe, hA⟩) | (refine t_eqlb opr opr ?_; exact ⟨pe, hA⟩)
  case' k3_37 => clear hA; intro w hA; refine rn ?_
  refine' rl_v hA ?o3_38 ?k3_38
  case o3_38 => intro w hA; first | (refine ow_and rfl (by first | rfl) rfl ?_; exact ⟨pe, hA⟩) | (refine ow_pick rfl rfl rfl ?_; exact ⟨pe, hA⟩)
  case' k3_38 => clear hA; intro w hA; refine rn ?_
  refine' rl_v hA ?o3_39 ?k3_39
  case o3_39 => intro w hA; first | (refine ow_move_v rfl ?_; exact ⟨pe, hA⟩)
  case' k3_39 => clear hA; intro w hA; refine rn ?_
  first | refine' rl_T rfl hA ?o3_40 ?k3_40 | refine' rl_Tn rfl hA ?o3_40 ?k3_40
  case o3_40 => intro hg w hA; first | (refine t_fieldAddr opr ?_; exact ⟨pe, hA⟩)
  case' k3_40 => clear hA; intro w hA; refine rn ?_
  first | refine' rl_T rfl hA ?o3_41 ?k3_41 | refine' rl_Tn rfl hA ?o3_41 ?k3_41
  case o3_41 => intro hg w hA; first | (refine t_loadx opr hA ?_; exact ⟨pe, hA⟩) | (refine t_loada opr hA ?_; exact ⟨pe, hA⟩)
  case' k3_41 => clear hA; intro w hA; refine rn ?_
  first | refine' rl_T rfl hA ?o3_42 ?k3_42 | refine' rl_Tn rfl hA ?o3_42 ?k3_42
  case o3_42 => intro hg w hA; first | (refine t_fieldAddr opr ?_; exact ⟨pe, hA⟩)
  case' k3_42 => clear hA; intro w hA; refine rn ?_
  first | refine' rl_T rfl hA ?o3_43 ?k3_43 | refine' rl_Tn rfl hA ?o3_43 ?k3_43
  case o3_43 => intro hg w hA; first | (refine t_loadx opr hA ?_; exact ⟨pe, hA⟩) | (refine t_loada opr hA ?_; exact ⟨pe, hA⟩)
  case' k3_43 => clear hA; intro w hA; refine rn ?_
  first | refine' rl_T rfl hA ?o3_44 ?k3_44 | refine' rl_Tn rfl hA ?o3_44 ?k3_44
  case o3_44 => intro hg w hA; first | (refine t_eqTwo opr opr ?_; exact ⟨pe, hA⟩) | (refine ow_eql opr opr ?_; exact ⟨pe, hA⟩) | (refine ow_eqs opr opr ?_; exact ⟨pe, hA⟩) | (refine t_eqlb opr opr ?_; exact ⟨pe, hA⟩)
  case' k3_44 => clear hA; intro w hA; refine rn ?_
  refine' rl_v hA ?o3_45 ?k3_45
  case o3_45 => intro w hA; first | (refine ow_and rfl (by first | rfl) rfl ?_; exact ⟨pe, hA⟩) | (refine ow_pick rfl rfl rfl ?_; exact ⟨pe, hA⟩)
  case' k3_45 => clear hA; intro w hA; refine rn ?_
  refine' rl_v hA ?o3_46 ?k3_46
  case o3_46 => intro w hA; first | (refine ow_move_v rfl ?_; exact ⟨pe, hA⟩)
  case' k3_46 => clear hA; intro w hA; refine rn ?_
  first | refine' rl_T rfl hA ?o3_47 ?k3_47 | refine' rl_Tn rfl hA ?o3_47 ?k3_47
  case o3_47 => intro hg w hA; first | (refine t_fieldAddr opr ?_; exact ⟨pe, hA⟩)
  case' k3_47 => clear hA; intro w hA; refine rn ?_
  first | refine' rl_T rfl hA ?o3_48 ?k3_48 | refine' rl_Tn rfl hA ?o3_48 ?k3_48
  case o3_48 => intro hg w hA; first | (refine t_loadx opr hA ?_; exact ⟨pe, hA⟩) | (refine t_loada opr hA ?_; exact ⟨pe, hA⟩)
  case' k3_48 => clear hA; intro w hA; refine rn ?_
  first | refine' rl_T rfl hA ?o3_49 ?k3_49 | refine' rl_Tn rfl hA ?o3_49 ?k3_49
  case o3_49 => intro hg w hA; first | (refine t_fieldAddr opr ?_; exact ⟨pe, hA⟩)
  case' k3_49 => clear hA; intro w hA; refine rn ?_
  first | refine' rl_T rfl hA ?o3_50 ?k3_50 | refine' rl_Tn rfl hA ?o3_50 ?k3_50
  case o3_50 => intro hg w hA; first | (refine t_loadx opr hA ?_; exact ⟨pe, hA⟩) | (refine t_loada opr hA ?_; exact ⟨pe, hA⟩)
  case' k3_50 => clear hA; intro w hA; refine rn ?_
  first | refine' rl_T rfl hA ?o3_51 ?k3_51 | refine' rl_Tn rfl hA ?o3_51 ?k3_51
  case o3_51 => intro hg w hA; first | (refine t_eqTwo opr opr ?_; exact ⟨pe, hA⟩) | (refine ow_eql opr opr ?_; exact ⟨pe, hA⟩) | (refine ow_eqs opr opr ?_; exact ⟨pe, hA⟩) | (refine t_eqlb opr opr ?_; exact ⟨pe, hA⟩)
  case' k3_51 => clear hA; intro w hA; refine rn ?_
  refine' rl_v hA ?o3_52 ?k3_52
  case o3_52 => intro w hA; first | (refine ow_and rfl (by first | rfl) rfl ?_; exact ⟨pe, hA⟩) | (refine ow_pick rfl rfl rfl ?_; exact ⟨pe, hA⟩)
  case' k3_52 => clear hA; intro w hA; refine rn ?_
  refine' rl_v hA ?o3_53 ?k3_53
  case o3_53 => intro w hA; first | (refine ow_assign_v rfl ?_; exact ⟨pe, hA⟩)
  case' k3_53 => clear hA; intro w hA; refine rn ?_
  refine rl_nil ?_
  repeat' (first | ((refine g_wc ?_; first | (refine wc_seq ?_) | (refine wc_region ?_) | (refine wc_block ?_) | (refine wc_true rfl ?_) | (refine wc_false rfl ?_) | (refine wc_pt rfl (by omega) ?_) | (refine wc_pf rfl (by omega) ?_) | (refine wc_nt rfl (by omega) ?_) | (refine wc_nf rfl (by omega) ?_) | (refine wc_pp rfl (fun h => ?_) (fun h => ?_)) | (refine wc_nn rfl (fun h => ?_) (fun h => ?_)) | (refine wc_skip ?_) | (refine wc_exit ?_) | (refine wc_ret ?_))) | (refine g_rl ?_; first | (first | (refine rl_op ?_) | (refine rl_nil ?_) | (refine rl_on rfl ?_) | (refine rl_pt rfl (by omega) ?_) | (refine rl_qt rfl (by omega) ?_) | (refine rl_nt rfl (by omega) ?_) | (refine rl_mt rfl (by omega) ?_)) | ((first | (refine rl_off rfl rfl ?_) | (refine rl_undef rfl ?_) | (refine rl_pf rfl (by omega) ?_) | (refine rl_qf rfl (by omega) ?_) | (refine rl_nf rfl (by omega) ?_) | (refine rl_mf rfl (by omega) ?_)); refine rn ?_) | (first | (refine rl_pp rfl (fun h => o_n ?_) (fun h => rn ?_)) | (refine rl_qq rfl (fun h => o_n ?_) (fun h => rn ?_)) | (refine rl_nn rfl (fun h => o_n ?_) (fun h => rn ?_)) | (refine rl_mm rfl (fun h => o_n ?_) (fun h => rn ?_)))) | ((refine g_bin ?_; refine p_b ?_); refine rn ?_) | (refine g_call ?_; first | ((first | (refine p_l ?_)); refine rn ?_) | ((first | (refine t_appx rfl rfl hA rfl ?_)); clear hA; (try clear w); intro v w hA hone hnil; refine h_n hA ?_; clear hA; intro hA; refine rn ?_)) | ((refine g_conv ?_; first | (refine p_c hA ?_)); refine rn ?_) | ((refine g_load ?_; first | (refine t_loadx rfl hA ?_) | (refine t_loada rfl hA ?_)); refine rn ?_) | (refine g_store ?_; first | ((first | (refine t_storex rfl rfl hA ?_)); clear hA; (try clear w); intro w hA; refine h_n hA ?_; clear hA; intro hA; refine rn ?_) | ((first | (refine t_storea rfl rfl hA ?_)); clear hA; (try clear w); intro w hA; (try simp only [List.drop_zero, List.drop_nil, List.drop_succ_cons, List.take_succ_cons, List.take_zero, List.length_cons, List.length_nil, Nat.zero_add, Nat.reduceAdd] at hA); refine h_n hA ?_; clear hA; intro hA; refine rn ?_)) | (refine g_ow ?_; first | ((first | (refine p_o ?_)); refine rn ?_) | ((first | (refine t_alloc hA ?_) | (refine ow_box rfl rfl hA ?_) | (refine t_buildSlice rfl (by decide) rfl hA ?_)); clear hA; (try clear w); intro b w hA; refine h_n hA ?_; clear hA; intro hA; refine rn ?_) | ((first | (refine t_make rfl rfl (by omega) (by omega) hA ?_)); clear hA; (try clear w); intro v w hA hone hnil; refine rn ?_)) | (refine tq_normal ?_) | (refine bq_normal ?_) | (refine bq_hit ?_) | (refine bq_miss (by decide) ?_) | (refine tq_exit ?_) | (refine lq_exit ?_) | (refine tq_ret ?_) | (refine bq_ret ?_) | (refine lq_ret ?_))
  refine ret1 (hA.dropN 2 : Sat E L w) rfl ?_
  simp only [List.getD_cons_succ, List.getD_cons_zero, head_eq x y, Bool.decide_and, Bool.and_assoc]
  congr 1
  generalize decide (x.first = y.first) = a1; generalize decide (x.intra = y.intra) = a2; generalize decide (x.whole = y.whole) = a3; generalize decide (x.pps = y.pps) = a4; generalize decide (x.frame = y.frame) = a5; generalize decide (x.idr = y.idr) = a6; generalize decide (x.poc = y.poc) = a7; generalize decide (x.over = y.over) = a8; generalize decide (x.refs = y.refs) = a9; generalize decide (x.listed = y.listed) = a10; generalize decide (x.mods = y.mods) = a11; generalize decide (x.fl0 = y.fl0) = a12; generalize decide (x.fl1 = y.fl1) = a13; generalize decide (x.adapted = y.adapted) = a14; generalize decide (x.marks = y.marks) = a15
  ac_rfl
end Go.Proofs.YteeeabnfgpolgaaDoor
