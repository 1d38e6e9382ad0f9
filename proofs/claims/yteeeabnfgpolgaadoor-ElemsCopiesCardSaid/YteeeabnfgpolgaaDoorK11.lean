/-
  spindlekit.EqualSlice, EqualNode, walked.
-/
import Derived.Test.YteeeabnfgpolgaaDoorK7
set_option linter.unusedVariables false
set_option linter.unusedSimpArgs false
namespace Go.Proofs.YteeeabnfgpolgaaDoor
open Go Go.RowKit
attribute [local irreducible] WC RL OW bodyPostM ThenQ BlockQ LoopQ
set_option maxHeartbeats 4000000 in
theorem equalSlice_calls (x y : Slc) (m k u m' k' u' : Value) (E : Env) (L : List Item) (w : World) (hA : Sat E L w) (hx : SliceL E x m k u) (hy : SliceL E y m' k' u') :
    Calls Tryd.prog 91 ⟨[.agg ⟨sliceC x m k u⟩, .agg ⟨sliceC y m' k' u'⟩]⟩ w (Ret E L (.bool (decide (x = y)))) := by
  refine enter (fn := Tryd.f91) Tryd.func91 rfl 31 rfl [.agg ⟨sliceC x m k u⟩, .agg ⟨sliceC y m' k' u'⟩, undef, undef, undef, undef, undef, undef, undef, undef, undef, undef, undef, undef, undef, undef, undef, undef, undef, undef, undef, undef, undef, undef, undef, undef, undef, undef, undef, undef, undef] rfl ?_
  repeat' (first | ((refine g_wc ?_; first | (refine wc_seq ?_) | (refine wc_regionS 1 rfl ?_; refine wc_region ?_) | (refine wc_block ?_) | (refine wc_true rfl ?_) | (refine wc_false rfl ?_) | (refine wc_pt rfl (by omega) ?_) | (refine wc_pf rfl (by omega) ?_) | (refine wc_nt rfl (by omega) ?_) | (refine wc_nf rfl (by omega) ?_) | (refine wc_pp rfl (fun h => ?_) (fun h => ?_)) | (refine wc_nn rfl (fun h => ?_) (fun h => ?_)) | (refine wc_skip ?_) | (refine wc_exit ?_) | (refine wc_ret ?_))) | (refine g_rl ?_; first | (first | (refine rl_op ?_) | (refine rl_nil ?_) | (refine rl_on rfl ?_) | (refine rl_pt rfl (by omega) ?_) | (refine rl_qt rfl (by omega) ?_) | (refine rl_nt rfl (by omega) ?_) | (refine rl_mt rfl (by omega) ?_)) | ((first | (refine rl_off rfl rfl ?_) | (refine rl_undef rfl ?_) | (refine rl_pf rfl (by omega) ?_) | (refine rl_qf rfl (by omega) ?_) | (refine rl_nf rfl (by omega) ?_) | (refine rl_mf rfl (by omega) ?_)); refine rn ?_) | (first | (refine rl_pp rfl (fun h => o_n ?_) (fun h => rn ?_)) | (refine rl_qq rfl (fun h => o_n ?_) (fun h => rn ?_)) | (refine rl_nn rfl (fun h => o_n ?_) (fun h => rn ?_)) | (refine rl_mm rfl (fun h => o_n ?_) (fun h => rn ?_)))) | ((refine g_bin ?_; refine p_b ?_); refine rn ?_) | (refine g_call ?_; first | ((first | (refine p_l ?_)); refine rn ?_) | ((first | (refine t_appx rfl rfl hA rfl ?_)); clear hA; (try clear w); intro v w hA hone hnil; refine h_n hA ?_; clear hA; intro hA; refine rn ?_)) | ((refine g_conv ?_; first | (refine p_c hA ?_)); refine rn ?_) | ((refine g_load ?_; first | (refine t_loadx rfl hA ?_) | (refine t_loada rfl hA ?_)); refine rn ?_) | (refine g_store ?_; first | ((first | (refine t_storex rfl rfl hA ?_)); clear hA; (try clear w); intro w hA; refine h_n hA ?_; clear hA; intro hA; refine rn ?_) | ((first | (refine t_storea rfl rfl hA ?_)); clear hA; (try clear w); intro w hA; (try simp only [List.drop_zero, List.drop_nil, List.drop_succ_cons, List.take_succ_cons, List.take_zero, List.length_cons, List.length_nil, Nat.zero_add, Nat.reduceAdd] at hA); refine h_n hA ?_; clear hA; intro hA; refine rn ?_)) | (refine g_ow ?_; first | ((first | (refine p_o ?_)); refine rn ?_) | ((first | (refine t_alloc hA ?_) | (refine ow_box rfl rfl hA ?_) | (refine t_buildSlice rfl (by decide) rfl hA ?_)); clear hA; (try clear w); intro b w hA; refine h_n hA ?_; clear hA; intro hA; refine rn ?_) | ((first | (refine t_make rfl rfl (by omega) (by omega) hA ?_)); clear hA; (try clear w); intro v w hA hone hnil; refine rn ?_)) | (refine tq_normal ?_) | (refine bq_normal ?_) | (refine bq_hit ?_) | (refine bq_miss (by decide) ?_) | (refine tq_exit ?_) | (refine lq_exit ?_) | (refine tq_ret ?_) | (refine bq_ret ?_) | (refine lq_ret ?_))
  refine wc_region ?_
  refine' rl_v hA ?o1_0 ?k1_0
  case o1_0 => intro w hA; first | (refine t_fieldAddr rfl ?_; exact ⟨pe, hA⟩)
  case' k1_0 => clear hA; intro w hA; refine rn ?_
  refine' rl_v hA ?o1_1 ?k1_1
  case o1_1 => intro w hA; first | (refine t_loadx rfl hA ?_; exact ⟨pe, hA⟩) | (refine t_loada rfl hA ?_; exact ⟨pe, hA⟩)
  case' k1_1 => clear hA; intro w hA; refine rn ?_
  refine' rl_v hA ?o1_2 ?k1_2
  case o1_2 => intro w hA; first | (refine t_fieldAddr rfl ?_; exact ⟨pe, hA⟩)
  case' k1_2 => clear hA; intro w hA; refine rn ?_
  refine' rl_v hA ?o1_3 ?k1_3
  case o1_3 => intro w hA; first | (refine t_loadx rfl hA ?_; exact ⟨pe, hA⟩) | (refine t_loada rfl hA ?_; exact ⟨pe, hA⟩)
  case' k1_3 => clear hA; intro w hA; refine rn ?_
  refine' rl_v hA ?o1_4 ?k1_4
  case o1_4 => intro w hA; first | (refine ow_eql rfl rfl ?_; exact ⟨pe, hA⟩) | (refine ow_eqs rfl rfl ?_; exact ⟨pe, hA⟩) | (refine t_eqlb rfl rfl ?_; exact ⟨pe, hA⟩)
  case' k1_4 => clear hA; intro w hA; refine rn ?_
  refine' rl_v hA ?o1_5 ?k1_5
  case o1_5 => intro w hA; first | (refine ow_move_v rfl ?_; exact ⟨pe, hA⟩)
  case' k1_5 => clear hA; intro w hA; refine rn ?_
  first | refine' rl_T rfl hA ?o1_6 ?k1_6 | refine' rl_Tn rfl hA ?o1_6 ?k1_6
  case o1_6 => intro hg w hA; first | (refine t_fieldAddr opr ?_; exact ⟨pe, hA⟩)
  case' k1_6 => clear hA; intro w hA; refine rn ?_
  first | refine' rl_T rfl hA ?o1_7 ?k1_7 | refine' rl_Tn rfl hA ?o1_7 ?k1_7
  case o1_7 => intro hg w hA; first | (refine t_loadx opr hA ?_; exact ⟨pe, hA⟩) | (refine t_loada opr hA ?_; exact ⟨pe, hA⟩)
  case' k1_7 => clear hA; intro w hA; refine rn ?_
  first | refine' rl_T rfl hA ?o1_8 ?k1_8 | refine' rl_Tn rfl hA ?o1_8 ?k1_8
  case o1_8 => intro hg w hA; first | (refine t_fieldAddr opr ?_; exact ⟨pe, hA⟩)
  case' k1_8 => clear hA; intro w hA; refine rn ?_
  first | refine' rl_T rfl hA ?o1_9 ?k1_9 | refine' rl_Tn rfl hA ?o1_9 ?k1_9
  case o1_9 => intro hg w hA; first | (refine t_loadx opr hA ?_; exact ⟨pe, hA⟩) | (refine t_loada opr hA ?_; exact ⟨pe, hA⟩)
  case' k1_9 => clear hA; intro w hA; refine rn ?_
  first | refine' rl_T rfl hA ?o1_10 ?k1_10 | refine' rl_Tn rfl hA ?o1_10 ?k1_10
  case o1_10 => intro hg w hA; first | (refine ow_eql opr opr ?_; exact ⟨pe, hA⟩) | (refine ow_eqs opr opr ?_; exact ⟨pe, hA⟩) | (refine t_eqlb opr opr ?_; exact ⟨pe, hA⟩)
  case' k1_10 => clear hA; intro w hA; refine rn ?_
  refine' rl_v hA ?o1_11 ?k1_11
  case o1_11 => intro w hA; first | (refine ow_and rfl (by first | rfl) rfl ?_; exact ⟨pe, hA⟩) | (refine ow_pick rfl rfl rfl ?_; exact ⟨pe, hA⟩)
  case' k1_11 => clear hA; intro w hA; refine rn ?_
  refine' rl_v hA ?o1_12 ?k1_12
  case o1_12 => intro w hA; first | (refine ow_move_v rfl ?_; exact ⟨pe, hA⟩)
  case' k1_12 => clear hA; intro w hA; refine rn ?_
  first | refine' rl_T rfl hA ?o1_13 ?k1_13 | refine' rl_Tn rfl hA ?o1_13 ?k1_13
  case o1_13 => intro hg w hA; first | (refine t_fieldAddr opr ?_; exact ⟨pe, hA⟩)
  case' k1_13 => clear hA; intro w hA; refine rn ?_
  first | refine' rl_T rfl hA ?o1_14 ?k1_14 | refine' rl_Tn rfl hA ?o1_14 ?k1_14
  case o1_14 => intro hg w hA; first | (refine t_loadx opr hA ?_; exact ⟨pe, hA⟩) | (refine t_loada opr hA ?_; exact ⟨pe, hA⟩)
  case' k1_14 => clear hA; intro w hA; refine rn ?_
  first | refine' rl_T rfl hA ?o1_15 ?k1_15 | refine' rl_Tn rfl hA ?o1_15 ?k1_15
  case o1_15 => intro hg w hA; first | (refine t_fieldAddr opr ?_; exact ⟨pe, hA⟩)
  case' k1_15 => clear hA; intro w hA; refine rn ?_
  first | refine' rl_T rfl hA ?o1_16 ?k1_16 | refine' rl_Tn rfl hA ?o1_16 ?k1_16
  case o1_16 => intro hg w hA; first | (refine t_loadx opr hA ?_; exact ⟨pe, hA⟩) | (refine t_loada opr hA ?_; exact ⟨pe, hA⟩)
  case' k1_16 => clear hA; intro w hA; refine rn ?_
  first | refine' rl_T rfl hA ?o1_17 ?k1_17 | refine' rl_Tn rfl hA ?o1_17 ?k1_17
  case o1_17 => intro hg w hA; first | (refine ow_call Tryd.call103 (evs2 opr opr) ((equalHeader_calls x.head y.head m k m' k' _ _ _ hA hx.head hy.head).mono ?_); clear hA; rintro e w ⟨rfl, hA⟩; refine ⟨_, rfl, ?_⟩; exact ⟨put_eq (by rfl), hA⟩)
  case' k1_17 => clear hA; intro w hA; refine rn ?_
  refine' rl_v hA ?o1_18 ?k1_18
  case o1_18 => intro w hA; first | (refine ow_and rfl (by first | rfl) rfl ?_; exact ⟨pe, hA⟩) | (refine ow_pick rfl rfl rfl ?_; exact ⟨pe, hA⟩)
  case' k1_18 => clear hA; intro w hA; refine rn ?_
  refine' rl_v hA ?o1_19 ?k1_19
  case o1_19 => intro w hA; first | (refine ow_move_v rfl ?_; exact ⟨pe, hA⟩)
  case' k1_19 => clear hA; intro w hA; refine rn ?_
  first | refine' rl_T rfl hA ?o1_20 ?k1_20 | refine' rl_Tn rfl hA ?o1_20 ?k1_20
  case o1_20 => intro hg w hA; first | (refine t_fieldAddr opr ?_; exact ⟨pe, hA⟩)
  case' k1_20 => clear hA; intro w hA; refine rn ?_
  first | refine' rl_T rfl hA ?o1_21 ?k1_21 | refine' rl_Tn rfl hA ?o1_21 ?k1_21
  case o1_21 => intro hg w hA; first | (refine t_loadx opr hA ?_; exact ⟨pe, hA⟩) | (refine t_loada opr hA ?_; exact ⟨pe, hA⟩)
  case' k1_21 => clear hA; intro w hA; refine rn ?_
  first | refine' rl_T rfl hA ?o1_22 ?k1_22 | refine' rl_Tn rfl hA ?o1_22 ?k1_22
  case o1_22 => intro hg w hA; first | (refine t_fieldAddr opr ?_; exact ⟨pe, hA⟩)
  case' k1_22 => clear hA; intro w hA; refine rn ?_
  first | refine' rl_T rfl hA ?o1_23 ?k1_23 | refine' rl_Tn rfl hA ?o1_23 ?k1_23
  case o1_23 => intro hg w hA; first | (refine t_loadx opr hA ?_; exact ⟨pe, hA⟩) | (refine t_loada opr hA ?_; exact ⟨pe, hA⟩)
  case' k1_23 => clear hA; intro w hA; refine rn ?_
  first | refine' rl_T rfl hA ?o1_24 ?k1_24 | refine' rl_Tn rfl hA ?o1_24 ?k1_24
  case o1_24 => intro hg w hA; first | (refine ow_call Tryd.call104 (evs2 opr opr) ((equalMbs_calls _ _ _ _ _ _ _ hA hx.mbs hy.mbs).mono ?_); clear hA; rintro e w ⟨rfl, hA⟩; refine ⟨_, rfl, ?_⟩; exact ⟨put_eq (by rfl), hA⟩)
  case' k1_24 => clear hA; intro w hA; refine rn ?_
  refine' rl_v hA ?o1_25 ?k1_25
  case o1_25 => intro w hA; first | (refine ow_and rfl (by first | rfl) rfl ?_; exact ⟨pe, hA⟩) | (refine ow_pick rfl rfl rfl ?_; exact ⟨pe, hA⟩)
  case' k1_25 => clear hA; intro w hA; refine rn ?_
  refine' rl_v hA ?o1_26 ?k1_26
  case o1_26 => intro w hA; first | (refine ow_assign_v rfl ?_; exact ⟨pe, hA⟩)
  case' k1_26 => clear hA; intro w hA; refine rn ?_
  refine rl_nil ?_
  repeat' (first | ((refine g_wc ?_; first | (refine wc_seq ?_) | (refine wc_region ?_) | (refine wc_block ?_) | (refine wc_true rfl ?_) | (refine wc_false rfl ?_) | (refine wc_pt rfl (by omega) ?_) | (refine wc_pf rfl (by omega) ?_) | (refine wc_nt rfl (by omega) ?_) | (refine wc_nf rfl (by omega) ?_) | (refine wc_pp rfl (fun h => ?_) (fun h => ?_)) | (refine wc_nn rfl (fun h => ?_) (fun h => ?_)) | (refine wc_skip ?_) | (refine wc_exit ?_) | (refine wc_ret ?_))) | (refine g_rl ?_; first | (first | (refine rl_op ?_) | (refine rl_nil ?_) | (refine rl_on rfl ?_) | (refine rl_pt rfl (by omega) ?_) | (refine rl_qt rfl (by omega) ?_) | (refine rl_nt rfl (by omega) ?_) | (refine rl_mt rfl (by omega) ?_)) | ((first | (refine rl_off rfl rfl ?_) | (refine rl_undef rfl ?_) | (refine rl_pf rfl (by omega) ?_) | (refine rl_qf rfl (by omega) ?_) | (refine rl_nf rfl (by omega) ?_) | (refine rl_mf rfl (by omega) ?_)); refine rn ?_) | (first | (refine rl_pp rfl (fun h => o_n ?_) (fun h => rn ?_)) | (refine rl_qq rfl (fun h => o_n ?_) (fun h => rn ?_)) | (refine rl_nn rfl (fun h => o_n ?_) (fun h => rn ?_)) | (refine rl_mm rfl (fun h => o_n ?_) (fun h => rn ?_)))) | ((refine g_bin ?_; refine p_b ?_); refine rn ?_) | (refine g_call ?_; first | ((first | (refine p_l ?_)); refine rn ?_) | ((first | (refine t_appx rfl rfl hA rfl ?_)); clear hA; (try clear w); intro v w hA hone hnil; refine h_n hA ?_; clear hA; intro hA; refine rn ?_)) | ((refine g_conv ?_; first | (refine p_c hA ?_)); refine rn ?_) | ((refine g_load ?_; first | (refine t_loadx rfl hA ?_) | (refine t_loada rfl hA ?_)); refine rn ?_) | (refine g_store ?_; first | ((first | (refine t_storex rfl rfl hA ?_)); clear hA; (try clear w); intro w hA; refine h_n hA ?_; clear hA; intro hA; refine rn ?_) | ((first | (refine t_storea rfl rfl hA ?_)); clear hA; (try clear w); intro w hA; (try simp only [List.drop_zero, List.drop_nil, List.drop_succ_cons, List.take_succ_cons, List.take_zero, List.length_cons, List.length_nil, Nat.zero_add, Nat.reduceAdd] at hA); refine h_n hA ?_; clear hA; intro hA; refine rn ?_)) | (refine g_ow ?_; first | ((first | (refine p_o ?_)); refine rn ?_) | ((first | (refine t_alloc hA ?_) | (refine ow_box rfl rfl hA ?_) | (refine t_buildSlice rfl (by decide) rfl hA ?_)); clear hA; (try clear w); intro b w hA; refine h_n hA ?_; clear hA; intro hA; refine rn ?_) | ((first | (refine t_make rfl rfl (by omega) (by omega) hA ?_)); clear hA; (try clear w); intro v w hA hone hnil; refine rn ?_)) | (refine tq_normal ?_) | (refine bq_normal ?_) | (refine bq_hit ?_) | (refine bq_miss (by decide) ?_) | (refine tq_exit ?_) | (refine lq_exit ?_) | (refine tq_ret ?_) | (refine bq_ret ?_) | (refine lq_ret ?_))
  refine ret1 (hA.dropN 2 : Sat E L w) rfl ?_
  simp only [List.getD_cons_succ, List.getD_cons_zero, slice_eq x y, u8_inj, Bool.decide_and, Bool.and_assoc]
set_option maxHeartbeats 4000000 in
theorem equalNode_calls (x y : Node) (m k u m' k' u' : Value) (E : Env) (L : List Item) (w : World) (hA : Sat E L w) (hx : NodeL E x m k u) (hy : NodeL E y m' k' u') :
    Calls Tryd.prog 44 ⟨[.agg ⟨nodeC x m k u⟩, .agg ⟨nodeC y m' k' u'⟩]⟩ w (Ret E L (.bool (decide (x = y)))) := by
  refine enter (fn := Tryd.f44) Tryd.func44 rfl 45 rfl [.agg ⟨nodeC x m k u⟩, .agg ⟨nodeC y m' k' u'⟩, undef, undef, undef, undef, undef, undef, undef, undef, undef, undef, undef, undef, undef, undef, undef, undef, undef, undef, undef, undef, undef, undef, undef, undef, undef, undef, undef, undef, undef, undef, undef, undef, undef, undef, undef, undef, undef, undef, undef, undef, undef, undef, undef] rfl ?_
  repeat' (first | ((refine g_wc ?_; first | (refine wc_seq ?_) | (refine wc_regionS 1 rfl ?_; refine wc_region ?_) | (refine wc_block ?_) | (refine wc_true rfl ?_) | (refine wc_false rfl ?_) | (refine wc_pt rfl (by omega) ?_) | (refine wc_pf rfl (by omega) ?_) | (refine wc_nt rfl (by omega) ?_) | (refine wc_nf rfl (by omega) ?_) | (refine wc_pp rfl (fun h => ?_) (fun h => ?_)) | (refine wc_nn rfl (fun h => ?_) (fun h => ?_)) | (refine wc_skip ?_) | (refine wc_exit ?_) | (refine wc_ret ?_))) | (refine g_rl ?_; first | (first | (refine rl_op ?_) | (refine rl_nil ?_) | (refine rl_on rfl ?_) | (refine rl_pt rfl (by omega) ?_) | (refine rl_qt rfl (by omega) ?_) | (refine rl_nt rfl (by omega) ?_) | (refine rl_mt rfl (by omega) ?_)) | ((first | (refine rl_off rfl rfl ?_) | (refine rl_undef rfl ?_) | (refine rl_pf rfl (by omega) ?_) | (refine rl_qf rfl (by omega) ?_) | (refine rl_nf rfl (by omega) ?_) | (refine rl_mf rfl (by omega) ?_)); refine rn ?_) | (first | (refine rl_pp rfl (fun h => o_n ?_) (fun h => rn ?_)) | (refine rl_qq rfl (fun h => o_n ?_) (fun h => rn ?_)) | (refine rl_nn rfl (fun h => o_n ?_) (fun h => rn ?_)) | (refine rl_mm rfl (fun h => o_n ?_) (fun h => rn ?_)))) | ((refine g_bin ?_; refine p_b ?_); refine rn ?_) | (refine g_call ?_; first | ((first | (refine p_l ?_)); refine rn ?_) | ((first | (refine t_appx rfl rfl hA rfl ?_)); clear hA; (try clear w); intro v w hA hone hnil; refine h_n hA ?_; clear hA; intro hA; refine rn ?_)) | ((refine g_conv ?_; first | (refine p_c hA ?_)); refine rn ?_) | ((refine g_load ?_; first | (refine t_loadx rfl hA ?_) | (refine t_loada rfl hA ?_)); refine rn ?_) | (refine g_store ?_; first | ((first | (refine t_storex rfl rfl hA ?_)); clear hA; (try clear w); intro w hA; refine h_n hA ?_; clear hA; intro hA; refine rn ?_) | ((first | (refine t_storea rfl rfl hA ?_)); clear hA; (try clear w); intro w hA; (try simp only [List.drop_zero, List.drop_nil, List.drop_succ_cons, List.take_succ_cons, List.take_zero, List.length_cons, List.length_nil, Nat.zero_add, Nat.reduceAdd] at hA); refine h_n hA ?_; clear hA; intro hA; refine rn ?_)) | (refine g_ow ?_; first | ((first | (refine p_o ?_)); refine rn ?_) | ((first | (refine t_alloc hA ?_) | (refine ow_box rfl rfl hA ?_) | (refine t_buildSlice rfl (by decide) rfl hA ?_)); clear hA; (try clear w); intro b w hA; refine h_n hA ?_; clear hA; intro hA; refine rn ?_) | ((first | (refine t_make rfl rfl (by omega) (by omega) hA ?_)); clear hA; (try clear w); intro v w hA hone hnil; refine rn ?_)) | (refine tq_normal ?_) | (refine bq_normal ?_) | (refine bq_hit ?_) | (refine bq_miss (by decide) ?_) | (refine tq_exit ?_) | (refine lq_exit ?_) | (refine tq_ret ?_) | (refine bq_ret ?_) | (refine lq_ret ?_))
  refine wc_region ?_
  refine' rl_v hA ?o1_0 ?k1_0
  case o1_0 => intro w hA; first | (refine t_fieldAddr rfl ?_; exact ⟨pe, hA⟩)
  case' k1_0 => clear hA; intro w hA; refine rn ?_
  refine' rl_v hA ?o1_1 ?k1_1
  case o1_1 => intro w hA; first | (refine t_loadx rfl hA ?_; exact ⟨pe, hA⟩) | (refine t_loada rfl hA ?_; exact ⟨pe, hA⟩)
  case' k1_1 => clear hA; intro w hA; refine rn ?_
  refine' rl_v hA ?o1_2 ?k1_2
  case o1_2 => intro w hA; first | (refine t_fieldAddr rfl ?_; exact ⟨pe, hA⟩)
  case' k1_2 => clear hA; intro w hA; refine rn ?_
  refine' rl_v hA ?o1_3 ?k1_3
  case o1_3 => intro w hA; first | (refine t_loadx rfl hA ?_; exact ⟨pe, hA⟩) | (refine t_loada rfl hA ?_; exact ⟨pe, hA⟩)
  case' k1_3 => clear hA; intro w hA; refine rn ?_
  refine' rl_v hA ?o1_4 ?k1_4
  case o1_4 => intro w hA; first | (refine t_eqSps (x := x.sps) (y := y.sps) rfl rfl hx.sps hy.sps ?_; exact ⟨pe, hA⟩) | (refine t_eqPps (x := x.pps) (y := y.pps) rfl rfl hx.pps hy.pps ?_; exact ⟨pe, hA⟩) | (refine t_eqNal (x := x.other) (y := y.other) rfl rfl hx.other hy.other ?_; exact ⟨pe, hA⟩) | (refine ow_eql rfl rfl ?_; exact ⟨pe, hA⟩) | (refine ow_eqs rfl rfl ?_; exact ⟨pe, hA⟩) | (refine t_eqlb rfl rfl ?_; exact ⟨pe, hA⟩)
  case' k1_4 => clear hA; intro w hA; refine rn ?_
  refine' rl_v hA ?o1_5 ?k1_5
  case o1_5 => intro w hA; first | (refine ow_move_v rfl ?_; exact ⟨pe, hA⟩)
  case' k1_5 => clear hA; intro w hA; refine rn ?_
  first | refine' rl_T rfl hA ?o1_6 ?k1_6 | refine' rl_Tn rfl hA ?o1_6 ?k1_6
  case o1_6 => intro hg w hA; first | (refine t_fieldAddr opr ?_; exact ⟨pe, hA⟩)
  case' k1_6 => clear hA; intro w hA; refine rn ?_
  first | refine' rl_T rfl hA ?o1_7 ?k1_7 | refine' rl_Tn rfl hA ?o1_7 ?k1_7
  case o1_7 => intro hg w hA; first | (refine t_loadx opr hA ?_; exact ⟨pe, hA⟩) | (refine t_loada opr hA ?_; exact ⟨pe, hA⟩)
  case' k1_7 => clear hA; intro w hA; refine rn ?_
  first | refine' rl_T rfl hA ?o1_8 ?k1_8 | refine' rl_Tn rfl hA ?o1_8 ?k1_8
  case o1_8 => intro hg w hA; first | (refine t_fieldAddr opr ?_; exact ⟨pe, hA⟩)
  case' k1_8 => clear hA; intro w hA; refine rn ?_
  first | refine' rl_T rfl hA ?o1_9 ?k1_9 | refine' rl_Tn rfl hA ?o1_9 ?k1_9
  case o1_9 => intro hg w hA; first | (refine t_loadx opr hA ?_; exact ⟨pe, hA⟩) | (refine t_loada opr hA ?_; exact ⟨pe, hA⟩)
  case' k1_9 => clear hA; intro w hA; refine rn ?_
  first | refine' rl_T rfl hA ?o1_10 ?k1_10 | refine' rl_Tn rfl hA ?o1_10 ?k1_10
  case o1_10 => intro hg w hA; first | (refine t_eqSps (x := x.sps) (y := y.sps) opr opr hx.sps hy.sps ?_; exact ⟨pe, hA⟩) | (refine t_eqPps (x := x.pps) (y := y.pps) opr opr hx.pps hy.pps ?_; exact ⟨pe, hA⟩) | (refine t_eqNal (x := x.other) (y := y.other) opr opr hx.other hy.other ?_; exact ⟨pe, hA⟩) | (refine ow_eql opr opr ?_; exact ⟨pe, hA⟩) | (refine ow_eqs opr opr ?_; exact ⟨pe, hA⟩) | (refine t_eqlb opr opr ?_; exact ⟨pe, hA⟩)
  case' k1_10 => clear hA; intro w hA; refine rn ?_
  refine' rl_v hA ?o1_11 ?k1_11
  case o1_11 => intro w hA; first | (refine ow_and rfl (by first | rfl) rfl ?_; exact ⟨pe, hA⟩) | (refine ow_pick rfl rfl rfl ?_; exact ⟨pe, hA⟩)
  case' k1_11 => clear hA; intro w hA; refine rn ?_
  refine' rl_v hA ?o1_12 ?k1_12
  case o1_12 => intro w hA; first | (refine ow_move_v rfl ?_; exact ⟨pe, hA⟩)
  case' k1_12 => clear hA; intro w hA; refine rn ?_
  first | refine' rl_T rfl hA ?o1_13 ?k1_13 | refine' rl_Tn rfl hA ?o1_13 ?k1_13
  case o1_13 => intro hg w hA; first | (refine t_fieldAddr opr ?_; exact ⟨pe, hA⟩)
  case' k1_13 => clear hA; intro w hA; refine rn ?_
  first | refine' rl_T rfl hA ?o1_14 ?k1_14 | refine' rl_Tn rfl hA ?o1_14 ?k1_14
  case o1_14 => intro hg w hA; first | (refine t_loadx opr hA ?_; exact ⟨pe, hA⟩) | (refine t_loada opr hA ?_; exact ⟨pe, hA⟩)
  case' k1_14 => clear hA; intro w hA; refine rn ?_
  first | refine' rl_T rfl hA ?o1_15 ?k1_15 | refine' rl_Tn rfl hA ?o1_15 ?k1_15
  case o1_15 => intro hg w hA; first | (refine t_fieldAddr opr ?_; exact ⟨pe, hA⟩)
  case' k1_15 => clear hA; intro w hA; refine rn ?_
  first | refine' rl_T rfl hA ?o1_16 ?k1_16 | refine' rl_Tn rfl hA ?o1_16 ?k1_16
  case o1_16 => intro hg w hA; first | (refine t_loadx opr hA ?_; exact ⟨pe, hA⟩) | (refine t_loada opr hA ?_; exact ⟨pe, hA⟩)
  case' k1_16 => clear hA; intro w hA; refine rn ?_
  first | refine' rl_T rfl hA ?o1_17 ?k1_17 | refine' rl_Tn rfl hA ?o1_17 ?k1_17
  case o1_17 => intro hg w hA; first | (refine t_eqSps (x := x.sps) (y := y.sps) opr opr hx.sps hy.sps ?_; exact ⟨pe, hA⟩) | (refine t_eqPps (x := x.pps) (y := y.pps) opr opr hx.pps hy.pps ?_; exact ⟨pe, hA⟩) | (refine t_eqNal (x := x.other) (y := y.other) opr opr hx.other hy.other ?_; exact ⟨pe, hA⟩) | (refine ow_eql opr opr ?_; exact ⟨pe, hA⟩) | (refine ow_eqs opr opr ?_; exact ⟨pe, hA⟩) | (refine t_eqlb opr opr ?_; exact ⟨pe, hA⟩)
  case' k1_17 => clear hA; intro w hA; refine rn ?_
  refine' rl_v hA ?o1_18 ?k1_18
  case o1_18 => intro w hA; first | (refine ow_and rfl (by first | rfl) rfl ?_; exact ⟨pe, hA⟩) | (refine ow_pick rfl rfl rfl ?_; exact ⟨pe, hA⟩)
  case' k1_18 => clear hA; intro w hA; refine rn ?_
  refine' rl_v hA ?o1_19 ?k1_19
  case o1_19 => intro w hA; first | (refine ow_move_v rfl ?_; exact ⟨pe, hA⟩)
  case' k1_19 => clear hA; intro w hA; refine rn ?_
  first | refine' rl_T rfl hA ?o1_20 ?k1_20 | refine' rl_Tn rfl hA ?o1_20 ?k1_20
  case o1_20 => intro hg w hA; first | (refine t_fieldAddr opr ?_; exact ⟨pe, hA⟩)
  case' k1_20 => clear hA; intro w hA; refine rn ?_
  first | refine' rl_T rfl hA ?o1_21 ?k1_21 | refine' rl_Tn rfl hA ?o1_21 ?k1_21
  case o1_21 => intro hg w hA; first | (refine t_loadx opr hA ?_; exact ⟨pe, hA⟩) | (refine t_loada opr hA ?_; exact ⟨pe, hA⟩)
  case' k1_21 => clear hA; intro w hA; refine rn ?_
  first | refine' rl_T rfl hA ?o1_22 ?k1_22 | refine' rl_Tn rfl hA ?o1_22 ?k1_22
  case o1_22 => intro hg w hA; first | (refine t_fieldAddr opr ?_; exact ⟨pe, hA⟩)
  case' k1_22 => clear hA; intro w hA; refine rn ?_
  first | refine' rl_T rfl hA ?o1_23 ?k1_23 | refine' rl_Tn rfl hA ?o1_23 ?k1_23
  case o1_23 => intro hg w hA; first | (refine t_loadx opr hA ?_; exact ⟨pe, hA⟩) | (refine t_loada opr hA ?_; exact ⟨pe, hA⟩)
  case' k1_23 => clear hA; intro w hA; refine rn ?_
  first | refine' rl_T rfl hA ?o1_24 ?k1_24 | refine' rl_Tn rfl hA ?o1_24 ?k1_24
  case o1_24 => intro hg w hA; first | (refine t_eqSps (x := x.sps) (y := y.sps) opr opr hx.sps hy.sps ?_; exact ⟨pe, hA⟩) | (refine t_eqPps (x := x.pps) (y := y.pps) opr opr hx.pps hy.pps ?_; exact ⟨pe, hA⟩) | (refine t_eqNal (x := x.other) (y := y.other) opr opr hx.other hy.other ?_; exact ⟨pe, hA⟩) | (refine ow_eql opr opr ?_; exact ⟨pe, hA⟩) | (refine ow_eqs opr opr ?_; exact ⟨pe, hA⟩) | (refine t_eqlb opr opr ?_; exact ⟨pe, hA⟩)
  case' k1_24 => clear hA; intro w hA; refine rn ?_
  refine' rl_v hA ?o1_25 ?k1_25
  case o1_25 => intro w hA; first | (refine ow_and rfl (by first | rfl) rfl ?_; exact ⟨pe, hA⟩) | (refine ow_pick rfl rfl rfl ?_; exact ⟨pe, hA⟩)
  case' k1_25 => clear hA; intro w hA; refine rn ?_
  refine' rl_v hA ?o1_26 ?k1_26
  case o1_26 => intro w hA; first | (refine ow_move_v rfl ?_; exact ⟨pe, hA⟩)
  case' k1_26 => clear hA; intro w hA; refine rn ?_
  first | refine' rl_T rfl hA ?o1_27 ?k1_27 | refine' rl_Tn rfl hA ?o1_27 ?k1_27
  case o1_27 => intro hg w hA; first | (refine t_fieldAddr opr ?_; exact ⟨pe, hA⟩)
  case' k1_27 => clear hA; intro w hA; refine rn ?_
  first | refine' rl_T rfl hA ?o1_28 ?k1_28 | refine' rl_Tn rfl hA ?o1_28 ?k1_28
  case o1_28 => intro hg w hA; first | (refine t_loadx opr hA ?_; exact ⟨pe, hA⟩) | (refine t_loada opr hA ?_; exact ⟨pe, hA⟩)
  case' k1_28 => clear hA; intro w hA; refine rn ?_
  first | refine' rl_T rfl hA ?o1_29 ?k1_29 | refine' rl_Tn rfl hA ?o1_29 ?k1_29
  case o1_29 => intro hg w hA; first | (refine t_fieldAddr opr ?_; exact ⟨pe, hA⟩)
  case' k1_29 => clear hA; intro w hA; refine rn ?_
  first | refine' rl_T rfl hA ?o1_30 ?k1_30 | refine' rl_Tn rfl hA ?o1_30 ?k1_30
  case o1_30 => intro hg w hA; first | (refine t_loadx opr hA ?_; exact ⟨pe, hA⟩) | (refine t_loada opr hA ?_; exact ⟨pe, hA⟩)
  case' k1_30 => clear hA; intro w hA; refine rn ?_
  first | refine' rl_T rfl hA ?o1_31 ?k1_31 | refine' rl_Tn rfl hA ?o1_31 ?k1_31
  case o1_31 => intro hg w hA; first | (refine ow_call Tryd.call91 (evs2 opr opr) ((equalSlice_calls x.slice y.slice m k u m' k' u' _ _ _ hA hx.slice hy.slice).mono ?_); clear hA; rintro e w ⟨rfl, hA⟩; refine ⟨_, rfl, ?_⟩; exact ⟨put_eq (by rfl), hA⟩)
  case' k1_31 => clear hA; intro w hA; refine rn ?_
  refine' rl_v hA ?o1_32 ?k1_32
  case o1_32 => intro w hA; first | (refine ow_and rfl (by first | rfl) rfl ?_; exact ⟨pe, hA⟩) | (refine ow_pick rfl rfl rfl ?_; exact ⟨pe, hA⟩)
  case' k1_32 => clear hA; intro w hA; refine rn ?_
  refine' rl_v hA ?o1_33 ?k1_33
  case o1_33 => intro w hA; first | (refine ow_move_v rfl ?_; exact ⟨pe, hA⟩)
  case' k1_33 => clear hA; intro w hA; refine rn ?_
  first | refine' rl_T rfl hA ?o1_34 ?k1_34 | refine' rl_Tn rfl hA ?o1_34 ?k1_34
  case o1_34 => intro hg w hA; first | (refine t_fieldAddr opr ?_; exact ⟨pe, hA⟩)
  case' k1_34 => clear hA; intro w hA; refine rn ?_
  first | refine' rl_T rfl hA ?o1_35 ?k1_35 | refine' rl_Tn rfl hA ?o1_35 ?k1_35
  case o1_35 => intro hg w hA; first | (refine t_loadx opr hA ?_; exact ⟨pe, hA⟩) | (refine t_loada opr hA ?_; exact ⟨pe, hA⟩)
  case' k1_35 => clear hA; intro w hA; refine rn ?_
  first | refine' rl_T rfl hA ?o1_36 ?k1_36 | refine' rl_Tn rfl hA ?o1_36 ?k1_36
  case o1_36 => intro hg w hA; first | (refine t_fieldAddr opr ?_; exact ⟨pe, hA⟩)
  case' k1_36 => clear hA; intro w hA; refine rn ?_
  first | refine' rl_T rfl hA ?o1_37 ?k1_37 | refine' rl_Tn rfl hA ?o1_37 ?k1_37
  case o1_37 => intro hg w hA; first | (refine t_loadx opr hA ?_; exact ⟨pe, hA⟩) | (refine t_loada opr hA ?_; exact ⟨pe, hA⟩)
  case' k1_37 => clear hA; intro w hA; refine rn ?_
  first | refine' rl_T rfl hA ?o1_38 ?k1_38 | refine' rl_Tn rfl hA ?o1_38 ?k1_38
  case o1_38 => intro hg w hA; first | (refine t_eqSps (x := x.sps) (y := y.sps) opr opr hx.sps hy.sps ?_; exact ⟨pe, hA⟩) | (refine t_eqPps (x := x.pps) (y := y.pps) opr opr hx.pps hy.pps ?_; exact ⟨pe, hA⟩) | (refine t_eqNal (x := x.other) (y := y.other) opr opr hx.other hy.other ?_; exact ⟨pe, hA⟩) | (refine ow_eql opr opr ?_; exact ⟨pe, hA⟩) | (refine ow_eqs opr opr ?_; exact ⟨pe, hA⟩) | (refine t_eqlb opr opr ?_; exact ⟨pe, hA⟩)
  case' k1_38 => clear hA; intro w hA; refine rn ?_
  refine' rl_v hA ?o1_39 ?k1_39
  case o1_39 => intro w hA; first | (refine ow_and rfl (by first | rfl) rfl ?_; exact ⟨pe, hA⟩) | (refine ow_pick rfl rfl rfl ?_; exact ⟨pe, hA⟩)
  case' k1_39 => clear hA; intro w hA; refine rn ?_
  refine' rl_v hA ?o1_40 ?k1_40
  case o1_40 => intro w hA; first | (refine ow_assign_v rfl ?_; exact ⟨pe, hA⟩)
  case' k1_40 => clear hA; intro w hA; refine rn ?_
  refine rl_nil ?_
  repeat' (first | ((refine g_wc ?_; first | (refine wc_seq ?_) | (refine wc_region ?_) | (refine wc_block ?_) | (refine wc_true rfl ?_) | (refine wc_false rfl ?_) | (refine wc_pt rfl (by omega) ?_) | (refine wc_pf rfl (by omega) ?_) | (refine wc_nt rfl (by omega) ?_) | (refine wc_nf rfl (by omega) ?_) | (refine wc_pp rfl (fun h => ?_) (fun h => ?_)) | (refine wc_nn rfl (fun h => ?_) (fun h => ?_)) | (refine wc_skip ?_) | (refine wc_exit ?_) | (refine wc_ret ?_))) | (refine g_rl ?_; first | (first | (refine rl_op ?_) | (refine rl_nil ?_) | (refine rl_on rfl ?_) | (refine rl_pt rfl (by omega) ?_) | (refine rl_qt rfl (by omega) ?_) | (refine rl_nt rfl (by omega) ?_) | (refine rl_mt rfl (by omega) ?_)) | ((first | (refine rl_off rfl rfl ?_) | (refine rl_undef rfl ?_) | (refine rl_pf rfl (by omega) ?_) | (refine rl_qf rfl (by omega) ?_) | (refine rl_nf rfl (by omega) ?_) | (refine rl_mf rfl (by omega) ?_)); refine rn ?_) | (first | (refine rl_pp rfl (fun h => o_n ?_) (fun h => rn ?_)) | (refine rl_qq rfl (fun h => o_n ?_) (fun h => rn ?_)) | (refine rl_nn rfl (fun h => o_n ?_) (fun h => rn ?_)) | (refine rl_mm rfl (fun h => o_n ?_) (fun h => rn ?_)))) | ((refine g_bin ?_; refine p_b ?_); refine rn ?_) | (refine g_call ?_; first | ((first | (refine p_l ?_)); refine rn ?_) | ((first | (refine t_appx rfl rfl hA rfl ?_)); clear hA; (try clear w); intro v w hA hone hnil; refine h_n hA ?_; clear hA; intro hA; refine rn ?_)) | ((refine g_conv ?_; first | (refine p_c hA ?_)); refine rn ?_) | ((refine g_load ?_; first | (refine t_loadx rfl hA ?_) | (refine t_loada rfl hA ?_)); refine rn ?_) | (refine g_store ?_; first | ((first | (refine t_storex rfl rfl hA ?_)); clear hA; (try clear w); intro w hA; refine h_n hA ?_; clear hA; intro hA; refine rn ?_) | ((first | (refine t_storea rfl rfl hA ?_)); clear hA; (try clear w); intro w hA; (try simp only [List.drop_zero, List.drop_nil, List.drop_succ_cons, List.take_succ_cons, List.take_zero, List.length_cons, List.length_nil, Nat.zero_add, Nat.reduceAdd] at hA); refine h_n hA ?_; clear hA; intro hA; refine rn ?_)) | (refine g_ow ?_; first | ((first | (refine p_o ?_)); refine rn ?_) | ((first | (refine t_alloc hA ?_) | (refine ow_box rfl rfl hA ?_) | (refine t_buildSlice rfl (by decide) rfl hA ?_)); clear hA; (try clear w); intro b w hA; refine h_n hA ?_; clear hA; intro hA; refine rn ?_) | ((first | (refine t_make rfl rfl (by omega) (by omega) hA ?_)); clear hA; (try clear w); intro v w hA hone hnil; refine rn ?_)) | (refine tq_normal ?_) | (refine bq_normal ?_) | (refine bq_hit ?_) | (refine bq_miss (by decide) ?_) | (refine tq_exit ?_) | (refine lq_exit ?_) | (refine tq_ret ?_) | (refine bq_ret ?_) | (refine lq_ret ?_))
  refine ret1 (hA.dropN 2 : Sat E L w) rfl ?_
  simp only [List.getD_cons_succ, List.getD_cons_zero, node_eq x y, u8_inj, Bool.decide_and, Bool.and_assoc]
end Go.Proofs.YteeeabnfgpolgaaDoor
