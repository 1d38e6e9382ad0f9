/-
  spindlekit.EqualMb, walked.
-/
import Derived.Test.YtomfoaaaeidpnaaDoorK2
set_option linter.unusedVariables false
set_option linter.unusedSimpArgs false
namespace Go.Proofs.YtomfoaaaeidpnaaDoor
open Go Go.RowKit
attribute [local irreducible] WC RL OW bodyPostM ThenQ BlockQ LoopQ
theorem mb_eq (m m' : Mb) : (m = m') ↔ (m.kind = m'.kind ∧ m.mode = m'.mode ∧ m.chroma = m'.chroma ∧ m.preds = m'.preds ∧ m.sub = m'.sub ∧ m.refs = m'.refs ∧ m.mvds = m'.mvds ∧ m.cbp = m'.cbp ∧ m.qp = m'.qp ∧ m.blocks = m'.blocks ∧ m.pcm = m'.pcm) := by
  cases m; cases m'; simp
set_option maxHeartbeats 4000000 in
theorem equalMb_calls (m m' : Mb) (r v b r' v' b' : Value) (E : Env) (L : List Item) (w : World) (hA : Sat E L w) (hm : MbL E m r v b) (hm' : MbL E m' r' v' b') :
    Calls Tryd.prog 23 ⟨[.agg ⟨mbC m r v b⟩, .agg ⟨mbC m' r' v' b'⟩]⟩ w (Ret E L (.bool (decide (m = m')))) := by
  refine enter (fn := Tryd.f23) Tryd.func23 rfl 80 rfl [.agg ⟨mbC m r v b⟩, .agg ⟨mbC m' r' v' b'⟩, undef, undef, undef, undef, undef, undef, undef, undef, undef, undef, undef, undef, undef, undef, undef, undef, undef, undef, undef, undef, undef, undef, undef, undef, undef, undef, undef, undef, undef, undef, undef, undef, undef, undef, undef, undef, undef, undef, undef, undef, undef, undef, undef, undef, undef, undef, undef, undef, undef, undef, undef, undef, undef, undef, undef, undef, undef, undef, undef, undef, undef, undef, undef, undef, undef, undef, undef, undef, undef, undef, undef, undef, undef, undef, undef, undef, undef, undef] rfl ?_
  repeat' (first | refine st ?_ | (refine wc_regionS 1 rfl ?_; refine wc_region ?_) | (refine su ?_; refine rn ?_) | (refine g_conv ?_; refine p_c hA ?_; refine rn ?_) | (refine g_load ?_; (first | refine t_loadx rfl hA ?_ | refine t_loada rfl hA ?_); refine rn ?_) | (refine g_call ?_; refine t_appx rfl rfl hA rfl ?_; clear hA; (try clear w); intro v w hA hone hnil; refine h_n hA ?_; clear hA; intro hA; refine rn ?_) | (refine g_store ?_; (first | refine t_storex rfl rfl hA ?_ | refine t_storea rfl rfl hA ?_); clear hA; (try clear w); intro w hA; refine h_m hA ?_; clear hA; intro hA; refine rn ?_) | (refine g_ow ?_; (first | refine t_alloc hA ?_ | refine ow_box rfl rfl hA ?_ | refine t_buildSlice rfl (by decide) rfl hA ?_); clear hA; (try clear w); intro b w hA; refine h_n hA ?_; clear hA; intro hA; refine rn ?_) | (refine g_ow ?_; refine t_make rfl rfl (by omega) (by omega) hA ?_; clear hA; (try clear w); intro v w hA hone hnil; refine rn ?_) | refine wc_pp rfl (fun h => ?_) (fun h => ?_) | refine wc_nn rfl (fun h => ?_) (fun h => ?_) | refine rl_pp rfl (fun h => o_n ?_) (fun h => rn ?_) | refine rl_qq rfl (fun h => o_n ?_) (fun h => rn ?_) | refine rl_nn rfl (fun h => o_n ?_) (fun h => rn ?_) | refine rl_mm rfl (fun h => o_n ?_) (fun h => rn ?_))
  refine wc_region ?_
  refine' rl_v hA ?o1_0 ?k1_0
  case o1_0 => intro w hA; first | (refine t_fieldAddr rfl ?_; exact ⟨pe, hA⟩)
  case' k1_0 => clear hA; intro w hA; refine rn ?_
  refine' rl_v hA ?o1_1 ?k1_1
  case o1_1 => intro w hA; first | (refine t_loadx rfl hA ?_; exact ⟨pe, hA⟩) | (refine t_loada rfl hA ?_; exact ⟨pe, hA⟩)
  case' k1_1 => clear hA; intro w hA; refine rn ?_
  refine' rl_v hA ?o1_2 ?k1_2
  case o1_2 => intro w hA; first | (refine t_fieldAddr rfl ?_; exact ⟨pe, hA⟩)
  case' k1_2 => clear hA; intro w hA; refine rn ?_
  refine' rl_v hA ?o1_3 ?k1_3
  case o1_3 => intro w hA; first | (refine t_loadx rfl hA ?_; exact ⟨pe, hA⟩) | (refine t_loada rfl hA ?_; exact ⟨pe, hA⟩)
  case' k1_3 => clear hA; intro w hA; refine rn ?_
  refine' rl_v hA ?o1_4 ?k1_4
  case o1_4 => intro w hA; first | (refine t_eqArr16 rfl rfl ?_; exact ⟨pe, hA⟩) | (refine t_eqArr4 rfl rfl ?_; exact ⟨pe, hA⟩) | (refine ow_eql rfl rfl ?_; exact ⟨pe, hA⟩) | (refine ow_eqs rfl rfl ?_; exact ⟨pe, hA⟩) | (refine t_eqlb rfl rfl ?_; exact ⟨pe, hA⟩)
  case' k1_4 => clear hA; intro w hA; refine rn ?_
  refine' rl_v hA ?o1_5 ?k1_5
  case o1_5 => intro w hA; first | (refine ow_move_v rfl ?_; exact ⟨pe, hA⟩)
  case' k1_5 => clear hA; intro w hA; refine rn ?_
  first | refine' rl_T rfl hA ?o1_6 ?k1_6 | refine' rl_Tn rfl hA ?o1_6 ?k1_6
  case o1_6 => intro hg w hA; first | (refine t_fieldAddr opr ?_; exact ⟨pe, hA⟩)
  case' k1_6 => clear hA; intro w hA; refine rn ?_
  first | refine' rl_T rfl hA ?o1_7 ?k1_7 | refine' rl_Tn rfl hA ?o1_7 ?k1_7
  case o1_7 => intro hg w hA; first | (refine t_loadx opr hA ?_; exact ⟨pe, hA⟩) | (refine t_loada opr hA ?_; exact ⟨pe, hA⟩)
  case' k1_7 => clear hA; intro w hA; refine rn ?_
  first | refine' rl_T rfl hA ?o1_8 ?k1_8 | refine' rl_Tn rfl hA ?o1_8 ?k1_8
  case o1_8 => intro hg w hA; first | (refine t_fieldAddr opr ?_; exact ⟨pe, hA⟩)
  case' k1_8 => clear hA; intro w hA; refine rn ?_
  first | refine' rl_T rfl hA ?o1_9 ?k1_9 | refine' rl_Tn rfl hA ?o1_9 ?k1_9
  case o1_9 => intro hg w hA; first | (refine t_loadx opr hA ?_; exact ⟨pe, hA⟩) | (refine t_loada opr hA ?_; exact ⟨pe, hA⟩)
  case' k1_9 => clear hA; intro w hA; refine rn ?_
  first | refine' rl_T rfl hA ?o1_10 ?k1_10 | refine' rl_Tn rfl hA ?o1_10 ?k1_10
  case o1_10 => intro hg w hA; first | (refine t_eqArr16 opr opr ?_; exact ⟨pe, hA⟩) | (refine t_eqArr4 opr opr ?_; exact ⟨pe, hA⟩) | (refine ow_eql opr opr ?_; exact ⟨pe, hA⟩) | (refine ow_eqs opr opr ?_; exact ⟨pe, hA⟩) | (refine t_eqlb opr opr ?_; exact ⟨pe, hA⟩)
  case' k1_10 => clear hA; intro w hA; refine rn ?_
  refine' rl_v hA ?o1_11 ?k1_11
  case o1_11 => intro w hA; first | (refine ow_and rfl (by first | rfl) rfl ?_; exact ⟨pe, hA⟩) | (refine ow_pick rfl rfl rfl ?_; exact ⟨pe, hA⟩)
  case' k1_11 => clear hA; intro w hA; refine rn ?_
  refine' rl_v hA ?o1_12 ?k1_12
  case o1_12 => intro w hA; first | (refine ow_move_v rfl ?_; exact ⟨pe, hA⟩)
  case' k1_12 => clear hA; intro w hA; refine rn ?_
  first | refine' rl_T rfl hA ?o1_13 ?k1_13 | refine' rl_Tn rfl hA ?o1_13 ?k1_13
  case o1_13 => intro hg w hA; first | (refine t_fieldAddr opr ?_; exact ⟨pe, hA⟩)
  case' k1_13 => clear hA; intro w hA; refine rn ?_
  first | refine' rl_T rfl hA ?o1_14 ?k1_14 | refine' rl_Tn rfl hA ?o1_14 ?k1_14
  case o1_14 => intro hg w hA; first | (refine t_loadx opr hA ?_; exact ⟨pe, hA⟩) | (refine t_loada opr hA ?_; exact ⟨pe, hA⟩)
  case' k1_14 => clear hA; intro w hA; refine rn ?_
  first | refine' rl_T rfl hA ?o1_15 ?k1_15 | refine' rl_Tn rfl hA ?o1_15 ?k1_15
  case o1_15 => intro hg w hA; first | (refine t_fieldAddr opr ?_; exact ⟨pe, hA⟩)
  case' k1_15 => clear hA; intro w hA; refine rn ?_
  first | refine' rl_T rfl hA ?o1_16 ?k1_16 | refine' rl_Tn rfl hA ?o1_16 ?k1_16
  case o1_16 => intro hg w hA; first | (refine t_loadx opr hA ?_; exact ⟨pe, hA⟩) | (refine t_loada opr hA ?_; exact ⟨pe, hA⟩)
  case' k1_16 => clear hA; intro w hA; refine rn ?_
  first | refine' rl_T rfl hA ?o1_17 ?k1_17 | refine' rl_Tn rfl hA ?o1_17 ?k1_17
  case o1_17 => intro hg w hA; first | (refine t_eqArr16 opr opr ?_; exact ⟨pe, hA⟩) | (refine t_eqArr4 opr opr ?_; exact ⟨pe, hA⟩) | (refine ow_eql opr opr ?_; exact ⟨pe, hA⟩) | (refine ow_eqs opr opr ?_; exact ⟨pe, hA⟩) | (refine t_eqlb opr opr ?_; exact ⟨pe, hA⟩)
  case' k1_17 => clear hA; intro w hA; refine rn ?_
  refine' rl_v hA ?o1_18 ?k1_18
  case o1_18 => intro w hA; first | (refine ow_and rfl (by first | rfl) rfl ?_; exact ⟨pe, hA⟩) | (refine ow_pick rfl rfl rfl ?_; exact ⟨pe, hA⟩)
  case' k1_18 => clear hA; intro w hA; refine rn ?_
  refine' rl_v hA ?o1_19 ?k1_19
  case o1_19 => intro w hA; first | (refine ow_move_v rfl ?_; exact ⟨pe, hA⟩)
  case' k1_19 => clear hA; intro w hA; refine rn ?_
  first | refine' rl_T rfl hA ?o1_20 ?k1_20 | refine' rl_Tn rfl hA ?o1_20 ?k1_20
  case o1_20 => intro hg w hA; first | (refine t_fieldAddr opr ?_; exact ⟨pe, hA⟩)
  case' k1_20 => clear hA; intro w hA; refine rn ?_
  first | refine' rl_T rfl hA ?o1_21 ?k1_21 | refine' rl_Tn rfl hA ?o1_21 ?k1_21
  case o1_21 => intro hg w hA; first | (refine t_loadx opr hA ?_; exact ⟨pe, hA⟩) | (refine t_loada opr hA ?_; exact ⟨pe, hA⟩)
  case' k1_21 => clear hA; intro w hA; refine rn ?_
  first | refine' rl_T rfl hA ?o1_22 ?k1_22 | refine' rl_Tn rfl hA ?o1_22 ?k1_22
  case o1_22 => intro hg w hA; first | (refine t_fieldAddr opr ?_; exact ⟨pe, hA⟩)
  case' k1_22 => clear hA; intro w hA; refine rn ?_
  first | refine' rl_T rfl hA ?o1_23 ?k1_23 | refine' rl_Tn rfl hA ?o1_23 ?k1_23
  case o1_23 => intro hg w hA; first | (refine t_loadx opr hA ?_; exact ⟨pe, hA⟩) | (refine t_loada opr hA ?_; exact ⟨pe, hA⟩)
  case' k1_23 => clear hA; intro w hA; refine rn ?_
  first | refine' rl_T rfl hA ?o1_24 ?k1_24 | refine' rl_Tn rfl hA ?o1_24 ?k1_24
  case o1_24 => intro hg w hA; first | (refine t_eqArr16 opr opr ?_; exact ⟨pe, hA⟩) | (refine t_eqArr4 opr opr ?_; exact ⟨pe, hA⟩) | (refine ow_eql opr opr ?_; exact ⟨pe, hA⟩) | (refine ow_eqs opr opr ?_; exact ⟨pe, hA⟩) | (refine t_eqlb opr opr ?_; exact ⟨pe, hA⟩)
  case' k1_24 => clear hA; intro w hA; refine rn ?_
  refine' rl_v hA ?o1_25 ?k1_25
  case o1_25 => intro w hA; first | (refine ow_and rfl (by first | rfl) rfl ?_; exact ⟨pe, hA⟩) | (refine ow_pick rfl rfl rfl ?_; exact ⟨pe, hA⟩)
  case' k1_25 => clear hA; intro w hA; refine rn ?_
  refine' rl_v hA ?o1_26 ?k1_26
  case o1_26 => intro w hA; first | (refine ow_move_v rfl ?_; exact ⟨pe, hA⟩)
  case' k1_26 => clear hA; intro w hA; refine rn ?_
  first | refine' rl_T rfl hA ?o1_27 ?k1_27 | refine' rl_Tn rfl hA ?o1_27 ?k1_27
  case o1_27 => intro hg w hA; first | (refine t_fieldAddr opr ?_; exact ⟨pe, hA⟩)
  case' k1_27 => clear hA; intro w hA; refine rn ?_
  first | refine' rl_T rfl hA ?o1_28 ?k1_28 | refine' rl_Tn rfl hA ?o1_28 ?k1_28
  case o1_28 => intro hg w hA; first | (refine t_loadx opr hA ?_; exact ⟨pe, hA⟩) | (refine t_loada opr hA ?_; exact ⟨pe, hA⟩)
  case' k1_28 => clear hA; intro w hA; refine rn ?_
  first | refine' rl_T rfl hA ?o1_29 ?k1_29 | refine' rl_Tn rfl hA ?o1_29 ?k1_29
  case o1_29 => intro hg w hA; first | (refine t_fieldAddr opr ?_; exact ⟨pe, hA⟩)
  case' k1_29 => clear hA; intro w hA; refine rn ?_
  first | refine' rl_T rfl hA ?o1_30 ?k1_30 | refine' rl_Tn rfl hA ?o1_30 ?k1_30
  case o1_30 => intro hg w hA; first | (refine t_loadx opr hA ?_; exact ⟨pe, hA⟩) | (refine t_loada opr hA ?_; exact ⟨pe, hA⟩)
  case' k1_30 => clear hA; intro w hA; refine rn ?_
  first | refine' rl_T rfl hA ?o1_31 ?k1_31 | refine' rl_Tn rfl hA ?o1_31 ?k1_31
  case o1_31 => intro hg w hA; first | (refine t_eqArr16 opr opr ?_; exact ⟨pe, hA⟩) | (refine t_eqArr4 opr opr ?_; exact ⟨pe, hA⟩) | (refine ow_eql opr opr ?_; exact ⟨pe, hA⟩) | (refine ow_eqs opr opr ?_; exact ⟨pe, hA⟩) | (refine t_eqlb opr opr ?_; exact ⟨pe, hA⟩)
  case' k1_31 => clear hA; intro w hA; refine rn ?_
  refine' rl_v hA ?o1_32 ?k1_32
  case o1_32 => intro w hA; first | (refine ow_and rfl (by first | rfl) rfl ?_; exact ⟨pe, hA⟩) | (refine ow_pick rfl rfl rfl ?_; exact ⟨pe, hA⟩)
  case' k1_32 => clear hA; intro w hA; refine rn ?_
  refine' rl_v hA ?o1_33 ?k1_33
  case o1_33 => intro w hA; first | (refine ow_move_v rfl ?_; exact ⟨pe, hA⟩)
  case' k1_33 => clear hA; intro w hA; refine rn ?_
  first | refine' rl_T rfl hA ?o1_34 ?k1_34 | refine' rl_Tn rfl hA ?o1_34 ?k1_34
  case o1_34 => intro hg w hA; first | (refine t_fieldAddr opr ?_; exact ⟨pe, hA⟩)
  case' k1_34 => clear hA; intro w hA; refine rn ?_
  first | refine' rl_T rfl hA ?o1_35 ?k1_35 | refine' rl_Tn rfl hA ?o1_35 ?k1_35
  case o1_35 => intro hg w hA; first | (refine t_loadx opr hA ?_; exact ⟨pe, hA⟩) | (refine t_loada opr hA ?_; exact ⟨pe, hA⟩)
  case' k1_35 => clear hA; intro w hA; refine rn ?_
  first | refine' rl_T rfl hA ?o1_36 ?k1_36 | refine' rl_Tn rfl hA ?o1_36 ?k1_36
  case o1_36 => intro hg w hA; first | (refine t_fieldAddr opr ?_; exact ⟨pe, hA⟩)
  case' k1_36 => clear hA; intro w hA; refine rn ?_
  first | refine' rl_T rfl hA ?o1_37 ?k1_37 | refine' rl_Tn rfl hA ?o1_37 ?k1_37
  case o1_37 => intro hg w hA; first | (refine t_loadx opr hA ?_; exact ⟨pe, hA⟩) | (refine t_loada opr hA ?_; exact ⟨pe, hA⟩)
  case' k1_37 => clear hA; intro w hA; refine rn ?_
  first | refine' rl_T rfl hA ?o1_38 ?k1_38 | refine' rl_Tn rfl hA ?o1_38 ?k1_38
  case o1_38 => intro hg w hA; first | (refine ow_call Tryd.call50 (evs2 opr opr) ((equalInts_calls _ _ _ _ _ _ _ hA hm.refs hm'.refs).mono ?_); clear hA; rintro e w ⟨rfl, hA⟩; refine ⟨_, rfl, ?_⟩; exact ⟨put_eq (by rfl), hA⟩)
  case' k1_38 => clear hA; intro w hA; refine rn ?_
  refine' rl_v hA ?o1_39 ?k1_39
  case o1_39 => intro w hA; first | (refine ow_and rfl (by first | rfl) rfl ?_; exact ⟨pe, hA⟩) | (refine ow_pick rfl rfl rfl ?_; exact ⟨pe, hA⟩)
  case' k1_39 => clear hA; intro w hA; refine rn ?_
  refine' rl_v hA ?o1_40 ?k1_40
  case o1_40 => intro w hA; first | (refine ow_move_v rfl ?_; exact ⟨pe, hA⟩)
  case' k1_40 => clear hA; intro w hA; refine rn ?_
  first | refine' rl_T rfl hA ?o1_41 ?k1_41 | refine' rl_Tn rfl hA ?o1_41 ?k1_41
  case o1_41 => intro hg w hA; first | (refine t_fieldAddr opr ?_; exact ⟨pe, hA⟩)
  case' k1_41 => clear hA; intro w hA; refine rn ?_
  first | refine' rl_T rfl hA ?o1_42 ?k1_42 | refine' rl_Tn rfl hA ?o1_42 ?k1_42
  case o1_42 => intro hg w hA; first | (refine t_loadx opr hA ?_; exact ⟨pe, hA⟩) | (refine t_loada opr hA ?_; exact ⟨pe, hA⟩)
  case' k1_42 => clear hA; intro w hA; refine rn ?_
  first | refine' rl_T rfl hA ?o1_43 ?k1_43 | refine' rl_Tn rfl hA ?o1_43 ?k1_43
  case o1_43 => intro hg w hA; first | (refine t_fieldAddr opr ?_; exact ⟨pe, hA⟩)
  case' k1_43 => clear hA; intro w hA; refine rn ?_
  first | refine' rl_T rfl hA ?o1_44 ?k1_44 | refine' rl_Tn rfl hA ?o1_44 ?k1_44
  case o1_44 => intro hg w hA; first | (refine t_loadx opr hA ?_; exact ⟨pe, hA⟩) | (refine t_loada opr hA ?_; exact ⟨pe, hA⟩)
  case' k1_44 => clear hA; intro w hA; refine rn ?_
  first | refine' rl_T rfl hA ?o1_45 ?k1_45 | refine' rl_Tn rfl hA ?o1_45 ?k1_45
  case o1_45 => intro hg w hA; first | (refine ow_call Tryd.call51 (evs2 opr opr) ((equalVecs_calls _ _ _ _ _ _ _ hA hm.mvds hm'.mvds).mono ?_); clear hA; rintro e w ⟨rfl, hA⟩; refine ⟨_, rfl, ?_⟩; exact ⟨put_eq (by rfl), hA⟩)
  case' k1_45 => clear hA; intro w hA; refine rn ?_
  refine' rl_v hA ?o1_46 ?k1_46
  case o1_46 => intro w hA; first | (refine ow_and rfl (by first | rfl) rfl ?_; exact ⟨pe, hA⟩) | (refine ow_pick rfl rfl rfl ?_; exact ⟨pe, hA⟩)
  case' k1_46 => clear hA; intro w hA; refine rn ?_
  refine' rl_v hA ?o1_47 ?k1_47
  case o1_47 => intro w hA; first | (refine ow_move_v rfl ?_; exact ⟨pe, hA⟩)
  case' k1_47 => clear hA; intro w hA; refine rn ?_
  first | refine' rl_T rfl hA ?o1_48 ?k1_48 | refine' rl_Tn rfl hA ?o1_48 ?k1_48
  case o1_48 => intro hg w hA; first | (refine t_fieldAddr opr ?_; exact ⟨pe, hA⟩)
  case' k1_48 => clear hA; intro w hA; refine rn ?_
  first | refine' rl_T rfl hA ?o1_49 ?k1_49 | refine' rl_Tn rfl hA ?o1_49 ?k1_49
  case o1_49 => intro hg w hA; first | (refine t_loadx opr hA ?_; exact ⟨pe, hA⟩) | (refine t_loada opr hA ?_; exact ⟨pe, hA⟩)
  case' k1_49 => clear hA; intro w hA; refine rn ?_
  first | refine' rl_T rfl hA ?o1_50 ?k1_50 | refine' rl_Tn rfl hA ?o1_50 ?k1_50
  case o1_50 => intro hg w hA; first | (refine t_fieldAddr opr ?_; exact ⟨pe, hA⟩)
  case' k1_50 => clear hA; intro w hA; refine rn ?_
  first | refine' rl_T rfl hA ?o1_51 ?k1_51 | refine' rl_Tn rfl hA ?o1_51 ?k1_51
  case o1_51 => intro hg w hA; first | (refine t_loadx opr hA ?_; exact ⟨pe, hA⟩) | (refine t_loada opr hA ?_; exact ⟨pe, hA⟩)
  case' k1_51 => clear hA; intro w hA; refine rn ?_
  first | refine' rl_T rfl hA ?o1_52 ?k1_52 | refine' rl_Tn rfl hA ?o1_52 ?k1_52
  case o1_52 => intro hg w hA; first | (refine t_eqArr16 opr opr ?_; exact ⟨pe, hA⟩) | (refine t_eqArr4 opr opr ?_; exact ⟨pe, hA⟩) | (refine ow_eql opr opr ?_; exact ⟨pe, hA⟩) | (refine ow_eqs opr opr ?_; exact ⟨pe, hA⟩) | (refine t_eqlb opr opr ?_; exact ⟨pe, hA⟩)
  case' k1_52 => clear hA; intro w hA; refine rn ?_
  refine' rl_v hA ?o1_53 ?k1_53
  case o1_53 => intro w hA; first | (refine ow_and rfl (by first | rfl) rfl ?_; exact ⟨pe, hA⟩) | (refine ow_pick rfl rfl rfl ?_; exact ⟨pe, hA⟩)
  case' k1_53 => clear hA; intro w hA; refine rn ?_
  refine' rl_v hA ?o1_54 ?k1_54
  case o1_54 => intro w hA; first | (refine ow_move_v rfl ?_; exact ⟨pe, hA⟩)
  case' k1_54 => clear hA; intro w hA; refine rn ?_
  first | refine' rl_T rfl hA ?o1_55 ?k1_55 | refine' rl_Tn rfl hA ?o1_55 ?k1_55
  case o1_55 => intro hg w hA; first | (refine t_fieldAddr opr ?_; exact ⟨pe, hA⟩)
  case' k1_55 => clear hA; intro w hA; refine rn ?_
  first | refine' rl_T rfl hA ?o1_56 ?k1_56 | refine' rl_Tn rfl hA ?o1_56 ?k1_56
  case o1_56 => intro hg w hA; first | (refine t_loadx opr hA ?_; exact ⟨pe, hA⟩) | (refine t_loada opr hA ?_; exact ⟨pe, hA⟩)
  case' k1_56 => clear hA; intro w hA; refine rn ?_
  first | refine' rl_T rfl hA ?o1_57 ?k1_57 | refine' rl_Tn rfl hA ?o1_57 ?k1_57
  case o1_57 => intro hg w hA; first | (refine t_fieldAddr opr ?_; exact ⟨pe, hA⟩)
  case' k1_57 => clear hA; intro w hA; refine rn ?_
  first | refine' rl_T rfl hA ?o1_58 ?k1_58 | refine' rl_Tn rfl hA ?o1_58 ?k1_58
  case o1_58 => intro hg w hA; first | (refine t_loadx opr hA ?_; exact ⟨pe, hA⟩) | (refine t_loada opr hA ?_; exact ⟨pe, hA⟩)
  case' k1_58 => clear hA; intro w hA; refine rn ?_
  first | refine' rl_T rfl hA ?o1_59 ?k1_59 | refine' rl_Tn rfl hA ?o1_59 ?k1_59
  case o1_59 => intro hg w hA; first | (refine t_eqArr16 opr opr ?_; exact ⟨pe, hA⟩) | (refine t_eqArr4 opr opr ?_; exact ⟨pe, hA⟩) | (refine ow_eql opr opr ?_; exact ⟨pe, hA⟩) | (refine ow_eqs opr opr ?_; exact ⟨pe, hA⟩) | (refine t_eqlb opr opr ?_; exact ⟨pe, hA⟩)
  case' k1_59 => clear hA; intro w hA; refine rn ?_
  refine' rl_v hA ?o1_60 ?k1_60
  case o1_60 => intro w hA; first | (refine ow_and rfl (by first | rfl) rfl ?_; exact ⟨pe, hA⟩) | (refine ow_pick rfl rfl rfl ?_; exact ⟨pe, hA⟩)
  case' k1_60 => clear hA; intro w hA; refine rn ?_
  refine' rl_v hA ?o1_61 ?k1_61
  case o1_61 => intro w hA; first | (refine ow_move_v rfl ?_; exact ⟨pe, hA⟩)
  case' k1_61 => clear hA; intro w hA; refine rn ?_
  first | refine' rl_T rfl hA ?o1_62 ?k1_62 | refine' rl_Tn rfl hA ?o1_62 ?k1_62
  case o1_62 => intro hg w hA; first | (refine t_fieldAddr opr ?_; exact ⟨pe, hA⟩)
  case' k1_62 => clear hA; intro w hA; refine rn ?_
  first | refine' rl_T rfl hA ?o1_63 ?k1_63 | refine' rl_Tn rfl hA ?o1_63 ?k1_63
  case o1_63 => intro hg w hA; first | (refine t_loadx opr hA ?_; exact ⟨pe, hA⟩) | (refine t_loada opr hA ?_; exact ⟨pe, hA⟩)
  case' k1_63 => clear hA; intro w hA; refine rn ?_
  first | refine' rl_T rfl hA ?o1_64 ?k1_64 | refine' rl_Tn rfl hA ?o1_64 ?k1_64
  case o1_64 => intro hg w hA; first | (refine t_fieldAddr opr ?_; exact ⟨pe, hA⟩)
  case' k1_64 => clear hA; intro w hA; refine rn ?_
  first | refine' rl_T rfl hA ?o1_65 ?k1_65 | refine' rl_Tn rfl hA ?o1_65 ?k1_65
  case o1_65 => intro hg w hA; first | (refine t_loadx opr hA ?_; exact ⟨pe, hA⟩) | (refine t_loada opr hA ?_; exact ⟨pe, hA⟩)
  case' k1_65 => clear hA; intro w hA; refine rn ?_
  first | refine' rl_T rfl hA ?o1_66 ?k1_66 | refine' rl_Tn rfl hA ?o1_66 ?k1_66
  case o1_66 => intro hg w hA; first | (refine ow_call Tryd.call52 (evs2 opr opr) ((equalBlocks_calls _ _ _ _ _ _ _ hA hm.blocks hm'.blocks).mono ?_); clear hA; rintro e w ⟨rfl, hA⟩; refine ⟨_, rfl, ?_⟩; exact ⟨put_eq (by rfl), hA⟩)
  case' k1_66 => clear hA; intro w hA; refine rn ?_
  refine' rl_v hA ?o1_67 ?k1_67
  case o1_67 => intro w hA; first | (refine ow_and rfl (by first | rfl) rfl ?_; exact ⟨pe, hA⟩) | (refine ow_pick rfl rfl rfl ?_; exact ⟨pe, hA⟩)
  case' k1_67 => clear hA; intro w hA; refine rn ?_
  refine' rl_v hA ?o1_68 ?k1_68
  case o1_68 => intro w hA; first | (refine ow_move_v rfl ?_; exact ⟨pe, hA⟩)
  case' k1_68 => clear hA; intro w hA; refine rn ?_
  first | refine' rl_T rfl hA ?o1_69 ?k1_69 | refine' rl_Tn rfl hA ?o1_69 ?k1_69
  case o1_69 => intro hg w hA; first | (refine t_fieldAddr opr ?_; exact ⟨pe, hA⟩)
  case' k1_69 => clear hA; intro w hA; refine rn ?_
  first | refine' rl_T rfl hA ?o1_70 ?k1_70 | refine' rl_Tn rfl hA ?o1_70 ?k1_70
  case o1_70 => intro hg w hA; first | (refine t_loadx opr hA ?_; exact ⟨pe, hA⟩) | (refine t_loada opr hA ?_; exact ⟨pe, hA⟩)
  case' k1_70 => clear hA; intro w hA; refine rn ?_
  first | refine' rl_T rfl hA ?o1_71 ?k1_71 | refine' rl_Tn rfl hA ?o1_71 ?k1_71
  case o1_71 => intro hg w hA; first | (refine t_fieldAddr opr ?_; exact ⟨pe, hA⟩)
  case' k1_71 => clear hA; intro w hA; refine rn ?_
  first | refine' rl_T rfl hA ?o1_72 ?k1_72 | refine' rl_Tn rfl hA ?o1_72 ?k1_72
  case o1_72 => intro hg w hA; first | (refine t_loadx opr hA ?_; exact ⟨pe, hA⟩) | (refine t_loada opr hA ?_; exact ⟨pe, hA⟩)
  case' k1_72 => clear hA; intro w hA; refine rn ?_
  first | refine' rl_T rfl hA ?o1_73 ?k1_73 | refine' rl_Tn rfl hA ?o1_73 ?k1_73
  case o1_73 => intro hg w hA; first | (refine t_eqArr16 opr opr ?_; exact ⟨pe, hA⟩) | (refine t_eqArr4 opr opr ?_; exact ⟨pe, hA⟩) | (refine ow_eql opr opr ?_; exact ⟨pe, hA⟩) | (refine ow_eqs opr opr ?_; exact ⟨pe, hA⟩) | (refine t_eqlb opr opr ?_; exact ⟨pe, hA⟩)
  case' k1_73 => clear hA; intro w hA; refine rn ?_
  refine' rl_v hA ?o1_74 ?k1_74
  case o1_74 => intro w hA; first | (refine ow_and rfl (by first | rfl) rfl ?_; exact ⟨pe, hA⟩) | (refine ow_pick rfl rfl rfl ?_; exact ⟨pe, hA⟩)
  case' k1_74 => clear hA; intro w hA; refine rn ?_
  refine' rl_v hA ?o1_75 ?k1_75
  case o1_75 => intro w hA; first | (refine ow_assign_v rfl ?_; exact ⟨pe, hA⟩)
  case' k1_75 => clear hA; intro w hA; refine rn ?_
  refine rl_nil ?_
  repeat' (first | refine st ?_ | (refine wc_region ?_) | (refine su ?_; refine rn ?_) | (refine g_conv ?_; refine p_c hA ?_; refine rn ?_) | (refine g_load ?_; (first | refine t_loadx rfl hA ?_ | refine t_loada rfl hA ?_); refine rn ?_) | (refine g_call ?_; refine t_appx rfl rfl hA rfl ?_; clear hA; (try clear w); intro v w hA hone hnil; refine h_n hA ?_; clear hA; intro hA; refine rn ?_) | (refine g_store ?_; (first | refine t_storex rfl rfl hA ?_ | refine t_storea rfl rfl hA ?_); clear hA; (try clear w); intro w hA; refine h_m hA ?_; clear hA; intro hA; refine rn ?_) | (refine g_ow ?_; (first | refine t_alloc hA ?_ | refine ow_box rfl rfl hA ?_ | refine t_buildSlice rfl (by decide) rfl hA ?_); clear hA; (try clear w); intro b w hA; refine h_n hA ?_; clear hA; intro hA; refine rn ?_) | (refine g_ow ?_; refine t_make rfl rfl (by omega) (by omega) hA ?_; clear hA; (try clear w); intro v w hA hone hnil; refine rn ?_) | refine wc_pp rfl (fun h => ?_) (fun h => ?_) | refine wc_nn rfl (fun h => ?_) (fun h => ?_) | refine rl_pp rfl (fun h => o_n ?_) (fun h => rn ?_) | refine rl_qq rfl (fun h => o_n ?_) (fun h => rn ?_) | refine rl_nn rfl (fun h => o_n ?_) (fun h => rn ?_) | refine rl_mm rfl (fun h => o_n ?_) (fun h => rn ?_))
  refine ret1 (hA.dropN 2 : Sat E L w) rfl ?_
  simp only [List.getD_cons_succ, List.getD_cons_zero, u8_inj, mb_eq m m', Bool.decide_and, Bool.and_assoc]
end Go.Proofs.YtomfoaaaeidpnaaDoor
