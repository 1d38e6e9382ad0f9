/-
  spindlelaw33.ElemsRelated, walked.
-/
import Derived.Test.YteeeabnfgpolgaaDoorF3
set_option linter.unusedVariables false
set_option linter.unusedSimpArgs false
namespace Go.Proofs.YteeeabnfgpolgaaDoor
open Go Go.RowKit
attribute [local irreducible] WC RL OW bodyPostM ThenQ BlockQ LoopQ
theorem sameB_refl (X : List Node) : sameB X X = true := decide_eq_true rfl
theorem sameB_symm (X Y : List Node) : sameB Y X = sameB X Y := by unfold sameB; rw [Bool.eq_iff_iff, decide_eq_true_iff, decide_eq_true_iff]; exact eq_comm
theorem sameB_trans {X Y Z : List Node} (h : sameB X Y = true) (h' : sameB Y Z = true) : sameB X Z = true := decide_eq_true ((of_decide_eq_true h).trans (of_decide_eq_true h'))
theorem sameB_of {X Y : List Node} (h : X = Y) : sameB X Y = true := by subst h; exact sameB_refl X
set_option maxHeartbeats 8000000 in
theorem elemsRelated_calls (v v' v'' : Value) (xs ys zs : List Node) (E : Env) (L : List Item) (w : World) (hA : Sat E L w) (hG : DeepG E) (hx : ListE nodeR 47 E v xs) (hy : ListE nodeR 47 E v' ys) (hz : ListE nodeR 47 E v'' zs) (hf : ∀ n ∈ xs, NodeS n) (hf' : ∀ n ∈ ys, NodeS n) (hf'' : ∀ n ∈ zs, NodeS n) :
    Calls Tryd.prog 13 ⟨[v, v', v'']⟩ w (Ret E L (.bool true)) := by
  refine enter (fn := Tryd.f13) Tryd.func13 rfl 88 rfl [v, v', v'', undef, undef, undef, undef, undef, undef, undef, undef, undef, undef, undef, undef, undef, undef, undef, undef, undef, undef, undef, undef, undef, undef, undef, undef, undef, undef, undef, undef, undef, undef, undef, undef, undef, undef, undef, undef, undef, undef, undef, undef, undef, undef, undef, undef, undef, undef, undef, undef, undef, undef, undef, undef, undef, undef, undef, undef, undef, undef, undef, undef, undef, undef, undef, undef, undef, undef, undef, undef, undef, undef, undef, undef, undef, undef, undef, undef, undef, undef, undef, undef, undef, undef, undef, undef, undef] rfl ?_
  repeat' (first | ((refine g_wc ?_; first | (refine wc_seq ?_) | (refine wc_regionS 1 rfl ?_; refine wc_region ?_) | (refine wc_block ?_) | (refine wc_true rfl ?_) | (refine wc_false rfl ?_) | (refine wc_pt rfl (by omega) ?_) | (refine wc_pf rfl (by omega) ?_) | (refine wc_nt rfl (by omega) ?_) | (refine wc_nf rfl (by omega) ?_) | (refine wc_pp rfl (fun h => ?_) (fun h => ?_)) | (refine wc_nn rfl (fun h => ?_) (fun h => ?_)) | (refine wc_skip ?_) | (refine wc_exit ?_) | (refine wc_ret ?_))) | (refine g_rl ?_; first | (first | (refine rl_op ?_) | (refine rl_nil ?_) | (refine rl_on rfl ?_) | (refine rl_pt rfl (by omega) ?_) | (refine rl_qt rfl (by omega) ?_) | (refine rl_nt rfl (by omega) ?_) | (refine rl_mt rfl (by omega) ?_)) | ((first | (refine rl_off rfl rfl ?_) | (refine rl_undef rfl ?_) | (refine rl_pf rfl (by omega) ?_) | (refine rl_qf rfl (by omega) ?_) | (refine rl_nf rfl (by omega) ?_) | (refine rl_mf rfl (by omega) ?_)); refine rn ?_) | (first | (refine rl_pp rfl (fun h => o_n ?_) (fun h => rn ?_)) | (refine rl_qq rfl (fun h => o_n ?_) (fun h => rn ?_)) | (refine rl_nn rfl (fun h => o_n ?_) (fun h => rn ?_)) | (refine rl_mm rfl (fun h => o_n ?_) (fun h => rn ?_)))) | ((refine g_bin ?_; refine p_b ?_); refine rn ?_) | (refine g_call ?_; first | ((first | (refine p_l ?_)); refine rn ?_) | ((first | (refine t_appx rfl rfl hA rfl ?_)); clear hA; (try clear w); intro v w hA hone hnil; refine h_n hA ?_; clear hA; intro hA; refine rn ?_)) | ((refine g_conv ?_; first | (refine p_c hA ?_)); refine rn ?_) | ((refine g_load ?_; first | (refine t_loadx rfl hA ?_) | (refine t_loada rfl hA ?_)); refine rn ?_) | (refine g_store ?_; first | ((first | (refine t_storex rfl rfl hA ?_)); clear hA; (try clear w); intro w hA; refine h_n hA ?_; clear hA; intro hA; refine rn ?_) | ((first | (refine t_storea rfl rfl hA ?_)); clear hA; (try clear w); intro w hA; (try simp only [List.drop_zero, List.drop_nil, List.drop_succ_cons, List.take_succ_cons, List.take_zero, List.length_cons, List.length_nil, Nat.zero_add, Nat.reduceAdd] at hA); refine h_n hA ?_; clear hA; intro hA; refine rn ?_)) | (refine g_ow ?_; first | ((first | (refine p_o ?_)); refine rn ?_) | ((first | (refine t_alloc hA ?_) | (refine ow_box rfl rfl hA ?_) | (refine t_buildSlice rfl (by decide) rfl hA ?_)); clear hA; (try clear w); intro b w hA; refine h_n hA ?_; clear hA; intro hA; refine rn ?_) | ((first | (refine t_make rfl rfl (by omega) (by omega) hA ?_)); clear hA; (try clear w); intro v w hA hone hnil; refine rn ?_)) | (refine tq_normal ?_) | (refine bq_normal ?_) | (refine bq_hit ?_) | (refine bq_miss (by decide) ?_) | (refine tq_exit ?_) | (refine lq_exit ?_) | (refine tq_ret ?_) | (refine bq_ret ?_) | (refine lq_ret ?_))
  refine wc_region ?_
  refine rl_op ?_; refine ow_move ?_; refine rn ?_
  refine rl_op ?_; refine ow_call Tryd.call32 rfl ((few_calls _ _ _ _ _ hA hx hf).mono ?_); clear hA; rintro e w ⟨E1, a, rfl, hE1, ha, hA⟩; refine ⟨_, rfl, ?_⟩; refine rn ?_
  refine rl_op ?_; refine ow_move ?_; refine rn ?_
  refine rl_op ?_; refine ow_call Tryd.call32 rfl ((few_calls _ _ _ _ _ hA (hy.mono hE1) hf').mono ?_); clear hA; rintro e w ⟨E2, b, rfl, hE2, hb, hA⟩; refine ⟨_, rfl, ?_⟩; refine rn ?_
  refine rl_op ?_; refine ow_move ?_; refine rn ?_
  refine rl_op ?_; refine ow_call Tryd.call32 rfl ((few_calls _ _ _ _ _ hA (hz.mono (hE1.trans hE2)) hf'').mono ?_); clear hA; rintro e w ⟨E3, c, rfl, hE3, hc, hA⟩; refine ⟨_, rfl, ?_⟩; refine rn ?_
  have ha := ha.mono (hE2.trans hE3)
  have hb := hb.mono hE3
  have hfa := fewNodes_F xs
  have hfb := fewNodes_F ys
  have hfc := fewNodes_F zs
  have hla := fewNodes_len xs
  have hlb := fewNodes_len ys
  have hlc := fewNodes_len zs
  have hEE := hE1.trans (hE2.trans hE3)
  have hG3 := hG.mono hEE
  generalize fewNodes xs = X at *
  generalize fewNodes ys = Y at *
  generalize fewNodes zs = Z at *
  clear hE1 hE2 hE3 hx hy hz hf hf' hf'' hG
  repeat' (first | (refine g_callf 38 ?_; refine ow_call Tryd.call38 rfl ((elemsSame_calls _ _ _ _ _ _ _ hA hG3 ha hb hfa hla hfb hlb).mono ?_); clear hA; (try clear w); rintro e w ⟨rfl, hA⟩; refine ⟨_, rfl, ?_⟩; refine rn ?_) | (refine g_callf 37 ?_; refine ow_call Tryd.call37 rfl ((elemsEqual_calls _ _ _ _ _ _ _ hA ha hb).mono ?_); clear hA; (try clear w); rintro e w ⟨rfl, hA⟩; refine ⟨_, rfl, ?_⟩; refine rn ?_) | ((refine g_wc ?_; first | (refine wc_seq ?_) | (refine wc_regionS 3 rfl ?_; refine wc_region ?_) | (refine wc_block ?_) | (refine wc_true rfl ?_) | (refine wc_false rfl ?_) | (refine wc_pt rfl (by omega) ?_) | (refine wc_pf rfl (by omega) ?_) | (refine wc_nt rfl (by omega) ?_) | (refine wc_nf rfl (by omega) ?_) | (refine wc_pp rfl (fun h => ?_) (fun h => ?_)) | (refine wc_nn rfl (fun h => ?_) (fun h => ?_)) | (refine wc_skip ?_) | (refine wc_exit ?_) | (refine wc_ret ?_))) | (refine g_rl ?_; first | (first | (refine rl_op ?_) | (refine rl_nil ?_) | (refine rl_on rfl ?_) | (refine rl_pt rfl (by omega) ?_) | (refine rl_qt rfl (by omega) ?_) | (refine rl_nt rfl (by omega) ?_) | (refine rl_mt rfl (by omega) ?_)) | ((first | (refine rl_off rfl rfl ?_) | (refine rl_undef rfl ?_) | (refine rl_pf rfl (by omega) ?_) | (refine rl_qf rfl (by omega) ?_) | (refine rl_nf rfl (by omega) ?_) | (refine rl_mf rfl (by omega) ?_)); refine rn ?_) | (first | (refine rl_pp rfl (fun h => o_n ?_) (fun h => rn ?_)) | (refine rl_qq rfl (fun h => o_n ?_) (fun h => rn ?_)) | (refine rl_nn rfl (fun h => o_n ?_) (fun h => rn ?_)) | (refine rl_mm rfl (fun h => o_n ?_) (fun h => rn ?_)))) | ((refine g_bin ?_; refine p_b ?_); refine rn ?_) | (refine g_call ?_; first | ((first | (refine p_l ?_)); refine rn ?_) | ((first | (refine t_appx rfl rfl hA rfl ?_)); clear hA; (try clear w); intro v w hA hone hnil; refine h_n hA ?_; clear hA; intro hA; refine rn ?_)) | ((refine g_conv ?_; first | (refine p_c hA ?_)); refine rn ?_) | ((refine g_load ?_; first | (refine t_loadx rfl hA ?_) | (refine t_loada rfl hA ?_)); refine rn ?_) | (refine g_store ?_; first | ((first | (refine t_storex rfl rfl hA ?_)); clear hA; (try clear w); intro w hA; refine h_n hA ?_; clear hA; intro hA; refine rn ?_) | ((first | (refine t_storea rfl rfl hA ?_)); clear hA; (try clear w); intro w hA; (try simp only [List.drop_zero, List.drop_nil, List.drop_succ_cons, List.take_succ_cons, List.take_zero, List.length_cons, List.length_nil, Nat.zero_add, Nat.reduceAdd] at hA); refine h_n hA ?_; clear hA; intro hA; refine rn ?_)) | (refine g_ow ?_; first | ((first | (refine p_o ?_)); refine rn ?_) | ((first | (refine t_alloc hA ?_) | (refine ow_box rfl rfl hA ?_) | (refine t_buildSlice rfl (by decide) rfl hA ?_)); clear hA; (try clear w); intro b w hA; refine h_n hA ?_; clear hA; intro hA; refine rn ?_) | ((first | (refine t_make rfl rfl (by omega) (by omega) hA ?_)); clear hA; (try clear w); intro v w hA hone hnil; refine rn ?_)) | (refine tq_normal ?_) | (refine bq_normal ?_) | (refine bq_hit ?_) | (refine bq_miss (by decide) ?_) | (refine tq_exit ?_) | (refine lq_exit ?_) | (refine tq_ret ?_) | (refine bq_ret ?_) | (refine lq_ret ?_))
  refine wc_region ?_
  refine' rl_v hA ?o3_0 ?k3_0
  case o3_0 => intro w hA; first | (refine ow_move_v rfl ?_; exact ⟨pe, hA⟩)
  case' k3_0 => clear hA; intro w hA; refine rn ?_
  refine' rl_v hA ?o3_1 ?k3_1
  case o3_1 => intro w hA; first | (refine ow_move_v rfl ?_; exact ⟨pe, hA⟩)
  case' k3_1 => clear hA; intro w hA; refine rn ?_
  refine' rl_v hA ?o3_2 ?k3_2
  case o3_2 => intro w hA; first | (refine ow_call Tryd.call38 rfl ((elemsSame_calls _ _ _ _ _ _ _ hA hG3 ha ha hfa hla hfa hla).mono ?_); clear hA; rintro e w ⟨rfl, hA⟩; refine ⟨_, rfl, ?_⟩; exact ⟨put_eq (by rfl), hA⟩)
  case' k3_2 => clear hA; intro w hA; refine rn ?_
  refine' rl_v hA ?o3_3 ?k3_3
  case o3_3 => intro w hA; first | (refine ow_not rfl ?_; exact ⟨pe, hA⟩) | (refine ow_neg rfl ?_; exact ⟨pe, hA⟩)
  case' k3_3 => clear hA; intro w hA; refine rn ?_
  refine' rl_v hA ?o3_4 ?k3_4
  case o3_4 => intro w hA; first | (refine ow_move_v rfl ?_; exact ⟨pe, hA⟩)
  case' k3_4 => clear hA; intro w hA; refine rn ?_
  first | refine' rl_F rfl hA ?o3_5 ?k3_5 | refine' rl_Fn rfl hA ?o3_5 ?k3_5
  case o3_5 => intro hg w hA; first | (refine ow_move_v opr ?_; exact ⟨pe, hA⟩)
  case' k3_5 => clear hA; intro w hA; refine rn ?_
  first | refine' rl_F rfl hA ?o3_6 ?k3_6 | refine' rl_Fn rfl hA ?o3_6 ?k3_6
  case o3_6 => intro hg w hA; first | (refine ow_move_v opr ?_; exact ⟨pe, hA⟩)
  case' k3_6 => clear hA; intro w hA; refine rn ?_
  first | refine' rl_F rfl hA ?o3_7 ?k3_7 | refine' rl_Fn rfl hA ?o3_7 ?k3_7
  case o3_7 => intro hg w hA; first | (refine ow_call Tryd.call37 (evs2 opr opr) ((elemsEqual_calls _ _ _ _ _ _ _ hA ha ha).mono ?_); clear hA; rintro e w ⟨rfl, hA⟩; refine ⟨_, rfl, ?_⟩; exact ⟨put_eq (by rfl), hA⟩)
  case' k3_7 => clear hA; intro w hA; refine rn ?_
  first | refine' rl_F rfl hA ?o3_8 ?k3_8 | refine' rl_Fn rfl hA ?o3_8 ?k3_8
  case o3_8 => intro hg w hA; first | (refine ow_not opr ?_; exact ⟨pe, hA⟩) | (refine ow_neg opr ?_; exact ⟨pe, hA⟩)
  case' k3_8 => clear hA; intro w hA; refine rn ?_
  refine' rl_v hA ?o3_9 ?k3_9
  case o3_9 => intro w hA; first | (refine ow_or rfl rfl (by first | rfl) ?_; exact ⟨pe, hA⟩) | (refine ow_pick rfl rfl rfl ?_; exact ⟨pe, hA⟩)
  case' k3_9 => clear hA; intro w hA; refine rn ?_
  refine' rl_v hA ?o3_10 ?k3_10
  case o3_10 => intro w hA; first | (refine ow_move_v rfl ?_; exact ⟨pe, hA⟩)
  case' k3_10 => clear hA; intro w hA; refine rn ?_
  first | refine' rl_F rfl hA ?o3_11 ?k3_11 | refine' rl_Fn rfl hA ?o3_11 ?k3_11
  case o3_11 => intro hg w hA; first | (refine ow_move_v opr ?_; exact ⟨pe, hA⟩)
  case' k3_11 => clear hA; intro w hA; refine rn ?_
  first | refine' rl_F rfl hA ?o3_12 ?k3_12 | refine' rl_Fn rfl hA ?o3_12 ?k3_12
  case o3_12 => intro hg w hA; first | (refine ow_move_v opr ?_; exact ⟨pe, hA⟩)
  case' k3_12 => clear hA; intro w hA; refine rn ?_
  first | refine' rl_F rfl hA ?o3_13 ?k3_13 | refine' rl_Fn rfl hA ?o3_13 ?k3_13
  case o3_13 => intro hg w hA; first | (refine ow_call Tryd.call38 (evs2 opr opr) ((elemsSame_calls _ _ _ _ _ _ _ hA hG3 hb ha hfb hlb hfa hla).mono ?_); clear hA; rintro e w ⟨rfl, hA⟩; refine ⟨_, rfl, ?_⟩; exact ⟨put_eq (by rfl), hA⟩)
  case' k3_13 => clear hA; intro w hA; refine rn ?_
  first | refine' rl_F rfl hA ?o3_14 ?k3_14 | refine' rl_Fn rfl hA ?o3_14 ?k3_14
  case o3_14 => intro hg w hA; first | (refine ow_move_v opr ?_; exact ⟨pe, hA⟩)
  case' k3_14 => clear hA; intro w hA; refine rn ?_
  first | refine' rl_F rfl hA ?o3_15 ?k3_15 | refine' rl_Fn rfl hA ?o3_15 ?k3_15
  case o3_15 => intro hg w hA; first | (refine ow_neq opr opr ?_; exact ⟨pe, hA⟩) | (refine ow_neqs opr opr ?_; exact ⟨pe, hA⟩) | (refine t_neqb opr opr ?_; exact ⟨pe, hA⟩)
  case' k3_15 => clear hA; intro w hA; refine rn ?_
  refine' rl_v hA ?o3_16 ?k3_16
  case o3_16 => intro w hA; first | (refine ow_or rfl rfl (by first | rfl) ?_; exact ⟨pe, hA⟩) | (refine ow_pick rfl rfl rfl ?_; exact ⟨pe, hA⟩)
  case' k3_16 => clear hA; intro w hA; refine rn ?_
  refine' rl_v hA ?o3_17 ?k3_17
  case o3_17 => intro w hA; first | (refine ow_move_v rfl ?_; exact ⟨pe, hA⟩)
  case' k3_17 => clear hA; intro w hA; refine rn ?_
  first | refine' rl_F rfl hA ?o3_18 ?k3_18 | refine' rl_Fn rfl hA ?o3_18 ?k3_18
  case o3_18 => intro hg w hA; first | (refine ow_move_v opr ?_; exact ⟨pe, hA⟩)
  case' k3_18 => clear hA; intro w hA; refine rn ?_
  first | refine' rl_F rfl hA ?o3_19 ?k3_19 | refine' rl_Fn rfl hA ?o3_19 ?k3_19
  case o3_19 => intro hg w hA; first | (refine ow_move_v opr ?_; exact ⟨pe, hA⟩)
  case' k3_19 => clear hA; intro w hA; refine rn ?_
  first | refine' rl_F rfl hA ?o3_20 ?k3_20 | refine' rl_Fn rfl hA ?o3_20 ?k3_20
  case o3_20 => intro hg w hA; first | (refine ow_call Tryd.call37 (evs2 opr opr) ((elemsEqual_calls _ _ _ _ _ _ _ hA hb ha).mono ?_); clear hA; rintro e w ⟨rfl, hA⟩; refine ⟨_, rfl, ?_⟩; exact ⟨put_eq (by rfl), hA⟩)
  case' k3_20 => clear hA; intro w hA; refine rn ?_
  first | refine' rl_F rfl hA ?o3_21 ?k3_21 | refine' rl_Fn rfl hA ?o3_21 ?k3_21
  case o3_21 => intro hg w hA; first | (refine ow_move_v opr ?_; exact ⟨pe, hA⟩)
  case' k3_21 => clear hA; intro w hA; refine rn ?_
  first | refine' rl_F rfl hA ?o3_22 ?k3_22 | refine' rl_Fn rfl hA ?o3_22 ?k3_22
  case o3_22 => intro hg w hA; first | (refine ow_neq opr opr ?_; exact ⟨pe, hA⟩) | (refine ow_neqs opr opr ?_; exact ⟨pe, hA⟩) | (refine t_neqb opr opr ?_; exact ⟨pe, hA⟩)
  case' k3_22 => clear hA; intro w hA; refine rn ?_
  refine' rl_v hA ?o3_23 ?k3_23
  case o3_23 => intro w hA; first | (refine ow_or rfl rfl (by first | rfl) ?_; exact ⟨pe, hA⟩) | (refine ow_pick rfl rfl rfl ?_; exact ⟨pe, hA⟩)
  case' k3_23 => clear hA; intro w hA; refine rn ?_
  refine' rl_v hA ?o3_24 ?k3_24
  case o3_24 => intro w hA; first | (refine ow_move_v rfl ?_; exact ⟨pe, hA⟩)
  case' k3_24 => clear hA; intro w hA; refine rn ?_
  first | refine' rl_F rfl hA ?o3_25 ?k3_25 | refine' rl_Fn rfl hA ?o3_25 ?k3_25
  case o3_25 => intro hg w hA; first | (refine ow_move_v opr ?_; exact ⟨pe, hA⟩)
  case' k3_25 => clear hA; intro w hA; refine rn ?_
  first | refine' rl_F rfl hA ?o3_26 ?k3_26 | refine' rl_Fn rfl hA ?o3_26 ?k3_26
  case o3_26 => intro hg w hA; first | (refine ow_move_v opr ?_; exact ⟨pe, hA⟩)
  case' k3_26 => clear hA; intro w hA; refine rn ?_
  first | refine' rl_T rfl hA ?o3_27 ?k3_27 | refine' rl_Tn rfl hA ?o3_27 ?k3_27
  case o3_27 => intro hg w hA; first | (refine ow_move_v opr ?_; exact ⟨pe, hA⟩)
  case' k3_27 => clear hA; intro w hA; refine rn ?_
  first | refine' rl_T rfl hA ?o3_28 ?k3_28 | refine' rl_Tn rfl hA ?o3_28 ?k3_28
  case o3_28 => intro hg w hA; first | (refine ow_not opr ?_; exact ⟨pe, hA⟩) | (refine ow_neg opr ?_; exact ⟨pe, hA⟩)
  case' k3_28 => clear hA; intro w hA; refine rn ?_
  first | refine' rl_F rfl hA ?o3_29 ?k3_29 | refine' rl_Fn rfl hA ?o3_29 ?k3_29
  case o3_29 => intro hg w hA; first | (refine ow_and opr (by first | rfl | exact sel_in rfl hg) rfl ?_; exact ⟨pe, hA⟩) | (refine ow_pick opr opr opr ?_; exact ⟨pe, hA⟩)
  case' k3_29 => clear hA; intro w hA; refine rn ?_
  refine' rl_v hA ?o3_30 ?k3_30
  case o3_30 => intro w hA; first | (refine ow_or rfl rfl (by first | rfl) ?_; exact ⟨pe, hA⟩) | (refine ow_pick rfl rfl rfl ?_; exact ⟨pe, hA⟩)
  case' k3_30 => clear hA; intro w hA; refine rn ?_
  refine rl_nil ?_
  repeat' (first | (refine wc_bb rfl (fun h => ?_) (fun h => ?_)) | ((refine g_wc ?_; first | (refine wc_seq ?_) | (refine wc_regionS 5 rfl ?_; refine wc_region ?_) | (refine wc_block ?_) | (refine wc_true rfl ?_) | (refine wc_false rfl ?_) | (refine wc_pt rfl (by omega) ?_) | (refine wc_pf rfl (by omega) ?_) | (refine wc_nt rfl (by omega) ?_) | (refine wc_nf rfl (by omega) ?_) | (refine wc_pp rfl (fun h => ?_) (fun h => ?_)) | (refine wc_nn rfl (fun h => ?_) (fun h => ?_)) | (refine wc_skip ?_) | (refine wc_exit ?_) | (refine wc_ret ?_))) | (refine g_rl ?_; first | (first | (refine rl_op ?_) | (refine rl_nil ?_) | (refine rl_on rfl ?_) | (refine rl_pt rfl (by omega) ?_) | (refine rl_qt rfl (by omega) ?_) | (refine rl_nt rfl (by omega) ?_) | (refine rl_mt rfl (by omega) ?_)) | ((first | (refine rl_off rfl rfl ?_) | (refine rl_undef rfl ?_) | (refine rl_pf rfl (by omega) ?_) | (refine rl_qf rfl (by omega) ?_) | (refine rl_nf rfl (by omega) ?_) | (refine rl_mf rfl (by omega) ?_)); refine rn ?_) | (first | (refine rl_pp rfl (fun h => o_n ?_) (fun h => rn ?_)) | (refine rl_qq rfl (fun h => o_n ?_) (fun h => rn ?_)) | (refine rl_nn rfl (fun h => o_n ?_) (fun h => rn ?_)) | (refine rl_mm rfl (fun h => o_n ?_) (fun h => rn ?_)))) | ((refine g_bin ?_; refine p_b ?_); refine rn ?_) | (refine g_call ?_; first | ((first | (refine p_l ?_)); refine rn ?_) | ((first | (refine t_appx rfl rfl hA rfl ?_)); clear hA; (try clear w); intro v w hA hone hnil; refine h_n hA ?_; clear hA; intro hA; refine rn ?_)) | ((refine g_conv ?_; first | (refine p_c hA ?_)); refine rn ?_) | ((refine g_load ?_; first | (refine t_loadx rfl hA ?_) | (refine t_loada rfl hA ?_)); refine rn ?_) | (refine g_store ?_; first | ((first | (refine t_storex rfl rfl hA ?_)); clear hA; (try clear w); intro w hA; refine h_n hA ?_; clear hA; intro hA; refine rn ?_) | ((first | (refine t_storea rfl rfl hA ?_)); clear hA; (try clear w); intro w hA; (try simp only [List.drop_zero, List.drop_nil, List.drop_succ_cons, List.take_succ_cons, List.take_zero, List.length_cons, List.length_nil, Nat.zero_add, Nat.reduceAdd] at hA); refine h_n hA ?_; clear hA; intro hA; refine rn ?_)) | (refine g_ow ?_; first | ((first | (refine p_o ?_)); refine rn ?_) | ((first | (refine t_alloc hA ?_) | (refine ow_box rfl rfl hA ?_) | (refine t_buildSlice rfl (by decide) rfl hA ?_)); clear hA; (try clear w); intro b w hA; refine h_n hA ?_; clear hA; intro hA; refine rn ?_) | ((first | (refine t_make rfl rfl (by omega) (by omega) hA ?_)); clear hA; (try clear w); intro v w hA hone hnil; refine rn ?_)) | (refine tq_normal ?_) | (refine bq_normal ?_) | (refine bq_hit ?_) | (refine bq_miss (by decide) ?_) | (refine tq_exit ?_) | (refine lq_exit ?_) | (refine tq_ret ?_) | (refine bq_ret ?_) | (refine lq_ret ?_))
  · exfalso
    have e1 := sameB_symm X Y
    have e2 : decide (Y = X) = decide (X = Y) := by rw [Bool.eq_iff_iff, decide_eq_true_iff, decide_eq_true_iff]; exact eq_comm
    rw [e1, e2, sameB_refl X] at h
    by_cases hq : X = Y
    · have e3 := sameB_of hq
      simp [hq, e3] at h
      simp [hq, sameB_refl] at h
    · simp [hq] at h
  clear h
  refine wc_region ?_
  refine' rl_v hA ?o5_0 ?k5_0
  case o5_0 => intro w hA; first | (refine ow_move_v rfl ?_; exact ⟨pe, hA⟩)
  case' k5_0 => clear hA; intro w hA; refine rn ?_
  refine' rl_v hA ?o5_1 ?k5_1
  case o5_1 => intro w hA; first | (refine ow_move_v rfl ?_; exact ⟨pe, hA⟩)
  case' k5_1 => clear hA; intro w hA; refine rn ?_
  first | refine' rl_T rfl hA ?o5_2 ?k5_2 | refine' rl_Tn rfl hA ?o5_2 ?k5_2
  case o5_2 => intro hg w hA; first | (refine ow_move_v opr ?_; exact ⟨pe, hA⟩)
  case' k5_2 => clear hA; intro w hA; refine rn ?_
  first | refine' rl_T rfl hA ?o5_3 ?k5_3 | refine' rl_Tn rfl hA ?o5_3 ?k5_3
  case o5_3 => intro hg w hA; first | (refine ow_move_v opr ?_; exact ⟨pe, hA⟩)
  case' k5_3 => clear hA; intro w hA; refine rn ?_
  first | refine' rl_T rfl hA ?o5_4 ?k5_4 | refine' rl_Tn rfl hA ?o5_4 ?k5_4
  case o5_4 => intro hg w hA; first | (refine ow_call Tryd.call38 (evs2 opr opr) ((elemsSame_calls _ _ _ _ _ _ _ hA hG3 hb hc hfb hlb hfc hlc).mono ?_); clear hA; rintro e w ⟨rfl, hA⟩; refine ⟨_, rfl, ?_⟩; exact ⟨put_eq (by rfl), hA⟩)
  case' k5_4 => clear hA; intro w hA; refine rn ?_
  refine' rl_v hA ?o5_5 ?k5_5
  case o5_5 => intro w hA; first | (refine ow_and rfl (by first | rfl) rfl ?_; exact ⟨pe, hA⟩) | (refine ow_pick rfl rfl rfl ?_; exact ⟨pe, hA⟩)
  case' k5_5 => clear hA; intro w hA; refine rn ?_
  refine' rl_v hA ?o5_6 ?k5_6
  case o5_6 => intro w hA; first | (refine ow_move_v rfl ?_; exact ⟨pe, hA⟩)
  case' k5_6 => clear hA; intro w hA; refine rn ?_
  first | refine' rl_T rfl hA ?o5_7 ?k5_7 | refine' rl_Tn rfl hA ?o5_7 ?k5_7
  case o5_7 => intro hg w hA; first | (refine ow_move_v opr ?_; exact ⟨pe, hA⟩)
  case' k5_7 => clear hA; intro w hA; refine rn ?_
  first | refine' rl_T rfl hA ?o5_8 ?k5_8 | refine' rl_Tn rfl hA ?o5_8 ?k5_8
  case o5_8 => intro hg w hA; first | (refine ow_move_v opr ?_; exact ⟨pe, hA⟩)
  case' k5_8 => clear hA; intro w hA; refine rn ?_
  first | refine' rl_T rfl hA ?o5_9 ?k5_9 | refine' rl_Tn rfl hA ?o5_9 ?k5_9
  case o5_9 => intro hg w hA; first | (refine ow_call Tryd.call38 (evs2 opr opr) ((elemsSame_calls _ _ _ _ _ _ _ hA hG3 ha hc hfa hla hfc hlc).mono ?_); clear hA; rintro e w ⟨rfl, hA⟩; refine ⟨_, rfl, ?_⟩; exact ⟨put_eq (by rfl), hA⟩)
  case' k5_9 => clear hA; intro w hA; refine rn ?_
  first | refine' rl_T rfl hA ?o5_10 ?k5_10 | refine' rl_Tn rfl hA ?o5_10 ?k5_10
  case o5_10 => intro hg w hA; first | (refine ow_not opr ?_; exact ⟨pe, hA⟩) | (refine ow_neg opr ?_; exact ⟨pe, hA⟩)
  case' k5_10 => clear hA; intro w hA; refine rn ?_
  refine' rl_v hA ?o5_11 ?k5_11
  case o5_11 => intro w hA; first | (refine ow_and rfl (by first | rfl) rfl ?_; exact ⟨pe, hA⟩) | (refine ow_pick rfl rfl rfl ?_; exact ⟨pe, hA⟩)
  case' k5_11 => clear hA; intro w hA; refine rn ?_
  refine' rl_v hA ?o5_12 ?k5_12
  case o5_12 => intro w hA; first | (refine ow_move_v rfl ?_; exact ⟨pe, hA⟩)
  case' k5_12 => clear hA; intro w hA; refine rn ?_
  first | refine' rl_F rfl hA ?o5_13 ?k5_13 | refine' rl_Fn rfl hA ?o5_13 ?k5_13
  case o5_13 => intro hg w hA; first | (refine ow_move_v opr ?_; exact ⟨pe, hA⟩)
  case' k5_13 => clear hA; intro w hA; refine rn ?_
  first | refine' rl_F rfl hA ?o5_14 ?k5_14 | refine' rl_Fn rfl hA ?o5_14 ?k5_14
  case o5_14 => intro hg w hA; first | (refine ow_move_v opr ?_; exact ⟨pe, hA⟩)
  case' k5_14 => clear hA; intro w hA; refine rn ?_
  first | refine' rl_T rfl hA ?o5_15 ?k5_15 | refine' rl_Tn rfl hA ?o5_15 ?k5_15
  case o5_15 => intro hg w hA; first | (refine ow_move_v opr ?_; exact ⟨pe, hA⟩)
  case' k5_15 => clear hA; intro w hA; refine rn ?_
  first | refine' rl_T rfl hA ?o5_16 ?k5_16 | refine' rl_Tn rfl hA ?o5_16 ?k5_16
  case o5_16 => intro hg w hA; first | (refine ow_move_v opr ?_; exact ⟨pe, hA⟩)
  case' k5_16 => clear hA; intro w hA; refine rn ?_
  first | refine' rl_T rfl hA ?o5_17 ?k5_17 | refine' rl_Tn rfl hA ?o5_17 ?k5_17
  case o5_17 => intro hg w hA; first | (refine ow_call Tryd.call37 (evs2 opr opr) ((elemsEqual_calls _ _ _ _ _ _ _ hA hb hc).mono ?_); clear hA; rintro e w ⟨rfl, hA⟩; refine ⟨_, rfl, ?_⟩; exact ⟨put_eq (by rfl), hA⟩)
  case' k5_17 => clear hA; intro w hA; refine rn ?_
  first | refine' rl_F rfl hA ?o5_18 ?k5_18 | refine' rl_Fn rfl hA ?o5_18 ?k5_18
  case o5_18 => intro hg w hA; first | (refine ow_and opr (by first | rfl | exact sel_in rfl hg) rfl ?_; exact ⟨pe, hA⟩) | (refine ow_pick opr opr opr ?_; exact ⟨pe, hA⟩)
  case' k5_18 => clear hA; intro w hA; refine rn ?_
  first | refine' rl_F rfl hA ?o5_19 ?k5_19 | refine' rl_Fn rfl hA ?o5_19 ?k5_19
  case o5_19 => intro hg w hA; first | (refine ow_move_v opr ?_; exact ⟨pe, hA⟩)
  case' k5_19 => clear hA; intro w hA; refine rn ?_
  first | refine' rl_T rfl hA ?o5_20 ?k5_20 | refine' rl_Tn rfl hA ?o5_20 ?k5_20
  case o5_20 => intro hg w hA; first | (refine ow_move_v opr ?_; exact ⟨pe, hA⟩)
  case' k5_20 => clear hA; intro w hA; refine rn ?_
  first | refine' rl_T rfl hA ?o5_21 ?k5_21 | refine' rl_Tn rfl hA ?o5_21 ?k5_21
  case o5_21 => intro hg w hA; first | (refine ow_move_v opr ?_; exact ⟨pe, hA⟩)
  case' k5_21 => clear hA; intro w hA; refine rn ?_
  first | refine' rl_T rfl hA ?o5_22 ?k5_22 | refine' rl_Tn rfl hA ?o5_22 ?k5_22
  case o5_22 => intro hg w hA; first | (refine ow_call Tryd.call37 (evs2 opr opr) ((elemsEqual_calls _ _ _ _ _ _ _ hA ha hc).mono ?_); clear hA; rintro e w ⟨rfl, hA⟩; refine ⟨_, rfl, ?_⟩; exact ⟨put_eq (by rfl), hA⟩)
  case' k5_22 => clear hA; intro w hA; refine rn ?_
  first | refine' rl_T rfl hA ?o5_23 ?k5_23 | refine' rl_Tn rfl hA ?o5_23 ?k5_23
  case o5_23 => intro hg w hA; first | (refine ow_not opr ?_; exact ⟨pe, hA⟩) | (refine ow_neg opr ?_; exact ⟨pe, hA⟩)
  case' k5_23 => clear hA; intro w hA; refine rn ?_
  first | refine' rl_F rfl hA ?o5_24 ?k5_24 | refine' rl_Fn rfl hA ?o5_24 ?k5_24
  case o5_24 => intro hg w hA; first | (refine ow_and opr (by first | rfl | exact sel_in rfl hg) rfl ?_; exact ⟨pe, hA⟩) | (refine ow_pick opr opr opr ?_; exact ⟨pe, hA⟩)
  case' k5_24 => clear hA; intro w hA; refine rn ?_
  refine' rl_v hA ?o5_25 ?k5_25
  case o5_25 => intro w hA; first | (refine ow_or rfl rfl (by first | rfl) ?_; exact ⟨pe, hA⟩) | (refine ow_pick rfl rfl rfl ?_; exact ⟨pe, hA⟩)
  case' k5_25 => clear hA; intro w hA; refine rn ?_
  refine rl_nil ?_
  repeat' (first | (refine wc_bb rfl (fun h => ?_) (fun h => ?_)) | ((refine g_wc ?_; first | (refine wc_seq ?_) | (refine wc_regionS 7 rfl ?_; refine wc_region ?_) | (refine wc_block ?_) | (refine wc_true rfl ?_) | (refine wc_false rfl ?_) | (refine wc_pt rfl (by omega) ?_) | (refine wc_pf rfl (by omega) ?_) | (refine wc_nt rfl (by omega) ?_) | (refine wc_nf rfl (by omega) ?_) | (refine wc_pp rfl (fun h => ?_) (fun h => ?_)) | (refine wc_nn rfl (fun h => ?_) (fun h => ?_)) | (refine wc_skip ?_) | (refine wc_exit ?_) | (refine wc_ret ?_))) | (refine g_rl ?_; first | (first | (refine rl_op ?_) | (refine rl_nil ?_) | (refine rl_on rfl ?_) | (refine rl_pt rfl (by omega) ?_) | (refine rl_qt rfl (by omega) ?_) | (refine rl_nt rfl (by omega) ?_) | (refine rl_mt rfl (by omega) ?_)) | ((first | (refine rl_off rfl rfl ?_) | (refine rl_undef rfl ?_) | (refine rl_pf rfl (by omega) ?_) | (refine rl_qf rfl (by omega) ?_) | (refine rl_nf rfl (by omega) ?_) | (refine rl_mf rfl (by omega) ?_)); refine rn ?_) | (first | (refine rl_pp rfl (fun h => o_n ?_) (fun h => rn ?_)) | (refine rl_qq rfl (fun h => o_n ?_) (fun h => rn ?_)) | (refine rl_nn rfl (fun h => o_n ?_) (fun h => rn ?_)) | (refine rl_mm rfl (fun h => o_n ?_) (fun h => rn ?_)))) | ((refine g_bin ?_; refine p_b ?_); refine rn ?_) | (refine g_call ?_; first | ((first | (refine p_l ?_)); refine rn ?_) | ((first | (refine t_appx rfl rfl hA rfl ?_)); clear hA; (try clear w); intro v w hA hone hnil; refine h_n hA ?_; clear hA; intro hA; refine rn ?_)) | ((refine g_conv ?_; first | (refine p_c hA ?_)); refine rn ?_) | ((refine g_load ?_; first | (refine t_loadx rfl hA ?_) | (refine t_loada rfl hA ?_)); refine rn ?_) | (refine g_store ?_; first | ((first | (refine t_storex rfl rfl hA ?_)); clear hA; (try clear w); intro w hA; refine h_n hA ?_; clear hA; intro hA; refine rn ?_) | ((first | (refine t_storea rfl rfl hA ?_)); clear hA; (try clear w); intro w hA; (try simp only [List.drop_zero, List.drop_nil, List.drop_succ_cons, List.take_succ_cons, List.take_zero, List.length_cons, List.length_nil, Nat.zero_add, Nat.reduceAdd] at hA); refine h_n hA ?_; clear hA; intro hA; refine rn ?_)) | (refine g_ow ?_; first | ((first | (refine p_o ?_)); refine rn ?_) | ((first | (refine t_alloc hA ?_) | (refine ow_box rfl rfl hA ?_) | (refine t_buildSlice rfl (by decide) rfl hA ?_)); clear hA; (try clear w); intro b w hA; refine h_n hA ?_; clear hA; intro hA; refine rn ?_) | ((first | (refine t_make rfl rfl (by omega) (by omega) hA ?_)); clear hA; (try clear w); intro v w hA hone hnil; refine rn ?_)) | (refine tq_normal ?_) | (refine bq_normal ?_) | (refine bq_hit ?_) | (refine bq_miss (by decide) ?_) | (refine tq_exit ?_) | (refine lq_exit ?_) | (refine tq_ret ?_) | (refine bq_ret ?_) | (refine lq_ret ?_))
  · exfalso
    by_cases h1 : X = Y
    · subst h1
      by_cases h2 : X = Z
      · subst h2; simp [sameB_refl] at h
      · cases h3 : sameB X Z <;> simp [h2, h3, sameB_refl] at h
    · cases h3 : sameB X Y <;> cases h4 : sameB Y Z <;> cases h5 : sameB X Z <;> simp [h1, h3, h4, h5] at h
      exact absurd (sameB_trans h3 h4) (by rw [h5]; decide)
  clear h
  refine wc_region ?_
  refine rl_op ?_; refine ow_move ?_; refine rn ?_
  refine rl_op ?_; refine ow_move ?_; refine rn ?_
  refine rl_op ?_; refine ow_call Tryd.call35 rfl ((elemsOf_calls _ _ _ _ _ hA hG3 ha hfa hla).mono ?_); clear hA; rintro e w ⟨E4, o1, rfl, hE4, ho1, hA⟩; refine ⟨_, rfl, ?_⟩; refine rn ?_
  refine rl_op ?_; refine ow_move ?_; refine rn ?_
  refine rl_op ?_; refine ow_call Tryd.call35 rfl ((elemsOf_calls _ _ _ _ _ hA (hG3.mono hE4) (hb.mono hE4) hfb hlb).mono ?_); clear hA; rintro e w ⟨E5, o2, rfl, hE5, ho2, hA⟩; refine ⟨_, rfl, ?_⟩; refine rn ?_
  have hS1 : decide (X.map ofN = Y.map ofN) = sameB X Y := rfl
  generalize hSB : sameB X Y = bs at *
  refine rl_op ?_; refine ow_call Tryd.call37 rfl ((elemsEqual_calls _ _ _ _ _ _ _ hA ((ho1.mono (Env.sub_le _ _)).mono hE5) (ho2.mono (Env.sub_le _ _))).mono ?_); clear hA; rintro e w ⟨rfl, hA⟩; rw [hS1]; refine ⟨_, rfl, ?_⟩; refine rn ?_
  have hA := hA.le (hE4.trans hE5)
  repeat' (first | (refine g_callf 40 ?_; refine ow_call Tryd.call40 rfl ((awake_calls _ _ _ hA hG3).mono ?_); clear hA; (try clear w); rintro e w ⟨rfl, hA⟩; refine ⟨_, rfl, ?_⟩; refine rn ?_) | ((refine g_wc ?_; first | (refine wc_seq ?_) | (refine wc_region ?_) | (refine wc_block ?_) | (refine wc_true rfl ?_) | (refine wc_false rfl ?_) | (refine wc_pt rfl (by omega) ?_) | (refine wc_pf rfl (by omega) ?_) | (refine wc_nt rfl (by omega) ?_) | (refine wc_nf rfl (by omega) ?_) | (refine wc_pp rfl (fun h => ?_) (fun h => ?_)) | (refine wc_nn rfl (fun h => ?_) (fun h => ?_)) | (refine wc_skip ?_) | (refine wc_exit ?_) | (refine wc_ret ?_))) | (refine g_rl ?_; first | (first | (refine rl_op ?_) | (refine rl_nil ?_) | (refine rl_on rfl ?_) | (refine rl_pt rfl (by omega) ?_) | (refine rl_qt rfl (by omega) ?_) | (refine rl_nt rfl (by omega) ?_) | (refine rl_mt rfl (by omega) ?_)) | ((first | (refine rl_off rfl rfl ?_) | (refine rl_undef rfl ?_) | (refine rl_pf rfl (by omega) ?_) | (refine rl_qf rfl (by omega) ?_) | (refine rl_nf rfl (by omega) ?_) | (refine rl_mf rfl (by omega) ?_)); refine rn ?_) | (first | (refine rl_pp rfl (fun h => o_n ?_) (fun h => rn ?_)) | (refine rl_qq rfl (fun h => o_n ?_) (fun h => rn ?_)) | (refine rl_nn rfl (fun h => o_n ?_) (fun h => rn ?_)) | (refine rl_mm rfl (fun h => o_n ?_) (fun h => rn ?_)))) | ((refine g_bin ?_; refine p_b ?_); refine rn ?_) | (refine g_call ?_; first | ((first | (refine p_l ?_)); refine rn ?_) | ((first | (refine t_appx rfl rfl hA rfl ?_)); clear hA; (try clear w); intro v w hA hone hnil; refine h_n hA ?_; clear hA; intro hA; refine rn ?_)) | ((refine g_conv ?_; first | (refine p_c hA ?_)); refine rn ?_) | ((refine g_load ?_; first | (refine t_loadx rfl hA ?_) | (refine t_loada rfl hA ?_)); refine rn ?_) | (refine g_store ?_; first | ((first | (refine t_storex rfl rfl hA ?_)); clear hA; (try clear w); intro w hA; refine h_n hA ?_; clear hA; intro hA; refine rn ?_) | ((first | (refine t_storea rfl rfl hA ?_)); clear hA; (try clear w); intro w hA; (try simp only [List.drop_zero, List.drop_nil, List.drop_succ_cons, List.take_succ_cons, List.take_zero, List.length_cons, List.length_nil, Nat.zero_add, Nat.reduceAdd] at hA); refine h_n hA ?_; clear hA; intro hA; refine rn ?_)) | (refine g_ow ?_; first | ((first | (refine p_o ?_)); refine rn ?_) | ((first | (refine t_alloc hA ?_) | (refine ow_box rfl rfl hA ?_) | (refine t_buildSlice rfl (by decide) rfl hA ?_)); clear hA; (try clear w); intro b w hA; refine h_n hA ?_; clear hA; intro hA; refine rn ?_) | ((first | (refine t_make rfl rfl (by omega) (by omega) hA ?_)); clear hA; (try clear w); intro v w hA hone hnil; refine rn ?_)) | (refine tq_normal ?_) | (refine bq_normal ?_) | (refine bq_hit ?_) | (refine bq_miss (by decide) ?_) | (refine tq_exit ?_) | (refine lq_exit ?_) | (refine tq_ret ?_) | (refine bq_ret ?_) | (refine lq_ret ?_))
  exact ret1 (hA.le hEE) rfl rfl
end Go.Proofs.YteeeabnfgpolgaaDoor
