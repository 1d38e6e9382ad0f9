/-
  spindlelaw04.AnnexbCanonical, walked.
-/
import Derived.Test.YtlgkdnnjligcaaaDoorB1
set_option linter.unusedVariables false
set_option linter.unusedSimpArgs false
namespace Go.Proofs.YtlgkdnnjligcaaaDoor
open Go Go.RowKit
attribute [local irreducible] WC RL OW bodyPostM ThenQ BlockQ LoopQ ScopeQ
def bareL : List (List UInt8) → Nat
  | [] => 0
  | u :: L => 3 + u.length + bareL L
theorem bareL_append (M : List (List UInt8)) : ∀ L, bareL (L ++ M) = bareL L + bareL M
  | [] => by simp [bareL]
  | u :: L => by rw [List.cons_append, bareL, bareL, bareL_append M L]; omega
theorem bareL_take {L : List (List UInt8)} {i : Nat} {u : List UInt8} (h : L[i]? = some u) : bareL (L.take (i + 1)) = bareL (L.take i) + (3 + u.length) := by
  rw [take_snoc h, bareL_append]; simp [bareL]
theorem bareL_len : ∀ (L : List (List UInt8)), 3 * L.length ≤ bareL L
  | [] => Nat.zero_le _
  | u :: L => by have := bareL_len L; rw [bareL, List.length_cons]; omega
theorem bareL_mem : ∀ (L : List (List UInt8)), ∀ u ∈ L, u.length ≤ bareL L
  | u :: L, v, h => by
    rw [bareL]
    rcases List.mem_cons.1 h with rfl | h
    · omega
    · have := bareL_mem L v h; omega
theorem bareL_le (L : List (List UInt8)) (i : Nat) : bareL (L.take i) ≤ bareL L := by
  conv => rhs; rw [← List.take_append_drop i L, bareL_append]
  omega
theorem str_bare {L : List (List UInt8)} {s : List UInt8} (h : Str L s) : bareL L ≤ s.length ∧ L.all mayB = true := by
  induction h with
  | nil n => exact ⟨Nat.zero_le _, rfl⟩
  | cons h1 h2 h3 ih =>
    refine ⟨?_, by rw [List.all_cons, h1, ih.2]; rfl⟩
    rw [bareL]; simp; omega
theorem joinB_bare : ∀ (L : List (List UInt8)) (f : Bool), bareL L ≤ (joinB f L).length ∧ (joinB f L).length ≤ bareL L + L.length
  | [], f => by simp [joinB, bareL]
  | u :: L, f => by
    have h1 := joinB_bare L false
    have h2 := pieceB_len f u
    rw [joinB, bareL, List.length_append, List.length_cons]
    omega
attribute [local irreducible] splitR joinR joinB splitP bareL
set_option maxHeartbeats 8000000 in
theorem annexbCanonical_calls (s : List UInt8) (E : Env) (L : List Item) (w : World) (hA : Sat E L w) (hG : GE E) :
    Calls Tryd.prog 8 ⟨[.string (bs s)]⟩ w (Ret E L (.bool true)) := by
  have hz : bareL ([] : List (List UInt8)) = 0 := by unfold bareL; rfl
  have hsr : splitR s = if 16777216 < s.length then ([], 6) else splitRes (splitP s) := by unfold splitR; rfl
  refine enter (fn := Tryd.f8) Tryd.func8 rfl 112 rfl [.string (bs s), undef, undef, undef, undef, undef, undef, undef, undef, undef, undef, undef, undef, undef, undef, undef, undef, undef, undef, undef, undef, undef, undef, undef, undef, undef, undef, undef, undef, undef, undef, undef, undef, undef, undef, undef, undef, undef, undef, undef, undef, undef, undef, undef, undef, undef, undef, undef, undef, undef, undef, undef, undef, undef, undef, undef, undef, undef, undef, undef, undef, undef, undef, undef, undef, undef, undef, undef, undef, undef, undef, undef, undef, undef, undef, undef, undef, undef, undef, undef, undef, undef, undef, undef, undef, undef, undef, undef, undef, undef, undef, undef, undef, undef, undef, undef, undef, undef, undef, undef, undef, undef, undef, undef, undef, undef, undef, undef, undef, undef, undef, undef] rfl ?_
  by_cases hl : 2000 < s.length
  · repeat' (first | (refine g_callf 11 ?_; refine ow_call Tryd.call11 rfl ((known_calls E _ w hA hG).mono ?_); clear hA; (try clear w); rintro e w ⟨rfl, hA⟩; refine ⟨_, rfl, ?_⟩; refine rn ?_) | ((refine g_wc ?_; first | (refine wc_seq ?_) | (refine wc_region ?_) | (refine wc_block ?_) | (refine wc_true rfl ?_) | (refine wc_false rfl ?_) | (refine wc_pt rfl (by omega) ?_) | (refine wc_pf rfl (by omega) ?_) | (refine wc_nt rfl (by omega) ?_) | (refine wc_nf rfl (by omega) ?_) | (refine wc_pp rfl (fun h => ?_) (fun h => ?_)) | (refine wc_nn rfl (fun h => ?_) (fun h => ?_)) | (refine wc_skip ?_) | (refine wc_exit ?_) | (refine wc_ret ?_))) | (refine g_rl ?_; first | (first | (refine rl_op ?_) | (refine rl_nil ?_) | (refine rl_on rfl ?_) | (refine rl_pt rfl (by omega) ?_) | (refine rl_qt rfl (by omega) ?_) | (refine rl_nt rfl (by omega) ?_) | (refine rl_mt rfl (by omega) ?_)) | ((first | (refine rl_off rfl rfl ?_) | (refine rl_undef rfl ?_) | (refine rl_pf rfl (by omega) ?_) | (refine rl_qf rfl (by omega) ?_) | (refine rl_nf rfl (by omega) ?_) | (refine rl_mf rfl (by omega) ?_)); refine rn ?_) | (first | (refine rl_pp rfl (fun h => o_n ?_) (fun h => rn ?_)) | (refine rl_qq rfl (fun h => o_n ?_) (fun h => rn ?_)) | (refine rl_nn rfl (fun h => o_n ?_) (fun h => rn ?_)) | (refine rl_mm rfl (fun h => o_n ?_) (fun h => rn ?_)))) | ((refine g_bin ?_; refine p_b ?_); refine rn ?_) | (refine g_call ?_; first | ((first | (refine p_l ?_)); refine rn ?_) | ((first | (refine t_appx rfl rfl hA rfl ?_)); clear hA; (try clear w); intro v w hA hone hnil; refine h_n hA ?_; clear hA; intro hA; refine rn ?_)) | ((refine g_conv ?_; first | (refine p_c hA ?_)); refine rn ?_) | ((refine g_load ?_; first | (refine t_loadx rfl hA ?_) | (refine t_loada rfl hA ?_)); refine rn ?_) | (refine g_store ?_; first | ((first | (refine t_storex rfl rfl hA ?_)); clear hA; (try clear w); intro w hA; refine h_n hA ?_; clear hA; intro hA; refine rn ?_) | ((first | (refine t_storea rfl rfl hA ?_)); clear hA; (try clear w); intro w hA; (try simp only [List.drop_zero, List.drop_nil, List.drop_succ_cons, List.take_succ_cons, List.take_zero, List.length_cons, List.length_nil, Nat.zero_add, Nat.reduceAdd] at hA); refine h_n hA ?_; clear hA; intro hA; refine rn ?_)) | (refine g_ow ?_; first | ((first | (refine p_o ?_)); refine rn ?_) | ((first | (refine t_alloc hA ?_) | (refine ow_box rfl rfl hA ?_) | (refine t_buildSlice rfl (by decide) rfl hA ?_)); clear hA; (try clear w); intro b w hA; refine h_n hA ?_; clear hA; intro hA; refine rn ?_) | ((first | (refine t_make rfl rfl (by omega) (by omega) hA ?_)); clear hA; (try clear w); intro v w hA hone hnil; refine rn ?_)) | (refine tq_normal ?_) | (refine bq_normal ?_) | (refine bq_hit ?_) | (refine bq_miss (by decide) ?_) | (refine tq_exit ?_) | (refine lq_exit ?_) | (refine tq_ret ?_) | (refine bq_ret ?_) | (refine lq_ret ?_))
    exact ret1 hA rfl rfl
  · rw [if_neg (by omega)] at hsr
    cases hp : splitP s with
    | none =>
      have e : splitR s = ([], 4) := by rw [hsr, hp]; rfl
      repeat' (first | (refine g_callf 12 ?_; refine ow_call Tryd.call12 rfl ((split_calls s (by omega) E _ w hA hG).mono ?_); clear hA; (try clear w); rintro e w ⟨E1, v1, rfl, hE1, hv1, hA⟩; refine ⟨_, rfl, ?_⟩; (try rw [e] at hv1; rw [e]); refine rn ?_) | ((refine g_wc ?_; first | (refine wc_seq ?_) | (refine wc_regionS 5 rfl ?_; refine wc_region ?_) | (refine wc_block ?_) | (refine wc_true rfl ?_) | (refine wc_false rfl ?_) | (refine wc_pt rfl (by omega) ?_) | (refine wc_pf rfl (by omega) ?_) | (refine wc_nt rfl (by omega) ?_) | (refine wc_nf rfl (by omega) ?_) | (refine wc_pp rfl (fun h => ?_) (fun h => ?_)) | (refine wc_nn rfl (fun h => ?_) (fun h => ?_)) | (refine wc_skip ?_) | (refine wc_exit ?_) | (refine wc_ret ?_))) | (refine g_rl ?_; first | (first | (refine rl_op ?_) | (refine rl_nil ?_) | (refine rl_on rfl ?_) | (refine rl_pt rfl (by omega) ?_) | (refine rl_qt rfl (by omega) ?_) | (refine rl_nt rfl (by omega) ?_) | (refine rl_mt rfl (by omega) ?_)) | ((first | (refine rl_off rfl rfl ?_) | (refine rl_undef rfl ?_) | (refine rl_pf rfl (by omega) ?_) | (refine rl_qf rfl (by omega) ?_) | (refine rl_nf rfl (by omega) ?_) | (refine rl_mf rfl (by omega) ?_)); refine rn ?_) | (first | (refine rl_pp rfl (fun h => o_n ?_) (fun h => rn ?_)) | (refine rl_qq rfl (fun h => o_n ?_) (fun h => rn ?_)) | (refine rl_nn rfl (fun h => o_n ?_) (fun h => rn ?_)) | (refine rl_mm rfl (fun h => o_n ?_) (fun h => rn ?_)))) | ((refine g_bin ?_; refine p_b ?_); refine rn ?_) | (refine g_call ?_; first | ((first | (refine p_l ?_)); refine rn ?_) | ((first | (refine t_appx rfl rfl hA rfl ?_)); clear hA; (try clear w); intro v w hA hone hnil; refine h_n hA ?_; clear hA; intro hA; refine rn ?_)) | ((refine g_conv ?_; first | (refine p_c hA ?_)); refine rn ?_) | ((refine g_load ?_; first | (refine t_loadx rfl hA ?_) | (refine t_loada rfl hA ?_)); refine rn ?_) | (refine g_store ?_; first | ((first | (refine t_storex rfl rfl hA ?_)); clear hA; (try clear w); intro w hA; refine h_n hA ?_; clear hA; intro hA; refine rn ?_) | ((first | (refine t_storea rfl rfl hA ?_)); clear hA; (try clear w); intro w hA; (try simp only [List.drop_zero, List.drop_nil, List.drop_succ_cons, List.take_succ_cons, List.take_zero, List.length_cons, List.length_nil, Nat.zero_add, Nat.reduceAdd] at hA); refine h_n hA ?_; clear hA; intro hA; refine rn ?_)) | (refine g_ow ?_; first | ((first | (refine p_o ?_)); refine rn ?_) | ((first | (refine t_alloc hA ?_) | (refine ow_box rfl rfl hA ?_) | (refine t_buildSlice rfl (by decide) rfl hA ?_)); clear hA; (try clear w); intro b w hA; refine h_n hA ?_; clear hA; intro hA; refine rn ?_) | ((first | (refine t_make rfl rfl (by omega) (by omega) hA ?_)); clear hA; (try clear w); intro v w hA hone hnil; refine rn ?_)) | (refine tq_normal ?_) | (refine bq_normal ?_) | (refine bq_hit ?_) | (refine bq_miss (by decide) ?_) | (refine tq_exit ?_) | (refine lq_exit ?_) | (refine tq_ret ?_) | (refine bq_ret ?_) | (refine lq_ret ?_))
      replace hv1 : ListE strR 1 E1 v1 [] := hv1
      obtain ⟨c1, hc1⟩ := hv1.sl
      repeat' (first | (refine g_call ?_; refine t_lenS rfl hc1 ?_; refine rn ?_) | (first | (refine g_rl ?_; first | (first | refine rl_pt rfl (by exact rfl) ?_ | refine rl_qt rfl (by exact rfl) ?_ | refine rl_nt rfl (by exact rfl) ?_ | refine rl_mt rfl (by exact rfl) ?_) | ((first | refine rl_pf rfl (by exact rfl) ?_ | refine rl_qf rfl (by exact rfl) ?_ | refine rl_nf rfl (by exact rfl) ?_ | refine rl_mf rfl (by exact rfl) ?_); refine rn ?_)) | (refine g_wc ?_; first | refine wc_pt rfl (by exact rfl) ?_ | refine wc_pf rfl (by exact rfl) ?_ | refine wc_nt rfl (by exact rfl) ?_ | refine wc_nf rfl (by exact rfl) ?_) | ((refine g_ow ?_; first | refine ow_pick_pt rfl (by exact rfl) ?_ | refine ow_pick_pf rfl (by exact rfl) ?_ | refine ow_pick_nt rfl (by exact rfl) ?_ | refine ow_pick_nf rfl (by exact rfl) ?_); refine rn ?_)) | (refine g_callf 11 ?_; refine ow_call Tryd.call11 rfl ((known_calls _ _ w hA (hG.mono hE1)).mono ?_); clear hA; (try clear w); rintro e w ⟨rfl, hA⟩; refine ⟨_, rfl, ?_⟩; refine rn ?_) | ((refine g_wc ?_; first | (refine wc_seq ?_) | (refine wc_region ?_) | (refine wc_block ?_) | (refine wc_true rfl ?_) | (refine wc_false rfl ?_) | (refine wc_pt rfl (by omega) ?_) | (refine wc_pf rfl (by omega) ?_) | (refine wc_nt rfl (by omega) ?_) | (refine wc_nf rfl (by omega) ?_) | (refine wc_pp rfl (fun h => ?_) (fun h => ?_)) | (refine wc_nn rfl (fun h => ?_) (fun h => ?_)) | (refine wc_skip ?_) | (refine wc_exit ?_) | (refine wc_ret ?_))) | (refine g_rl ?_; first | (first | (refine rl_op ?_) | (refine rl_nil ?_) | (refine rl_on rfl ?_) | (refine rl_pt rfl (by omega) ?_) | (refine rl_qt rfl (by omega) ?_) | (refine rl_nt rfl (by omega) ?_) | (refine rl_mt rfl (by omega) ?_)) | ((first | (refine rl_off rfl rfl ?_) | (refine rl_undef rfl ?_) | (refine rl_pf rfl (by omega) ?_) | (refine rl_qf rfl (by omega) ?_) | (refine rl_nf rfl (by omega) ?_) | (refine rl_mf rfl (by omega) ?_)); refine rn ?_) | (first | (refine rl_pp rfl (fun h => o_n ?_) (fun h => rn ?_)) | (refine rl_qq rfl (fun h => o_n ?_) (fun h => rn ?_)) | (refine rl_nn rfl (fun h => o_n ?_) (fun h => rn ?_)) | (refine rl_mm rfl (fun h => o_n ?_) (fun h => rn ?_)))) | ((refine g_bin ?_; refine p_b ?_); refine rn ?_) | (refine g_call ?_; first | ((first | (refine p_l ?_)); refine rn ?_) | ((first | (refine t_appx rfl rfl hA rfl ?_)); clear hA; (try clear w); intro v w hA hone hnil; refine h_n hA ?_; clear hA; intro hA; refine rn ?_)) | ((refine g_conv ?_; first | (refine p_c hA ?_)); refine rn ?_) | ((refine g_load ?_; first | (refine t_loadx rfl hA ?_) | (refine t_loada rfl hA ?_)); refine rn ?_) | (refine g_store ?_; first | ((first | (refine t_storex rfl rfl hA ?_)); clear hA; (try clear w); intro w hA; refine h_n hA ?_; clear hA; intro hA; refine rn ?_) | ((first | (refine t_storea rfl rfl hA ?_)); clear hA; (try clear w); intro w hA; (try simp only [List.drop_zero, List.drop_nil, List.drop_succ_cons, List.take_succ_cons, List.take_zero, List.length_cons, List.length_nil, Nat.zero_add, Nat.reduceAdd] at hA); refine h_n hA ?_; clear hA; intro hA; refine rn ?_)) | (refine g_ow ?_; first | ((first | (refine p_o ?_)); refine rn ?_) | ((first | (refine t_alloc hA ?_) | (refine ow_box rfl rfl hA ?_) | (refine t_buildSlice rfl (by decide) rfl hA ?_)); clear hA; (try clear w); intro b w hA; refine h_n hA ?_; clear hA; intro hA; refine rn ?_) | ((first | (refine t_make rfl rfl (by omega) (by omega) hA ?_)); clear hA; (try clear w); intro v w hA hone hnil; refine rn ?_)) | (refine tq_normal ?_) | (refine bq_normal ?_) | (refine bq_hit ?_) | (refine bq_miss (by decide) ?_) | (refine tq_exit ?_) | (refine lq_exit ?_) | (refine tq_ret ?_) | (refine bq_ret ?_) | (refine lq_ret ?_))
      all_goals exact ret1 (hA.le hE1) rfl rfl
    | some L0 =>
      have hstr := str_of_split hp
      obtain ⟨hbare, hall⟩ := str_bare hstr
      have h3 := bareL_len L0
      have e : splitR s = (L0, 0) := splitR_str hstr (by omega) (by omega)
      have hS : Shorts L0 := fun u hu => by have := bareL_mem L0 u hu; omega
      have hj := join_ok hall (by omega) (fun u hu => by have := bareL_mem L0 u hu; omega)
      obtain ⟨hj1, hj2⟩ := hj
      obtain ⟨hb1, hb2⟩ := joinB_bare L0 true
      have hs2 : splitR (joinB true L0) = (L0, 0) := splitR_str (str_join L0 true hall) (by omega) (by omega)
      have hdl : decide (L0 = L0) = true := decide_eq_true rfl
      have ht0 : bareL (L0.take 0) = 0 := by rw [List.take_zero]; exact hz
      repeat' (first | (refine g_callf 12 ?_; refine ow_call Tryd.call12 rfl ((split_calls s (by omega) E _ w hA hG).mono ?_); clear hA; (try clear w); rintro e w ⟨E1, v1, rfl, hE1, hv1, hA⟩; refine ⟨_, rfl, ?_⟩; (try rw [e] at hv1; rw [e]); refine rn ?_) | ((refine g_wc ?_; first | (refine wc_seq ?_) | (refine wc_regionS 6 rfl ?_; refine wc_region ?_) | (refine wc_block ?_) | (refine wc_true rfl ?_) | (refine wc_false rfl ?_) | (refine wc_pt rfl (by omega) ?_) | (refine wc_pf rfl (by omega) ?_) | (refine wc_nt rfl (by omega) ?_) | (refine wc_nf rfl (by omega) ?_) | (refine wc_pp rfl (fun h => ?_) (fun h => ?_)) | (refine wc_nn rfl (fun h => ?_) (fun h => ?_)) | (refine wc_skip ?_) | (refine wc_exit ?_) | (refine wc_ret ?_))) | (refine g_rl ?_; first | (first | (refine rl_op ?_) | (refine rl_nil ?_) | (refine rl_on rfl ?_) | (refine rl_pt rfl (by omega) ?_) | (refine rl_qt rfl (by omega) ?_) | (refine rl_nt rfl (by omega) ?_) | (refine rl_mt rfl (by omega) ?_)) | ((first | (refine rl_off rfl rfl ?_) | (refine rl_undef rfl ?_) | (refine rl_pf rfl (by omega) ?_) | (refine rl_qf rfl (by omega) ?_) | (refine rl_nf rfl (by omega) ?_) | (refine rl_mf rfl (by omega) ?_)); refine rn ?_) | (first | (refine rl_pp rfl (fun h => o_n ?_) (fun h => rn ?_)) | (refine rl_qq rfl (fun h => o_n ?_) (fun h => rn ?_)) | (refine rl_nn rfl (fun h => o_n ?_) (fun h => rn ?_)) | (refine rl_mm rfl (fun h => o_n ?_) (fun h => rn ?_)))) | ((refine g_bin ?_; refine p_b ?_); refine rn ?_) | (refine g_call ?_; first | ((first | (refine p_l ?_)); refine rn ?_) | ((first | (refine t_appx rfl rfl hA rfl ?_)); clear hA; (try clear w); intro v w hA hone hnil; refine h_n hA ?_; clear hA; intro hA; refine rn ?_)) | ((refine g_conv ?_; first | (refine p_c hA ?_)); refine rn ?_) | ((refine g_load ?_; first | (refine t_loadx rfl hA ?_) | (refine t_loada rfl hA ?_)); refine rn ?_) | (refine g_store ?_; first | ((first | (refine t_storex rfl rfl hA ?_)); clear hA; (try clear w); intro w hA; refine h_n hA ?_; clear hA; intro hA; refine rn ?_) | ((first | (refine t_storea rfl rfl hA ?_)); clear hA; (try clear w); intro w hA; (try simp only [List.drop_zero, List.drop_nil, List.drop_succ_cons, List.take_succ_cons, List.take_zero, List.length_cons, List.length_nil, Nat.zero_add, Nat.reduceAdd] at hA); refine h_n hA ?_; clear hA; intro hA; refine rn ?_)) | (refine g_ow ?_; first | ((first | (refine p_o ?_)); refine rn ?_) | ((first | (refine t_alloc hA ?_) | (refine ow_box rfl rfl hA ?_) | (refine t_buildSlice rfl (by decide) rfl hA ?_)); clear hA; (try clear w); intro b w hA; refine h_n hA ?_; clear hA; intro hA; refine rn ?_) | ((first | (refine t_make rfl rfl (by omega) (by omega) hA ?_)); clear hA; (try clear w); intro v w hA hone hnil; refine rn ?_)) | (refine tq_normal ?_) | (refine bq_normal ?_) | (refine bq_hit ?_) | (refine bq_miss (by decide) ?_) | (refine tq_exit ?_) | (refine lq_exit ?_) | (refine tq_ret ?_) | (refine bq_ret ?_) | (refine lq_ret ?_))
      replace hv1 : ListE strR 1 E1 v1 L0 := hv1
      obtain ⟨c1, hc1⟩ := hv1.sl
      repeat' (first | ((refine g_wc ?_; first | (refine wc_seq ?_) | (refine wc_region ?_) | (refine wc_block ?_) | (refine wc_true rfl ?_) | (refine wc_false rfl ?_) | (refine wc_pt rfl (by omega) ?_) | (refine wc_pf rfl (by omega) ?_) | (refine wc_nt rfl (by omega) ?_) | (refine wc_nf rfl (by omega) ?_) | (refine wc_pp rfl (fun h => ?_) (fun h => ?_)) | (refine wc_nn rfl (fun h => ?_) (fun h => ?_)) | (refine wc_skip ?_) | (refine wc_exit ?_) | (refine wc_ret ?_))) | (refine g_rl ?_; first | (first | (refine rl_op ?_) | (refine rl_nil ?_) | (refine rl_on rfl ?_) | (refine rl_pt rfl (by omega) ?_) | (refine rl_qt rfl (by omega) ?_) | (refine rl_nt rfl (by omega) ?_) | (refine rl_mt rfl (by omega) ?_)) | ((first | (refine rl_off rfl rfl ?_) | (refine rl_undef rfl ?_) | (refine rl_pf rfl (by omega) ?_) | (refine rl_qf rfl (by omega) ?_) | (refine rl_nf rfl (by omega) ?_) | (refine rl_mf rfl (by omega) ?_)); refine rn ?_) | (first | (refine rl_pp rfl (fun h => o_n ?_) (fun h => rn ?_)) | (refine rl_qq rfl (fun h => o_n ?_) (fun h => rn ?_)) | (refine rl_nn rfl (fun h => o_n ?_) (fun h => rn ?_)) | (refine rl_mm rfl (fun h => o_n ?_) (fun h => rn ?_)))) | ((refine g_bin ?_; refine p_b ?_); refine rn ?_) | (refine g_call ?_; first | ((first | (refine p_l ?_)); refine rn ?_) | ((first | (refine t_appx rfl rfl hA rfl ?_)); clear hA; (try clear w); intro v w hA hone hnil; refine h_n hA ?_; clear hA; intro hA; refine rn ?_)) | ((refine g_conv ?_; first | (refine p_c hA ?_)); refine rn ?_) | ((refine g_load ?_; first | (refine t_loadx rfl hA ?_) | (refine t_loada rfl hA ?_)); refine rn ?_) | (refine g_store ?_; first | ((first | (refine t_storex rfl rfl hA ?_)); clear hA; (try clear w); intro w hA; refine h_n hA ?_; clear hA; intro hA; refine rn ?_) | ((first | (refine t_storea rfl rfl hA ?_)); clear hA; (try clear w); intro w hA; (try simp only [List.drop_zero, List.drop_nil, List.drop_succ_cons, List.take_succ_cons, List.take_zero, List.length_cons, List.length_nil, Nat.zero_add, Nat.reduceAdd] at hA); refine h_n hA ?_; clear hA; intro hA; refine rn ?_)) | (refine g_ow ?_; first | ((first | (refine p_o ?_)); refine rn ?_) | ((first | (refine t_alloc hA ?_) | (refine ow_box rfl rfl hA ?_) | (refine t_buildSlice rfl (by decide) rfl hA ?_)); clear hA; (try clear w); intro b w hA; refine h_n hA ?_; clear hA; intro hA; refine rn ?_) | ((first | (refine t_make rfl rfl (by omega) (by omega) hA ?_)); clear hA; (try clear w); intro v w hA hone hnil; refine rn ?_)) | (refine tq_normal ?_) | (refine bq_normal ?_) | (refine bq_hit ?_) | (refine bq_miss (by decide) ?_) | (refine tq_exit ?_) | (refine lq_exit ?_) | (refine tq_ret ?_) | (refine bq_ret ?_) | (refine lq_ret ?_))
      refine wc_loopn (fun m l w => ∃ (i : Nat) (v : Value), (∃ jk : Nat → Value, l = [.string (bs s), jk 1, jk 2, v, .int .i64 0, .int .i64 (bareL (L0.take i) : Int), .int .i64 (i : Int), jk 7, jk 8, jk 9, jk 10, jk 11, jk 12, jk 13, jk 14, jk 15, jk 16, jk 17, jk 18, jk 19, jk 20, jk 21, jk 22, jk 23, jk 24, jk 25, jk 26, jk 27, jk 28, jk 29, jk 30, jk 31, jk 32, jk 33, jk 34, jk 35, jk 36, jk 37, jk 38, jk 39, jk 40, jk 41, jk 42, jk 43, jk 44, jk 45, jk 46, jk 47, jk 48, jk 49, jk 50, jk 51, jk 52, jk 53, jk 54, jk 55, jk 56, jk 57, jk 58, jk 59, jk 60, jk 61, jk 62, jk 63, jk 64, jk 65, jk 66, jk 67, jk 68, jk 69, jk 70, jk 71, jk 72, jk 73, jk 74, jk 75, jk 76, jk 77, jk 78, jk 79, jk 80, jk 81, jk 82, jk 83, jk 84, jk 85, jk 86, jk 87, jk 88, jk 89, jk 90, jk 91, jk 92, jk 93, jk 94, jk 95, jk 96, jk 97, jk 98, jk 99, jk 100, jk 101, jk 102, jk 103, jk 104, jk 105, jk 106, jk 107, jk 108, jk 109, jk 110, jk 111]) ∧ v = v1 ∧ i + m = L0.length ∧ Sat E1 L w) L0.length ⟨0, v1, ?_, rfl, by omega, hA⟩ ?_
      · rw [ht0]; exact (ex_getD rfl)
      clear hA
      rintro m l w ⟨i, v, ⟨jk, rfl⟩, rfl, hi, hA⟩
      have hbi := bareL_le L0 i
      by_cases hlt : i < L0.length
      · obtain ⟨u, hui⟩ : ∃ u, L0[i]? = some u := ⟨_, List.getElem?_eq_getElem hlt⟩
        obtain ⟨cs, hcsl, ⟨rfl, hu64⟩, hcx1⟩ := hv1.get hui
        have hx0 : E1.cell? ⟨sB v, sO v + (i : Int).toNat * 1, none⟩ = some (vs u) := hcx1 0 _ rfl
        have hm : mayB u = true := List.all_eq_true.1 hall u (List.mem_of_getElem? hui)
        have hul := bareL_mem L0 u (List.mem_of_getElem? hui)
        have hnx := bareL_take hui
        repeat' (first | (refine g_call ?_; refine t_lenS rfl hc1 ?_; refine rn ?_) | (refine g_ow ?_; refine t_indexAddrS rfl hc1 rfl (by omega) ?_; refine rn ?_) | (refine g_ow ?_; refine t_load_env rfl rfl hA hx0 ?_; refine rn ?_) | (refine g_callf 21 ?_; refine ow_call Tryd.call21 rfl ((lawMay_calls u (by omega) _ _ w hA).mono ?_); clear hA; (try clear w); rintro e w ⟨rfl, hA⟩; refine ⟨_, rfl, ?_⟩; (try rw [hm]); refine rn ?_) | ((refine g_wc ?_; first | (refine wc_seq ?_) | (refine wc_region ?_) | (refine wc_block ?_) | (refine wc_true rfl ?_) | (refine wc_false rfl ?_) | (refine wc_pt rfl (by omega) ?_) | (refine wc_pf rfl (by omega) ?_) | (refine wc_nt rfl (by omega) ?_) | (refine wc_nf rfl (by omega) ?_) | (refine wc_pp rfl (fun h => ?_) (fun h => ?_)) | (refine wc_nn rfl (fun h => ?_) (fun h => ?_)) | (refine wc_skip ?_) | (refine wc_exit ?_) | (refine wc_ret ?_))) | (refine g_rl ?_; first | (first | (refine rl_op ?_) | (refine rl_nil ?_) | (refine rl_on rfl ?_) | (refine rl_pt rfl (by omega) ?_) | (refine rl_qt rfl (by omega) ?_) | (refine rl_nt rfl (by omega) ?_) | (refine rl_mt rfl (by omega) ?_)) | ((first | (refine rl_off rfl rfl ?_) | (refine rl_undef rfl ?_) | (refine rl_pf rfl (by omega) ?_) | (refine rl_qf rfl (by omega) ?_) | (refine rl_nf rfl (by omega) ?_) | (refine rl_mf rfl (by omega) ?_)); refine rn ?_) | (first | (refine rl_pp rfl (fun h => o_n ?_) (fun h => rn ?_)) | (refine rl_qq rfl (fun h => o_n ?_) (fun h => rn ?_)) | (refine rl_nn rfl (fun h => o_n ?_) (fun h => rn ?_)) | (refine rl_mm rfl (fun h => o_n ?_) (fun h => rn ?_)))) | ((refine g_bin ?_; refine p_b ?_); refine rn ?_) | (refine g_call ?_; first | ((first | (refine p_l ?_)); refine rn ?_) | ((first | (refine t_appx rfl rfl hA rfl ?_)); clear hA; (try clear w); intro v w hA hone hnil; refine h_n hA ?_; clear hA; intro hA; refine rn ?_)) | ((refine g_conv ?_; first | (refine p_c hA ?_)); refine rn ?_) | ((refine g_load ?_; first | (refine t_loadx rfl hA ?_) | (refine t_loada rfl hA ?_)); refine rn ?_) | (refine g_store ?_; first | ((first | (refine t_storex rfl rfl hA ?_)); clear hA; (try clear w); intro w hA; refine h_n hA ?_; clear hA; intro hA; refine rn ?_) | ((first | (refine t_storea rfl rfl hA ?_)); clear hA; (try clear w); intro w hA; (try simp only [List.drop_zero, List.drop_nil, List.drop_succ_cons, List.take_succ_cons, List.take_zero, List.length_cons, List.length_nil, Nat.zero_add, Nat.reduceAdd] at hA); refine h_n hA ?_; clear hA; intro hA; refine rn ?_)) | (refine g_ow ?_; first | ((first | (refine p_o ?_)); refine rn ?_) | ((first | (refine t_alloc hA ?_) | (refine ow_box rfl rfl hA ?_) | (refine t_buildSlice rfl (by decide) rfl hA ?_)); clear hA; (try clear w); intro b w hA; refine h_n hA ?_; clear hA; intro hA; refine rn ?_) | ((first | (refine t_make rfl rfl (by omega) (by omega) hA ?_)); clear hA; (try clear w); intro v w hA hone hnil; refine rn ?_)) | (refine tq_normal ?_) | (refine bq_normal ?_) | (refine bq_hit ?_) | (refine bq_miss (by decide) ?_) | (refine tq_exit ?_) | (refine lq_exit ?_) | (refine tq_ret ?_) | (refine bq_ret ?_) | (refine lq_ret ?_))
        refine lq_next (m - 1) (by omega) ⟨i + 1, v, ?_, rfl, by omega, hA⟩
        rw [hnx]
        have e3 : ((bareL (L0.take i) + (3 + u.length) : Nat) : Int) = (bareL (L0.take i) : Int) + 3 + (u.length : Int) := by omega
        rw [e3]
        exact (ex_getD rfl)
      · have hti : L0.take i = L0 := List.take_of_length_le (by omega)
        rw [hti]
        repeat' (first | (refine g_call ?_; refine t_lenS rfl hc1 ?_; refine rn ?_) | (refine g_callf 16 ?_; refine ow_call Tryd.call16 rfl ((join_calls _ _ hS _ _ _ hA (hG.mono hE1) hv1).mono ?_); clear hA; (try clear w); rintro e w ⟨rfl, hA⟩; refine ⟨_, rfl, ?_⟩; (try rw [hj1]); refine rn ?_) | (refine g_callf 12 ?_; refine ow_call Tryd.call12 rfl ((split_calls (joinB true L0) (by omega) _ _ w hA (hG.mono hE1)).mono ?_); clear hA; (try clear w); rintro e w ⟨E2, v2, rfl, hE2, hv2, hA⟩; refine ⟨_, rfl, ?_⟩; (try rw [hs2] at hv2; rw [hs2]); refine rn ?_) | ((refine g_wc ?_; first | (refine wc_seq ?_) | (refine wc_regionS 15 rfl ?_; refine wc_region ?_) | (refine wc_block ?_) | (refine wc_true rfl ?_) | (refine wc_false rfl ?_) | (refine wc_pt rfl (by omega) ?_) | (refine wc_pf rfl (by omega) ?_) | (refine wc_nt rfl (by omega) ?_) | (refine wc_nf rfl (by omega) ?_) | (refine wc_pp rfl (fun h => ?_) (fun h => ?_)) | (refine wc_nn rfl (fun h => ?_) (fun h => ?_)) | (refine wc_skip ?_) | (refine wc_exit ?_) | (refine wc_ret ?_))) | (refine g_rl ?_; first | (first | (refine rl_op ?_) | (refine rl_nil ?_) | (refine rl_on rfl ?_) | (refine rl_pt rfl (by omega) ?_) | (refine rl_qt rfl (by omega) ?_) | (refine rl_nt rfl (by omega) ?_) | (refine rl_mt rfl (by omega) ?_)) | ((first | (refine rl_off rfl rfl ?_) | (refine rl_undef rfl ?_) | (refine rl_pf rfl (by omega) ?_) | (refine rl_qf rfl (by omega) ?_) | (refine rl_nf rfl (by omega) ?_) | (refine rl_mf rfl (by omega) ?_)); refine rn ?_) | (first | (refine rl_pp rfl (fun h => o_n ?_) (fun h => rn ?_)) | (refine rl_qq rfl (fun h => o_n ?_) (fun h => rn ?_)) | (refine rl_nn rfl (fun h => o_n ?_) (fun h => rn ?_)) | (refine rl_mm rfl (fun h => o_n ?_) (fun h => rn ?_)))) | ((refine g_bin ?_; refine p_b ?_); refine rn ?_) | (refine g_call ?_; first | ((first | (refine p_l ?_)); refine rn ?_) | ((first | (refine t_appx rfl rfl hA rfl ?_)); clear hA; (try clear w); intro v w hA hone hnil; refine h_n hA ?_; clear hA; intro hA; refine rn ?_)) | ((refine g_conv ?_; first | (refine p_c hA ?_)); refine rn ?_) | ((refine g_load ?_; first | (refine t_loadx rfl hA ?_) | (refine t_loada rfl hA ?_)); refine rn ?_) | (refine g_store ?_; first | ((first | (refine t_storex rfl rfl hA ?_)); clear hA; (try clear w); intro w hA; refine h_n hA ?_; clear hA; intro hA; refine rn ?_) | ((first | (refine t_storea rfl rfl hA ?_)); clear hA; (try clear w); intro w hA; (try simp only [List.drop_zero, List.drop_nil, List.drop_succ_cons, List.take_succ_cons, List.take_zero, List.length_cons, List.length_nil, Nat.zero_add, Nat.reduceAdd] at hA); refine h_n hA ?_; clear hA; intro hA; refine rn ?_)) | (refine g_ow ?_; first | ((first | (refine p_o ?_)); refine rn ?_) | ((first | (refine t_alloc hA ?_) | (refine ow_box rfl rfl hA ?_) | (refine t_buildSlice rfl (by decide) rfl hA ?_)); clear hA; (try clear w); intro b w hA; refine h_n hA ?_; clear hA; intro hA; refine rn ?_) | ((first | (refine t_make rfl rfl (by omega) (by omega) hA ?_)); clear hA; (try clear w); intro v w hA hone hnil; refine rn ?_)) | (refine tq_normal ?_) | (refine bq_normal ?_) | (refine bq_hit ?_) | (refine bq_miss (by decide) ?_) | (refine tq_exit ?_) | (refine lq_exit ?_) | (refine tq_ret ?_) | (refine bq_ret ?_) | (refine lq_ret ?_))
        replace hv2 : ListE strR 1 E2 v2 L0 := hv2
        obtain ⟨c2, hc2⟩ := hv2.sl
        refine wc_region ?_
        refine' rl_v hA ?o15_0 ?k15_0
        case o15_0 => intro w hA; first | (refine ow_move_v rfl ?_; exact ⟨pe, hA⟩)
        case' k15_0 => clear hA; intro w hA; refine rn ?_
        refine' rl_v hA ?o15_1 ?k15_1
        case o15_1 => intro w hA; first | (refine ow_neq rfl rfl ?_; exact ⟨pe, hA⟩) | (refine ow_neqs rfl rfl ?_; exact ⟨pe, hA⟩) | (refine t_neqb rfl rfl ?_; exact ⟨pe, hA⟩)
        case' k15_1 => clear hA; intro w hA; refine rn ?_
        refine' rl_v hA ?o15_2 ?k15_2
        case o15_2 => intro w hA; first | (refine ow_move_v rfl ?_; exact ⟨pe, hA⟩)
        case' k15_2 => clear hA; intro w hA; refine rn ?_
        first | refine' rl_F rfl hA ?o15_3 ?k15_3 | refine' rl_Fn rfl hA ?o15_3 ?k15_3
        case o15_3 => intro hg w hA; first | (refine ow_move_v opr ?_; exact ⟨pe, hA⟩)
        case' k15_3 => clear hA; intro w hA; refine rn ?_
        first | refine' rl_F rfl hA ?o15_4 ?k15_4 | refine' rl_Fn rfl hA ?o15_4 ?k15_4
        case o15_4 => intro hg w hA; first | (refine ow_neq opr opr ?_; exact ⟨pe, hA⟩) | (refine ow_neqs opr opr ?_; exact ⟨pe, hA⟩) | (refine t_neqb opr opr ?_; exact ⟨pe, hA⟩)
        case' k15_4 => clear hA; intro w hA; refine rn ?_
        refine' rl_v hA ?o15_5 ?k15_5
        case o15_5 => intro w hA; first | (refine ow_or rfl rfl (by first | rfl) ?_; exact ⟨pe, hA⟩) | (refine ow_pick rfl rfl rfl ?_; exact ⟨pe, hA⟩)
        case' k15_5 => clear hA; intro w hA; refine rn ?_
        refine' rl_v hA ?o15_6 ?k15_6
        case o15_6 => intro w hA; first | (refine ow_move_v rfl ?_; exact ⟨pe, hA⟩)
        case' k15_6 => clear hA; intro w hA; refine rn ?_
        first | refine' rl_F rfl hA ?o15_7 ?k15_7 | refine' rl_Fn rfl hA ?o15_7 ?k15_7
        case o15_7 => intro hg w hA; first | (refine ow_move_v opr ?_; exact ⟨pe, hA⟩)
        case' k15_7 => clear hA; intro w hA; refine rn ?_
        first | refine' rl_F rfl hA ?o15_8 ?k15_8 | refine' rl_Fn rfl hA ?o15_8 ?k15_8
        case o15_8 => intro hg w hA; first | (refine ow_move_v opr ?_; exact ⟨pe, hA⟩)
        case' k15_8 => clear hA; intro w hA; refine rn ?_
        first | refine' rl_F rfl hA ?o15_9 ?k15_9 | refine' rl_Fn rfl hA ?o15_9 ?k15_9
        case o15_9 => intro hg w hA; first | (refine t_lenS opr hc1 ?_; exact ⟨pe, hA⟩) | (refine ow_call Tryd.call14 (evs2 opr opr) ((equalStrings_calls _ _ _ _ _ _ _ hA (hv1.mono hE2) hv2).mono ?_); clear hA; rintro e w ⟨rfl, hA⟩; refine ⟨_, rfl, ?_⟩; (try rw [hdl]); exact ⟨put_eq (by rfl), hA⟩)
        case' k15_9 => clear hA; intro w hA; refine rn ?_
        first | refine' rl_F rfl hA ?o15_10 ?k15_10 | refine' rl_Fn rfl hA ?o15_10 ?k15_10
        case o15_10 => intro hg w hA; first | (refine ow_not opr ?_; exact ⟨pe, hA⟩) | (refine ow_neg opr ?_; exact ⟨pe, hA⟩)
        case' k15_10 => clear hA; intro w hA; refine rn ?_
        refine' rl_v hA ?o15_11 ?k15_11
        case o15_11 => intro w hA; first | (refine ow_or rfl rfl (by first | rfl) ?_; exact ⟨pe, hA⟩) | (refine ow_pick rfl rfl rfl ?_; exact ⟨pe, hA⟩)
        case' k15_11 => clear hA; intro w hA; refine rn ?_
        refine' rl_v hA ?o15_12 ?k15_12
        case o15_12 => intro w hA; first | (refine ow_move_v rfl ?_; exact ⟨pe, hA⟩)
        case' k15_12 => clear hA; intro w hA; refine rn ?_
        first | refine' rl_F rfl hA ?o15_13 ?k15_13 | refine' rl_Fn rfl hA ?o15_13 ?k15_13
        case o15_13 => intro hg w hA; first | (refine ow_move_v opr ?_; exact ⟨pe, hA⟩)
        case' k15_13 => clear hA; intro w hA; refine rn ?_
        first | refine' rl_F rfl hA ?o15_14 ?k15_14 | refine' rl_Fn rfl hA ?o15_14 ?k15_14
        case o15_14 => intro hg w hA; first | (refine t_lenS opr hc1 ?_; exact ⟨pe, hA⟩) | (refine t_len_str opr ?_; exact ⟨pe, hA⟩) | (refine t_len_slice opr ?_; exact ⟨pe, hA⟩) | (refine t_lenS opr (by assumption) ?_; exact ⟨pe, hA⟩)
        case' k15_14 => clear hA; intro w hA; refine rn ?_
        first | refine' rl_F rfl hA ?o15_15 ?k15_15 | refine' rl_Fn rfl hA ?o15_15 ?k15_15
        case o15_15 => intro hg w hA; first | (refine ow_move_v opr ?_; exact ⟨pe, hA⟩)
        case' k15_15 => clear hA; intro w hA; refine rn ?_
        first | refine' rl_F rfl hA ?o15_16 ?k15_16 | refine' rl_Fn rfl hA ?o15_16 ?k15_16
        case o15_16 => intro hg w hA; first | (refine ow_lss opr opr ?_; exact ⟨pe, hA⟩)
        case' k15_16 => clear hA; intro w hA; refine rn ?_
        refine' rl_v hA ?o15_17 ?k15_17
        case o15_17 => intro w hA; first | (refine ow_or rfl rfl (by first | rfl) ?_; exact ⟨pe, hA⟩) | (refine ow_pick rfl rfl rfl ?_; exact ⟨pe, hA⟩)
        case' k15_17 => clear hA; intro w hA; refine rn ?_
        refine' rl_v hA ?o15_18 ?k15_18
        case o15_18 => intro w hA; first | (refine ow_move_v rfl ?_; exact ⟨pe, hA⟩)
        case' k15_18 => clear hA; intro w hA; refine rn ?_
        first | refine' rl_F rfl hA ?o15_19 ?k15_19 | refine' rl_Fn rfl hA ?o15_19 ?k15_19
        case o15_19 => intro hg w hA; first | (refine ow_move_v opr ?_; exact ⟨pe, hA⟩)
        case' k15_19 => clear hA; intro w hA; refine rn ?_
        first | refine' rl_F rfl hA ?o15_20 ?k15_20 | refine' rl_Fn rfl hA ?o15_20 ?k15_20
        case o15_20 => intro hg w hA; first | (refine t_lenS opr hc1 ?_; exact ⟨pe, hA⟩) | (refine t_len_str opr ?_; exact ⟨pe, hA⟩) | (refine t_len_slice opr ?_; exact ⟨pe, hA⟩) | (refine t_lenS opr (by assumption) ?_; exact ⟨pe, hA⟩)
        case' k15_20 => clear hA; intro w hA; refine rn ?_
        first | refine' rl_F rfl hA ?o15_21 ?k15_21 | refine' rl_Fn rfl hA ?o15_21 ?k15_21
        case o15_21 => intro hg w hA; first | (refine ow_move_v opr ?_; exact ⟨pe, hA⟩)
        case' k15_21 => clear hA; intro w hA; refine rn ?_
        first | refine' rl_F rfl hA ?o15_22 ?k15_22 | refine' rl_Fn rfl hA ?o15_22 ?k15_22
        case o15_22 => intro hg w hA; first | (refine ow_lss opr opr ?_; exact ⟨pe, hA⟩)
        case' k15_22 => clear hA; intro w hA; refine rn ?_
        refine' rl_v hA ?o15_23 ?k15_23
        case o15_23 => intro w hA; first | (refine ow_or rfl rfl (by first | rfl) ?_; exact ⟨pe, hA⟩) | (refine ow_pick rfl rfl rfl ?_; exact ⟨pe, hA⟩)
        case' k15_23 => clear hA; intro w hA; refine rn ?_
        refine' rl_v hA ?o15_24 ?k15_24
        case o15_24 => intro w hA; first | (refine ow_move_v rfl ?_; exact ⟨pe, hA⟩)
        case' k15_24 => clear hA; intro w hA; refine rn ?_
        first | refine' rl_F rfl hA ?o15_25 ?k15_25 | refine' rl_Fn rfl hA ?o15_25 ?k15_25
        case o15_25 => intro hg w hA; first | (refine ow_move_v opr ?_; exact ⟨pe, hA⟩)
        case' k15_25 => clear hA; intro w hA; refine rn ?_
        first | refine' rl_F rfl hA ?o15_26 ?k15_26 | refine' rl_Fn rfl hA ?o15_26 ?k15_26
        case o15_26 => intro hg w hA; first | (refine t_lenS opr hc1 ?_; exact ⟨pe, hA⟩) | (refine t_len_str opr ?_; exact ⟨pe, hA⟩) | (refine t_len_slice opr ?_; exact ⟨pe, hA⟩) | (refine t_lenS opr (by assumption) ?_; exact ⟨pe, hA⟩)
        case' k15_26 => clear hA; intro w hA; refine rn ?_
        first | refine' rl_F rfl hA ?o15_27 ?k15_27 | refine' rl_Fn rfl hA ?o15_27 ?k15_27
        case o15_27 => intro hg w hA; first | (refine ow_move_v opr ?_; exact ⟨pe, hA⟩)
        case' k15_27 => clear hA; intro w hA; refine rn ?_
        first | refine' rl_F rfl hA ?o15_28 ?k15_28 | refine' rl_Fn rfl hA ?o15_28 ?k15_28
        case o15_28 => intro hg w hA; first | (refine ow_move_v opr ?_; exact ⟨pe, hA⟩)
        case' k15_28 => clear hA; intro w hA; refine rn ?_
        first | refine' rl_F rfl hA ?o15_29 ?k15_29 | refine' rl_Fn rfl hA ?o15_29 ?k15_29
        case o15_29 => intro hg w hA; first | (refine t_lenS opr hc1 ?_; exact ⟨pe, hA⟩) | (refine t_len_str opr ?_; exact ⟨pe, hA⟩) | (refine t_len_slice opr ?_; exact ⟨pe, hA⟩) | (refine t_lenS opr (by assumption) ?_; exact ⟨pe, hA⟩)
        case' k15_29 => clear hA; intro w hA; refine rn ?_
        first | refine' rl_F rfl hA ?o15_30 ?k15_30 | refine' rl_Fn rfl hA ?o15_30 ?k15_30
        case o15_30 => intro hg w hA; first | (refine ow_add64 opr opr (by omega) ?_; exact ⟨pe, hA⟩) | (refine ow_cat opr opr (by (try simp only [List.length_append, List.length_cons, List.length_nil]); omega) ?_; exact ⟨pe, hA⟩) | (refine ow_add8 opr opr (by omega) ?_; exact ⟨pe, hA⟩)
        case' k15_30 => clear hA; intro w hA; refine rn ?_
        first | refine' rl_F rfl hA ?o15_31 ?k15_31 | refine' rl_Fn rfl hA ?o15_31 ?k15_31
        case o15_31 => intro hg w hA; first | (refine ow_gtr opr opr ?_; exact ⟨pe, hA⟩)
        case' k15_31 => clear hA; intro w hA; refine rn ?_
        refine' rl_v hA ?o15_32 ?k15_32
        case o15_32 => intro w hA; first | (refine ow_or rfl rfl (by first | rfl) ?_; exact ⟨pe, hA⟩) | (refine ow_pick rfl rfl rfl ?_; exact ⟨pe, hA⟩)
        case' k15_32 => clear hA; intro w hA; refine rn ?_
        refine rl_nil ?_
        repeat' (first | (refine wc_bb rfl (fun h => ?_) (fun h => ?_)) | ((refine g_wc ?_; first | (refine wc_seq ?_) | (refine wc_regionS 17 rfl ?_; refine wc_region ?_) | (refine wc_block ?_) | (refine wc_true rfl ?_) | (refine wc_false rfl ?_) | (refine wc_pt rfl (by omega) ?_) | (refine wc_pf rfl (by omega) ?_) | (refine wc_nt rfl (by omega) ?_) | (refine wc_nf rfl (by omega) ?_) | (refine wc_pp rfl (fun h => ?_) (fun h => ?_)) | (refine wc_nn rfl (fun h => ?_) (fun h => ?_)) | (refine wc_skip ?_) | (refine wc_exit ?_) | (refine wc_ret ?_))) | (refine g_rl ?_; first | (first | (refine rl_op ?_) | (refine rl_nil ?_) | (refine rl_on rfl ?_) | (refine rl_pt rfl (by omega) ?_) | (refine rl_qt rfl (by omega) ?_) | (refine rl_nt rfl (by omega) ?_) | (refine rl_mt rfl (by omega) ?_)) | ((first | (refine rl_off rfl rfl ?_) | (refine rl_undef rfl ?_) | (refine rl_pf rfl (by omega) ?_) | (refine rl_qf rfl (by omega) ?_) | (refine rl_nf rfl (by omega) ?_) | (refine rl_mf rfl (by omega) ?_)); refine rn ?_) | (first | (refine rl_pp rfl (fun h => o_n ?_) (fun h => rn ?_)) | (refine rl_qq rfl (fun h => o_n ?_) (fun h => rn ?_)) | (refine rl_nn rfl (fun h => o_n ?_) (fun h => rn ?_)) | (refine rl_mm rfl (fun h => o_n ?_) (fun h => rn ?_)))) | ((refine g_bin ?_; refine p_b ?_); refine rn ?_) | (refine g_call ?_; first | ((first | (refine p_l ?_)); refine rn ?_) | ((first | (refine t_appx rfl rfl hA rfl ?_)); clear hA; (try clear w); intro v w hA hone hnil; refine h_n hA ?_; clear hA; intro hA; refine rn ?_)) | ((refine g_conv ?_; first | (refine p_c hA ?_)); refine rn ?_) | ((refine g_load ?_; first | (refine t_loadx rfl hA ?_) | (refine t_loada rfl hA ?_)); refine rn ?_) | (refine g_store ?_; first | ((first | (refine t_storex rfl rfl hA ?_)); clear hA; (try clear w); intro w hA; refine h_n hA ?_; clear hA; intro hA; refine rn ?_) | ((first | (refine t_storea rfl rfl hA ?_)); clear hA; (try clear w); intro w hA; (try simp only [List.drop_zero, List.drop_nil, List.drop_succ_cons, List.take_succ_cons, List.take_zero, List.length_cons, List.length_nil, Nat.zero_add, Nat.reduceAdd] at hA); refine h_n hA ?_; clear hA; intro hA; refine rn ?_)) | (refine g_ow ?_; first | ((first | (refine p_o ?_)); refine rn ?_) | ((first | (refine t_alloc hA ?_) | (refine ow_box rfl rfl hA ?_) | (refine t_buildSlice rfl (by decide) rfl hA ?_)); clear hA; (try clear w); intro b w hA; refine h_n hA ?_; clear hA; intro hA; refine rn ?_) | ((first | (refine t_make rfl rfl (by omega) (by omega) hA ?_)); clear hA; (try clear w); intro v w hA hone hnil; refine rn ?_)) | (refine tq_normal ?_) | (refine bq_normal ?_) | (refine bq_hit ?_) | (refine bq_miss (by decide) ?_) | (refine tq_exit ?_) | (refine lq_exit ?_) | (refine tq_ret ?_) | (refine bq_ret ?_) | (refine lq_ret ?_))
        · exfalso
          rw [decide_eq_false (show ¬ (s.length : Int) < (bareL L0 : Int) by omega), decide_eq_false (show ¬ ((joinB true L0).length : Int) < (bareL L0 : Int) by omega), decide_eq_false (show ¬ (bareL L0 : Int) + (L0.length : Int) < ((joinB true L0).length : Int) by omega)] at h
          simp at h
        clear h
        repeat' (first | (refine g_callf 16 ?_; refine ow_call Tryd.call16 rfl ((join_calls _ _ hS _ _ _ hA (hG.mono (hE1.trans hE2)) hv2).mono ?_); clear hA; (try clear w); rintro e w ⟨rfl, hA⟩; refine ⟨_, rfl, ?_⟩; (try rw [hj1]); refine rn ?_) | ((refine g_wc ?_; first | (refine wc_seq ?_) | (refine wc_regionS 18 rfl ?_; refine wc_region ?_) | (refine wc_block ?_) | (refine wc_true rfl ?_) | (refine wc_false rfl ?_) | (refine wc_pt rfl (by omega) ?_) | (refine wc_pf rfl (by omega) ?_) | (refine wc_nt rfl (by omega) ?_) | (refine wc_nf rfl (by omega) ?_) | (refine wc_pp rfl (fun h => ?_) (fun h => ?_)) | (refine wc_nn rfl (fun h => ?_) (fun h => ?_)) | (refine wc_skip ?_) | (refine wc_exit ?_) | (refine wc_ret ?_))) | (refine g_rl ?_; first | (first | (refine rl_op ?_) | (refine rl_nil ?_) | (refine rl_on rfl ?_) | (refine rl_pt rfl (by omega) ?_) | (refine rl_qt rfl (by omega) ?_) | (refine rl_nt rfl (by omega) ?_) | (refine rl_mt rfl (by omega) ?_)) | ((first | (refine rl_off rfl rfl ?_) | (refine rl_undef rfl ?_) | (refine rl_pf rfl (by omega) ?_) | (refine rl_qf rfl (by omega) ?_) | (refine rl_nf rfl (by omega) ?_) | (refine rl_mf rfl (by omega) ?_)); refine rn ?_) | (first | (refine rl_pp rfl (fun h => o_n ?_) (fun h => rn ?_)) | (refine rl_qq rfl (fun h => o_n ?_) (fun h => rn ?_)) | (refine rl_nn rfl (fun h => o_n ?_) (fun h => rn ?_)) | (refine rl_mm rfl (fun h => o_n ?_) (fun h => rn ?_)))) | ((refine g_bin ?_; refine p_b ?_); refine rn ?_) | (refine g_call ?_; first | ((first | (refine p_l ?_)); refine rn ?_) | ((first | (refine t_appx rfl rfl hA rfl ?_)); clear hA; (try clear w); intro v w hA hone hnil; refine h_n hA ?_; clear hA; intro hA; refine rn ?_)) | ((refine g_conv ?_; first | (refine p_c hA ?_)); refine rn ?_) | ((refine g_load ?_; first | (refine t_loadx rfl hA ?_) | (refine t_loada rfl hA ?_)); refine rn ?_) | (refine g_store ?_; first | ((first | (refine t_storex rfl rfl hA ?_)); clear hA; (try clear w); intro w hA; refine h_n hA ?_; clear hA; intro hA; refine rn ?_) | ((first | (refine t_storea rfl rfl hA ?_)); clear hA; (try clear w); intro w hA; (try simp only [List.drop_zero, List.drop_nil, List.drop_succ_cons, List.take_succ_cons, List.take_zero, List.length_cons, List.length_nil, Nat.zero_add, Nat.reduceAdd] at hA); refine h_n hA ?_; clear hA; intro hA; refine rn ?_)) | (refine g_ow ?_; first | ((first | (refine p_o ?_)); refine rn ?_) | ((first | (refine t_alloc hA ?_) | (refine ow_box rfl rfl hA ?_) | (refine t_buildSlice rfl (by decide) rfl hA ?_)); clear hA; (try clear w); intro b w hA; refine h_n hA ?_; clear hA; intro hA; refine rn ?_) | ((first | (refine t_make rfl rfl (by omega) (by omega) hA ?_)); clear hA; (try clear w); intro v w hA hone hnil; refine rn ?_)) | (refine tq_normal ?_) | (refine bq_normal ?_) | (refine bq_hit ?_) | (refine bq_miss (by decide) ?_) | (refine tq_exit ?_) | (refine lq_exit ?_) | (refine tq_ret ?_) | (refine bq_ret ?_) | (refine lq_ret ?_))
        refine wc_region ?_
        refine' rl_v hA ?o18_0 ?k18_0
        case o18_0 => intro w hA; first | (refine ow_move_v rfl ?_; exact ⟨pe, hA⟩)
        case' k18_0 => clear hA; intro w hA; refine rn ?_
        refine' rl_v hA ?o18_1 ?k18_1
        case o18_1 => intro w hA; first | (refine ow_move_v rfl ?_; exact ⟨pe, hA⟩)
        case' k18_1 => clear hA; intro w hA; refine rn ?_
        refine' rl_v hA ?o18_2 ?k18_2
        case o18_2 => intro w hA; first | (refine ow_eql rfl rfl ?_; exact ⟨pe, hA⟩) | (refine ow_eqs rfl rfl ?_; exact ⟨pe, hA⟩) | (refine t_eqlb rfl rfl ?_; exact ⟨pe, hA⟩)
        case' k18_2 => clear hA; intro w hA; refine rn ?_
        refine' rl_v hA ?o18_3 ?k18_3
        case o18_3 => intro w hA; first | (refine ow_move_v rfl ?_; exact ⟨pe, hA⟩)
        case' k18_3 => clear hA; intro w hA; refine rn ?_
        first | refine' rl_T rfl hA ?o18_4 ?k18_4 | refine' rl_Tn rfl hA ?o18_4 ?k18_4
        case o18_4 => intro hg w hA; first | (refine ow_move_v opr ?_; exact ⟨pe, hA⟩)
        case' k18_4 => clear hA; intro w hA; refine rn ?_
        first | refine' rl_T rfl hA ?o18_5 ?k18_5 | refine' rl_Tn rfl hA ?o18_5 ?k18_5
        case o18_5 => intro hg w hA; first | (refine ow_eql opr opr ?_; exact ⟨pe, hA⟩) | (refine ow_eqs opr opr ?_; exact ⟨pe, hA⟩) | (refine t_eqlb opr opr ?_; exact ⟨pe, hA⟩)
        case' k18_5 => clear hA; intro w hA; refine rn ?_
        refine' rl_v hA ?o18_6 ?k18_6
        case o18_6 => intro w hA; first | (refine ow_and rfl (by first | rfl) rfl ?_; exact ⟨pe, hA⟩) | (refine ow_pick rfl rfl rfl ?_; exact ⟨pe, hA⟩)
        case' k18_6 => clear hA; intro w hA; refine rn ?_
        refine' rl_v hA ?o18_7 ?k18_7
        case o18_7 => intro w hA; first | (refine ow_move_v rfl ?_; exact ⟨pe, hA⟩)
        case' k18_7 => clear hA; intro w hA; refine rn ?_
        first | refine' rl_T rfl hA ?o18_8 ?k18_8 | refine' rl_Tn rfl hA ?o18_8 ?k18_8
        case o18_8 => intro hg w hA; first | (refine ow_call Tryd.call11 rfl ((known_calls _ _ w hA (hG.mono (hE1.trans hE2))).mono ?_); clear hA; rintro e w ⟨rfl, hA⟩; refine ⟨_, rfl, ?_⟩; exact ⟨put_eq (by rfl), hA⟩)
        case' k18_8 => clear hA; intro w hA; refine rn ?_
        refine' rl_v hA ?o18_9 ?k18_9
        case o18_9 => intro w hA; first | (refine ow_and rfl (by first | rfl) rfl ?_; exact ⟨pe, hA⟩) | (refine ow_pick rfl rfl rfl ?_; exact ⟨pe, hA⟩)
        case' k18_9 => clear hA; intro w hA; refine rn ?_
        refine' rl_v hA ?o18_10 ?k18_10
        case o18_10 => intro w hA; first | (refine ow_assign_v rfl ?_; exact ⟨pe, hA⟩)
        case' k18_10 => clear hA; intro w hA; refine rn ?_
        refine rl_nil ?_
        repeat' (first | ((refine g_wc ?_; first | (refine wc_seq ?_) | (refine wc_region ?_) | (refine wc_block ?_) | (refine wc_true rfl ?_) | (refine wc_false rfl ?_) | (refine wc_pt rfl (by omega) ?_) | (refine wc_pf rfl (by omega) ?_) | (refine wc_nt rfl (by omega) ?_) | (refine wc_nf rfl (by omega) ?_) | (refine wc_pp rfl (fun h => ?_) (fun h => ?_)) | (refine wc_nn rfl (fun h => ?_) (fun h => ?_)) | (refine wc_skip ?_) | (refine wc_exit ?_) | (refine wc_ret ?_))) | (refine g_rl ?_; first | (first | (refine rl_op ?_) | (refine rl_nil ?_) | (refine rl_on rfl ?_) | (refine rl_pt rfl (by omega) ?_) | (refine rl_qt rfl (by omega) ?_) | (refine rl_nt rfl (by omega) ?_) | (refine rl_mt rfl (by omega) ?_)) | ((first | (refine rl_off rfl rfl ?_) | (refine rl_undef rfl ?_) | (refine rl_pf rfl (by omega) ?_) | (refine rl_qf rfl (by omega) ?_) | (refine rl_nf rfl (by omega) ?_) | (refine rl_mf rfl (by omega) ?_)); refine rn ?_) | (first | (refine rl_pp rfl (fun h => o_n ?_) (fun h => rn ?_)) | (refine rl_qq rfl (fun h => o_n ?_) (fun h => rn ?_)) | (refine rl_nn rfl (fun h => o_n ?_) (fun h => rn ?_)) | (refine rl_mm rfl (fun h => o_n ?_) (fun h => rn ?_)))) | ((refine g_bin ?_; refine p_b ?_); refine rn ?_) | (refine g_call ?_; first | ((first | (refine p_l ?_)); refine rn ?_) | ((first | (refine t_appx rfl rfl hA rfl ?_)); clear hA; (try clear w); intro v w hA hone hnil; refine h_n hA ?_; clear hA; intro hA; refine rn ?_)) | ((refine g_conv ?_; first | (refine p_c hA ?_)); refine rn ?_) | ((refine g_load ?_; first | (refine t_loadx rfl hA ?_) | (refine t_loada rfl hA ?_)); refine rn ?_) | (refine g_store ?_; first | ((first | (refine t_storex rfl rfl hA ?_)); clear hA; (try clear w); intro w hA; refine h_n hA ?_; clear hA; intro hA; refine rn ?_) | ((first | (refine t_storea rfl rfl hA ?_)); clear hA; (try clear w); intro w hA; (try simp only [List.drop_zero, List.drop_nil, List.drop_succ_cons, List.take_succ_cons, List.take_zero, List.length_cons, List.length_nil, Nat.zero_add, Nat.reduceAdd] at hA); refine h_n hA ?_; clear hA; intro hA; refine rn ?_)) | (refine g_ow ?_; first | ((first | (refine p_o ?_)); refine rn ?_) | ((first | (refine t_alloc hA ?_) | (refine ow_box rfl rfl hA ?_) | (refine t_buildSlice rfl (by decide) rfl hA ?_)); clear hA; (try clear w); intro b w hA; refine h_n hA ?_; clear hA; intro hA; refine rn ?_) | ((first | (refine t_make rfl rfl (by omega) (by omega) hA ?_)); clear hA; (try clear w); intro v w hA hone hnil; refine rn ?_)) | (refine tq_normal ?_) | (refine bq_normal ?_) | (refine bq_hit ?_) | (refine bq_miss (by decide) ?_) | (refine tq_exit ?_) | (refine lq_exit ?_) | (refine tq_ret ?_) | (refine bq_ret ?_) | (refine lq_ret ?_))
        exact ret1 (hA.le (hE1.trans hE2)) rfl (by simp)
end Go.Proofs.YtlgkdnnjligcaaaDoor
