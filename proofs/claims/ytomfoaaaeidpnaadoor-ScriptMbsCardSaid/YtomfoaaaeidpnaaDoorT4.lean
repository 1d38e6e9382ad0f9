/-
  The reference's Taker: block, walked.
-/
import Derived.Test.YtomfoaaaeidpnaaDoorT3
import Derived.Test.YtomfoaaaeidpnaaDoorS4
set_option linter.unusedVariables false
set_option linter.unusedSimpArgs false
namespace Go.Proofs.YtomfoaaaeidpnaaDoor
open Go Go.RowKit
attribute [local irreducible] WC RL OW bodyPostM ThenQ BlockQ LoopQ ScopeQ
set_option maxRecDepth 16000 in
set_option maxHeartbeats 8000000 in
theorem blockT_calls (b : Nat) (s : List UInt8) (p : Nat) (E : Env) (L : List Item) (w : World) (size : Nat) (hz : 1 ≤ size ∧ size ≤ 16) (hs : s.length ≤ 1000000) (hA : Sat E (srcT b s p :: L) w) :
    Calls Tryd.prog 143 ⟨[.pointer (some ⟨b, 0, none⟩), vi size]⟩ w (fun e w' => ∃ E' q, e = .returned q ∧ E.Le E' ∧ ListE intR 1 (E'.sub E) q (blkP size (strm s) p).1 ∧ Sat E' (srcT b s (blkP size (strm s) p).2 :: L) w') := by
  have hk8 : (tk 4 (strm s) p).1 < 4 := Nat.mod_lt _ (by decide)
  have hbn := blk_nums size hz.1 (strm s) p
  refine enter (fn := Tryd.f143) Tryd.func143 rfl 47 rfl [.pointer (some ⟨b, 0, none⟩), vi size, undef, undef, undef, undef, undef, undef, undef, undef, undef, undef, undef, undef, undef, undef, undef, undef, undef, undef, undef, undef, undef, undef, undef, undef, undef, undef, undef, undef, undef, undef, undef, undef, undef, undef, undef, undef, undef, undef, undef, undef, undef, undef, undef, undef, undef] rfl ?_
  repeat' (first | (refine g_ow ?_; refine t_makeN (by rfl) rfl rfl (by omega) (by omega) hA ?_; clear hA; intro v w hA hv1 hv2; rw [zero_vi] at hA; refine rn ?_) | (refine g_callf 88 ?_; refine ow_call Tryd.call88 rfl ((takeT_calls _ _ _ _ _ _ 4 4 rfl (by omega) hs (hA.perm (List.Perm.swap _ _ _))).mono ?_); clear hA; (try clear w); rintro e w ⟨rfl, hA⟩; refine ⟨_, rfl, ?_⟩; refine rn ?_) | refine st ?_ | (refine wc_regionS 4 rfl ?_; refine wc_region ?_) | (refine su ?_; refine rn ?_) | (refine g_conv ?_; refine p_c hA ?_; refine rn ?_) | (refine g_load ?_; (first | refine t_loadx rfl hA ?_ | refine t_loada rfl hA ?_); refine rn ?_) | (refine g_call ?_; refine t_appx rfl rfl hA rfl ?_; clear hA; (try clear w); intro v w hA hone hnil; refine h_n hA ?_; clear hA; intro hA; refine rn ?_) | (refine g_store ?_; (first | refine t_storex rfl rfl hA ?_ | refine t_storea rfl rfl hA ?_); clear hA; (try clear w); intro w hA; refine h_m hA ?_; clear hA; intro hA; refine rn ?_) | (refine g_ow ?_; (first | refine t_alloc hA ?_ | refine ow_box rfl rfl hA ?_ | refine t_buildSlice rfl (by decide) rfl hA ?_); clear hA; (try clear w); intro b w hA; refine h_n hA ?_; clear hA; intro hA; refine rn ?_) | (refine g_ow ?_; refine t_make rfl rfl (by omega) (by omega) hA ?_; clear hA; (try clear w); intro v w hA hone hnil; refine rn ?_) | refine wc_pp rfl (fun h => ?_) (fun h => ?_) | refine wc_nn rfl (fun h => ?_) (fun h => ?_) | refine rl_pp rfl (fun h => o_n ?_) (fun h => rn ?_) | refine rl_qq rfl (fun h => o_n ?_) (fun h => rn ?_) | refine rl_nn rfl (fun h => o_n ?_) (fun h => rn ?_) | refine rl_mm rfl (fun h => o_n ?_) (fun h => rn ?_))
  have hb : blkP size (strm s) p = (if (tk 4 (strm s) p).1 = 3 then repP ((tk 5).bnd fun a => .ret ((a : Int) - 2)) size else itP (setP size) (tk 4 (strm s) p).1 (List.replicate size 0)) (strm s) (p + 1) := rfl
  generalize (tk 4 (strm s) p).1 = k at *
  have fin : ∀ (w : World), Sat E (srcT b s (blkP size (strm s) p).2 :: row 3 1 v size ((blkP size (strm s) p).1.map vi) :: L) w → ∃ E', E.Le E' ∧ ListE intR 1 (E'.sub E) v (blkP size (strm s) p).1 ∧ Sat E' (srcT b s (blkP size (strm s) p).2 :: L) w := fun w hA => by
    have hA : Sat E (row 3 1 v (blkP size (strm s) p).1.length ((blkP size (strm s) p).1.map vi) :: srcT b s (blkP size (strm s) p).2 :: L) w := by rw [hbn.1]; exact hA.perm (List.Perm.swap _ _ _)
    obtain ⟨E', hE', hA, hl⟩ := hA.freezeListS E (Env.Le.refl _) (cseVi fun x hx => by have := hbn.2 x hx; exact ⟨by omega, by omega⟩)
    exact ⟨E', hE', hl, hA⟩
  by_cases h3 : k = 3
  · rw [if_pos h3] at hb
    rw [hb] at fin ⊢
    clear hb hbn
    generalize hst : repP ((tk 5).bnd fun a => Par.ret ((a : Int) - 2)) = gs at *
    have hl0 : Sat E (srcT b s (gs 0 (strm s) (p + 1)).2 :: row 3 1 v size (((gs 0 (strm s) (p + 1)).1 ++ List.replicate (size - 0) 0).map vi) :: L) w := by subst hst; exact hA
    clear hA
    refine wc_loopn (fun q l w => ∃ (i : Nat), (∃ jk : Nat → Value, l = [.pointer (some ⟨b, 0, none⟩), vi size, jk 2, jk 3, jk 4, v, vi k, .int .i64 (i : Int), jk 8, jk 9, jk 10, jk 11, jk 12, jk 13, jk 14, jk 15, jk 16, jk 17, jk 18, jk 19, jk 20, jk 21, jk 22, jk 23, jk 24, jk 25, jk 26, jk 27, jk 28, jk 29, jk 30, jk 31, jk 32, jk 33, jk 34, jk 35, jk 36, jk 37, jk 38, jk 39, jk 40, jk 41, jk 42, jk 43, jk 44, jk 45, jk 46]) ∧ i + q = size ∧ Sat E (srcT b s (gs i (strm s) (p + 1)).2 :: row 3 1 v size (((gs i (strm s) (p + 1)).1 ++ List.replicate (size - i) 0).map vi) :: L) w) size ⟨0, (ex_getD rfl), by omega, hl0⟩ ?_
    clear hl0
    rintro q l w ⟨i, ⟨jk, rfl⟩, hi, hA⟩
    have hlen : (gs i (strm s) (p + 1)).1.length = i := by subst hst; exact (repFive _ _ i).1
    repeat' (first | refine st ?_ | (refine wc_regionS 4 rfl ?_; refine wc_region ?_) | (refine su ?_; refine rn ?_) | (refine g_conv ?_; refine p_c hA ?_; refine rn ?_) | (refine g_load ?_; (first | refine t_loadx rfl hA ?_ | refine t_loada rfl hA ?_); refine rn ?_) | (refine g_call ?_; refine t_appx rfl rfl hA rfl ?_; clear hA; (try clear w); intro v w hA hone hnil; refine h_n hA ?_; clear hA; intro hA; refine rn ?_) | (refine g_store ?_; (first | refine t_storex rfl rfl hA ?_ | refine t_storea rfl rfl hA ?_); clear hA; (try clear w); intro w hA; refine h_m hA ?_; clear hA; intro hA; refine rn ?_) | (refine g_ow ?_; (first | refine t_alloc hA ?_ | refine ow_box rfl rfl hA ?_ | refine t_buildSlice rfl (by decide) rfl hA ?_); clear hA; (try clear w); intro b w hA; refine h_n hA ?_; clear hA; intro hA; refine rn ?_) | (refine g_ow ?_; refine t_make rfl rfl (by omega) (by omega) hA ?_; clear hA; (try clear w); intro v w hA hone hnil; refine rn ?_) | refine wc_pp rfl (fun h => ?_) (fun h => ?_) | refine wc_nn rfl (fun h => ?_) (fun h => ?_) | refine rl_pp rfl (fun h => o_n ?_) (fun h => rn ?_) | refine rl_qq rfl (fun h => o_n ?_) (fun h => rn ?_) | refine rl_nn rfl (fun h => o_n ?_) (fun h => rn ?_) | refine rl_mm rfl (fun h => o_n ?_) (fun h => rn ?_))
    refine wc_region ?_
    refine' rl_v hA ?o4_0 ?k4_0
    case o4_0 => intro w hA; first | (refine ow_move_v rfl ?_; exact ⟨pe, hA⟩)
    case' k4_0 => clear hA; intro w hA; refine rn ?_
    refine' rl_v hA ?o4_1 ?k4_1
    case o4_1 => intro w hA; first | (refine ow_eql rfl rfl ?_; exact ⟨pe, hA⟩) | (refine ow_eqs rfl rfl ?_; exact ⟨pe, hA⟩) | (refine t_eqlb rfl rfl ?_; exact ⟨pe, hA⟩)
    case' k4_1 => clear hA; intro w hA; refine rn ?_
    refine' rl_v hA ?o4_2 ?k4_2
    case o4_2 => intro w hA; first | (refine ow_move_v rfl ?_; exact ⟨pe, hA⟩)
    case' k4_2 => clear hA; intro w hA; refine rn ?_
    first | refine' rl_T rfl hA ?o4_3 ?k4_3 | refine' rl_Tn rfl hA ?o4_3 ?k4_3
    case o4_3 => intro hg w hA; first | (refine ow_move_v opr ?_; exact ⟨pe, hA⟩)
    case' k4_3 => clear hA; intro w hA; refine rn ?_
    first | refine' rl_T rfl hA ?o4_4 ?k4_4 | refine' rl_Tn rfl hA ?o4_4 ?k4_4
    case o4_4 => intro hg w hA; first | (refine ow_move_v opr ?_; exact ⟨pe, hA⟩)
    case' k4_4 => clear hA; intro w hA; refine rn ?_
    first | refine' rl_T rfl hA ?o4_5 ?k4_5 | refine' rl_Tn rfl hA ?o4_5 ?k4_5
    case o4_5 => intro hg w hA; first | (refine ow_lss opr opr ?_; exact ⟨pe, hA⟩)
    case' k4_5 => clear hA; intro w hA; refine rn ?_
    refine' rl_v hA ?o4_6 ?k4_6
    case o4_6 => intro w hA; first | (refine ow_and rfl (by first | rfl) rfl ?_; exact ⟨pe, hA⟩) | (refine ow_pick rfl rfl rfl ?_; exact ⟨pe, hA⟩)
    case' k4_6 => clear hA; intro w hA; refine rn ?_
    refine rl_nil ?_
    refine tq_normal ?_
    refine wc_bb rfl (fun h => ?_) (fun h => ?_)
    · have hlt : i < size := by simp only [Bool.and_eq_true, decide_eq_true_eq] at h; omega
      have hstep : gs (i + 1) (strm s) (p + 1) = ((gs i (strm s) (p + 1)).1 ++ [(((tk 5 (strm s) (gs i (strm s) (p + 1)).2).1 : Nat) : Int) - 2], (gs i (strm s) (p + 1)).2 + 1) := by subst hst; rfl
      have ht5 : (tk 5 (strm s) (gs i (strm s) (p + 1)).2).1 < 5 := Nat.mod_lt _ (by decide)
      repeat' (first | (refine g_callf 88 ?_; refine ow_call Tryd.call88 rfl ((takeT_calls _ _ _ _ _ _ 5 5 rfl (by omega) hs hA).mono ?_); clear hA; (try clear w); rintro e w ⟨rfl, hA⟩; refine ⟨_, rfl, ?_⟩; refine rn ?_) | (refine g_ow ?_; refine t_indexAddrR 1 rfl hA rfl rfl (by omega) ?_; refine rn ?_) | (refine g_ow ?_; refine t_store_row 1 rfl rfl rfl hA rfl (by simp [hlen]; omega) ?_; clear hA; intro w hA; refine rn ?_) | refine st ?_ | (refine wc_region ?_) | (refine su ?_; refine rn ?_) | (refine g_conv ?_; refine p_c hA ?_; refine rn ?_) | (refine g_load ?_; (first | refine t_loadx rfl hA ?_ | refine t_loada rfl hA ?_); refine rn ?_) | (refine g_call ?_; refine t_appx rfl rfl hA rfl ?_; clear hA; (try clear w); intro v w hA hone hnil; refine h_n hA ?_; clear hA; intro hA; refine rn ?_) | (refine g_store ?_; (first | refine t_storex rfl rfl hA ?_ | refine t_storea rfl rfl hA ?_); clear hA; (try clear w); intro w hA; refine h_m hA ?_; clear hA; intro hA; refine rn ?_) | (refine g_ow ?_; (first | refine t_alloc hA ?_ | refine ow_box rfl rfl hA ?_ | refine t_buildSlice rfl (by decide) rfl hA ?_); clear hA; (try clear w); intro b w hA; refine h_n hA ?_; clear hA; intro hA; refine rn ?_) | (refine g_ow ?_; refine t_make rfl rfl (by omega) (by omega) hA ?_; clear hA; (try clear w); intro v w hA hone hnil; refine rn ?_) | refine wc_pp rfl (fun h => ?_) (fun h => ?_) | refine wc_nn rfl (fun h => ?_) (fun h => ?_) | refine rl_pp rfl (fun h => o_n ?_) (fun h => rn ?_) | refine rl_qq rfl (fun h => o_n ?_) (fun h => rn ?_) | refine rl_nn rfl (fun h => o_n ?_) (fun h => rn ?_) | refine rl_mm rfl (fun h => o_n ?_) (fun h => rn ?_))
      refine lq_next (q - 1) (by omega) ⟨i + 1, (ex_getD rfl), by omega, ?_⟩
      rw [hstep]
      have hA : Sat E (srcT b s ((gs i (strm s) (p + 1)).2 + 1) :: row 3 1 v size ((((gs i (strm s) (p + 1)).1 ++ List.replicate (size - i) 0).map vi).set ((i : Int).toNat * 1) (vi ((((tk 5 (strm s) (gs i (strm s) (p + 1)).2).1 : Nat) : Int) - 2))) :: L) w := hA
      have hf := fill_set (gs i (strm s) (p + 1)).1 (size - (i + 1)) ((((tk 5 (strm s) (gs i (strm s) (p + 1)).2).1 : Nat) : Int) - 2)
      rw [hlen] at hf
      rw [Int.toNat_natCast, Nat.mul_one, ← List.map_set, show size - i = (size - (i + 1)) + 1 by omega, hf] at hA
      exact hA
    · have hge : ¬ i < size := by
        intro hlt
        simp only [Bool.and_eq_false_iff, decide_eq_false_iff_not] at h
        omega
      have hie : i = size := by omega
      rw [hie, Nat.sub_self, List.replicate_zero, List.append_nil] at hA
      repeat' (first | refine st ?_ | (refine wc_regionS 8 rfl ?_; refine wc_region ?_) | (refine su ?_; refine rn ?_) | (refine g_conv ?_; refine p_c hA ?_; refine rn ?_) | (refine g_load ?_; (first | refine t_loadx rfl hA ?_ | refine t_loada rfl hA ?_); refine rn ?_) | (refine g_call ?_; refine t_appx rfl rfl hA rfl ?_; clear hA; (try clear w); intro v w hA hone hnil; refine h_n hA ?_; clear hA; intro hA; refine rn ?_) | (refine g_store ?_; (first | refine t_storex rfl rfl hA ?_ | refine t_storea rfl rfl hA ?_); clear hA; (try clear w); intro w hA; refine h_m hA ?_; clear hA; intro hA; refine rn ?_) | (refine g_ow ?_; (first | refine t_alloc hA ?_ | refine ow_box rfl rfl hA ?_ | refine t_buildSlice rfl (by decide) rfl hA ?_); clear hA; (try clear w); intro b w hA; refine h_n hA ?_; clear hA; intro hA; refine rn ?_) | (refine g_ow ?_; refine t_make rfl rfl (by omega) (by omega) hA ?_; clear hA; (try clear w); intro v w hA hone hnil; refine rn ?_) | refine wc_pp rfl (fun h => ?_) (fun h => ?_) | refine wc_nn rfl (fun h => ?_) (fun h => ?_) | refine rl_pp rfl (fun h => o_n ?_) (fun h => rn ?_) | refine rl_qq rfl (fun h => o_n ?_) (fun h => rn ?_) | refine rl_nn rfl (fun h => o_n ?_) (fun h => rn ?_) | refine rl_mm rfl (fun h => o_n ?_) (fun h => rn ?_))
      refine wc_loopn (fun q l w => ∃ (i : Nat), (∃ jk : Nat → Value, l = [.pointer (some ⟨b, 0, none⟩), vi size, jk 2, jk 3, jk 4, v, vi k, jk 7, .int .i64 (i : Int), jk 9, jk 10, jk 11, jk 12, jk 13, jk 14, jk 15, jk 16, jk 17, jk 18, jk 19, jk 20, jk 21, jk 22, jk 23, jk 24, jk 25, jk 26, jk 27, jk 28, jk 29, jk 30, jk 31, jk 32, jk 33, jk 34, jk 35, jk 36, jk 37, jk 38, jk 39, jk 40, jk 41, jk 42, jk 43, jk 44, jk 45, jk 46]) ∧ q = 0 ∧ Sat E (srcT b s (gs size (strm s) (p + 1)).2 :: row 3 1 v size ((gs size (strm s) (p + 1)).1.map vi) :: L) w) 0 ⟨0, (ex_getD rfl), rfl, hA⟩ ?_
      clear hA
      rintro q l w ⟨i, ⟨jk, rfl⟩, hq, hA⟩
      repeat' (first | refine st ?_ | (refine wc_regionS 8 rfl ?_; refine wc_region ?_) | (refine su ?_; refine rn ?_) | (refine g_conv ?_; refine p_c hA ?_; refine rn ?_) | (refine g_load ?_; (first | refine t_loadx rfl hA ?_ | refine t_loada rfl hA ?_); refine rn ?_) | (refine g_call ?_; refine t_appx rfl rfl hA rfl ?_; clear hA; (try clear w); intro v w hA hone hnil; refine h_n hA ?_; clear hA; intro hA; refine rn ?_) | (refine g_store ?_; (first | refine t_storex rfl rfl hA ?_ | refine t_storea rfl rfl hA ?_); clear hA; (try clear w); intro w hA; refine h_m hA ?_; clear hA; intro hA; refine rn ?_) | (refine g_ow ?_; (first | refine t_alloc hA ?_ | refine ow_box rfl rfl hA ?_ | refine t_buildSlice rfl (by decide) rfl hA ?_); clear hA; (try clear w); intro b w hA; refine h_n hA ?_; clear hA; intro hA; refine rn ?_) | (refine g_ow ?_; refine t_make rfl rfl (by omega) (by omega) hA ?_; clear hA; (try clear w); intro v w hA hone hnil; refine rn ?_) | refine wc_pp rfl (fun h => ?_) (fun h => ?_) | refine wc_nn rfl (fun h => ?_) (fun h => ?_) | refine rl_pp rfl (fun h => o_n ?_) (fun h => rn ?_) | refine rl_qq rfl (fun h => o_n ?_) (fun h => rn ?_) | refine rl_nn rfl (fun h => o_n ?_) (fun h => rn ?_) | refine rl_mm rfl (fun h => o_n ?_) (fun h => rn ?_))
      refine wc_region ?_
      refine' rl_v hA ?o8_0 ?k8_0
      case o8_0 => intro w hA; first | (refine ow_move_v rfl ?_; exact ⟨pe, hA⟩)
      case' k8_0 => clear hA; intro w hA; refine rn ?_
      refine' rl_v hA ?o8_1 ?k8_1
      case o8_1 => intro w hA; first | (refine ow_lss rfl rfl ?_; exact ⟨pe, hA⟩)
      case' k8_1 => clear hA; intro w hA; refine rn ?_
      refine' rl_v hA ?o8_2 ?k8_2
      case o8_2 => intro w hA; first | (refine ow_move_v rfl ?_; exact ⟨pe, hA⟩)
      case' k8_2 => clear hA; intro w hA; refine rn ?_
      first | refine' rl_T rfl hA ?o8_3 ?k8_3 | refine' rl_Tn rfl hA ?o8_3 ?k8_3
      case o8_3 => intro hg w hA; first | (refine ow_move_v opr ?_; exact ⟨pe, hA⟩)
      case' k8_3 => clear hA; intro w hA; refine rn ?_
      first | refine' rl_T rfl hA ?o8_4 ?k8_4 | refine' rl_Tn rfl hA ?o8_4 ?k8_4
      case o8_4 => intro hg w hA; first | (refine ow_move_v opr ?_; exact ⟨pe, hA⟩)
      case' k8_4 => clear hA; intro w hA; refine rn ?_
      first | refine' rl_T rfl hA ?o8_5 ?k8_5 | refine' rl_Tn rfl hA ?o8_5 ?k8_5
      case o8_5 => intro hg w hA; first | (refine ow_lss opr opr ?_; exact ⟨pe, hA⟩)
      case' k8_5 => clear hA; intro w hA; refine rn ?_
      refine' rl_v hA ?o8_6 ?k8_6
      case o8_6 => intro w hA; first | (refine ow_and rfl (by first | rfl) rfl ?_; exact ⟨pe, hA⟩) | (refine ow_pick rfl rfl rfl ?_; exact ⟨pe, hA⟩)
      case' k8_6 => clear hA; intro w hA; refine rn ?_
      refine rl_nil ?_
      refine tq_normal ?_
      refine wc_bb rfl (fun h => ?_) (fun h => ?_)
      · simp only [Bool.and_eq_true, decide_eq_true_eq] at h
        omega
      repeat' (first | refine st ?_ | (refine wc_region ?_) | (refine su ?_; refine rn ?_) | (refine g_conv ?_; refine p_c hA ?_; refine rn ?_) | (refine g_load ?_; (first | refine t_loadx rfl hA ?_ | refine t_loada rfl hA ?_); refine rn ?_) | (refine g_call ?_; refine t_appx rfl rfl hA rfl ?_; clear hA; (try clear w); intro v w hA hone hnil; refine h_n hA ?_; clear hA; intro hA; refine rn ?_) | (refine g_store ?_; (first | refine t_storex rfl rfl hA ?_ | refine t_storea rfl rfl hA ?_); clear hA; (try clear w); intro w hA; refine h_m hA ?_; clear hA; intro hA; refine rn ?_) | (refine g_ow ?_; (first | refine t_alloc hA ?_ | refine ow_box rfl rfl hA ?_ | refine t_buildSlice rfl (by decide) rfl hA ?_); clear hA; (try clear w); intro b w hA; refine h_n hA ?_; clear hA; intro hA; refine rn ?_) | (refine g_ow ?_; refine t_make rfl rfl (by omega) (by omega) hA ?_; clear hA; (try clear w); intro v w hA hone hnil; refine rn ?_) | refine wc_pp rfl (fun h => ?_) (fun h => ?_) | refine wc_nn rfl (fun h => ?_) (fun h => ?_) | refine rl_pp rfl (fun h => o_n ?_) (fun h => rn ?_) | refine rl_qq rfl (fun h => o_n ?_) (fun h => rn ?_) | refine rl_nn rfl (fun h => o_n ?_) (fun h => rn ?_) | refine rl_mm rfl (fun h => o_n ?_) (fun h => rn ?_))
      obtain ⟨E', h1, h2, h3⟩ := fin _ hA
      exact fp_ret (res1 rfl rfl) ⟨E', v, rfl, h1, h2, h3⟩
  · rw [if_neg h3] at hb
    rw [hb] at fin ⊢
    clear hb hbn
    have h0A : Sat E (srcT b s (itP (setP size) 0 (List.replicate size 0) (strm s) (p + 1)).2 :: row 3 1 v size ((itP (setP size) 0 (List.replicate size 0) (strm s) (p + 1)).1.map vi) :: L) w := hA
    clear hA
    have hit := itSet size hz.1 (strm s) (p + 1)
    have hstep : ∀ i, itP (setP size) (i + 1) (List.replicate size 0) (strm s) (p + 1) = (let r := itP (setP size) i (List.replicate size 0) (strm s) (p + 1); (r.1.set (tk size (strm s) r.2).1 (numP 32768 (strm s) (r.2 + 1)).1, (numP 32768 (strm s) (r.2 + 1)).2)) := fun i => rfl
    refine wc_loopn (fun q l w => ∃ (i : Nat), (∃ jk : Nat → Value, l = [.pointer (some ⟨b, 0, none⟩), vi size, jk 2, jk 3, jk 4, v, vi k, .int .i64 (i : Int), jk 8, jk 9, jk 10, jk 11, jk 12, jk 13, jk 14, jk 15, jk 16, jk 17, jk 18, jk 19, jk 20, jk 21, jk 22, jk 23, jk 24, jk 25, jk 26, jk 27, jk 28, jk 29, jk 30, jk 31, jk 32, jk 33, jk 34, jk 35, jk 36, jk 37, jk 38, jk 39, jk 40, jk 41, jk 42, jk 43, jk 44, jk 45, jk 46]) ∧ q = 0 ∧ Sat E (srcT b s (itP (setP size) 0 (List.replicate size 0) (strm s) (p + 1)).2 :: row 3 1 v size ((itP (setP size) 0 (List.replicate size 0) (strm s) (p + 1)).1.map vi) :: L) w) 0 ⟨0, (ex_getD rfl), rfl, h0A⟩ ?_
    clear h0A
    rintro q l w ⟨i, ⟨jk, rfl⟩, hq, hA⟩
    repeat' (first | refine st ?_ | (refine wc_regionS 4 rfl ?_; refine wc_region ?_) | (refine su ?_; refine rn ?_) | (refine g_conv ?_; refine p_c hA ?_; refine rn ?_) | (refine g_load ?_; (first | refine t_loadx rfl hA ?_ | refine t_loada rfl hA ?_); refine rn ?_) | (refine g_call ?_; refine t_appx rfl rfl hA rfl ?_; clear hA; (try clear w); intro v w hA hone hnil; refine h_n hA ?_; clear hA; intro hA; refine rn ?_) | (refine g_store ?_; (first | refine t_storex rfl rfl hA ?_ | refine t_storea rfl rfl hA ?_); clear hA; (try clear w); intro w hA; refine h_m hA ?_; clear hA; intro hA; refine rn ?_) | (refine g_ow ?_; (first | refine t_alloc hA ?_ | refine ow_box rfl rfl hA ?_ | refine t_buildSlice rfl (by decide) rfl hA ?_); clear hA; (try clear w); intro b w hA; refine h_n hA ?_; clear hA; intro hA; refine rn ?_) | (refine g_ow ?_; refine t_make rfl rfl (by omega) (by omega) hA ?_; clear hA; (try clear w); intro v w hA hone hnil; refine rn ?_) | refine wc_pp rfl (fun h => ?_) (fun h => ?_) | refine wc_nn rfl (fun h => ?_) (fun h => ?_) | refine rl_pp rfl (fun h => o_n ?_) (fun h => rn ?_) | refine rl_qq rfl (fun h => o_n ?_) (fun h => rn ?_) | refine rl_nn rfl (fun h => o_n ?_) (fun h => rn ?_) | refine rl_mm rfl (fun h => o_n ?_) (fun h => rn ?_))
    refine wc_region ?_
    refine' rl_v hA ?o4xb_0 ?k4xb_0
    case o4xb_0 => intro w hA; first | (refine ow_move_v rfl ?_; exact ⟨pe, hA⟩)
    case' k4xb_0 => clear hA; intro w hA; refine rn ?_
    refine' rl_v hA ?o4xb_1 ?k4xb_1
    case o4xb_1 => intro w hA; first | (refine ow_eql rfl rfl ?_; exact ⟨pe, hA⟩) | (refine ow_eqs rfl rfl ?_; exact ⟨pe, hA⟩) | (refine t_eqlb rfl rfl ?_; exact ⟨pe, hA⟩)
    case' k4xb_1 => clear hA; intro w hA; refine rn ?_
    refine' rl_v hA ?o4xb_2 ?k4xb_2
    case o4xb_2 => intro w hA; first | (refine ow_move_v rfl ?_; exact ⟨pe, hA⟩)
    case' k4xb_2 => clear hA; intro w hA; refine rn ?_
    first | refine' rl_T rfl hA ?o4xb_3 ?k4xb_3 | refine' rl_Tn rfl hA ?o4xb_3 ?k4xb_3
    case o4xb_3 => intro hg w hA; first | (refine ow_move_v opr ?_; exact ⟨pe, hA⟩)
    case' k4xb_3 => clear hA; intro w hA; refine rn ?_
    first | refine' rl_T rfl hA ?o4xb_4 ?k4xb_4 | refine' rl_Tn rfl hA ?o4xb_4 ?k4xb_4
    case o4xb_4 => intro hg w hA; first | (refine ow_move_v opr ?_; exact ⟨pe, hA⟩)
    case' k4xb_4 => clear hA; intro w hA; refine rn ?_
    first | refine' rl_T rfl hA ?o4xb_5 ?k4xb_5 | refine' rl_Tn rfl hA ?o4xb_5 ?k4xb_5
    case o4xb_5 => intro hg w hA; first | (refine ow_lss opr opr ?_; exact ⟨pe, hA⟩)
    case' k4xb_5 => clear hA; intro w hA; refine rn ?_
    refine' rl_v hA ?o4xb_6 ?k4xb_6
    case o4xb_6 => intro w hA; first | (refine ow_and rfl (by first | rfl) rfl ?_; exact ⟨pe, hA⟩) | (refine ow_pick rfl rfl rfl ?_; exact ⟨pe, hA⟩)
    case' k4xb_6 => clear hA; intro w hA; refine rn ?_
    refine rl_nil ?_
    refine tq_normal ?_
    refine wc_bb rfl (fun h => ?_) (fun h => ?_)
    · simp only [Bool.and_eq_true, decide_eq_true_eq] at h
      omega
    clear h
    repeat' (first | refine st ?_ | (refine wc_regionS 8 rfl ?_; refine wc_region ?_) | (refine su ?_; refine rn ?_) | (refine g_conv ?_; refine p_c hA ?_; refine rn ?_) | (refine g_load ?_; (first | refine t_loadx rfl hA ?_ | refine t_loada rfl hA ?_); refine rn ?_) | (refine g_call ?_; refine t_appx rfl rfl hA rfl ?_; clear hA; (try clear w); intro v w hA hone hnil; refine h_n hA ?_; clear hA; intro hA; refine rn ?_) | (refine g_store ?_; (first | refine t_storex rfl rfl hA ?_ | refine t_storea rfl rfl hA ?_); clear hA; (try clear w); intro w hA; refine h_m hA ?_; clear hA; intro hA; refine rn ?_) | (refine g_ow ?_; (first | refine t_alloc hA ?_ | refine ow_box rfl rfl hA ?_ | refine t_buildSlice rfl (by decide) rfl hA ?_); clear hA; (try clear w); intro b w hA; refine h_n hA ?_; clear hA; intro hA; refine rn ?_) | (refine g_ow ?_; refine t_make rfl rfl (by omega) (by omega) hA ?_; clear hA; (try clear w); intro v w hA hone hnil; refine rn ?_) | refine wc_pp rfl (fun h => ?_) (fun h => ?_) | refine wc_nn rfl (fun h => ?_) (fun h => ?_) | refine rl_pp rfl (fun h => o_n ?_) (fun h => rn ?_) | refine rl_qq rfl (fun h => o_n ?_) (fun h => rn ?_) | refine rl_nn rfl (fun h => o_n ?_) (fun h => rn ?_) | refine rl_mm rfl (fun h => o_n ?_) (fun h => rn ?_))
    refine wc_loopn (fun q l w => ∃ (i : Nat), (∃ jk : Nat → Value, l = [.pointer (some ⟨b, 0, none⟩), vi size, jk 2, jk 3, jk 4, v, vi k, jk 7, .int .i64 (i : Int), jk 9, jk 10, jk 11, jk 12, jk 13, jk 14, jk 15, jk 16, jk 17, jk 18, jk 19, jk 20, jk 21, jk 22, jk 23, jk 24, jk 25, jk 26, jk 27, jk 28, jk 29, jk 30, jk 31, jk 32, jk 33, jk 34, jk 35, jk 36, jk 37, jk 38, jk 39, jk 40, jk 41, jk 42, jk 43, jk 44, jk 45, jk 46]) ∧ i + q = k ∧ Sat E (srcT b s (itP (setP size) i (List.replicate size 0) (strm s) (p + 1)).2 :: row 3 1 v size ((itP (setP size) i (List.replicate size 0) (strm s) (p + 1)).1.map vi) :: L) w) k ⟨0, (ex_getD rfl), by omega, hA⟩ ?_
    clear hA hq q i
    rintro q l w ⟨i, ⟨jk, rfl⟩, hi, hA⟩
    repeat' (first | refine st ?_ | (refine wc_regionS 8 rfl ?_; refine wc_region ?_) | (refine su ?_; refine rn ?_) | (refine g_conv ?_; refine p_c hA ?_; refine rn ?_) | (refine g_load ?_; (first | refine t_loadx rfl hA ?_ | refine t_loada rfl hA ?_); refine rn ?_) | (refine g_call ?_; refine t_appx rfl rfl hA rfl ?_; clear hA; (try clear w); intro v w hA hone hnil; refine h_n hA ?_; clear hA; intro hA; refine rn ?_) | (refine g_store ?_; (first | refine t_storex rfl rfl hA ?_ | refine t_storea rfl rfl hA ?_); clear hA; (try clear w); intro w hA; refine h_m hA ?_; clear hA; intro hA; refine rn ?_) | (refine g_ow ?_; (first | refine t_alloc hA ?_ | refine ow_box rfl rfl hA ?_ | refine t_buildSlice rfl (by decide) rfl hA ?_); clear hA; (try clear w); intro b w hA; refine h_n hA ?_; clear hA; intro hA; refine rn ?_) | (refine g_ow ?_; refine t_make rfl rfl (by omega) (by omega) hA ?_; clear hA; (try clear w); intro v w hA hone hnil; refine rn ?_) | refine wc_pp rfl (fun h => ?_) (fun h => ?_) | refine wc_nn rfl (fun h => ?_) (fun h => ?_) | refine rl_pp rfl (fun h => o_n ?_) (fun h => rn ?_) | refine rl_qq rfl (fun h => o_n ?_) (fun h => rn ?_) | refine rl_nn rfl (fun h => o_n ?_) (fun h => rn ?_) | refine rl_mm rfl (fun h => o_n ?_) (fun h => rn ?_))
    refine wc_region ?_
    refine' rl_v hA ?o8xb_0 ?k8xb_0
    case o8xb_0 => intro w hA; first | (refine ow_move_v rfl ?_; exact ⟨pe, hA⟩)
    case' k8xb_0 => clear hA; intro w hA; refine rn ?_
    refine' rl_v hA ?o8xb_1 ?k8xb_1
    case o8xb_1 => intro w hA; first | (refine ow_lss rfl rfl ?_; exact ⟨pe, hA⟩)
    case' k8xb_1 => clear hA; intro w hA; refine rn ?_
    refine' rl_v hA ?o8xb_2 ?k8xb_2
    case o8xb_2 => intro w hA; first | (refine ow_move_v rfl ?_; exact ⟨pe, hA⟩)
    case' k8xb_2 => clear hA; intro w hA; refine rn ?_
    first | refine' rl_T rfl hA ?o8xb_3 ?k8xb_3 | refine' rl_Tn rfl hA ?o8xb_3 ?k8xb_3
    case o8xb_3 => intro hg w hA; first | (refine ow_move_v opr ?_; exact ⟨pe, hA⟩)
    case' k8xb_3 => clear hA; intro w hA; refine rn ?_
    first | refine' rl_T rfl hA ?o8xb_4 ?k8xb_4 | refine' rl_Tn rfl hA ?o8xb_4 ?k8xb_4
    case o8xb_4 => intro hg w hA; first | (refine ow_move_v opr ?_; exact ⟨pe, hA⟩)
    case' k8xb_4 => clear hA; intro w hA; refine rn ?_
    first | refine' rl_T rfl hA ?o8xb_5 ?k8xb_5 | refine' rl_Tn rfl hA ?o8xb_5 ?k8xb_5
    case o8xb_5 => intro hg w hA; first | (refine ow_lss opr opr ?_; exact ⟨pe, hA⟩)
    case' k8xb_5 => clear hA; intro w hA; refine rn ?_
    refine' rl_v hA ?o8xb_6 ?k8xb_6
    case o8xb_6 => intro w hA; first | (refine ow_and rfl (by first | rfl) rfl ?_; exact ⟨pe, hA⟩) | (refine ow_pick rfl rfl rfl ?_; exact ⟨pe, hA⟩)
    case' k8xb_6 => clear hA; intro w hA; refine rn ?_
    refine rl_nil ?_
    refine tq_normal ?_
    refine wc_bb rfl (fun h => ?_) (fun h => ?_)
    · have hlt : i < k := by simp only [Bool.and_eq_true, decide_eq_true_eq] at h; omega
      have hst := hstep i
      have hil := (hit i).1
      dsimp only at hst
      generalize itP (setP size) i (List.replicate size 0) (strm s) (p + 1) = r at *
      have htz : (tk size (strm s) r.2).1 < size := Nat.mod_lt _ (by omega)
      repeat' (first | (refine g_callf 88 ?_; refine ow_call Tryd.call88 rfl ((takeT_calls _ _ _ _ _ _ size _ rfl (by omega) hs hA).mono ?_); clear hA; (try clear w); rintro e w ⟨rfl, hA⟩; refine ⟨_, rfl, ?_⟩; refine rn ?_) | (refine g_callf 113 ?_; refine ow_call Tryd.call113 rfl ((numberT_calls _ _ _ _ _ _ 32768 (by omega) hs hA).mono ?_); clear hA; (try clear w); rintro e w ⟨rfl, hA⟩; refine ⟨_, rfl, ?_⟩; refine rn ?_) | (refine g_ow ?_; refine t_indexAddrR 1 rfl hA rfl rfl (by omega) ?_; refine rn ?_) | (refine g_ow ?_; refine t_store_row 1 rfl rfl rfl hA rfl (by simp; omega) ?_; clear hA; intro w hA; refine rn ?_) | refine st ?_ | (refine wc_region ?_) | (refine su ?_; refine rn ?_) | (refine g_conv ?_; refine p_c hA ?_; refine rn ?_) | (refine g_load ?_; (first | refine t_loadx rfl hA ?_ | refine t_loada rfl hA ?_); refine rn ?_) | (refine g_call ?_; refine t_appx rfl rfl hA rfl ?_; clear hA; (try clear w); intro v w hA hone hnil; refine h_n hA ?_; clear hA; intro hA; refine rn ?_) | (refine g_store ?_; (first | refine t_storex rfl rfl hA ?_ | refine t_storea rfl rfl hA ?_); clear hA; (try clear w); intro w hA; refine h_m hA ?_; clear hA; intro hA; refine rn ?_) | (refine g_ow ?_; (first | refine t_alloc hA ?_ | refine ow_box rfl rfl hA ?_ | refine t_buildSlice rfl (by decide) rfl hA ?_); clear hA; (try clear w); intro b w hA; refine h_n hA ?_; clear hA; intro hA; refine rn ?_) | (refine g_ow ?_; refine t_make rfl rfl (by omega) (by omega) hA ?_; clear hA; (try clear w); intro v w hA hone hnil; refine rn ?_) | refine wc_pp rfl (fun h => ?_) (fun h => ?_) | refine wc_nn rfl (fun h => ?_) (fun h => ?_) | refine rl_pp rfl (fun h => o_n ?_) (fun h => rn ?_) | refine rl_qq rfl (fun h => o_n ?_) (fun h => rn ?_) | refine rl_nn rfl (fun h => o_n ?_) (fun h => rn ?_) | refine rl_mm rfl (fun h => o_n ?_) (fun h => rn ?_))
      refine lq_next (q - 1) (by omega) ⟨i + 1, (ex_getD rfl), by omega, ?_⟩
      rw [hst]
      have hA : Sat E (srcT b s (numP 32768 (strm s) (r.2 + 1)).2 :: row 3 1 v size ((r.1.map vi).set (((tk size (strm s) r.2).1 : Int).toNat * 1) (vi (numP 32768 (strm s) (r.2 + 1)).1)) :: L) w := hA
      rw [Int.toNat_natCast, Nat.mul_one, ← List.map_set] at hA
      exact hA
    · have hge : ¬ i < k := by
        intro hlt
        simp only [Bool.and_eq_false_iff, decide_eq_false_iff_not] at h
        omega
      obtain rfl : i = k := by omega
      repeat' (first | refine st ?_ | (refine wc_region ?_) | (refine su ?_; refine rn ?_) | (refine g_conv ?_; refine p_c hA ?_; refine rn ?_) | (refine g_load ?_; (first | refine t_loadx rfl hA ?_ | refine t_loada rfl hA ?_); refine rn ?_) | (refine g_call ?_; refine t_appx rfl rfl hA rfl ?_; clear hA; (try clear w); intro v w hA hone hnil; refine h_n hA ?_; clear hA; intro hA; refine rn ?_) | (refine g_store ?_; (first | refine t_storex rfl rfl hA ?_ | refine t_storea rfl rfl hA ?_); clear hA; (try clear w); intro w hA; refine h_m hA ?_; clear hA; intro hA; refine rn ?_) | (refine g_ow ?_; (first | refine t_alloc hA ?_ | refine ow_box rfl rfl hA ?_ | refine t_buildSlice rfl (by decide) rfl hA ?_); clear hA; (try clear w); intro b w hA; refine h_n hA ?_; clear hA; intro hA; refine rn ?_) | (refine g_ow ?_; refine t_make rfl rfl (by omega) (by omega) hA ?_; clear hA; (try clear w); intro v w hA hone hnil; refine rn ?_) | refine wc_pp rfl (fun h => ?_) (fun h => ?_) | refine wc_nn rfl (fun h => ?_) (fun h => ?_) | refine rl_pp rfl (fun h => o_n ?_) (fun h => rn ?_) | refine rl_qq rfl (fun h => o_n ?_) (fun h => rn ?_) | refine rl_nn rfl (fun h => o_n ?_) (fun h => rn ?_) | refine rl_mm rfl (fun h => o_n ?_) (fun h => rn ?_))
      obtain ⟨E', h1, h2, h3⟩ := fin _ hA
      exact fp_ret (res1 rfl rfl) ⟨E', v, rfl, h1, h2, h3⟩
end Go.Proofs.YtomfoaaaeidpnaaDoor
