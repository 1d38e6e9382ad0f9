/-
  Equality of macroblocks, walked.
-/
import Derived.Test.YteeeabnfgpolgaaDoorK4
import Derived.Test.YteeeabnfgpolgaaDoorSlC
import Derived.Test.YteeeabnfgpolgaaDoorSlD
set_option linter.unusedVariables false
set_option linter.unusedSimpArgs false
namespace Go.Proofs.YteeeabnfgpolgaaDoor
open Go Go.RowKit
attribute [local irreducible] WC RL OW bodyPostM ThenQ BlockQ LoopQ
set_option maxHeartbeats 2000000 in
theorem sEqInts_calls (v v' : Value) (xs ys : List Int) (E : Env) (L : List Item) (w : World) (hA : Sat E L w) (hx : ListE intR 1 E v xs) (hy : ListE intR 1 E v' ys) :
    Calls Tryd.prog 84 ⟨[v, v']⟩ w (Ret E L (.bool (decide (xs = ys)))) := by
  obtain ⟨cx, hcx⟩ := hx.sl
  obtain ⟨cy, hcy⟩ := hy.sl
  have hle := hcx.le
  refine enter (fn := Tryd.f84) Tryd.func84 rfl 26 rfl [v, v', undef, undef, undef, undef, undef, undef, undef, undef, undef, undef, undef, undef, undef, undef, undef, undef, undef, undef, undef, undef, undef, undef, undef, undef] rfl ?_
  repeat' (first | (refine g_call ?_; refine t_lenS rfl hcx ?_; refine rn ?_) | (refine g_call ?_; refine t_lenS rfl hcy ?_; refine rn ?_) | ((refine g_wc ?_; first | (refine wc_seq ?_) | (refine wc_region ?_) | (refine wc_block ?_) | (refine wc_true rfl ?_) | (refine wc_false rfl ?_) | (refine wc_pt rfl (by omega) ?_) | (refine wc_pf rfl (by omega) ?_) | (refine wc_nt rfl (by omega) ?_) | (refine wc_nf rfl (by omega) ?_) | (refine wc_pp rfl (fun h => ?_) (fun h => ?_)) | (refine wc_nn rfl (fun h => ?_) (fun h => ?_)) | (refine wc_skip ?_) | (refine wc_exit ?_) | (refine wc_ret ?_))) | (refine g_rl ?_; first | (first | (refine rl_op ?_) | (refine rl_nil ?_) | (refine rl_on rfl ?_) | (refine rl_pt rfl (by omega) ?_) | (refine rl_qt rfl (by omega) ?_) | (refine rl_nt rfl (by omega) ?_) | (refine rl_mt rfl (by omega) ?_)) | ((first | (refine rl_off rfl rfl ?_) | (refine rl_undef rfl ?_) | (refine rl_pf rfl (by omega) ?_) | (refine rl_qf rfl (by omega) ?_) | (refine rl_nf rfl (by omega) ?_) | (refine rl_mf rfl (by omega) ?_)); refine rn ?_) | (first | (refine rl_pp rfl (fun h => o_n ?_) (fun h => rn ?_)) | (refine rl_qq rfl (fun h => o_n ?_) (fun h => rn ?_)) | (refine rl_nn rfl (fun h => o_n ?_) (fun h => rn ?_)) | (refine rl_mm rfl (fun h => o_n ?_) (fun h => rn ?_)))) | ((refine g_bin ?_; refine p_b ?_); refine rn ?_) | (refine g_call ?_; first | ((first | (refine p_l ?_)); refine rn ?_) | ((first | (refine t_appx rfl rfl hA rfl ?_)); clear hA; (try clear w); intro v w hA hone hnil; refine h_n hA ?_; clear hA; intro hA; refine rn ?_)) | ((refine g_conv ?_; first | (refine p_c hA ?_)); refine rn ?_) | ((refine g_load ?_; first | (refine t_loadx rfl hA ?_) | (refine t_loada rfl hA ?_)); refine rn ?_) | (refine g_store ?_; first | ((first | (refine t_storex rfl rfl hA ?_)); clear hA; (try clear w); intro w hA; refine h_n hA ?_; clear hA; intro hA; refine rn ?_) | ((first | (refine t_storea rfl rfl hA ?_)); clear hA; (try clear w); intro w hA; (try simp only [List.drop_zero, List.drop_nil, List.drop_succ_cons, List.take_succ_cons, List.take_zero, List.length_cons, List.length_nil, Nat.zero_add, Nat.reduceAdd] at hA); refine h_n hA ?_; clear hA; intro hA; refine rn ?_)) | (refine g_ow ?_; first | ((first | (refine p_o ?_)); refine rn ?_) | ((first | (refine t_alloc hA ?_) | (refine ow_box rfl rfl hA ?_) | (refine t_buildSlice rfl (by decide) rfl hA ?_)); clear hA; (try clear w); intro b w hA; refine h_n hA ?_; clear hA; intro hA; refine rn ?_) | ((first | (refine t_make rfl rfl (by omega) (by omega) hA ?_)); clear hA; (try clear w); intro v w hA hone hnil; refine rn ?_)) | (refine tq_normal ?_) | (refine bq_normal ?_) | (refine bq_hit ?_) | (refine bq_miss (by decide) ?_) | (refine tq_exit ?_) | (refine lq_exit ?_) | (refine tq_ret ?_) | (refine bq_ret ?_) | (refine lq_ret ?_))
  · refine ret1 hA rfl ?_
    rw [decide_eq_false (show ¬ xs = ys from fun e => h (by rw [e]))]; rfl
  have hl : xs.length = ys.length := by omega
  refine wc_loopn (fun m l w => ∃ (i : Nat), (∃ jk : Nat → Value, l = [v, v', jk 2, jk 3, .bool false, jk 5, jk 6, jk 7, jk 8, jk 9, jk 10, jk 11, .int .i64 (xs.length : Int), .int .i64 (i : Int), jk 14, jk 15, jk 16, jk 17, jk 18, jk 19, jk 20, jk 21, jk 22, jk 23, jk 24, jk 25]) ∧ Sat E L w ∧ i + m = xs.length ∧ ∀ j, j < i → xs[j]? = ys[j]?) xs.length ⟨0, (ex_getD rfl), hA, by omega, by intro j hj; omega⟩ ?_
  clear hA h
  rintro m l w ⟨i, ⟨jk, rfl⟩, hA, hi, hj⟩
  by_cases hlt : i < xs.length
  · obtain ⟨x, hxi⟩ : ∃ x, xs[i]? = some x := ⟨_, List.getElem?_eq_getElem hlt⟩
    obtain ⟨y, hyi⟩ : ∃ y, ys[i]? = some y := ⟨_, List.getElem?_eq_getElem (by omega)⟩
    obtain ⟨cs, hcsl, hR, hcx1⟩ := hx.get hxi
    obtain ⟨cs', hcsl', hR', hcy1⟩ := hy.get hyi
    obtain ⟨rfl, hx64⟩ := hR; obtain ⟨rfl, hy64⟩ := hR'
    have hx0 : E.cell? ⟨sB v, sO v + (i : Int).toNat * 1, none⟩ = some (vi x) := hcx1 0 _ rfl
    have hy0 : E.cell? ⟨sB v', sO v' + (i : Int).toNat * 1, none⟩ = some (vi y) := hcy1 0 _ rfl
    repeat' (first | ((refine g_wc ?_; first | (refine wc_seq ?_) | (refine wc_region ?_) | (refine wc_block ?_) | (refine wc_true rfl ?_) | (refine wc_false rfl ?_) | (refine wc_pt rfl (by omega) ?_) | (refine wc_pf rfl (by omega) ?_) | (refine wc_nt rfl (by omega) ?_) | (refine wc_nf rfl (by omega) ?_) | (refine wc_pp rfl (fun h => ?_) (fun h => ?_)) | (refine wc_nn rfl (fun h => ?_) (fun h => ?_)) | (refine wc_skip ?_) | (refine wc_exit ?_) | (refine wc_ret ?_))) | (refine g_rl ?_; first | (first | (refine rl_op ?_) | (refine rl_nil ?_) | (refine rl_on rfl ?_) | (refine rl_pt rfl (by omega) ?_) | (refine rl_qt rfl (by omega) ?_) | (refine rl_nt rfl (by omega) ?_) | (refine rl_mt rfl (by omega) ?_)) | ((first | (refine rl_off rfl rfl ?_) | (refine rl_undef rfl ?_) | (refine rl_pf rfl (by omega) ?_) | (refine rl_qf rfl (by omega) ?_) | (refine rl_nf rfl (by omega) ?_) | (refine rl_mf rfl (by omega) ?_)); refine rn ?_) | (first | (refine rl_pp rfl (fun h => o_n ?_) (fun h => rn ?_)) | (refine rl_qq rfl (fun h => o_n ?_) (fun h => rn ?_)) | (refine rl_nn rfl (fun h => o_n ?_) (fun h => rn ?_)) | (refine rl_mm rfl (fun h => o_n ?_) (fun h => rn ?_)))) | ((refine g_bin ?_; refine p_b ?_); refine rn ?_) | (refine g_call ?_; first | ((first | (refine p_l ?_)); refine rn ?_) | ((first | (refine t_appx rfl rfl hA rfl ?_)); clear hA; (try clear w); intro v w hA hone hnil; refine h_n hA ?_; clear hA; intro hA; refine rn ?_)) | ((refine g_conv ?_; first | (refine p_c hA ?_)); refine rn ?_) | ((refine g_load ?_; first | (refine t_loadx rfl hA ?_) | (refine t_loada rfl hA ?_)); refine rn ?_) | (refine g_store ?_; first | ((first | (refine t_storex rfl rfl hA ?_)); clear hA; (try clear w); intro w hA; refine h_n hA ?_; clear hA; intro hA; refine rn ?_) | ((first | (refine t_storea rfl rfl hA ?_)); clear hA; (try clear w); intro w hA; (try simp only [List.drop_zero, List.drop_nil, List.drop_succ_cons, List.take_succ_cons, List.take_zero, List.length_cons, List.length_nil, Nat.zero_add, Nat.reduceAdd] at hA); refine h_n hA ?_; clear hA; intro hA; refine rn ?_)) | (refine g_ow ?_; first | ((first | (refine p_o ?_)); refine rn ?_) | ((first | (refine t_alloc hA ?_) | (refine ow_box rfl rfl hA ?_) | (refine t_buildSlice rfl (by decide) rfl hA ?_)); clear hA; (try clear w); intro b w hA; refine h_n hA ?_; clear hA; intro hA; refine rn ?_) | ((first | (refine t_make rfl rfl (by omega) (by omega) hA ?_)); clear hA; (try clear w); intro v w hA hone hnil; refine rn ?_)) | (refine tq_normal ?_) | (refine bq_normal ?_) | (refine bq_hit ?_) | (refine bq_miss (by decide) ?_) | (refine tq_exit ?_) | (refine lq_exit ?_) | (refine tq_ret ?_) | (refine bq_ret ?_) | (refine lq_ret ?_))
    refine' wc_vals 9 [16, 17, 18, 19, 20, 21, 22, 23, 24] [_, _, _, _, _, _, _, _, _] rfl (by kernel_rfl) (by kernel_rfl) (by kernel_rfl) hA ?ops6 ?k6
    case ops6 =>
      refine' VOps.c0 rfl [] (by decide) [] (by decide) rfl ?o6_0 ?r6_0
      case o6_0 => intro E' Lx w lf hE hl hA; simp only [setAll, List.zip_cons_cons, List.zip_nil_right, List.map_cons, List.map_nil, List.getD_cons_succ, List.getD_cons_zero, List.set_cons_succ, List.set_cons_zero] at hl; subst hl; first | (refine ow_move_v rfl ?_; exact ⟨pe, hA⟩)
      case r6_0 =>
        refine' VOps.c0 rfl [] (by decide) [] (by decide) rfl ?o6_1 ?r6_1
        case o6_1 => intro E' Lx w lf hE hl hA; simp only [setAll, List.zip_cons_cons, List.zip_nil_right, List.map_cons, List.map_nil, List.getD_cons_succ, List.getD_cons_zero, List.set_cons_succ, List.set_cons_zero] at hl; subst hl; first | (refine ow_move_v rfl ?_; exact ⟨pe, hA⟩)
        case r6_1 =>
          refine' VOps.c0 rfl [0, 1] (by decide) [16, 17] (by decide) rfl ?o6_2 ?r6_2
          case o6_2 => intro E' Lx w lf hE hl hA; simp only [setAll, List.zip_cons_cons, List.zip_nil_right, List.map_cons, List.map_nil, List.getD_cons_succ, List.getD_cons_zero, List.set_cons_succ, List.set_cons_zero] at hl; subst hl; first | (refine t_indexAddrS rfl hcx rfl (by omega) ?_; exact ⟨pe, hA⟩) | (refine t_indexAddrS rfl hcy rfl (by omega) ?_; exact ⟨pe, hA⟩) | (refine t_indexAddr rfl rfl (by omega) ?_; exact ⟨pe, hA⟩) | (refine t_indexAddrS rfl rfl (by omega) ?_; exact ⟨pe, hA⟩)
          case r6_2 =>
            refine' VOps.c0 rfl [2] (by decide) [18] (by decide) rfl ?o6_3 ?r6_3
            case o6_3 => intro E' Lx w lf hE hl hA; simp only [setAll, List.zip_cons_cons, List.zip_nil_right, List.map_cons, List.map_nil, List.getD_cons_succ, List.getD_cons_zero, List.set_cons_succ, List.set_cons_zero] at hl; subst hl; first | (refine t_load_env rfl rfl hA (hE.cell hx0) ?_; exact ⟨pe, hA⟩) | (refine t_load_env rfl rfl hA (hE.cell hy0) ?_; exact ⟨pe, hA⟩) | (refine t_loadx rfl hA ?_; exact ⟨pe, hA⟩) | (refine t_loada rfl hA ?_; exact ⟨pe, hA⟩)
            case r6_3 =>
              refine' VOps.c0 rfl [] (by decide) [] (by decide) rfl ?o6_4 ?r6_4
              case o6_4 => intro E' Lx w lf hE hl hA; simp only [setAll, List.zip_cons_cons, List.zip_nil_right, List.map_cons, List.map_nil, List.getD_cons_succ, List.getD_cons_zero, List.set_cons_succ, List.set_cons_zero] at hl; subst hl; first | (refine ow_move_v rfl ?_; exact ⟨pe, hA⟩)
              case r6_4 =>
                refine' VOps.c0 rfl [] (by decide) [] (by decide) rfl ?o6_5 ?r6_5
                case o6_5 => intro E' Lx w lf hE hl hA; simp only [setAll, List.zip_cons_cons, List.zip_nil_right, List.map_cons, List.map_nil, List.getD_cons_succ, List.getD_cons_zero, List.set_cons_succ, List.set_cons_zero] at hl; subst hl; first | (refine ow_move_v rfl ?_; exact ⟨pe, hA⟩)
                case r6_5 =>
                  refine' VOps.c0 rfl [4, 5] (by decide) [20, 21] (by decide) rfl ?o6_6 ?r6_6
                  case o6_6 => intro E' Lx w lf hE hl hA; simp only [setAll, List.zip_cons_cons, List.zip_nil_right, List.map_cons, List.map_nil, List.getD_cons_succ, List.getD_cons_zero, List.set_cons_succ, List.set_cons_zero] at hl; subst hl; first | (refine t_indexAddrS rfl hcx rfl (by omega) ?_; exact ⟨pe, hA⟩) | (refine t_indexAddrS rfl hcy rfl (by omega) ?_; exact ⟨pe, hA⟩) | (refine t_indexAddr rfl rfl (by omega) ?_; exact ⟨pe, hA⟩) | (refine t_indexAddrS rfl rfl (by omega) ?_; exact ⟨pe, hA⟩)
                  case r6_6 =>
                    refine' VOps.c0 rfl [6] (by decide) [22] (by decide) rfl ?o6_7 ?r6_7
                    case o6_7 => intro E' Lx w lf hE hl hA; simp only [setAll, List.zip_cons_cons, List.zip_nil_right, List.map_cons, List.map_nil, List.getD_cons_succ, List.getD_cons_zero, List.set_cons_succ, List.set_cons_zero] at hl; subst hl; first | (refine t_load_env rfl rfl hA (hE.cell hx0) ?_; exact ⟨pe, hA⟩) | (refine t_load_env rfl rfl hA (hE.cell hy0) ?_; exact ⟨pe, hA⟩) | (refine t_loadx rfl hA ?_; exact ⟨pe, hA⟩) | (refine t_loada rfl hA ?_; exact ⟨pe, hA⟩)
                    case r6_7 =>
                      refine' VOps.c0 rfl [3, 7] (by decide) [19, 23] (by decide) rfl ?o6_8 ?r6_8
                      case o6_8 => intro E' Lx w lf hE hl hA; simp only [setAll, List.zip_cons_cons, List.zip_nil_right, List.map_cons, List.map_nil, List.getD_cons_succ, List.getD_cons_zero, List.set_cons_succ, List.set_cons_zero] at hl; subst hl; first | (refine ow_neq rfl rfl ?_; exact ⟨pe, hA⟩) | (refine ow_neq rfl rfl ?_; exact ⟨pe, hA⟩) | (refine ow_neqs rfl rfl ?_; exact ⟨pe, hA⟩) | (refine t_neqb rfl rfl ?_; exact ⟨pe, hA⟩)
                      case r6_8 =>
                        exact TameOps.nil
    case' k6 => (try clear hA); intro w hA; refine rn ?_
    repeat' (first | ((refine g_wc ?_; first | (refine wc_seq ?_) | (refine wc_region ?_) | (refine wc_block ?_) | (refine wc_true rfl ?_) | (refine wc_false rfl ?_) | (refine wc_pt rfl (by omega) ?_) | (refine wc_pf rfl (by omega) ?_) | (refine wc_nt rfl (by omega) ?_) | (refine wc_nf rfl (by omega) ?_) | (refine wc_pp rfl (fun h => ?_) (fun h => ?_)) | (refine wc_nn rfl (fun h => ?_) (fun h => ?_)) | (refine wc_skip ?_) | (refine wc_exit ?_) | (refine wc_ret ?_))) | (refine g_rl ?_; first | (first | (refine rl_op ?_) | (refine rl_nil ?_) | (refine rl_on rfl ?_) | (refine rl_pt rfl (by omega) ?_) | (refine rl_qt rfl (by omega) ?_) | (refine rl_nt rfl (by omega) ?_) | (refine rl_mt rfl (by omega) ?_)) | ((first | (refine rl_off rfl rfl ?_) | (refine rl_undef rfl ?_) | (refine rl_pf rfl (by omega) ?_) | (refine rl_qf rfl (by omega) ?_) | (refine rl_nf rfl (by omega) ?_) | (refine rl_mf rfl (by omega) ?_)); refine rn ?_) | (first | (refine rl_pp rfl (fun h => o_n ?_) (fun h => rn ?_)) | (refine rl_qq rfl (fun h => o_n ?_) (fun h => rn ?_)) | (refine rl_nn rfl (fun h => o_n ?_) (fun h => rn ?_)) | (refine rl_mm rfl (fun h => o_n ?_) (fun h => rn ?_)))) | ((refine g_bin ?_; refine p_b ?_); refine rn ?_) | (refine g_call ?_; first | ((first | (refine p_l ?_)); refine rn ?_) | ((first | (refine t_appx rfl rfl hA rfl ?_)); clear hA; (try clear w); intro v w hA hone hnil; refine h_n hA ?_; clear hA; intro hA; refine rn ?_)) | ((refine g_conv ?_; first | (refine p_c hA ?_)); refine rn ?_) | ((refine g_load ?_; first | (refine t_loadx rfl hA ?_) | (refine t_loada rfl hA ?_)); refine rn ?_) | (refine g_store ?_; first | ((first | (refine t_storex rfl rfl hA ?_)); clear hA; (try clear w); intro w hA; refine h_n hA ?_; clear hA; intro hA; refine rn ?_) | ((first | (refine t_storea rfl rfl hA ?_)); clear hA; (try clear w); intro w hA; (try simp only [List.drop_zero, List.drop_nil, List.drop_succ_cons, List.take_succ_cons, List.take_zero, List.length_cons, List.length_nil, Nat.zero_add, Nat.reduceAdd] at hA); refine h_n hA ?_; clear hA; intro hA; refine rn ?_)) | (refine g_ow ?_; first | ((first | (refine p_o ?_)); refine rn ?_) | ((first | (refine t_alloc hA ?_) | (refine ow_box rfl rfl hA ?_) | (refine t_buildSlice rfl (by decide) rfl hA ?_)); clear hA; (try clear w); intro b w hA; refine h_n hA ?_; clear hA; intro hA; refine rn ?_) | ((first | (refine t_make rfl rfl (by omega) (by omega) hA ?_)); clear hA; (try clear w); intro v w hA hone hnil; refine rn ?_)) | (refine tq_normal ?_) | (refine bq_normal ?_) | (refine bq_hit ?_) | (refine bq_miss (by decide) ?_) | (refine tq_exit ?_) | (refine lq_exit ?_) | (refine tq_ret ?_) | (refine bq_ret ?_) | (refine lq_ret ?_))
    · refine ret1 hA rfl ?_
      have hne : ¬ x = y := by first | exact h | simpa using h
      rw [decide_eq_false (show ¬ xs = ys from fun e => hne (by rw [e, hyi] at hxi; exact (Option.some.inj hxi).symm))]; rfl
    · refine lq_next (m - 1) (by omega) ⟨i + 1, (ex_getD rfl), hA, by omega, ?_⟩
      have heq : x = y := by first | exact h | simpa using h
      intro j hj'
      rcases Nat.lt_or_ge j i with h1 | h1
      · exact hj j h1
      · obtain rfl : j = i := by omega
        rw [hxi, hyi, heq]
  · repeat' (first | ((refine g_wc ?_; first | (refine wc_seq ?_) | (refine wc_region ?_) | (refine wc_block ?_) | (refine wc_true rfl ?_) | (refine wc_false rfl ?_) | (refine wc_pt rfl (by omega) ?_) | (refine wc_pf rfl (by omega) ?_) | (refine wc_nt rfl (by omega) ?_) | (refine wc_nf rfl (by omega) ?_) | (refine wc_pp rfl (fun h => ?_) (fun h => ?_)) | (refine wc_nn rfl (fun h => ?_) (fun h => ?_)) | (refine wc_skip ?_) | (refine wc_exit ?_) | (refine wc_ret ?_))) | (refine g_rl ?_; first | (first | (refine rl_op ?_) | (refine rl_nil ?_) | (refine rl_on rfl ?_) | (refine rl_pt rfl (by omega) ?_) | (refine rl_qt rfl (by omega) ?_) | (refine rl_nt rfl (by omega) ?_) | (refine rl_mt rfl (by omega) ?_)) | ((first | (refine rl_off rfl rfl ?_) | (refine rl_undef rfl ?_) | (refine rl_pf rfl (by omega) ?_) | (refine rl_qf rfl (by omega) ?_) | (refine rl_nf rfl (by omega) ?_) | (refine rl_mf rfl (by omega) ?_)); refine rn ?_) | (first | (refine rl_pp rfl (fun h => o_n ?_) (fun h => rn ?_)) | (refine rl_qq rfl (fun h => o_n ?_) (fun h => rn ?_)) | (refine rl_nn rfl (fun h => o_n ?_) (fun h => rn ?_)) | (refine rl_mm rfl (fun h => o_n ?_) (fun h => rn ?_)))) | ((refine g_bin ?_; refine p_b ?_); refine rn ?_) | (refine g_call ?_; first | ((first | (refine p_l ?_)); refine rn ?_) | ((first | (refine t_appx rfl rfl hA rfl ?_)); clear hA; (try clear w); intro v w hA hone hnil; refine h_n hA ?_; clear hA; intro hA; refine rn ?_)) | ((refine g_conv ?_; first | (refine p_c hA ?_)); refine rn ?_) | ((refine g_load ?_; first | (refine t_loadx rfl hA ?_) | (refine t_loada rfl hA ?_)); refine rn ?_) | (refine g_store ?_; first | ((first | (refine t_storex rfl rfl hA ?_)); clear hA; (try clear w); intro w hA; refine h_n hA ?_; clear hA; intro hA; refine rn ?_) | ((first | (refine t_storea rfl rfl hA ?_)); clear hA; (try clear w); intro w hA; (try simp only [List.drop_zero, List.drop_nil, List.drop_succ_cons, List.take_succ_cons, List.take_zero, List.length_cons, List.length_nil, Nat.zero_add, Nat.reduceAdd] at hA); refine h_n hA ?_; clear hA; intro hA; refine rn ?_)) | (refine g_ow ?_; first | ((first | (refine p_o ?_)); refine rn ?_) | ((first | (refine t_alloc hA ?_) | (refine ow_box rfl rfl hA ?_) | (refine t_buildSlice rfl (by decide) rfl hA ?_)); clear hA; (try clear w); intro b w hA; refine h_n hA ?_; clear hA; intro hA; refine rn ?_) | ((first | (refine t_make rfl rfl (by omega) (by omega) hA ?_)); clear hA; (try clear w); intro v w hA hone hnil; refine rn ?_)) | (refine tq_normal ?_) | (refine bq_normal ?_) | (refine bq_hit ?_) | (refine bq_miss (by decide) ?_) | (refine tq_exit ?_) | (refine lq_exit ?_) | (refine tq_ret ?_) | (refine bq_ret ?_) | (refine lq_ret ?_))
    refine ret1 hA rfl ?_
    rw [decide_eq_true (ext_at hl fun j hj' => hj j (by omega))]; rfl
set_option maxHeartbeats 2000000 in
theorem sEqVecs_calls (v v' : Value) (xs ys : List Vec) (E : Env) (L : List Item) (w : World) (hA : Sat E L w) (hx : ListE vecR 2 E v xs) (hy : ListE vecR 2 E v' ys) :
    Calls Tryd.prog 85 ⟨[v, v']⟩ w (Ret E L (.bool (decide (xs = ys)))) := by
  obtain ⟨cx, hcx⟩ := hx.sl
  obtain ⟨cy, hcy⟩ := hy.sl
  have hle := hcx.le
  refine enter (fn := Tryd.f85) Tryd.func85 rfl 26 rfl [v, v', undef, undef, undef, undef, undef, undef, undef, undef, undef, undef, undef, undef, undef, undef, undef, undef, undef, undef, undef, undef, undef, undef, undef, undef] rfl ?_
  repeat' (first | (refine g_call ?_; refine t_lenS rfl hcx ?_; refine rn ?_) | (refine g_call ?_; refine t_lenS rfl hcy ?_; refine rn ?_) | ((refine g_wc ?_; first | (refine wc_seq ?_) | (refine wc_region ?_) | (refine wc_block ?_) | (refine wc_true rfl ?_) | (refine wc_false rfl ?_) | (refine wc_pt rfl (by omega) ?_) | (refine wc_pf rfl (by omega) ?_) | (refine wc_nt rfl (by omega) ?_) | (refine wc_nf rfl (by omega) ?_) | (refine wc_pp rfl (fun h => ?_) (fun h => ?_)) | (refine wc_nn rfl (fun h => ?_) (fun h => ?_)) | (refine wc_skip ?_) | (refine wc_exit ?_) | (refine wc_ret ?_))) | (refine g_rl ?_; first | (first | (refine rl_op ?_) | (refine rl_nil ?_) | (refine rl_on rfl ?_) | (refine rl_pt rfl (by omega) ?_) | (refine rl_qt rfl (by omega) ?_) | (refine rl_nt rfl (by omega) ?_) | (refine rl_mt rfl (by omega) ?_)) | ((first | (refine rl_off rfl rfl ?_) | (refine rl_undef rfl ?_) | (refine rl_pf rfl (by omega) ?_) | (refine rl_qf rfl (by omega) ?_) | (refine rl_nf rfl (by omega) ?_) | (refine rl_mf rfl (by omega) ?_)); refine rn ?_) | (first | (refine rl_pp rfl (fun h => o_n ?_) (fun h => rn ?_)) | (refine rl_qq rfl (fun h => o_n ?_) (fun h => rn ?_)) | (refine rl_nn rfl (fun h => o_n ?_) (fun h => rn ?_)) | (refine rl_mm rfl (fun h => o_n ?_) (fun h => rn ?_)))) | ((refine g_bin ?_; refine p_b ?_); refine rn ?_) | (refine g_call ?_; first | ((first | (refine p_l ?_)); refine rn ?_) | ((first | (refine t_appx rfl rfl hA rfl ?_)); clear hA; (try clear w); intro v w hA hone hnil; refine h_n hA ?_; clear hA; intro hA; refine rn ?_)) | ((refine g_conv ?_; first | (refine p_c hA ?_)); refine rn ?_) | ((refine g_load ?_; first | (refine t_loadx rfl hA ?_) | (refine t_loada rfl hA ?_)); refine rn ?_) | (refine g_store ?_; first | ((first | (refine t_storex rfl rfl hA ?_)); clear hA; (try clear w); intro w hA; refine h_n hA ?_; clear hA; intro hA; refine rn ?_) | ((first | (refine t_storea rfl rfl hA ?_)); clear hA; (try clear w); intro w hA; (try simp only [List.drop_zero, List.drop_nil, List.drop_succ_cons, List.take_succ_cons, List.take_zero, List.length_cons, List.length_nil, Nat.zero_add, Nat.reduceAdd] at hA); refine h_n hA ?_; clear hA; intro hA; refine rn ?_)) | (refine g_ow ?_; first | ((first | (refine p_o ?_)); refine rn ?_) | ((first | (refine t_alloc hA ?_) | (refine ow_box rfl rfl hA ?_) | (refine t_buildSlice rfl (by decide) rfl hA ?_)); clear hA; (try clear w); intro b w hA; refine h_n hA ?_; clear hA; intro hA; refine rn ?_) | ((first | (refine t_make rfl rfl (by omega) (by omega) hA ?_)); clear hA; (try clear w); intro v w hA hone hnil; refine rn ?_)) | (refine tq_normal ?_) | (refine bq_normal ?_) | (refine bq_hit ?_) | (refine bq_miss (by decide) ?_) | (refine tq_exit ?_) | (refine lq_exit ?_) | (refine tq_ret ?_) | (refine bq_ret ?_) | (refine lq_ret ?_))
  · refine ret1 hA rfl ?_
    rw [decide_eq_false (show ¬ xs = ys from fun e => h (by rw [e]))]; rfl
  have hl : xs.length = ys.length := by omega
  refine wc_loopn (fun m l w => ∃ (i : Nat), (∃ jk : Nat → Value, l = [v, v', jk 2, jk 3, .bool false, jk 5, jk 6, jk 7, jk 8, jk 9, jk 10, jk 11, .int .i64 (xs.length : Int), .int .i64 (i : Int), jk 14, jk 15, jk 16, jk 17, jk 18, jk 19, jk 20, jk 21, jk 22, jk 23, jk 24, jk 25]) ∧ Sat E L w ∧ i + m = xs.length ∧ ∀ j, j < i → xs[j]? = ys[j]?) xs.length ⟨0, (ex_getD rfl), hA, by omega, by intro j hj; omega⟩ ?_
  clear hA h
  rintro m l w ⟨i, ⟨jk, rfl⟩, hA, hi, hj⟩
  by_cases hlt : i < xs.length
  · obtain ⟨x, hxi⟩ : ∃ x, xs[i]? = some x := ⟨_, List.getElem?_eq_getElem hlt⟩
    obtain ⟨y, hyi⟩ : ∃ y, ys[i]? = some y := ⟨_, List.getElem?_eq_getElem (by omega)⟩
    obtain ⟨cs, hcsl, hR, hcx1⟩ := hx.get hxi
    obtain ⟨cs', hcsl', hR', hcy1⟩ := hy.get hyi
    obtain ⟨rfl, hx64⟩ := hR; obtain ⟨rfl, hy64⟩ := hR'
    repeat' (first | ((refine g_wc ?_; first | (refine wc_seq ?_) | (refine wc_region ?_) | (refine wc_block ?_) | (refine wc_true rfl ?_) | (refine wc_false rfl ?_) | (refine wc_pt rfl (by omega) ?_) | (refine wc_pf rfl (by omega) ?_) | (refine wc_nt rfl (by omega) ?_) | (refine wc_nf rfl (by omega) ?_) | (refine wc_pp rfl (fun h => ?_) (fun h => ?_)) | (refine wc_nn rfl (fun h => ?_) (fun h => ?_)) | (refine wc_skip ?_) | (refine wc_exit ?_) | (refine wc_ret ?_))) | (refine g_rl ?_; first | (first | (refine rl_op ?_) | (refine rl_nil ?_) | (refine rl_on rfl ?_) | (refine rl_pt rfl (by omega) ?_) | (refine rl_qt rfl (by omega) ?_) | (refine rl_nt rfl (by omega) ?_) | (refine rl_mt rfl (by omega) ?_)) | ((first | (refine rl_off rfl rfl ?_) | (refine rl_undef rfl ?_) | (refine rl_pf rfl (by omega) ?_) | (refine rl_qf rfl (by omega) ?_) | (refine rl_nf rfl (by omega) ?_) | (refine rl_mf rfl (by omega) ?_)); refine rn ?_) | (first | (refine rl_pp rfl (fun h => o_n ?_) (fun h => rn ?_)) | (refine rl_qq rfl (fun h => o_n ?_) (fun h => rn ?_)) | (refine rl_nn rfl (fun h => o_n ?_) (fun h => rn ?_)) | (refine rl_mm rfl (fun h => o_n ?_) (fun h => rn ?_)))) | ((refine g_bin ?_; refine p_b ?_); refine rn ?_) | (refine g_call ?_; first | ((first | (refine p_l ?_)); refine rn ?_) | ((first | (refine t_appx rfl rfl hA rfl ?_)); clear hA; (try clear w); intro v w hA hone hnil; refine h_n hA ?_; clear hA; intro hA; refine rn ?_)) | ((refine g_conv ?_; first | (refine p_c hA ?_)); refine rn ?_) | ((refine g_load ?_; first | (refine t_loadx rfl hA ?_) | (refine t_loada rfl hA ?_)); refine rn ?_) | (refine g_store ?_; first | ((first | (refine t_storex rfl rfl hA ?_)); clear hA; (try clear w); intro w hA; refine h_n hA ?_; clear hA; intro hA; refine rn ?_) | ((first | (refine t_storea rfl rfl hA ?_)); clear hA; (try clear w); intro w hA; (try simp only [List.drop_zero, List.drop_nil, List.drop_succ_cons, List.take_succ_cons, List.take_zero, List.length_cons, List.length_nil, Nat.zero_add, Nat.reduceAdd] at hA); refine h_n hA ?_; clear hA; intro hA; refine rn ?_)) | (refine g_ow ?_; first | ((first | (refine p_o ?_)); refine rn ?_) | ((first | (refine t_alloc hA ?_) | (refine ow_box rfl rfl hA ?_) | (refine t_buildSlice rfl (by decide) rfl hA ?_)); clear hA; (try clear w); intro b w hA; refine h_n hA ?_; clear hA; intro hA; refine rn ?_) | ((first | (refine t_make rfl rfl (by omega) (by omega) hA ?_)); clear hA; (try clear w); intro v w hA hone hnil; refine rn ?_)) | (refine tq_normal ?_) | (refine bq_normal ?_) | (refine bq_hit ?_) | (refine bq_miss (by decide) ?_) | (refine tq_exit ?_) | (refine lq_exit ?_) | (refine tq_ret ?_) | (refine bq_ret ?_) | (refine lq_ret ?_))
    refine' wc_vals 9 [16, 17, 18, 19, 20, 21, 22, 23, 24] [_, _, _, _, _, _, _, _, _] rfl (by kernel_rfl) (by kernel_rfl) (by kernel_rfl) hA ?ops6 ?k6
    case ops6 =>
      refine' VOps.c0 rfl [] (by decide) [] (by decide) rfl ?o6_0 ?r6_0
      case o6_0 => intro E' Lx w lf hE hl hA; simp only [setAll, List.zip_cons_cons, List.zip_nil_right, List.map_cons, List.map_nil, List.getD_cons_succ, List.getD_cons_zero, List.set_cons_succ, List.set_cons_zero] at hl; subst hl; first | (refine ow_move_v rfl ?_; exact ⟨pe, hA⟩)
      case r6_0 =>
        refine' VOps.c0 rfl [] (by decide) [] (by decide) rfl ?o6_1 ?r6_1
        case o6_1 => intro E' Lx w lf hE hl hA; simp only [setAll, List.zip_cons_cons, List.zip_nil_right, List.map_cons, List.map_nil, List.getD_cons_succ, List.getD_cons_zero, List.set_cons_succ, List.set_cons_zero] at hl; subst hl; first | (refine ow_move_v rfl ?_; exact ⟨pe, hA⟩)
        case r6_1 =>
          refine' VOps.c0 rfl [0, 1] (by decide) [16, 17] (by decide) rfl ?o6_2 ?r6_2
          case o6_2 => intro E' Lx w lf hE hl hA; simp only [setAll, List.zip_cons_cons, List.zip_nil_right, List.map_cons, List.map_nil, List.getD_cons_succ, List.getD_cons_zero, List.set_cons_succ, List.set_cons_zero] at hl; subst hl; first | (refine t_indexAddrS rfl hcx rfl (by omega) ?_; exact ⟨pe, hA⟩) | (refine t_indexAddrS rfl hcy rfl (by omega) ?_; exact ⟨pe, hA⟩) | (refine t_indexAddr rfl rfl (by omega) ?_; exact ⟨pe, hA⟩) | (refine t_indexAddrS rfl rfl (by omega) ?_; exact ⟨pe, hA⟩)
          case r6_2 =>
            refine' VOps.c0 rfl [2] (by decide) [18] (by decide) rfl ?o6_3 ?r6_3
            case o6_3 => intro E' Lx w lf hE hl hA; simp only [setAll, List.zip_cons_cons, List.zip_nil_right, List.map_cons, List.map_nil, List.getD_cons_succ, List.getD_cons_zero, List.set_cons_succ, List.set_cons_zero] at hl; subst hl; first | (refine t_load_agg_env rfl rfl hA (fun j u hj => hE.cell (hcx1 j u hj)) rfl ?_; exact ⟨pe, hA⟩) | (refine t_load_agg_env rfl rfl hA (fun j u hj => hE.cell (hcy1 j u hj)) rfl ?_; exact ⟨pe, hA⟩) | (refine t_loadx rfl hA ?_; exact ⟨pe, hA⟩) | (refine t_loada rfl hA ?_; exact ⟨pe, hA⟩)
            case r6_3 =>
              refine' VOps.c0 rfl [] (by decide) [] (by decide) rfl ?o6_4 ?r6_4
              case o6_4 => intro E' Lx w lf hE hl hA; simp only [setAll, List.zip_cons_cons, List.zip_nil_right, List.map_cons, List.map_nil, List.getD_cons_succ, List.getD_cons_zero, List.set_cons_succ, List.set_cons_zero] at hl; subst hl; first | (refine ow_move_v rfl ?_; exact ⟨pe, hA⟩)
              case r6_4 =>
                refine' VOps.c0 rfl [] (by decide) [] (by decide) rfl ?o6_5 ?r6_5
                case o6_5 => intro E' Lx w lf hE hl hA; simp only [setAll, List.zip_cons_cons, List.zip_nil_right, List.map_cons, List.map_nil, List.getD_cons_succ, List.getD_cons_zero, List.set_cons_succ, List.set_cons_zero] at hl; subst hl; first | (refine ow_move_v rfl ?_; exact ⟨pe, hA⟩)
                case r6_5 =>
                  refine' VOps.c0 rfl [4, 5] (by decide) [20, 21] (by decide) rfl ?o6_6 ?r6_6
                  case o6_6 => intro E' Lx w lf hE hl hA; simp only [setAll, List.zip_cons_cons, List.zip_nil_right, List.map_cons, List.map_nil, List.getD_cons_succ, List.getD_cons_zero, List.set_cons_succ, List.set_cons_zero] at hl; subst hl; first | (refine t_indexAddrS rfl hcx rfl (by omega) ?_; exact ⟨pe, hA⟩) | (refine t_indexAddrS rfl hcy rfl (by omega) ?_; exact ⟨pe, hA⟩) | (refine t_indexAddr rfl rfl (by omega) ?_; exact ⟨pe, hA⟩) | (refine t_indexAddrS rfl rfl (by omega) ?_; exact ⟨pe, hA⟩)
                  case r6_6 =>
                    refine' VOps.c0 rfl [6] (by decide) [22] (by decide) rfl ?o6_7 ?r6_7
                    case o6_7 => intro E' Lx w lf hE hl hA; simp only [setAll, List.zip_cons_cons, List.zip_nil_right, List.map_cons, List.map_nil, List.getD_cons_succ, List.getD_cons_zero, List.set_cons_succ, List.set_cons_zero] at hl; subst hl; first | (refine t_load_agg_env rfl rfl hA (fun j u hj => hE.cell (hcx1 j u hj)) rfl ?_; exact ⟨pe, hA⟩) | (refine t_load_agg_env rfl rfl hA (fun j u hj => hE.cell (hcy1 j u hj)) rfl ?_; exact ⟨pe, hA⟩) | (refine t_loadx rfl hA ?_; exact ⟨pe, hA⟩) | (refine t_loada rfl hA ?_; exact ⟨pe, hA⟩)
                    case r6_7 =>
                      refine' VOps.c0 rfl [3, 7] (by decide) [19, 23] (by decide) rfl ?o6_8 ?r6_8
                      case o6_8 => intro E' Lx w lf hE hl hA; simp only [setAll, List.zip_cons_cons, List.zip_nil_right, List.map_cons, List.map_nil, List.getD_cons_succ, List.getD_cons_zero, List.set_cons_succ, List.set_cons_zero] at hl; subst hl; first | (refine t_neVec rfl rfl hx64 hy64 ?_; exact ⟨pe, hA⟩) | (refine ow_neq rfl rfl ?_; exact ⟨pe, hA⟩) | (refine ow_neqs rfl rfl ?_; exact ⟨pe, hA⟩) | (refine t_neqb rfl rfl ?_; exact ⟨pe, hA⟩)
                      case r6_8 =>
                        exact TameOps.nil
    case' k6 => (try clear hA); intro w hA; refine rn ?_
    repeat' (first | ((refine g_wc ?_; first | (refine wc_seq ?_) | (refine wc_region ?_) | (refine wc_block ?_) | (refine wc_true rfl ?_) | (refine wc_false rfl ?_) | (refine wc_pt rfl (by omega) ?_) | (refine wc_pf rfl (by omega) ?_) | (refine wc_nt rfl (by omega) ?_) | (refine wc_nf rfl (by omega) ?_) | (refine wc_pp rfl (fun h => ?_) (fun h => ?_)) | (refine wc_nn rfl (fun h => ?_) (fun h => ?_)) | (refine wc_skip ?_) | (refine wc_exit ?_) | (refine wc_ret ?_))) | (refine g_rl ?_; first | (first | (refine rl_op ?_) | (refine rl_nil ?_) | (refine rl_on rfl ?_) | (refine rl_pt rfl (by omega) ?_) | (refine rl_qt rfl (by omega) ?_) | (refine rl_nt rfl (by omega) ?_) | (refine rl_mt rfl (by omega) ?_)) | ((first | (refine rl_off rfl rfl ?_) | (refine rl_undef rfl ?_) | (refine rl_pf rfl (by omega) ?_) | (refine rl_qf rfl (by omega) ?_) | (refine rl_nf rfl (by omega) ?_) | (refine rl_mf rfl (by omega) ?_)); refine rn ?_) | (first | (refine rl_pp rfl (fun h => o_n ?_) (fun h => rn ?_)) | (refine rl_qq rfl (fun h => o_n ?_) (fun h => rn ?_)) | (refine rl_nn rfl (fun h => o_n ?_) (fun h => rn ?_)) | (refine rl_mm rfl (fun h => o_n ?_) (fun h => rn ?_)))) | ((refine g_bin ?_; refine p_b ?_); refine rn ?_) | (refine g_call ?_; first | ((first | (refine p_l ?_)); refine rn ?_) | ((first | (refine t_appx rfl rfl hA rfl ?_)); clear hA; (try clear w); intro v w hA hone hnil; refine h_n hA ?_; clear hA; intro hA; refine rn ?_)) | ((refine g_conv ?_; first | (refine p_c hA ?_)); refine rn ?_) | ((refine g_load ?_; first | (refine t_loadx rfl hA ?_) | (refine t_loada rfl hA ?_)); refine rn ?_) | (refine g_store ?_; first | ((first | (refine t_storex rfl rfl hA ?_)); clear hA; (try clear w); intro w hA; refine h_n hA ?_; clear hA; intro hA; refine rn ?_) | ((first | (refine t_storea rfl rfl hA ?_)); clear hA; (try clear w); intro w hA; (try simp only [List.drop_zero, List.drop_nil, List.drop_succ_cons, List.take_succ_cons, List.take_zero, List.length_cons, List.length_nil, Nat.zero_add, Nat.reduceAdd] at hA); refine h_n hA ?_; clear hA; intro hA; refine rn ?_)) | (refine g_ow ?_; first | ((first | (refine p_o ?_)); refine rn ?_) | ((first | (refine t_alloc hA ?_) | (refine ow_box rfl rfl hA ?_) | (refine t_buildSlice rfl (by decide) rfl hA ?_)); clear hA; (try clear w); intro b w hA; refine h_n hA ?_; clear hA; intro hA; refine rn ?_) | ((first | (refine t_make rfl rfl (by omega) (by omega) hA ?_)); clear hA; (try clear w); intro v w hA hone hnil; refine rn ?_)) | (refine tq_normal ?_) | (refine bq_normal ?_) | (refine bq_hit ?_) | (refine bq_miss (by decide) ?_) | (refine tq_exit ?_) | (refine lq_exit ?_) | (refine tq_ret ?_) | (refine bq_ret ?_) | (refine lq_ret ?_))
    · refine ret1 hA rfl ?_
      have hne : ¬ x = y := by first | exact h | simpa using h
      rw [decide_eq_false (show ¬ xs = ys from fun e => hne (by rw [e, hyi] at hxi; exact (Option.some.inj hxi).symm))]; rfl
    · refine lq_next (m - 1) (by omega) ⟨i + 1, (ex_getD rfl), hA, by omega, ?_⟩
      have heq : x = y := by first | exact h | simpa using h
      intro j hj'
      rcases Nat.lt_or_ge j i with h1 | h1
      · exact hj j h1
      · obtain rfl : j = i := by omega
        rw [hxi, hyi, heq]
  · repeat' (first | ((refine g_wc ?_; first | (refine wc_seq ?_) | (refine wc_region ?_) | (refine wc_block ?_) | (refine wc_true rfl ?_) | (refine wc_false rfl ?_) | (refine wc_pt rfl (by omega) ?_) | (refine wc_pf rfl (by omega) ?_) | (refine wc_nt rfl (by omega) ?_) | (refine wc_nf rfl (by omega) ?_) | (refine wc_pp rfl (fun h => ?_) (fun h => ?_)) | (refine wc_nn rfl (fun h => ?_) (fun h => ?_)) | (refine wc_skip ?_) | (refine wc_exit ?_) | (refine wc_ret ?_))) | (refine g_rl ?_; first | (first | (refine rl_op ?_) | (refine rl_nil ?_) | (refine rl_on rfl ?_) | (refine rl_pt rfl (by omega) ?_) | (refine rl_qt rfl (by omega) ?_) | (refine rl_nt rfl (by omega) ?_) | (refine rl_mt rfl (by omega) ?_)) | ((first | (refine rl_off rfl rfl ?_) | (refine rl_undef rfl ?_) | (refine rl_pf rfl (by omega) ?_) | (refine rl_qf rfl (by omega) ?_) | (refine rl_nf rfl (by omega) ?_) | (refine rl_mf rfl (by omega) ?_)); refine rn ?_) | (first | (refine rl_pp rfl (fun h => o_n ?_) (fun h => rn ?_)) | (refine rl_qq rfl (fun h => o_n ?_) (fun h => rn ?_)) | (refine rl_nn rfl (fun h => o_n ?_) (fun h => rn ?_)) | (refine rl_mm rfl (fun h => o_n ?_) (fun h => rn ?_)))) | ((refine g_bin ?_; refine p_b ?_); refine rn ?_) | (refine g_call ?_; first | ((first | (refine p_l ?_)); refine rn ?_) | ((first | (refine t_appx rfl rfl hA rfl ?_)); clear hA; (try clear w); intro v w hA hone hnil; refine h_n hA ?_; clear hA; intro hA; refine rn ?_)) | ((refine g_conv ?_; first | (refine p_c hA ?_)); refine rn ?_) | ((refine g_load ?_; first | (refine t_loadx rfl hA ?_) | (refine t_loada rfl hA ?_)); refine rn ?_) | (refine g_store ?_; first | ((first | (refine t_storex rfl rfl hA ?_)); clear hA; (try clear w); intro w hA; refine h_n hA ?_; clear hA; intro hA; refine rn ?_) | ((first | (refine t_storea rfl rfl hA ?_)); clear hA; (try clear w); intro w hA; (try simp only [List.drop_zero, List.drop_nil, List.drop_succ_cons, List.take_succ_cons, List.take_zero, List.length_cons, List.length_nil, Nat.zero_add, Nat.reduceAdd] at hA); refine h_n hA ?_; clear hA; intro hA; refine rn ?_)) | (refine g_ow ?_; first | ((first | (refine p_o ?_)); refine rn ?_) | ((first | (refine t_alloc hA ?_) | (refine ow_box rfl rfl hA ?_) | (refine t_buildSlice rfl (by decide) rfl hA ?_)); clear hA; (try clear w); intro b w hA; refine h_n hA ?_; clear hA; intro hA; refine rn ?_) | ((first | (refine t_make rfl rfl (by omega) (by omega) hA ?_)); clear hA; (try clear w); intro v w hA hone hnil; refine rn ?_)) | (refine tq_normal ?_) | (refine bq_normal ?_) | (refine bq_hit ?_) | (refine bq_miss (by decide) ?_) | (refine tq_exit ?_) | (refine lq_exit ?_) | (refine tq_ret ?_) | (refine bq_ret ?_) | (refine lq_ret ?_))
    refine ret1 hA rfl ?_
    rw [decide_eq_true (ext_at hl fun j hj' => hj j (by omega))]; rfl
set_option maxHeartbeats 2000000 in
theorem fEqBlocks_calls (v v' : Value) (xs ys : List (List Int)) (E : Env) (L : List Item) (w : World) (hA : Sat E L w) (hx : ListE (listR intR 1) 1 E v xs) (hy : ListE (listR intR 1) 1 E v' ys) :
    Calls Tryd.prog 86 ⟨[v, v', .func (.func 84) #[] #[]]⟩ w (Ret E L (.bool (decide (xs = ys)))) := by
  obtain ⟨cx, hcx⟩ := hx.sl
  obtain ⟨cy, hcy⟩ := hy.sl
  have hle := hcx.le
  refine enter (fn := Tryd.f86) Tryd.func86 rfl 32 rfl [v, v', .func (.func 84) #[] #[], undef, undef, undef, undef, undef, undef, undef, undef, undef, undef, undef, undef, undef, undef, undef, undef, undef, undef, undef, undef, undef, undef, undef, undef, undef, undef, undef, undef, undef] rfl ?_
  repeat' (first | (refine g_call ?_; refine t_lenS rfl hcx ?_; refine rn ?_) | (refine g_call ?_; refine t_lenS rfl hcy ?_; refine rn ?_) | ((refine g_wc ?_; first | (refine wc_seq ?_) | (refine wc_region ?_) | (refine wc_block ?_) | (refine wc_true rfl ?_) | (refine wc_false rfl ?_) | (refine wc_pt rfl (by omega) ?_) | (refine wc_pf rfl (by omega) ?_) | (refine wc_nt rfl (by omega) ?_) | (refine wc_nf rfl (by omega) ?_) | (refine wc_pp rfl (fun h => ?_) (fun h => ?_)) | (refine wc_nn rfl (fun h => ?_) (fun h => ?_)) | (refine wc_skip ?_) | (refine wc_exit ?_) | (refine wc_ret ?_))) | (refine g_rl ?_; first | (first | (refine rl_op ?_) | (refine rl_nil ?_) | (refine rl_on rfl ?_) | (refine rl_pt rfl (by omega) ?_) | (refine rl_qt rfl (by omega) ?_) | (refine rl_nt rfl (by omega) ?_) | (refine rl_mt rfl (by omega) ?_)) | ((first | (refine rl_off rfl rfl ?_) | (refine rl_undef rfl ?_) | (refine rl_pf rfl (by omega) ?_) | (refine rl_qf rfl (by omega) ?_) | (refine rl_nf rfl (by omega) ?_) | (refine rl_mf rfl (by omega) ?_)); refine rn ?_) | (first | (refine rl_pp rfl (fun h => o_n ?_) (fun h => rn ?_)) | (refine rl_qq rfl (fun h => o_n ?_) (fun h => rn ?_)) | (refine rl_nn rfl (fun h => o_n ?_) (fun h => rn ?_)) | (refine rl_mm rfl (fun h => o_n ?_) (fun h => rn ?_)))) | ((refine g_bin ?_; refine p_b ?_); refine rn ?_) | (refine g_call ?_; first | ((first | (refine p_l ?_)); refine rn ?_) | ((first | (refine t_appx rfl rfl hA rfl ?_)); clear hA; (try clear w); intro v w hA hone hnil; refine h_n hA ?_; clear hA; intro hA; refine rn ?_)) | ((refine g_conv ?_; first | (refine p_c hA ?_)); refine rn ?_) | ((refine g_load ?_; first | (refine t_loadx rfl hA ?_) | (refine t_loada rfl hA ?_)); refine rn ?_) | (refine g_store ?_; first | ((first | (refine t_storex rfl rfl hA ?_)); clear hA; (try clear w); intro w hA; refine h_n hA ?_; clear hA; intro hA; refine rn ?_) | ((first | (refine t_storea rfl rfl hA ?_)); clear hA; (try clear w); intro w hA; (try simp only [List.drop_zero, List.drop_nil, List.drop_succ_cons, List.take_succ_cons, List.take_zero, List.length_cons, List.length_nil, Nat.zero_add, Nat.reduceAdd] at hA); refine h_n hA ?_; clear hA; intro hA; refine rn ?_)) | (refine g_ow ?_; first | ((first | (refine p_o ?_)); refine rn ?_) | ((first | (refine t_alloc hA ?_) | (refine ow_box rfl rfl hA ?_) | (refine t_buildSlice rfl (by decide) rfl hA ?_)); clear hA; (try clear w); intro b w hA; refine h_n hA ?_; clear hA; intro hA; refine rn ?_) | ((first | (refine t_make rfl rfl (by omega) (by omega) hA ?_)); clear hA; (try clear w); intro v w hA hone hnil; refine rn ?_)) | (refine tq_normal ?_) | (refine bq_normal ?_) | (refine bq_hit ?_) | (refine bq_miss (by decide) ?_) | (refine tq_exit ?_) | (refine lq_exit ?_) | (refine tq_ret ?_) | (refine bq_ret ?_) | (refine lq_ret ?_))
  · refine ret1 hA rfl ?_
    rw [decide_eq_false (show ¬ xs = ys from fun e => h (by rw [e]))]; rfl
  have hl : xs.length = ys.length := by omega
  refine wc_loopn (fun m l w => ∃ (i : Nat), (∃ jk : Nat → Value, l = [v, v', .func (.func 84) #[] #[], jk 3, jk 4, jk 5, .bool false, jk 7, jk 8, jk 9, jk 10, jk 11, jk 12, jk 13, jk 14, v, .int .i64 (xs.length : Int), .int .i64 (i : Int), jk 18, jk 19, jk 20, jk 21, jk 22, jk 23, jk 24, jk 25, jk 26, jk 27, jk 28, jk 29, jk 30, jk 31]) ∧ Sat E L w ∧ i + m = xs.length ∧ ∀ j, j < i → xs[j]? = ys[j]?) xs.length ⟨0, (ex_getD rfl), hA, by omega, by intro j hj; omega⟩ ?_
  clear hA h
  rintro m l w ⟨i, ⟨jk, rfl⟩, hA, hi, hj⟩
  by_cases hlt : i < xs.length
  · obtain ⟨x, hxi⟩ : ∃ x, xs[i]? = some x := ⟨_, List.getElem?_eq_getElem hlt⟩
    obtain ⟨y, hyi⟩ : ∃ y, ys[i]? = some y := ⟨_, List.getElem?_eq_getElem (by omega)⟩
    obtain ⟨cs, hcsl, hR, hcx1⟩ := hx.get hxi
    obtain ⟨cs', hcsl', hR', hcy1⟩ := hy.get hyi
    obtain ⟨u, rfl, hux⟩ := hR; obtain ⟨u', rfl, huy⟩ := hR'
    have hx0 : E.cell? ⟨sB v, sO v + (i : Int).toNat * 1, none⟩ = some (u) := hcx1 0 _ rfl
    have hy0 : E.cell? ⟨sB v', sO v' + (i : Int).toNat * 1, none⟩ = some (u') := hcy1 0 _ rfl
    repeat' (first | (refine g_ow ?_; refine t_indexAddrS rfl hcx rfl (by omega) ?_; refine rn ?_) | (refine g_ow ?_; refine t_indexAddrS rfl hcy rfl (by omega) ?_; refine rn ?_) | (refine g_ow ?_; refine t_load_env rfl rfl hA hx0 ?_; refine rn ?_) | (refine g_ow ?_; refine t_load_env rfl rfl hA hy0 ?_; refine rn ?_) | (refine g_callt ?_; refine ow_callv rfl Tryd.call84 rfl ((sEqInts_calls _ _ _ _ _ _ _ hA hux huy).mono ?_); clear hA; rintro e w ⟨rfl, hA⟩; refine ⟨_, rfl, ?_⟩; refine rn ?_) | ((refine g_wc ?_; first | (refine wc_seq ?_) | (refine wc_region ?_) | (refine wc_block ?_) | (refine wc_true rfl ?_) | (refine wc_false rfl ?_) | (refine wc_pt rfl (by omega) ?_) | (refine wc_pf rfl (by omega) ?_) | (refine wc_nt rfl (by omega) ?_) | (refine wc_nf rfl (by omega) ?_) | (refine wc_pp rfl (fun h => ?_) (fun h => ?_)) | (refine wc_nn rfl (fun h => ?_) (fun h => ?_)) | (refine wc_skip ?_) | (refine wc_exit ?_) | (refine wc_ret ?_))) | (refine g_rl ?_; first | (first | (refine rl_op ?_) | (refine rl_nil ?_) | (refine rl_on rfl ?_) | (refine rl_pt rfl (by omega) ?_) | (refine rl_qt rfl (by omega) ?_) | (refine rl_nt rfl (by omega) ?_) | (refine rl_mt rfl (by omega) ?_)) | ((first | (refine rl_off rfl rfl ?_) | (refine rl_undef rfl ?_) | (refine rl_pf rfl (by omega) ?_) | (refine rl_qf rfl (by omega) ?_) | (refine rl_nf rfl (by omega) ?_) | (refine rl_mf rfl (by omega) ?_)); refine rn ?_) | (first | (refine rl_pp rfl (fun h => o_n ?_) (fun h => rn ?_)) | (refine rl_qq rfl (fun h => o_n ?_) (fun h => rn ?_)) | (refine rl_nn rfl (fun h => o_n ?_) (fun h => rn ?_)) | (refine rl_mm rfl (fun h => o_n ?_) (fun h => rn ?_)))) | ((refine g_bin ?_; refine p_b ?_); refine rn ?_) | (refine g_call ?_; first | ((first | (refine p_l ?_)); refine rn ?_) | ((first | (refine t_appx rfl rfl hA rfl ?_)); clear hA; (try clear w); intro v w hA hone hnil; refine h_n hA ?_; clear hA; intro hA; refine rn ?_)) | ((refine g_conv ?_; first | (refine p_c hA ?_)); refine rn ?_) | ((refine g_load ?_; first | (refine t_loadx rfl hA ?_) | (refine t_loada rfl hA ?_)); refine rn ?_) | (refine g_store ?_; first | ((first | (refine t_storex rfl rfl hA ?_)); clear hA; (try clear w); intro w hA; refine h_n hA ?_; clear hA; intro hA; refine rn ?_) | ((first | (refine t_storea rfl rfl hA ?_)); clear hA; (try clear w); intro w hA; (try simp only [List.drop_zero, List.drop_nil, List.drop_succ_cons, List.take_succ_cons, List.take_zero, List.length_cons, List.length_nil, Nat.zero_add, Nat.reduceAdd] at hA); refine h_n hA ?_; clear hA; intro hA; refine rn ?_)) | (refine g_ow ?_; first | ((first | (refine p_o ?_)); refine rn ?_) | ((first | (refine t_alloc hA ?_) | (refine ow_box rfl rfl hA ?_) | (refine t_buildSlice rfl (by decide) rfl hA ?_)); clear hA; (try clear w); intro b w hA; refine h_n hA ?_; clear hA; intro hA; refine rn ?_) | ((first | (refine t_make rfl rfl (by omega) (by omega) hA ?_)); clear hA; (try clear w); intro v w hA hone hnil; refine rn ?_)) | (refine tq_normal ?_) | (refine bq_normal ?_) | (refine bq_hit ?_) | (refine bq_miss (by decide) ?_) | (refine tq_exit ?_) | (refine lq_exit ?_) | (refine tq_ret ?_) | (refine bq_ret ?_) | (refine lq_ret ?_))
    · refine ret1 hA rfl ?_
      have hne : ¬ x = y := by first | exact h | simpa using h
      rw [decide_eq_false (show ¬ xs = ys from fun e => hne (by rw [e, hyi] at hxi; exact (Option.some.inj hxi).symm))]; rfl
    · refine lq_next (m - 1) (by omega) ⟨i + 1, (ex_getD rfl), hA, by omega, ?_⟩
      have heq : x = y := by first | exact h | simpa using h
      intro j hj'
      rcases Nat.lt_or_ge j i with h1 | h1
      · exact hj j h1
      · obtain rfl : j = i := by omega
        rw [hxi, hyi, heq]
  · repeat' (first | ((refine g_wc ?_; first | (refine wc_seq ?_) | (refine wc_region ?_) | (refine wc_block ?_) | (refine wc_true rfl ?_) | (refine wc_false rfl ?_) | (refine wc_pt rfl (by omega) ?_) | (refine wc_pf rfl (by omega) ?_) | (refine wc_nt rfl (by omega) ?_) | (refine wc_nf rfl (by omega) ?_) | (refine wc_pp rfl (fun h => ?_) (fun h => ?_)) | (refine wc_nn rfl (fun h => ?_) (fun h => ?_)) | (refine wc_skip ?_) | (refine wc_exit ?_) | (refine wc_ret ?_))) | (refine g_rl ?_; first | (first | (refine rl_op ?_) | (refine rl_nil ?_) | (refine rl_on rfl ?_) | (refine rl_pt rfl (by omega) ?_) | (refine rl_qt rfl (by omega) ?_) | (refine rl_nt rfl (by omega) ?_) | (refine rl_mt rfl (by omega) ?_)) | ((first | (refine rl_off rfl rfl ?_) | (refine rl_undef rfl ?_) | (refine rl_pf rfl (by omega) ?_) | (refine rl_qf rfl (by omega) ?_) | (refine rl_nf rfl (by omega) ?_) | (refine rl_mf rfl (by omega) ?_)); refine rn ?_) | (first | (refine rl_pp rfl (fun h => o_n ?_) (fun h => rn ?_)) | (refine rl_qq rfl (fun h => o_n ?_) (fun h => rn ?_)) | (refine rl_nn rfl (fun h => o_n ?_) (fun h => rn ?_)) | (refine rl_mm rfl (fun h => o_n ?_) (fun h => rn ?_)))) | ((refine g_bin ?_; refine p_b ?_); refine rn ?_) | (refine g_call ?_; first | ((first | (refine p_l ?_)); refine rn ?_) | ((first | (refine t_appx rfl rfl hA rfl ?_)); clear hA; (try clear w); intro v w hA hone hnil; refine h_n hA ?_; clear hA; intro hA; refine rn ?_)) | ((refine g_conv ?_; first | (refine p_c hA ?_)); refine rn ?_) | ((refine g_load ?_; first | (refine t_loadx rfl hA ?_) | (refine t_loada rfl hA ?_)); refine rn ?_) | (refine g_store ?_; first | ((first | (refine t_storex rfl rfl hA ?_)); clear hA; (try clear w); intro w hA; refine h_n hA ?_; clear hA; intro hA; refine rn ?_) | ((first | (refine t_storea rfl rfl hA ?_)); clear hA; (try clear w); intro w hA; (try simp only [List.drop_zero, List.drop_nil, List.drop_succ_cons, List.take_succ_cons, List.take_zero, List.length_cons, List.length_nil, Nat.zero_add, Nat.reduceAdd] at hA); refine h_n hA ?_; clear hA; intro hA; refine rn ?_)) | (refine g_ow ?_; first | ((first | (refine p_o ?_)); refine rn ?_) | ((first | (refine t_alloc hA ?_) | (refine ow_box rfl rfl hA ?_) | (refine t_buildSlice rfl (by decide) rfl hA ?_)); clear hA; (try clear w); intro b w hA; refine h_n hA ?_; clear hA; intro hA; refine rn ?_) | ((first | (refine t_make rfl rfl (by omega) (by omega) hA ?_)); clear hA; (try clear w); intro v w hA hone hnil; refine rn ?_)) | (refine tq_normal ?_) | (refine bq_normal ?_) | (refine bq_hit ?_) | (refine bq_miss (by decide) ?_) | (refine tq_exit ?_) | (refine lq_exit ?_) | (refine tq_ret ?_) | (refine bq_ret ?_) | (refine lq_ret ?_))
    refine ret1 hA rfl ?_
    rw [decide_eq_true (ext_at hl fun j hj' => hj j (by omega))]; rfl
set_option maxRecDepth 20000 in
set_option maxHeartbeats 4000000 in
theorem mbEqual_calls (m m' : Mb) (r v u r' v' u' : Value) (E : Env) (L : List Item) (w : World) (hA : Sat E L w) (hm : MbL E m r v u) (hm' : MbL E m' r' v' u') :
    Calls Tryd.prog 31 ⟨[.agg ⟨mbC m r v u⟩, .agg ⟨mbC m' r' v' u'⟩]⟩ w (Ret E L (.bool (decide (m = m')))) := by
  refine enter (fn := Tryd.f31) Tryd.func31 rfl 82 rfl [.agg ⟨mbC m r v u⟩, .agg ⟨mbC m' r' v' u'⟩, undef, undef, undef, undef, undef, undef, undef, undef, undef, undef, undef, undef, undef, undef, undef, undef, undef, undef, undef, undef, undef, undef, undef, undef, undef, undef, undef, undef, undef, undef, undef, undef, undef, undef, undef, undef, undef, undef, undef, undef, undef, undef, undef, undef, undef, undef, undef, undef, undef, undef, undef, undef, undef, undef, undef, undef, undef, undef, undef, undef, undef, undef, undef, undef, undef, undef, undef, undef, undef, undef, undef, undef, undef, undef, undef, undef, undef, undef, undef, undef] rfl ?_
  repeat' (first | ((refine g_wc ?_; first | (refine wc_seq ?_) | (refine wc_regionS 1 rfl ?_; refine wc_region ?_) | (refine wc_block ?_) | (refine wc_true rfl ?_) | (refine wc_false rfl ?_) | (refine wc_pt rfl (by omega) ?_) | (refine wc_pf rfl (by omega) ?_) | (refine wc_nt rfl (by omega) ?_) | (refine wc_nf rfl (by omega) ?_) | (refine wc_pp rfl (fun h => ?_) (fun h => ?_)) | (refine wc_nn rfl (fun h => ?_) (fun h => ?_)) | (refine wc_skip ?_) | (refine wc_exit ?_) | (refine wc_ret ?_))) | (refine g_rl ?_; first | (first | (refine rl_op ?_) | (refine rl_nil ?_) | (refine rl_on rfl ?_) | (refine rl_pt rfl (by omega) ?_) | (refine rl_qt rfl (by omega) ?_) | (refine rl_nt rfl (by omega) ?_) | (refine rl_mt rfl (by omega) ?_)) | ((first | (refine rl_off rfl rfl ?_) | (refine rl_undef rfl ?_) | (refine rl_pf rfl (by omega) ?_) | (refine rl_qf rfl (by omega) ?_) | (refine rl_nf rfl (by omega) ?_) | (refine rl_mf rfl (by omega) ?_)); refine rn ?_) | (first | (refine rl_pp rfl (fun h => o_n ?_) (fun h => rn ?_)) | (refine rl_qq rfl (fun h => o_n ?_) (fun h => rn ?_)) | (refine rl_nn rfl (fun h => o_n ?_) (fun h => rn ?_)) | (refine rl_mm rfl (fun h => o_n ?_) (fun h => rn ?_)))) | ((refine g_bin ?_; refine p_b ?_); refine rn ?_) | (refine g_call ?_; first | ((first | (refine p_l ?_)); refine rn ?_) | ((first | (refine t_appx rfl rfl hA rfl ?_)); clear hA; (try clear w); intro v w hA hone hnil; refine h_n hA ?_; clear hA; intro hA; refine rn ?_)) | ((refine g_conv ?_; first | (refine p_c hA ?_)); refine rn ?_) | ((refine g_load ?_; first | (refine t_loadx rfl hA ?_) | (refine t_loada rfl hA ?_)); refine rn ?_) | (refine g_store ?_; first | ((first | (refine t_storex rfl rfl hA ?_)); clear hA; (try clear w); intro w hA; refine h_n hA ?_; clear hA; intro hA; refine rn ?_) | ((first | (refine t_storea rfl rfl hA ?_)); clear hA; (try clear w); intro w hA; (try simp only [List.drop_zero, List.drop_nil, List.drop_succ_cons, List.take_succ_cons, List.take_zero, List.length_cons, List.length_nil, Nat.zero_add, Nat.reduceAdd] at hA); refine h_n hA ?_; clear hA; intro hA; refine rn ?_)) | (refine g_ow ?_; first | ((first | (refine p_o ?_)); refine rn ?_) | ((first | (refine t_alloc hA ?_) | (refine ow_box rfl rfl hA ?_) | (refine t_buildSlice rfl (by decide) rfl hA ?_)); clear hA; (try clear w); intro b w hA; refine h_n hA ?_; clear hA; intro hA; refine rn ?_) | ((first | (refine t_make rfl rfl (by omega) (by omega) hA ?_)); clear hA; (try clear w); intro v w hA hone hnil; refine rn ?_)) | (refine tq_normal ?_) | (refine bq_normal ?_) | (refine bq_hit ?_) | (refine bq_miss (by decide) ?_) | (refine tq_exit ?_) | (refine lq_exit ?_) | (refine tq_ret ?_) | (refine bq_ret ?_) | (refine lq_ret ?_))
  refine wc_region ?_
  refine' rl_v hA ?o1_0 ?k1_0
  case o1_0 => intro w hA; first | (refine t_fieldAddr rfl ?_; exact ⟨pe, hA⟩)
  case' k1_0 => clear hA; intro w hA; refine rn ?_
  refine' rl_v hA ?o1_1 ?k1_1
  case o1_1 => intro w hA; first | (refine t_loadx rfl hA ?_; exact ⟨pe, hA⟩) | (refine t_loada rfl hA ?_; exact ⟨pe, hA⟩)
  case' k1_1 => clear hA; intro w hA; refine rn ?_
  refine' rl_v hA ?o1_2 ?k1_2
  case o1_2 => intro w hA; first | (refine t_fieldAddr rfl ?_; exact ⟨pe, hA⟩)
  case' k1_2 => clear hA; intro w hA; refine rn ?_
  refine' rl_v hA ?o1_3 ?k1_3
  case o1_3 => intro w hA; first | (refine t_loadx rfl hA ?_; exact ⟨pe, hA⟩) | (refine t_loada rfl hA ?_; exact ⟨pe, hA⟩)
  case' k1_3 => clear hA; intro w hA; refine rn ?_
  refine' rl_v hA ?o1_4 ?k1_4
  case o1_4 => intro w hA; first | (refine t_eqArr16 rfl rfl ?_; exact ⟨pe, hA⟩) | (refine t_eqArr4 rfl rfl ?_; exact ⟨pe, hA⟩) | (refine ow_eql rfl rfl ?_; exact ⟨pe, hA⟩) | (refine ow_eqs rfl rfl ?_; exact ⟨pe, hA⟩) | (refine t_eqlb rfl rfl ?_; exact ⟨pe, hA⟩)
  case' k1_4 => clear hA; intro w hA; refine rn ?_
  refine' rl_v hA ?o1_5 ?k1_5
  case o1_5 => intro w hA; first | (refine ow_move_v rfl ?_; exact ⟨pe, hA⟩)
  case' k1_5 => clear hA; intro w hA; refine rn ?_
  first | refine' rl_T rfl hA ?o1_6 ?k1_6 | refine' rl_Tn rfl hA ?o1_6 ?k1_6
  case o1_6 => intro hg w hA; first | (refine t_fieldAddr opr ?_; exact ⟨pe, hA⟩)
  case' k1_6 => clear hA; intro w hA; refine rn ?_
  first | refine' rl_T rfl hA ?o1_7 ?k1_7 | refine' rl_Tn rfl hA ?o1_7 ?k1_7
  case o1_7 => intro hg w hA; first | (refine t_loadx opr hA ?_; exact ⟨pe, hA⟩) | (refine t_loada opr hA ?_; exact ⟨pe, hA⟩)
  case' k1_7 => clear hA; intro w hA; refine rn ?_
  first | refine' rl_T rfl hA ?o1_8 ?k1_8 | refine' rl_Tn rfl hA ?o1_8 ?k1_8
  case o1_8 => intro hg w hA; first | (refine t_fieldAddr opr ?_; exact ⟨pe, hA⟩)
  case' k1_8 => clear hA; intro w hA; refine rn ?_
  first | refine' rl_T rfl hA ?o1_9 ?k1_9 | refine' rl_Tn rfl hA ?o1_9 ?k1_9
  case o1_9 => intro hg w hA; first | (refine t_loadx opr hA ?_; exact ⟨pe, hA⟩) | (refine t_loada opr hA ?_; exact ⟨pe, hA⟩)
  case' k1_9 => clear hA; intro w hA; refine rn ?_
  first | refine' rl_T rfl hA ?o1_10 ?k1_10 | refine' rl_Tn rfl hA ?o1_10 ?k1_10
  case o1_10 => intro hg w hA; first | (refine t_eqArr16 opr opr ?_; exact ⟨pe, hA⟩) | (refine t_eqArr4 opr opr ?_; exact ⟨pe, hA⟩) | (refine ow_eql opr opr ?_; exact ⟨pe, hA⟩) | (refine ow_eqs opr opr ?_; exact ⟨pe, hA⟩) | (refine t_eqlb opr opr ?_; exact ⟨pe, hA⟩)
  case' k1_10 => clear hA; intro w hA; refine rn ?_
  refine' rl_v hA ?o1_11 ?k1_11
  case o1_11 => intro w hA; first | (refine ow_and rfl (by first | rfl) rfl ?_; exact ⟨pe, hA⟩) | (refine ow_pick rfl rfl rfl ?_; exact ⟨pe, hA⟩)
  case' k1_11 => clear hA; intro w hA; refine rn ?_
  refine' rl_v hA ?o1_12 ?k1_12
  case o1_12 => intro w hA; first | (refine ow_move_v rfl ?_; exact ⟨pe, hA⟩)
  case' k1_12 => clear hA; intro w hA; refine rn ?_
  first | refine' rl_T rfl hA ?o1_13 ?k1_13 | refine' rl_Tn rfl hA ?o1_13 ?k1_13
  case o1_13 => intro hg w hA; first | (refine t_fieldAddr opr ?_; exact ⟨pe, hA⟩)
  case' k1_13 => clear hA; intro w hA; refine rn ?_
  first | refine' rl_T rfl hA ?o1_14 ?k1_14 | refine' rl_Tn rfl hA ?o1_14 ?k1_14
  case o1_14 => intro hg w hA; first | (refine t_loadx opr hA ?_; exact ⟨pe, hA⟩) | (refine t_loada opr hA ?_; exact ⟨pe, hA⟩)
  case' k1_14 => clear hA; intro w hA; refine rn ?_
  first | refine' rl_T rfl hA ?o1_15 ?k1_15 | refine' rl_Tn rfl hA ?o1_15 ?k1_15
  case o1_15 => intro hg w hA; first | (refine t_fieldAddr opr ?_; exact ⟨pe, hA⟩)
  case' k1_15 => clear hA; intro w hA; refine rn ?_
  first | refine' rl_T rfl hA ?o1_16 ?k1_16 | refine' rl_Tn rfl hA ?o1_16 ?k1_16
  case o1_16 => intro hg w hA; first | (refine t_loadx opr hA ?_; exact ⟨pe, hA⟩) | (refine t_loada opr hA ?_; exact ⟨pe, hA⟩)
  case' k1_16 => clear hA; intro w hA; refine rn ?_
  first | refine' rl_T rfl hA ?o1_17 ?k1_17 | refine' rl_Tn rfl hA ?o1_17 ?k1_17
  case o1_17 => intro hg w hA; first | (refine t_eqArr16 opr opr ?_; exact ⟨pe, hA⟩) | (refine t_eqArr4 opr opr ?_; exact ⟨pe, hA⟩) | (refine ow_eql opr opr ?_; exact ⟨pe, hA⟩) | (refine ow_eqs opr opr ?_; exact ⟨pe, hA⟩) | (refine t_eqlb opr opr ?_; exact ⟨pe, hA⟩)
  case' k1_17 => clear hA; intro w hA; refine rn ?_
  refine' rl_v hA ?o1_18 ?k1_18
  case o1_18 => intro w hA; first | (refine ow_and rfl (by first | rfl) rfl ?_; exact ⟨pe, hA⟩) | (refine ow_pick rfl rfl rfl ?_; exact ⟨pe, hA⟩)
  case' k1_18 => clear hA; intro w hA; refine rn ?_
  refine' rl_v hA ?o1_19 ?k1_19
  case o1_19 => intro w hA; first | (refine ow_move_v rfl ?_; exact ⟨pe, hA⟩)
  case' k1_19 => clear hA; intro w hA; refine rn ?_
  first | refine' rl_T rfl hA ?o1_20 ?k1_20 | refine' rl_Tn rfl hA ?o1_20 ?k1_20
  case o1_20 => intro hg w hA; first | (refine t_fieldAddr opr ?_; exact ⟨pe, hA⟩)
  case' k1_20 => clear hA; intro w hA; refine rn ?_
  first | refine' rl_T rfl hA ?o1_21 ?k1_21 | refine' rl_Tn rfl hA ?o1_21 ?k1_21
  case o1_21 => intro hg w hA; first | (refine t_loadx opr hA ?_; exact ⟨pe, hA⟩) | (refine t_loada opr hA ?_; exact ⟨pe, hA⟩)
  case' k1_21 => clear hA; intro w hA; refine rn ?_
  first | refine' rl_T rfl hA ?o1_22 ?k1_22 | refine' rl_Tn rfl hA ?o1_22 ?k1_22
  case o1_22 => intro hg w hA; first | (refine t_fieldAddr opr ?_; exact ⟨pe, hA⟩)
  case' k1_22 => clear hA; intro w hA; refine rn ?_
  first | refine' rl_T rfl hA ?o1_23 ?k1_23 | refine' rl_Tn rfl hA ?o1_23 ?k1_23
  case o1_23 => intro hg w hA; first | (refine t_loadx opr hA ?_; exact ⟨pe, hA⟩) | (refine t_loada opr hA ?_; exact ⟨pe, hA⟩)
  case' k1_23 => clear hA; intro w hA; refine rn ?_
  first | refine' rl_T rfl hA ?o1_24 ?k1_24 | refine' rl_Tn rfl hA ?o1_24 ?k1_24
  case o1_24 => intro hg w hA; first | (refine t_eqArr16 opr opr ?_; exact ⟨pe, hA⟩) | (refine t_eqArr4 opr opr ?_; exact ⟨pe, hA⟩) | (refine ow_eql opr opr ?_; exact ⟨pe, hA⟩) | (refine ow_eqs opr opr ?_; exact ⟨pe, hA⟩) | (refine t_eqlb opr opr ?_; exact ⟨pe, hA⟩)
  case' k1_24 => clear hA; intro w hA; refine rn ?_
  refine' rl_v hA ?o1_25 ?k1_25
  case o1_25 => intro w hA; first | (refine ow_and rfl (by first | rfl) rfl ?_; exact ⟨pe, hA⟩) | (refine ow_pick rfl rfl rfl ?_; exact ⟨pe, hA⟩)
  case' k1_25 => clear hA; intro w hA; refine rn ?_
  refine' rl_v hA ?o1_26 ?k1_26
  case o1_26 => intro w hA; first | (refine ow_move_v rfl ?_; exact ⟨pe, hA⟩)
  case' k1_26 => clear hA; intro w hA; refine rn ?_
  first | refine' rl_T rfl hA ?o1_27 ?k1_27 | refine' rl_Tn rfl hA ?o1_27 ?k1_27
  case o1_27 => intro hg w hA; first | (refine t_fieldAddr opr ?_; exact ⟨pe, hA⟩)
  case' k1_27 => clear hA; intro w hA; refine rn ?_
  first | refine' rl_T rfl hA ?o1_28 ?k1_28 | refine' rl_Tn rfl hA ?o1_28 ?k1_28
  case o1_28 => intro hg w hA; first | (refine t_loadx opr hA ?_; exact ⟨pe, hA⟩) | (refine t_loada opr hA ?_; exact ⟨pe, hA⟩)
  case' k1_28 => clear hA; intro w hA; refine rn ?_
  first | refine' rl_T rfl hA ?o1_29 ?k1_29 | refine' rl_Tn rfl hA ?o1_29 ?k1_29
  case o1_29 => intro hg w hA; first | (refine t_fieldAddr opr ?_; exact ⟨pe, hA⟩)
  case' k1_29 => clear hA; intro w hA; refine rn ?_
  first | refine' rl_T rfl hA ?o1_30 ?k1_30 | refine' rl_Tn rfl hA ?o1_30 ?k1_30
  case o1_30 => intro hg w hA; first | (refine t_loadx opr hA ?_; exact ⟨pe, hA⟩) | (refine t_loada opr hA ?_; exact ⟨pe, hA⟩)
  case' k1_30 => clear hA; intro w hA; refine rn ?_
  first | refine' rl_T rfl hA ?o1_31 ?k1_31 | refine' rl_Tn rfl hA ?o1_31 ?k1_31
  case o1_31 => intro hg w hA; first | (refine t_eqArr16 opr opr ?_; exact ⟨pe, hA⟩) | (refine t_eqArr4 opr opr ?_; exact ⟨pe, hA⟩) | (refine ow_eql opr opr ?_; exact ⟨pe, hA⟩) | (refine ow_eqs opr opr ?_; exact ⟨pe, hA⟩) | (refine t_eqlb opr opr ?_; exact ⟨pe, hA⟩)
  case' k1_31 => clear hA; intro w hA; refine rn ?_
  refine' rl_v hA ?o1_32 ?k1_32
  case o1_32 => intro w hA; first | (refine ow_and rfl (by first | rfl) rfl ?_; exact ⟨pe, hA⟩) | (refine ow_pick rfl rfl rfl ?_; exact ⟨pe, hA⟩)
  case' k1_32 => clear hA; intro w hA; refine rn ?_
  refine' rl_v hA ?o1_33 ?k1_33
  case o1_33 => intro w hA; first | (refine ow_move_v rfl ?_; exact ⟨pe, hA⟩)
  case' k1_33 => clear hA; intro w hA; refine rn ?_
  first | refine' rl_T rfl hA ?o1_34 ?k1_34 | refine' rl_Tn rfl hA ?o1_34 ?k1_34
  case o1_34 => intro hg w hA; first | (refine t_fieldAddr opr ?_; exact ⟨pe, hA⟩)
  case' k1_34 => clear hA; intro w hA; refine rn ?_
  first | refine' rl_T rfl hA ?o1_35 ?k1_35 | refine' rl_Tn rfl hA ?o1_35 ?k1_35
  case o1_35 => intro hg w hA; first | (refine t_loadx opr hA ?_; exact ⟨pe, hA⟩) | (refine t_loada opr hA ?_; exact ⟨pe, hA⟩)
  case' k1_35 => clear hA; intro w hA; refine rn ?_
  first | refine' rl_T rfl hA ?o1_36 ?k1_36 | refine' rl_Tn rfl hA ?o1_36 ?k1_36
  case o1_36 => intro hg w hA; first | (refine t_fieldAddr opr ?_; exact ⟨pe, hA⟩)
  case' k1_36 => clear hA; intro w hA; refine rn ?_
  first | refine' rl_T rfl hA ?o1_37 ?k1_37 | refine' rl_Tn rfl hA ?o1_37 ?k1_37
  case o1_37 => intro hg w hA; first | (refine t_loadx opr hA ?_; exact ⟨pe, hA⟩) | (refine t_loada opr hA ?_; exact ⟨pe, hA⟩)
  case' k1_37 => clear hA; intro w hA; refine rn ?_
  first | refine' rl_T rfl hA ?o1_38 ?k1_38 | refine' rl_Tn rfl hA ?o1_38 ?k1_38
  case o1_38 => intro hg w hA; first | (refine t_eqArr16 opr opr ?_; exact ⟨pe, hA⟩) | (refine t_eqArr4 opr opr ?_; exact ⟨pe, hA⟩) | (refine ow_eql opr opr ?_; exact ⟨pe, hA⟩) | (refine ow_eqs opr opr ?_; exact ⟨pe, hA⟩) | (refine t_eqlb opr opr ?_; exact ⟨pe, hA⟩)
  case' k1_38 => clear hA; intro w hA; refine rn ?_
  refine' rl_v hA ?o1_39 ?k1_39
  case o1_39 => intro w hA; first | (refine ow_and rfl (by first | rfl) rfl ?_; exact ⟨pe, hA⟩) | (refine ow_pick rfl rfl rfl ?_; exact ⟨pe, hA⟩)
  case' k1_39 => clear hA; intro w hA; refine rn ?_
  refine' rl_v hA ?o1_40 ?k1_40
  case o1_40 => intro w hA; first | (refine ow_move_v rfl ?_; exact ⟨pe, hA⟩)
  case' k1_40 => clear hA; intro w hA; refine rn ?_
  first | refine' rl_T rfl hA ?o1_41 ?k1_41 | refine' rl_Tn rfl hA ?o1_41 ?k1_41
  case o1_41 => intro hg w hA; first | (refine t_fieldAddr opr ?_; exact ⟨pe, hA⟩)
  case' k1_41 => clear hA; intro w hA; refine rn ?_
  first | refine' rl_T rfl hA ?o1_42 ?k1_42 | refine' rl_Tn rfl hA ?o1_42 ?k1_42
  case o1_42 => intro hg w hA; first | (refine t_loadx opr hA ?_; exact ⟨pe, hA⟩) | (refine t_loada opr hA ?_; exact ⟨pe, hA⟩)
  case' k1_42 => clear hA; intro w hA; refine rn ?_
  first | refine' rl_T rfl hA ?o1_43 ?k1_43 | refine' rl_Tn rfl hA ?o1_43 ?k1_43
  case o1_43 => intro hg w hA; first | (refine t_fieldAddr opr ?_; exact ⟨pe, hA⟩)
  case' k1_43 => clear hA; intro w hA; refine rn ?_
  first | refine' rl_T rfl hA ?o1_44 ?k1_44 | refine' rl_Tn rfl hA ?o1_44 ?k1_44
  case o1_44 => intro hg w hA; first | (refine t_loadx opr hA ?_; exact ⟨pe, hA⟩) | (refine t_loada opr hA ?_; exact ⟨pe, hA⟩)
  case' k1_44 => clear hA; intro w hA; refine rn ?_
  first | refine' rl_T rfl hA ?o1_45 ?k1_45 | refine' rl_Tn rfl hA ?o1_45 ?k1_45
  case o1_45 => intro hg w hA; first | (refine t_eqArr16 opr opr ?_; exact ⟨pe, hA⟩) | (refine t_eqArr4 opr opr ?_; exact ⟨pe, hA⟩) | (refine ow_eql opr opr ?_; exact ⟨pe, hA⟩) | (refine ow_eqs opr opr ?_; exact ⟨pe, hA⟩) | (refine t_eqlb opr opr ?_; exact ⟨pe, hA⟩)
  case' k1_45 => clear hA; intro w hA; refine rn ?_
  refine' rl_v hA ?o1_46 ?k1_46
  case o1_46 => intro w hA; first | (refine ow_and rfl (by first | rfl) rfl ?_; exact ⟨pe, hA⟩) | (refine ow_pick rfl rfl rfl ?_; exact ⟨pe, hA⟩)
  case' k1_46 => clear hA; intro w hA; refine rn ?_
  refine' rl_v hA ?o1_47 ?k1_47
  case o1_47 => intro w hA; first | (refine ow_move_v rfl ?_; exact ⟨pe, hA⟩)
  case' k1_47 => clear hA; intro w hA; refine rn ?_
  first | refine' rl_T rfl hA ?o1_48 ?k1_48 | refine' rl_Tn rfl hA ?o1_48 ?k1_48
  case o1_48 => intro hg w hA; first | (refine t_fieldAddr opr ?_; exact ⟨pe, hA⟩)
  case' k1_48 => clear hA; intro w hA; refine rn ?_
  first | refine' rl_T rfl hA ?o1_49 ?k1_49 | refine' rl_Tn rfl hA ?o1_49 ?k1_49
  case o1_49 => intro hg w hA; first | (refine t_loadx opr hA ?_; exact ⟨pe, hA⟩) | (refine t_loada opr hA ?_; exact ⟨pe, hA⟩)
  case' k1_49 => clear hA; intro w hA; refine rn ?_
  first | refine' rl_T rfl hA ?o1_50 ?k1_50 | refine' rl_Tn rfl hA ?o1_50 ?k1_50
  case o1_50 => intro hg w hA; first | (refine t_fieldAddr opr ?_; exact ⟨pe, hA⟩)
  case' k1_50 => clear hA; intro w hA; refine rn ?_
  first | refine' rl_T rfl hA ?o1_51 ?k1_51 | refine' rl_Tn rfl hA ?o1_51 ?k1_51
  case o1_51 => intro hg w hA; first | (refine t_loadx opr hA ?_; exact ⟨pe, hA⟩) | (refine t_loada opr hA ?_; exact ⟨pe, hA⟩)
  case' k1_51 => clear hA; intro w hA; refine rn ?_
  first | refine' rl_T rfl hA ?o1_52 ?k1_52 | refine' rl_Tn rfl hA ?o1_52 ?k1_52
  case o1_52 => intro hg w hA; first | (refine t_eqArr16 opr opr ?_; exact ⟨pe, hA⟩) | (refine t_eqArr4 opr opr ?_; exact ⟨pe, hA⟩) | (refine ow_eql opr opr ?_; exact ⟨pe, hA⟩) | (refine ow_eqs opr opr ?_; exact ⟨pe, hA⟩) | (refine t_eqlb opr opr ?_; exact ⟨pe, hA⟩)
  case' k1_52 => clear hA; intro w hA; refine rn ?_
  refine' rl_v hA ?o1_53 ?k1_53
  case o1_53 => intro w hA; first | (refine ow_and rfl (by first | rfl) rfl ?_; exact ⟨pe, hA⟩) | (refine ow_pick rfl rfl rfl ?_; exact ⟨pe, hA⟩)
  case' k1_53 => clear hA; intro w hA; refine rn ?_
  refine' rl_v hA ?o1_54 ?k1_54
  case o1_54 => intro w hA; first | (refine ow_assign_v rfl ?_; exact ⟨pe, hA⟩)
  case' k1_54 => clear hA; intro w hA; refine rn ?_
  refine rl_nil ?_
  repeat' (first | ((refine g_wc ?_; first | (refine wc_seq ?_) | (refine wc_regionS 2 rfl ?_; refine wc_region ?_) | (refine wc_block ?_) | (refine wc_true rfl ?_) | (refine wc_false rfl ?_) | (refine wc_pt rfl (by omega) ?_) | (refine wc_pf rfl (by omega) ?_) | (refine wc_nt rfl (by omega) ?_) | (refine wc_nf rfl (by omega) ?_) | (refine wc_pp rfl (fun h => ?_) (fun h => ?_)) | (refine wc_nn rfl (fun h => ?_) (fun h => ?_)) | (refine wc_skip ?_) | (refine wc_exit ?_) | (refine wc_ret ?_))) | (refine g_rl ?_; first | (first | (refine rl_op ?_) | (refine rl_nil ?_) | (refine rl_on rfl ?_) | (refine rl_pt rfl (by omega) ?_) | (refine rl_qt rfl (by omega) ?_) | (refine rl_nt rfl (by omega) ?_) | (refine rl_mt rfl (by omega) ?_)) | ((first | (refine rl_off rfl rfl ?_) | (refine rl_undef rfl ?_) | (refine rl_pf rfl (by omega) ?_) | (refine rl_qf rfl (by omega) ?_) | (refine rl_nf rfl (by omega) ?_) | (refine rl_mf rfl (by omega) ?_)); refine rn ?_) | (first | (refine rl_pp rfl (fun h => o_n ?_) (fun h => rn ?_)) | (refine rl_qq rfl (fun h => o_n ?_) (fun h => rn ?_)) | (refine rl_nn rfl (fun h => o_n ?_) (fun h => rn ?_)) | (refine rl_mm rfl (fun h => o_n ?_) (fun h => rn ?_)))) | ((refine g_bin ?_; refine p_b ?_); refine rn ?_) | (refine g_call ?_; first | ((first | (refine p_l ?_)); refine rn ?_) | ((first | (refine t_appx rfl rfl hA rfl ?_)); clear hA; (try clear w); intro v w hA hone hnil; refine h_n hA ?_; clear hA; intro hA; refine rn ?_)) | ((refine g_conv ?_; first | (refine p_c hA ?_)); refine rn ?_) | ((refine g_load ?_; first | (refine t_loadx rfl hA ?_) | (refine t_loada rfl hA ?_)); refine rn ?_) | (refine g_store ?_; first | ((first | (refine t_storex rfl rfl hA ?_)); clear hA; (try clear w); intro w hA; refine h_n hA ?_; clear hA; intro hA; refine rn ?_) | ((first | (refine t_storea rfl rfl hA ?_)); clear hA; (try clear w); intro w hA; (try simp only [List.drop_zero, List.drop_nil, List.drop_succ_cons, List.take_succ_cons, List.take_zero, List.length_cons, List.length_nil, Nat.zero_add, Nat.reduceAdd] at hA); refine h_n hA ?_; clear hA; intro hA; refine rn ?_)) | (refine g_ow ?_; first | ((first | (refine p_o ?_)); refine rn ?_) | ((first | (refine t_alloc hA ?_) | (refine ow_box rfl rfl hA ?_) | (refine t_buildSlice rfl (by decide) rfl hA ?_)); clear hA; (try clear w); intro b w hA; refine h_n hA ?_; clear hA; intro hA; refine rn ?_) | ((first | (refine t_make rfl rfl (by omega) (by omega) hA ?_)); clear hA; (try clear w); intro v w hA hone hnil; refine rn ?_)) | (refine tq_normal ?_) | (refine bq_normal ?_) | (refine bq_hit ?_) | (refine bq_miss (by decide) ?_) | (refine tq_exit ?_) | (refine lq_exit ?_) | (refine tq_ret ?_) | (refine bq_ret ?_) | (refine lq_ret ?_))
  refine wc_region ?_
  refine' rl_v hA ?o2_0 ?k2_0
  case o2_0 => intro w hA; first | (refine ow_move_v rfl ?_; exact ⟨pe, hA⟩)
  case' k2_0 => clear hA; intro w hA; refine rn ?_
  refine' rl_v hA ?o2_1 ?k2_1
  case o2_1 => intro w hA; first | (refine ow_move_v rfl ?_; exact ⟨pe, hA⟩)
  case' k2_1 => clear hA; intro w hA; refine rn ?_
  first | refine' rl_T rfl hA ?o2_2 ?k2_2 | refine' rl_Tn rfl hA ?o2_2 ?k2_2
  case o2_2 => intro hg w hA; first | (refine t_fieldAddr opr ?_; exact ⟨pe, hA⟩)
  case' k2_2 => clear hA; intro w hA; refine rn ?_
  first | refine' rl_T rfl hA ?o2_3 ?k2_3 | refine' rl_Tn rfl hA ?o2_3 ?k2_3
  case o2_3 => intro hg w hA; first | (refine t_loadx opr hA ?_; exact ⟨pe, hA⟩) | (refine t_loada opr hA ?_; exact ⟨pe, hA⟩)
  case' k2_3 => clear hA; intro w hA; refine rn ?_
  first | refine' rl_T rfl hA ?o2_4 ?k2_4 | refine' rl_Tn rfl hA ?o2_4 ?k2_4
  case o2_4 => intro hg w hA; first | (refine t_fieldAddr opr ?_; exact ⟨pe, hA⟩)
  case' k2_4 => clear hA; intro w hA; refine rn ?_
  first | refine' rl_T rfl hA ?o2_5 ?k2_5 | refine' rl_Tn rfl hA ?o2_5 ?k2_5
  case o2_5 => intro hg w hA; first | (refine t_loadx opr hA ?_; exact ⟨pe, hA⟩) | (refine t_loada opr hA ?_; exact ⟨pe, hA⟩)
  case' k2_5 => clear hA; intro w hA; refine rn ?_
  first | refine' rl_T rfl hA ?o2_6 ?k2_6 | refine' rl_Tn rfl hA ?o2_6 ?k2_6
  case o2_6 => intro hg w hA; first | (refine ow_call Tryd.call84 (evs2 opr opr) ((sEqInts_calls _ _ _ _ _ _ _ hA hm.refs hm'.refs).mono ?_); clear hA; rintro e w ⟨rfl, hA⟩; refine ⟨_, rfl, ?_⟩; exact ⟨put_eq (by rfl), hA⟩)
  case' k2_6 => clear hA; intro w hA; refine rn ?_
  refine' rl_v hA ?o2_7 ?k2_7
  case o2_7 => intro w hA; first | (refine ow_and rfl (by first | rfl) rfl ?_; exact ⟨pe, hA⟩) | (refine ow_pick rfl rfl rfl ?_; exact ⟨pe, hA⟩)
  case' k2_7 => clear hA; intro w hA; refine rn ?_
  refine' rl_v hA ?o2_8 ?k2_8
  case o2_8 => intro w hA; first | (refine ow_move_v rfl ?_; exact ⟨pe, hA⟩)
  case' k2_8 => clear hA; intro w hA; refine rn ?_
  first | refine' rl_T rfl hA ?o2_9 ?k2_9 | refine' rl_Tn rfl hA ?o2_9 ?k2_9
  case o2_9 => intro hg w hA; first | (refine t_fieldAddr opr ?_; exact ⟨pe, hA⟩)
  case' k2_9 => clear hA; intro w hA; refine rn ?_
  first | refine' rl_T rfl hA ?o2_10 ?k2_10 | refine' rl_Tn rfl hA ?o2_10 ?k2_10
  case o2_10 => intro hg w hA; first | (refine t_loadx opr hA ?_; exact ⟨pe, hA⟩) | (refine t_loada opr hA ?_; exact ⟨pe, hA⟩)
  case' k2_10 => clear hA; intro w hA; refine rn ?_
  first | refine' rl_T rfl hA ?o2_11 ?k2_11 | refine' rl_Tn rfl hA ?o2_11 ?k2_11
  case o2_11 => intro hg w hA; first | (refine t_fieldAddr opr ?_; exact ⟨pe, hA⟩)
  case' k2_11 => clear hA; intro w hA; refine rn ?_
  first | refine' rl_T rfl hA ?o2_12 ?k2_12 | refine' rl_Tn rfl hA ?o2_12 ?k2_12
  case o2_12 => intro hg w hA; first | (refine t_loadx opr hA ?_; exact ⟨pe, hA⟩) | (refine t_loada opr hA ?_; exact ⟨pe, hA⟩)
  case' k2_12 => clear hA; intro w hA; refine rn ?_
  first | refine' rl_T rfl hA ?o2_13 ?k2_13 | refine' rl_Tn rfl hA ?o2_13 ?k2_13
  case o2_13 => intro hg w hA; first | (refine ow_call Tryd.call85 (evs2 opr opr) ((sEqVecs_calls _ _ _ _ _ _ _ hA hm.mvds hm'.mvds).mono ?_); clear hA; rintro e w ⟨rfl, hA⟩; refine ⟨_, rfl, ?_⟩; exact ⟨put_eq (by rfl), hA⟩)
  case' k2_13 => clear hA; intro w hA; refine rn ?_
  refine' rl_v hA ?o2_14 ?k2_14
  case o2_14 => intro w hA; first | (refine ow_and rfl (by first | rfl) rfl ?_; exact ⟨pe, hA⟩) | (refine ow_pick rfl rfl rfl ?_; exact ⟨pe, hA⟩)
  case' k2_14 => clear hA; intro w hA; refine rn ?_
  refine' rl_v hA ?o2_15 ?k2_15
  case o2_15 => intro w hA; first | (refine ow_move_v rfl ?_; exact ⟨pe, hA⟩)
  case' k2_15 => clear hA; intro w hA; refine rn ?_
  first | refine' rl_T rfl hA ?o2_16 ?k2_16 | refine' rl_Tn rfl hA ?o2_16 ?k2_16
  case o2_16 => intro hg w hA; first | (refine t_fieldAddr opr ?_; exact ⟨pe, hA⟩)
  case' k2_16 => clear hA; intro w hA; refine rn ?_
  first | refine' rl_T rfl hA ?o2_17 ?k2_17 | refine' rl_Tn rfl hA ?o2_17 ?k2_17
  case o2_17 => intro hg w hA; first | (refine t_loadx opr hA ?_; exact ⟨pe, hA⟩) | (refine t_loada opr hA ?_; exact ⟨pe, hA⟩)
  case' k2_17 => clear hA; intro w hA; refine rn ?_
  first | refine' rl_T rfl hA ?o2_18 ?k2_18 | refine' rl_Tn rfl hA ?o2_18 ?k2_18
  case o2_18 => intro hg w hA; first | (refine t_fieldAddr opr ?_; exact ⟨pe, hA⟩)
  case' k2_18 => clear hA; intro w hA; refine rn ?_
  first | refine' rl_T rfl hA ?o2_19 ?k2_19 | refine' rl_Tn rfl hA ?o2_19 ?k2_19
  case o2_19 => intro hg w hA; first | (refine t_loadx opr hA ?_; exact ⟨pe, hA⟩) | (refine t_loada opr hA ?_; exact ⟨pe, hA⟩)
  case' k2_19 => clear hA; intro w hA; refine rn ?_
  first | refine' rl_T rfl hA ?o2_20 ?k2_20 | refine' rl_Tn rfl hA ?o2_20 ?k2_20
  case o2_20 => intro hg w hA; first | (refine ow_call Tryd.call86 (evs3 opr opr opr) ((fEqBlocks_calls _ _ _ _ _ _ _ hA hm.blocks hm'.blocks).mono ?_); clear hA; rintro e w ⟨rfl, hA⟩; refine ⟨_, rfl, ?_⟩; exact ⟨put_eq (by rfl), hA⟩)
  case' k2_20 => clear hA; intro w hA; refine rn ?_
  refine' rl_v hA ?o2_21 ?k2_21
  case o2_21 => intro w hA; first | (refine ow_and rfl (by first | rfl) rfl ?_; exact ⟨pe, hA⟩) | (refine ow_pick rfl rfl rfl ?_; exact ⟨pe, hA⟩)
  case' k2_21 => clear hA; intro w hA; refine rn ?_
  refine' rl_v hA ?o2_22 ?k2_22
  case o2_22 => intro w hA; first | (refine ow_assign_v rfl ?_; exact ⟨pe, hA⟩)
  case' k2_22 => clear hA; intro w hA; refine rn ?_
  refine rl_nil ?_
  repeat' (first | ((refine g_wc ?_; first | (refine wc_seq ?_) | (refine wc_region ?_) | (refine wc_block ?_) | (refine wc_true rfl ?_) | (refine wc_false rfl ?_) | (refine wc_pt rfl (by omega) ?_) | (refine wc_pf rfl (by omega) ?_) | (refine wc_nt rfl (by omega) ?_) | (refine wc_nf rfl (by omega) ?_) | (refine wc_pp rfl (fun h => ?_) (fun h => ?_)) | (refine wc_nn rfl (fun h => ?_) (fun h => ?_)) | (refine wc_skip ?_) | (refine wc_exit ?_) | (refine wc_ret ?_))) | (refine g_rl ?_; first | (first | (refine rl_op ?_) | (refine rl_nil ?_) | (refine rl_on rfl ?_) | (refine rl_pt rfl (by omega) ?_) | (refine rl_qt rfl (by omega) ?_) | (refine rl_nt rfl (by omega) ?_) | (refine rl_mt rfl (by omega) ?_)) | ((first | (refine rl_off rfl rfl ?_) | (refine rl_undef rfl ?_) | (refine rl_pf rfl (by omega) ?_) | (refine rl_qf rfl (by omega) ?_) | (refine rl_nf rfl (by omega) ?_) | (refine rl_mf rfl (by omega) ?_)); refine rn ?_) | (first | (refine rl_pp rfl (fun h => o_n ?_) (fun h => rn ?_)) | (refine rl_qq rfl (fun h => o_n ?_) (fun h => rn ?_)) | (refine rl_nn rfl (fun h => o_n ?_) (fun h => rn ?_)) | (refine rl_mm rfl (fun h => o_n ?_) (fun h => rn ?_)))) | ((refine g_bin ?_; refine p_b ?_); refine rn ?_) | (refine g_call ?_; first | ((first | (refine p_l ?_)); refine rn ?_) | ((first | (refine t_appx rfl rfl hA rfl ?_)); clear hA; (try clear w); intro v w hA hone hnil; refine h_n hA ?_; clear hA; intro hA; refine rn ?_)) | ((refine g_conv ?_; first | (refine p_c hA ?_)); refine rn ?_) | ((refine g_load ?_; first | (refine t_loadx rfl hA ?_) | (refine t_loada rfl hA ?_)); refine rn ?_) | (refine g_store ?_; first | ((first | (refine t_storex rfl rfl hA ?_)); clear hA; (try clear w); intro w hA; refine h_n hA ?_; clear hA; intro hA; refine rn ?_) | ((first | (refine t_storea rfl rfl hA ?_)); clear hA; (try clear w); intro w hA; (try simp only [List.drop_zero, List.drop_nil, List.drop_succ_cons, List.take_succ_cons, List.take_zero, List.length_cons, List.length_nil, Nat.zero_add, Nat.reduceAdd] at hA); refine h_n hA ?_; clear hA; intro hA; refine rn ?_)) | (refine g_ow ?_; first | ((first | (refine p_o ?_)); refine rn ?_) | ((first | (refine t_alloc hA ?_) | (refine ow_box rfl rfl hA ?_) | (refine t_buildSlice rfl (by decide) rfl hA ?_)); clear hA; (try clear w); intro b w hA; refine h_n hA ?_; clear hA; intro hA; refine rn ?_) | ((first | (refine t_make rfl rfl (by omega) (by omega) hA ?_)); clear hA; (try clear w); intro v w hA hone hnil; refine rn ?_)) | (refine tq_normal ?_) | (refine bq_normal ?_) | (refine bq_hit ?_) | (refine bq_miss (by decide) ?_) | (refine tq_exit ?_) | (refine lq_exit ?_) | (refine tq_ret ?_) | (refine bq_ret ?_) | (refine lq_ret ?_))
  refine ret1 (hA.dropN 2 : Sat E L w) rfl ?_
  simp only [List.getD_cons_succ, List.getD_cons_zero, u8_inj, mb_eq m m', Bool.decide_and, Bool.and_assoc]
  congr 1
  generalize decide (m.kind = m'.kind) = a1; generalize decide (m.mode = m'.mode) = a2; generalize decide (m.chroma = m'.chroma) = a3; generalize decide (m.preds = m'.preds) = a4; generalize decide (m.sub = m'.sub) = a5; generalize decide (m.refs = m'.refs) = a6; generalize decide (m.mvds = m'.mvds) = a7; generalize decide (m.cbp = m'.cbp) = a8; generalize decide (m.qp = m'.qp) = a9; generalize decide (m.blocks = m'.blocks) = a10; generalize decide (m.pcm = m'.pcm) = a11
  ac_rfl
end Go.Proofs.YteeeabnfgpolgaaDoor
