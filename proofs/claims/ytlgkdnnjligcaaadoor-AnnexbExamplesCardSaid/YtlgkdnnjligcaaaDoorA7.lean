/-
  Lists of strings compared and copied; Join, on lists of bytes.
-/
import Derived.Test.YtlgkdnnjligcaaaDoorA6
set_option linter.unusedVariables false
set_option linter.unusedSimpArgs false
namespace Go.Proofs.YtlgkdnnjligcaaaDoor
open Go Go.RowKit
attribute [local irreducible] WC RL OW bodyPostM ThenQ BlockQ LoopQ ScopeQ
theorem ext_at {α : Type} {xs ys : List α} (h : xs.length = ys.length) (hj : ∀ j, j < xs.length → xs[j]? = ys[j]?) : xs = ys := by
  apply List.ext_getElem? fun j => ?_
  rcases Nat.lt_or_ge j xs.length with h1 | h1
  · exact hj j h1
  · rw [List.getElem?_eq_none h1, List.getElem?_eq_none (by omega)]
set_option maxHeartbeats 2000000 in
theorem equalStrings_calls (v v' : Value) (xs ys : List (List UInt8)) (E : Env) (L : List Item) (w : World) (hA : Sat E L w) (hx : ListE strR 1 E v xs) (hy : ListE strR 1 E v' ys) :
    Calls Tryd.prog 14 ⟨[v, v']⟩ w (Ret E L (.bool (decide (xs = ys)))) := by
  obtain ⟨cx, hcx⟩ := hx.sl
  obtain ⟨cy, hcy⟩ := hy.sl
  have hle := hcx.le
  refine enter (fn := Tryd.f14) Tryd.func14 rfl 26 rfl [v, v', undef, undef, undef, undef, undef, undef, undef, undef, undef, undef, undef, undef, undef, undef, undef, undef, undef, undef, undef, undef, undef, undef, undef, undef] rfl ?_
  repeat' (first | (refine g_call ?_; refine t_lenS rfl hcx ?_; refine rn ?_) | (refine g_call ?_; refine t_lenS rfl hcy ?_; refine rn ?_) | ((refine g_wc ?_; first | (refine wc_seq ?_) | (refine wc_region ?_) | (refine wc_block ?_) | (refine wc_true rfl ?_) | (refine wc_false rfl ?_) | (refine wc_pt rfl (by omega) ?_) | (refine wc_pf rfl (by omega) ?_) | (refine wc_nt rfl (by omega) ?_) | (refine wc_nf rfl (by omega) ?_) | (refine wc_pp rfl (fun h => ?_) (fun h => ?_)) | (refine wc_nn rfl (fun h => ?_) (fun h => ?_)) | (refine wc_skip ?_) | (refine wc_exit ?_) | (refine wc_ret ?_))) | (refine g_rl ?_; first | (first | (refine rl_op ?_) | (refine rl_nil ?_) | (refine rl_on rfl ?_) | (refine rl_pt rfl (by omega) ?_) | (refine rl_qt rfl (by omega) ?_) | (refine rl_nt rfl (by omega) ?_) | (refine rl_mt rfl (by omega) ?_)) | ((first | (refine rl_off rfl rfl ?_) | (refine rl_undef rfl ?_) | (refine rl_pf rfl (by omega) ?_) | (refine rl_qf rfl (by omega) ?_) | (refine rl_nf rfl (by omega) ?_) | (refine rl_mf rfl (by omega) ?_)); refine rn ?_) | (first | (refine rl_pp rfl (fun h => o_n ?_) (fun h => rn ?_)) | (refine rl_qq rfl (fun h => o_n ?_) (fun h => rn ?_)) | (refine rl_nn rfl (fun h => o_n ?_) (fun h => rn ?_)) | (refine rl_mm rfl (fun h => o_n ?_) (fun h => rn ?_)))) | ((refine g_bin ?_; refine p_b ?_); refine rn ?_) | (refine g_call ?_; first | ((first | (refine p_l ?_)); refine rn ?_) | ((first | (refine t_appx rfl rfl hA rfl ?_)); clear hA; (try clear w); intro v w hA hone hnil; refine h_n hA ?_; clear hA; intro hA; refine rn ?_)) | ((refine g_conv ?_; first | (refine p_c hA ?_)); refine rn ?_) | ((refine g_load ?_; first | (refine t_loadx rfl hA ?_) | (refine t_loada rfl hA ?_)); refine rn ?_) | (refine g_store ?_; first | ((first | (refine t_storex rfl rfl hA ?_)); clear hA; (try clear w); intro w hA; refine h_n hA ?_; clear hA; intro hA; refine rn ?_) | ((first | (refine t_storea rfl rfl hA ?_)); clear hA; (try clear w); intro w hA; (try simp only [List.drop_zero, List.drop_nil, List.drop_succ_cons, List.take_succ_cons, List.take_zero, List.length_cons, List.length_nil, Nat.zero_add, Nat.reduceAdd] at hA); refine h_n hA ?_; clear hA; intro hA; refine rn ?_)) | (refine g_ow ?_; first | ((first | (refine p_o ?_)); refine rn ?_) | ((first | (refine t_alloc hA ?_) | (refine ow_box rfl rfl hA ?_) | (refine t_buildSlice rfl (by decide) rfl hA ?_)); clear hA; (try clear w); intro b w hA; refine h_n hA ?_; clear hA; intro hA; refine rn ?_) | ((first | (refine t_make rfl rfl (by omega) (by omega) hA ?_)); clear hA; (try clear w); intro v w hA hone hnil; refine rn ?_)) | (refine tq_normal ?_) | (refine bq_normal ?_) | (refine bq_hit ?_) | (refine bq_miss (by decide) ?_) | (refine tq_exit ?_) | (refine lq_exit ?_) | (refine tq_ret ?_) | (refine bq_ret ?_) | (refine lq_ret ?_))
  · refine ret1 hA rfl ?_
    rw [decide_eq_false (show ¬ xs = ys from fun e => h (by rw [e]))]; rfl
  have hl : xs.length = ys.length := by omega
  refine wc_loopn (fun m l w => ∃ (i : Nat), (∃ jk : Nat → Value, l = [v, v', jk 2, jk 3, .bool false, .int .i64 (i : Int), jk 6, jk 7, jk 8, jk 9, jk 10, jk 11, jk 12, jk 13, jk 14, jk 15, jk 16, jk 17, jk 18, jk 19, jk 20, jk 21, jk 22, jk 23, jk 24, jk 25]) ∧ Sat E L w ∧ i + m = xs.length ∧ ∀ j, j < i → xs[j]? = ys[j]?) xs.length ⟨0, (ex_getD rfl), hA, by omega, by intro j hj; omega⟩ ?_
  clear hA h
  rintro m l w ⟨i, ⟨jk, rfl⟩, hA, hi, hj⟩
  by_cases hlt : i < xs.length
  · obtain ⟨x, hxi⟩ : ∃ x, xs[i]? = some x := ⟨_, List.getElem?_eq_getElem hlt⟩
    obtain ⟨y, hyi⟩ : ∃ y, ys[i]? = some y := ⟨_, List.getElem?_eq_getElem (by omega)⟩
    obtain ⟨cs, hcsl, hR, hcx1⟩ := hx.get hxi
    obtain ⟨cs', hcsl', hR', hcy1⟩ := hy.get hyi
    obtain ⟨rfl, hx64⟩ := hR; obtain ⟨rfl, hy64⟩ := hR'
    have hx0 : E.cell? ⟨sB v, sO v + (i : Int).toNat * 1, none⟩ = some (vs x) := hcx1 0 _ rfl
    have hy0 : E.cell? ⟨sB v', sO v' + (i : Int).toNat * 1, none⟩ = some (vs y) := hcy1 0 _ rfl
    repeat' (first | (refine g_call ?_; refine t_lenS rfl hcx ?_; refine rn ?_) | ((refine g_wc ?_; first | (refine wc_seq ?_) | (refine wc_region ?_) | (refine wc_block ?_) | (refine wc_true rfl ?_) | (refine wc_false rfl ?_) | (refine wc_pt rfl (by omega) ?_) | (refine wc_pf rfl (by omega) ?_) | (refine wc_nt rfl (by omega) ?_) | (refine wc_nf rfl (by omega) ?_) | (refine wc_pp rfl (fun h => ?_) (fun h => ?_)) | (refine wc_nn rfl (fun h => ?_) (fun h => ?_)) | (refine wc_skip ?_) | (refine wc_exit ?_) | (refine wc_ret ?_))) | (refine g_rl ?_; first | (first | (refine rl_op ?_) | (refine rl_nil ?_) | (refine rl_on rfl ?_) | (refine rl_pt rfl (by omega) ?_) | (refine rl_qt rfl (by omega) ?_) | (refine rl_nt rfl (by omega) ?_) | (refine rl_mt rfl (by omega) ?_)) | ((first | (refine rl_off rfl rfl ?_) | (refine rl_undef rfl ?_) | (refine rl_pf rfl (by omega) ?_) | (refine rl_qf rfl (by omega) ?_) | (refine rl_nf rfl (by omega) ?_) | (refine rl_mf rfl (by omega) ?_)); refine rn ?_) | (first | (refine rl_pp rfl (fun h => o_n ?_) (fun h => rn ?_)) | (refine rl_qq rfl (fun h => o_n ?_) (fun h => rn ?_)) | (refine rl_nn rfl (fun h => o_n ?_) (fun h => rn ?_)) | (refine rl_mm rfl (fun h => o_n ?_) (fun h => rn ?_)))) | ((refine g_bin ?_; refine p_b ?_); refine rn ?_) | (refine g_call ?_; first | ((first | (refine p_l ?_)); refine rn ?_) | ((first | (refine t_appx rfl rfl hA rfl ?_)); clear hA; (try clear w); intro v w hA hone hnil; refine h_n hA ?_; clear hA; intro hA; refine rn ?_)) | ((refine g_conv ?_; first | (refine p_c hA ?_)); refine rn ?_) | ((refine g_load ?_; first | (refine t_loadx rfl hA ?_) | (refine t_loada rfl hA ?_)); refine rn ?_) | (refine g_store ?_; first | ((first | (refine t_storex rfl rfl hA ?_)); clear hA; (try clear w); intro w hA; refine h_n hA ?_; clear hA; intro hA; refine rn ?_) | ((first | (refine t_storea rfl rfl hA ?_)); clear hA; (try clear w); intro w hA; (try simp only [List.drop_zero, List.drop_nil, List.drop_succ_cons, List.take_succ_cons, List.take_zero, List.length_cons, List.length_nil, Nat.zero_add, Nat.reduceAdd] at hA); refine h_n hA ?_; clear hA; intro hA; refine rn ?_)) | (refine g_ow ?_; first | ((first | (refine p_o ?_)); refine rn ?_) | ((first | (refine t_alloc hA ?_) | (refine ow_box rfl rfl hA ?_) | (refine t_buildSlice rfl (by decide) rfl hA ?_)); clear hA; (try clear w); intro b w hA; refine h_n hA ?_; clear hA; intro hA; refine rn ?_) | ((first | (refine t_make rfl rfl (by omega) (by omega) hA ?_)); clear hA; (try clear w); intro v w hA hone hnil; refine rn ?_)) | (refine tq_normal ?_) | (refine bq_normal ?_) | (refine bq_hit ?_) | (refine bq_miss (by decide) ?_) | (refine tq_exit ?_) | (refine lq_exit ?_) | (refine tq_ret ?_) | (refine bq_ret ?_) | (refine lq_ret ?_))
    refine' wc_vals 9 [17, 18, 19, 20, 21, 22, 23, 24, 25] [_, _, _, _, _, _, _, _, _] rfl (by kernel_rfl) (by kernel_rfl) (by kernel_rfl) hA ?ops6 ?k6
    case ops6 =>
      refine' VOps.c0 rfl [] (by decide) [] (by decide) rfl ?o6_0 ?r6_0
      case o6_0 => intro E' Lx w lf hE hl hA; simp only [setAll, List.zip_cons_cons, List.zip_nil_right, List.map_cons, List.map_nil, List.getD_cons_succ, List.getD_cons_zero, List.set_cons_succ, List.set_cons_zero] at hl; subst hl; first | (refine ow_move_v rfl ?_; exact ⟨pe, hA⟩)
      case r6_0 =>
        refine' VOps.c0 rfl [] (by decide) [] (by decide) rfl ?o6_1 ?r6_1
        case o6_1 => intro E' Lx w lf hE hl hA; simp only [setAll, List.zip_cons_cons, List.zip_nil_right, List.map_cons, List.map_nil, List.getD_cons_succ, List.getD_cons_zero, List.set_cons_succ, List.set_cons_zero] at hl; subst hl; first | (refine ow_move_v rfl ?_; exact ⟨pe, hA⟩)
        case r6_1 =>
          refine' VOps.c0 rfl [0, 1] (by decide) [17, 18] (by decide) rfl ?o6_2 ?r6_2
          case o6_2 => intro E' Lx w lf hE hl hA; simp only [setAll, List.zip_cons_cons, List.zip_nil_right, List.map_cons, List.map_nil, List.getD_cons_succ, List.getD_cons_zero, List.set_cons_succ, List.set_cons_zero] at hl; subst hl; first | (refine t_indexAddrS rfl hcx rfl (by omega) ?_; exact ⟨pe, hA⟩) | (refine t_indexAddrS rfl hcy rfl (by omega) ?_; exact ⟨pe, hA⟩) | (refine t_indexAddr rfl rfl (by omega) ?_; exact ⟨pe, hA⟩) | (refine t_indexAddrS rfl rfl (by omega) ?_; exact ⟨pe, hA⟩)
          case r6_2 =>
            refine' VOps.c0 rfl [2] (by decide) [19] (by decide) rfl ?o6_3 ?r6_3
            case o6_3 => intro E' Lx w lf hE hl hA; simp only [setAll, List.zip_cons_cons, List.zip_nil_right, List.map_cons, List.map_nil, List.getD_cons_succ, List.getD_cons_zero, List.set_cons_succ, List.set_cons_zero] at hl; subst hl; first | (refine t_load_env rfl rfl hA (hE.cell hx0) ?_; exact ⟨pe, hA⟩) | (refine t_load_env rfl rfl hA (hE.cell hy0) ?_; exact ⟨pe, hA⟩) | (refine t_loadx rfl hA ?_; exact ⟨pe, hA⟩) | (refine t_loada rfl hA ?_; exact ⟨pe, hA⟩)
            case r6_3 =>
              refine' VOps.c0 rfl [] (by decide) [] (by decide) rfl ?o6_4 ?r6_4
              case o6_4 => intro E' Lx w lf hE hl hA; simp only [setAll, List.zip_cons_cons, List.zip_nil_right, List.map_cons, List.map_nil, List.getD_cons_succ, List.getD_cons_zero, List.set_cons_succ, List.set_cons_zero] at hl; subst hl; first | (refine ow_move_v rfl ?_; exact ⟨pe, hA⟩)
              case r6_4 =>
                refine' VOps.c0 rfl [] (by decide) [] (by decide) rfl ?o6_5 ?r6_5
                case o6_5 => intro E' Lx w lf hE hl hA; simp only [setAll, List.zip_cons_cons, List.zip_nil_right, List.map_cons, List.map_nil, List.getD_cons_succ, List.getD_cons_zero, List.set_cons_succ, List.set_cons_zero] at hl; subst hl; first | (refine ow_move_v rfl ?_; exact ⟨pe, hA⟩)
                case r6_5 =>
                  refine' VOps.c0 rfl [4, 5] (by decide) [21, 22] (by decide) rfl ?o6_6 ?r6_6
                  case o6_6 => intro E' Lx w lf hE hl hA; simp only [setAll, List.zip_cons_cons, List.zip_nil_right, List.map_cons, List.map_nil, List.getD_cons_succ, List.getD_cons_zero, List.set_cons_succ, List.set_cons_zero] at hl; subst hl; first | (refine t_indexAddrS rfl hcx rfl (by omega) ?_; exact ⟨pe, hA⟩) | (refine t_indexAddrS rfl hcy rfl (by omega) ?_; exact ⟨pe, hA⟩) | (refine t_indexAddr rfl rfl (by omega) ?_; exact ⟨pe, hA⟩) | (refine t_indexAddrS rfl rfl (by omega) ?_; exact ⟨pe, hA⟩)
                  case r6_6 =>
                    refine' VOps.c0 rfl [6] (by decide) [23] (by decide) rfl ?o6_7 ?r6_7
                    case o6_7 => intro E' Lx w lf hE hl hA; simp only [setAll, List.zip_cons_cons, List.zip_nil_right, List.map_cons, List.map_nil, List.getD_cons_succ, List.getD_cons_zero, List.set_cons_succ, List.set_cons_zero] at hl; subst hl; first | (refine t_load_env rfl rfl hA (hE.cell hx0) ?_; exact ⟨pe, hA⟩) | (refine t_load_env rfl rfl hA (hE.cell hy0) ?_; exact ⟨pe, hA⟩) | (refine t_loadx rfl hA ?_; exact ⟨pe, hA⟩) | (refine t_loada rfl hA ?_; exact ⟨pe, hA⟩)
                    case r6_7 =>
                      refine' VOps.c0 rfl [3, 7] (by decide) [20, 24] (by decide) rfl ?o6_8 ?r6_8
                      case o6_8 => intro E' Lx w lf hE hl hA; simp only [setAll, List.zip_cons_cons, List.zip_nil_right, List.map_cons, List.map_nil, List.getD_cons_succ, List.getD_cons_zero, List.set_cons_succ, List.set_cons_zero] at hl; subst hl; first | (refine ow_neqs rfl rfl ?_; exact ⟨pe, hA⟩) | (refine ow_neq rfl rfl ?_; exact ⟨pe, hA⟩) | (refine ow_neqs rfl rfl ?_; exact ⟨pe, hA⟩) | (refine t_neqb rfl rfl ?_; exact ⟨pe, hA⟩)
                      case r6_8 =>
                        exact TameOps.nil
    case' k6 => (try clear hA); intro w hA; refine rn ?_
    repeat' (first | ((refine g_wc ?_; first | (refine wc_seq ?_) | (refine wc_region ?_) | (refine wc_block ?_) | (refine wc_true rfl ?_) | (refine wc_false rfl ?_) | (refine wc_pt rfl (by omega) ?_) | (refine wc_pf rfl (by omega) ?_) | (refine wc_nt rfl (by omega) ?_) | (refine wc_nf rfl (by omega) ?_) | (refine wc_pp rfl (fun h => ?_) (fun h => ?_)) | (refine wc_nn rfl (fun h => ?_) (fun h => ?_)) | (refine wc_skip ?_) | (refine wc_exit ?_) | (refine wc_ret ?_))) | (refine g_rl ?_; first | (first | (refine rl_op ?_) | (refine rl_nil ?_) | (refine rl_on rfl ?_) | (refine rl_pt rfl (by omega) ?_) | (refine rl_qt rfl (by omega) ?_) | (refine rl_nt rfl (by omega) ?_) | (refine rl_mt rfl (by omega) ?_)) | ((first | (refine rl_off rfl rfl ?_) | (refine rl_undef rfl ?_) | (refine rl_pf rfl (by omega) ?_) | (refine rl_qf rfl (by omega) ?_) | (refine rl_nf rfl (by omega) ?_) | (refine rl_mf rfl (by omega) ?_)); refine rn ?_) | (first | (refine rl_pp rfl (fun h => o_n ?_) (fun h => rn ?_)) | (refine rl_qq rfl (fun h => o_n ?_) (fun h => rn ?_)) | (refine rl_nn rfl (fun h => o_n ?_) (fun h => rn ?_)) | (refine rl_mm rfl (fun h => o_n ?_) (fun h => rn ?_)))) | ((refine g_bin ?_; refine p_b ?_); refine rn ?_) | (refine g_call ?_; first | ((first | (refine p_l ?_)); refine rn ?_) | ((first | (refine t_appx rfl rfl hA rfl ?_)); clear hA; (try clear w); intro v w hA hone hnil; refine h_n hA ?_; clear hA; intro hA; refine rn ?_)) | ((refine g_conv ?_; first | (refine p_c hA ?_)); refine rn ?_) | ((refine g_load ?_; first | (refine t_loadx rfl hA ?_) | (refine t_loada rfl hA ?_)); refine rn ?_) | (refine g_store ?_; first | ((first | (refine t_storex rfl rfl hA ?_)); clear hA; (try clear w); intro w hA; refine h_n hA ?_; clear hA; intro hA; refine rn ?_) | ((first | (refine t_storea rfl rfl hA ?_)); clear hA; (try clear w); intro w hA; (try simp only [List.drop_zero, List.drop_nil, List.drop_succ_cons, List.take_succ_cons, List.take_zero, List.length_cons, List.length_nil, Nat.zero_add, Nat.reduceAdd] at hA); refine h_n hA ?_; clear hA; intro hA; refine rn ?_)) | (refine g_ow ?_; first | ((first | (refine p_o ?_)); refine rn ?_) | ((first | (refine t_alloc hA ?_) | (refine ow_box rfl rfl hA ?_) | (refine t_buildSlice rfl (by decide) rfl hA ?_)); clear hA; (try clear w); intro b w hA; refine h_n hA ?_; clear hA; intro hA; refine rn ?_) | ((first | (refine t_make rfl rfl (by omega) (by omega) hA ?_)); clear hA; (try clear w); intro v w hA hone hnil; refine rn ?_)) | (refine tq_normal ?_) | (refine bq_normal ?_) | (refine bq_hit ?_) | (refine bq_miss (by decide) ?_) | (refine tq_exit ?_) | (refine lq_exit ?_) | (refine tq_ret ?_) | (refine bq_ret ?_) | (refine lq_ret ?_))
    · refine ret1 hA rfl ?_
      have hne : ¬ x = y := by first | exact h | simpa using h
      rw [decide_eq_false (show ¬ xs = ys from fun e => hne (by rw [e, hyi] at hxi; exact (Option.some.inj hxi).symm))]; rfl
    · refine lq_next (m - 1) (by omega) ⟨i + 1, (ex_getD rfl), hA, by omega, ?_⟩
      have heq : x = y := by first | exact h | simpa using h
      intro j hj'
      rcases Nat.lt_or_ge j i with h1 | h1
      · exact hj j h1
      · obtain rfl : j = i := by omega
        rw [hxi, hyi, heq]
  · repeat' (first | (refine g_call ?_; refine t_lenS rfl hcx ?_; refine rn ?_) | ((refine g_wc ?_; first | (refine wc_seq ?_) | (refine wc_region ?_) | (refine wc_block ?_) | (refine wc_true rfl ?_) | (refine wc_false rfl ?_) | (refine wc_pt rfl (by omega) ?_) | (refine wc_pf rfl (by omega) ?_) | (refine wc_nt rfl (by omega) ?_) | (refine wc_nf rfl (by omega) ?_) | (refine wc_pp rfl (fun h => ?_) (fun h => ?_)) | (refine wc_nn rfl (fun h => ?_) (fun h => ?_)) | (refine wc_skip ?_) | (refine wc_exit ?_) | (refine wc_ret ?_))) | (refine g_rl ?_; first | (first | (refine rl_op ?_) | (refine rl_nil ?_) | (refine rl_on rfl ?_) | (refine rl_pt rfl (by omega) ?_) | (refine rl_qt rfl (by omega) ?_) | (refine rl_nt rfl (by omega) ?_) | (refine rl_mt rfl (by omega) ?_)) | ((first | (refine rl_off rfl rfl ?_) | (refine rl_undef rfl ?_) | (refine rl_pf rfl (by omega) ?_) | (refine rl_qf rfl (by omega) ?_) | (refine rl_nf rfl (by omega) ?_) | (refine rl_mf rfl (by omega) ?_)); refine rn ?_) | (first | (refine rl_pp rfl (fun h => o_n ?_) (fun h => rn ?_)) | (refine rl_qq rfl (fun h => o_n ?_) (fun h => rn ?_)) | (refine rl_nn rfl (fun h => o_n ?_) (fun h => rn ?_)) | (refine rl_mm rfl (fun h => o_n ?_) (fun h => rn ?_)))) | ((refine g_bin ?_; refine p_b ?_); refine rn ?_) | (refine g_call ?_; first | ((first | (refine p_l ?_)); refine rn ?_) | ((first | (refine t_appx rfl rfl hA rfl ?_)); clear hA; (try clear w); intro v w hA hone hnil; refine h_n hA ?_; clear hA; intro hA; refine rn ?_)) | ((refine g_conv ?_; first | (refine p_c hA ?_)); refine rn ?_) | ((refine g_load ?_; first | (refine t_loadx rfl hA ?_) | (refine t_loada rfl hA ?_)); refine rn ?_) | (refine g_store ?_; first | ((first | (refine t_storex rfl rfl hA ?_)); clear hA; (try clear w); intro w hA; refine h_n hA ?_; clear hA; intro hA; refine rn ?_) | ((first | (refine t_storea rfl rfl hA ?_)); clear hA; (try clear w); intro w hA; (try simp only [List.drop_zero, List.drop_nil, List.drop_succ_cons, List.take_succ_cons, List.take_zero, List.length_cons, List.length_nil, Nat.zero_add, Nat.reduceAdd] at hA); refine h_n hA ?_; clear hA; intro hA; refine rn ?_)) | (refine g_ow ?_; first | ((first | (refine p_o ?_)); refine rn ?_) | ((first | (refine t_alloc hA ?_) | (refine ow_box rfl rfl hA ?_) | (refine t_buildSlice rfl (by decide) rfl hA ?_)); clear hA; (try clear w); intro b w hA; refine h_n hA ?_; clear hA; intro hA; refine rn ?_) | ((first | (refine t_make rfl rfl (by omega) (by omega) hA ?_)); clear hA; (try clear w); intro v w hA hone hnil; refine rn ?_)) | (refine tq_normal ?_) | (refine bq_normal ?_) | (refine bq_hit ?_) | (refine bq_miss (by decide) ?_) | (refine tq_exit ?_) | (refine lq_exit ?_) | (refine tq_ret ?_) | (refine bq_ret ?_) | (refine lq_ret ?_))
    refine ret1 hA rfl ?_
    rw [decide_eq_true (ext_at hl fun j hj' => hj j (by omega))]; rfl
abbrev OwnS (E : Env) (L : List Item) (xs : List (List UInt8)) : Ending → World → Prop := fun e w' => ∃ v cells, e = .returned v ∧ v.oneCell' = true ∧ CsE strR 1 E cells xs ∧ Sat E (row 9 1 v xs.length cells :: L) w'
theorem copyStrings_own (v : Value) (xs : List (List UInt8)) (E : Env) (L : List Item) (w : World) (hA : Sat E L w) (hx : ListE strR 1 E v xs) (hb : xs.length ≤ 1000000) :
    Calls Tryd.prog 15 ⟨[v]⟩ w (OwnS E L xs) := by
  obtain ⟨cells, hc, hs⟩ := hx.cs
  refine enter (fn := Tryd.f15) Tryd.func15 rfl 5 rfl [v, undef, undef, undef, undef] rfl ?_
  repeat' (first | (refine g_call ?_; refine t_append_nil (by decide) (by rfl) rfl rfl hA hs hc.one (by unfold maxLen; omega) (by omega) ?_; clear hA; intro v' w hA h1; refine rn ?_) | ((refine g_wc ?_; first | (refine wc_seq ?_) | (refine wc_region ?_) | (refine wc_block ?_) | (refine wc_true rfl ?_) | (refine wc_false rfl ?_) | (refine wc_pt rfl (by omega) ?_) | (refine wc_pf rfl (by omega) ?_) | (refine wc_nt rfl (by omega) ?_) | (refine wc_nf rfl (by omega) ?_) | (refine wc_pp rfl (fun h => ?_) (fun h => ?_)) | (refine wc_nn rfl (fun h => ?_) (fun h => ?_)) | (refine wc_skip ?_) | (refine wc_exit ?_) | (refine wc_ret ?_))) | (refine g_rl ?_; first | (first | (refine rl_op ?_) | (refine rl_nil ?_) | (refine rl_on rfl ?_) | (refine rl_pt rfl (by omega) ?_) | (refine rl_qt rfl (by omega) ?_) | (refine rl_nt rfl (by omega) ?_) | (refine rl_mt rfl (by omega) ?_)) | ((first | (refine rl_off rfl rfl ?_) | (refine rl_undef rfl ?_) | (refine rl_pf rfl (by omega) ?_) | (refine rl_qf rfl (by omega) ?_) | (refine rl_nf rfl (by omega) ?_) | (refine rl_mf rfl (by omega) ?_)); refine rn ?_) | (first | (refine rl_pp rfl (fun h => o_n ?_) (fun h => rn ?_)) | (refine rl_qq rfl (fun h => o_n ?_) (fun h => rn ?_)) | (refine rl_nn rfl (fun h => o_n ?_) (fun h => rn ?_)) | (refine rl_mm rfl (fun h => o_n ?_) (fun h => rn ?_)))) | ((refine g_bin ?_; refine p_b ?_); refine rn ?_) | (refine g_call ?_; first | ((first | (refine p_l ?_)); refine rn ?_) | ((first | (refine t_appx rfl rfl hA rfl ?_)); clear hA; (try clear w); intro v w hA hone hnil; refine h_n hA ?_; clear hA; intro hA; refine rn ?_)) | ((refine g_conv ?_; first | (refine p_c hA ?_)); refine rn ?_) | ((refine g_load ?_; first | (refine t_loadx rfl hA ?_) | (refine t_loada rfl hA ?_)); refine rn ?_) | (refine g_store ?_; first | ((first | (refine t_storex rfl rfl hA ?_)); clear hA; (try clear w); intro w hA; refine h_n hA ?_; clear hA; intro hA; refine rn ?_) | ((first | (refine t_storea rfl rfl hA ?_)); clear hA; (try clear w); intro w hA; (try simp only [List.drop_zero, List.drop_nil, List.drop_succ_cons, List.take_succ_cons, List.take_zero, List.length_cons, List.length_nil, Nat.zero_add, Nat.reduceAdd] at hA); refine h_n hA ?_; clear hA; intro hA; refine rn ?_)) | (refine g_ow ?_; first | ((first | (refine p_o ?_)); refine rn ?_) | ((first | (refine t_alloc hA ?_) | (refine ow_box rfl rfl hA ?_) | (refine t_buildSlice rfl (by decide) rfl hA ?_)); clear hA; (try clear w); intro b w hA; refine h_n hA ?_; clear hA; intro hA; refine rn ?_) | ((first | (refine t_make rfl rfl (by omega) (by omega) hA ?_)); clear hA; (try clear w); intro v w hA hone hnil; refine rn ?_)) | (refine tq_normal ?_) | (refine bq_normal ?_) | (refine bq_hit ?_) | (refine bq_miss (by decide) ?_) | (refine tq_exit ?_) | (refine lq_exit ?_) | (refine tq_ret ?_) | (refine bq_ret ?_) | (refine lq_ret ?_))
  exact fp_ret (res1 rfl rfl) ⟨v', cells, rfl, h1, hc, hA⟩
theorem copyStrings_calls (v : Value) (xs : List (List UInt8)) (E : Env) (L : List Item) (w : World) (hA : Sat E L w) (hx : ListE strR 1 E v xs) (hb : xs.length ≤ 1000000) :
    Calls Tryd.prog 15 ⟨[v]⟩ w (fun e w' => ∃ E' v', e = .returned v' ∧ E.Le E' ∧ ListE strR 1 E' v' xs ∧ Sat E' L w') :=
  (copyStrings_own v xs E L w hA hx hb).mono fun e w' ⟨v', cells, he, h1, hc, hS⟩ => by
    obtain ⟨E', h2, h3, h4⟩ := hS.freezeList hc
    exact ⟨E', v', he, h2, h4, h3⟩
/-- A unit behind its start code. -/
def pieceB (f : Bool) (u : List UInt8) : List UInt8 := (if longB (u.headD 0 % 32) f then [0] else []) ++ ([0, 0, 1] ++ u)
def joinB : Bool → List (List UInt8) → List UInt8
  | _, [] => []
  | f, u :: L => pieceB f u ++ joinB false L
def joinR (Ls : List (List UInt8)) : List UInt8 × Int := if 4096 < Ls.length then ([], 6) else if Ls.all mayB then (if 16777216 < (joinB true Ls).length then ([], 6) else (joinB true Ls, 0)) else ([], 4)
theorem joinB_append (M : List (List UInt8)) : ∀ (L : List (List UInt8)) (f : Bool), joinB f (L ++ M) = joinB f L ++ joinB (f && L.isEmpty) M
  | [], f => by simp [joinB]
  | u :: L, f => by rw [List.cons_append, joinB, joinB, joinB_append M L false]; simp
theorem joinB_snoc (L : List (List UInt8)) (u : List UInt8) (f : Bool) : joinB f (L ++ [u]) = joinB f L ++ pieceB (f && L.isEmpty) u := by
  rw [joinB_append]; simp [joinB]
theorem pieceB_len (f : Bool) (u : List UInt8) : u.length + 3 ≤ (pieceB f u).length ∧ (pieceB f u).length ≤ u.length + 4 := by
  unfold pieceB; split <;> simp <;> omega
theorem str_join : ∀ (L : List (List UInt8)) (f : Bool), L.all mayB = true → Str L (joinB f L)
  | [], f, _ => Str.nil 0
  | u :: L, f, h => by
    simp only [List.all_cons, Bool.and_eq_true] at h
    have ih := str_join L false h.2
    rw [joinB, pieceB]
    split
    · exact Str.cons (n := 3) h.1 (by omega) ih
    · exact Str.cons (n := 2) h.1 (by omega) ih
theorem take_snoc {α : Type} {L : List α} {i : Nat} {u : α} (h : L[i]? = some u) : L.take (i + 1) = L.take i ++ [u] := by
  rw [List.take_add_one, h]; rfl
theorem joinB_take {L : List (List UInt8)} {i : Nat} {u : List UInt8} (h : L[i]? = some u) : joinB true (L.take (i + 1)) = joinB true (L.take i) ++ pieceB (decide ((i : Int) = 0)) u := by
  rw [take_snoc h, joinB_snoc]
  congr 2
  have hi := (List.getElem?_eq_some_iff.1 h).1
  cases i with
  | zero => rfl
  | succ i =>
    have : ¬ ((i + 1 : Nat) : Int) = 0 := by omega
    rw [decide_eq_false this]
    cases L with
    | nil => simp at hi
    | cons a L => rfl
theorem joinB_mono (L : List (List UInt8)) (i : Nat) : (joinB true (L.take i)).length ≤ (joinB true L).length := by
  conv => rhs; rw [← List.take_append_drop i L, joinB_append]
  rw [List.length_append]; omega
end Go.Proofs.YtlgkdnnjligcaaaDoor
