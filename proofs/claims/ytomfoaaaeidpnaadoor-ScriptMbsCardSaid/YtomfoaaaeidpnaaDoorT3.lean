/-
  The reference's Taker: number, walked.
-/
import Derived.Test.YtomfoaaaeidpnaaDoorS3
set_option linter.unusedVariables false
set_option linter.unusedSimpArgs false
namespace Go.Proofs.YtomfoaaaeidpnaaDoor
open Go Go.RowKit
attribute [local irreducible] WC RL OW bodyPostM ThenQ BlockQ LoopQ ScopeQ
abbrev srcT (b : Nat) (s : List UInt8) (p : Nat) : Item := cells b [vs s, vi ((min p s.length : Nat) : Int)] 104
section
variable (b : Nat) (s : List UInt8) (p : Nat) (E : Env) (L : List Item) (w : World)
set_option maxRecDepth 16000 in
set_option maxHeartbeats 4000000 in
theorem takeT_calls (n : Nat) (N : Int) (hN : N = (n : Int)) (hn : 0 < n ∧ n ≤ 1000000) (hs : s.length ≤ 1000000) (hA : Sat E (srcT b s p :: L) w) :
    Calls Tryd.prog 88 ⟨[.pointer (some ⟨b, 0, none⟩), vi N]⟩ w (fun e w' => e = .returned (vi (tk n (strm s) p).1) ∧ Sat E (srcT b s (p + 1) :: L) w') := by
  subst hN
  refine enter (fn := Tryd.f88) Tryd.func88 rfl 35 rfl [.pointer (some ⟨b, 0, none⟩), vi n, undef, undef, undef, undef, undef, undef, undef, undef, undef, undef, undef, undef, undef, undef, undef, undef, undef, undef, undef, undef, undef, undef, undef, undef, undef, undef, undef, undef, undef, undef, undef, undef, undef] rfl ?_
  by_cases hp : p < s.length
  · have hmin : min p s.length = p := by omega
    obtain ⟨c, hc⟩ : ∃ c, s[p]? = some c := ⟨_, List.getElem?_eq_getElem hp⟩
    have hc' : s[((p : Int) + 1 - 1).toNat]? = some c := by rw [show ((p : Int) + 1 - 1).toNat = p by omega]; exact hc
    have hc8 := c.toNat_lt
    have hst : strm s p = c := by unfold strm; rw [hc]; rfl
    unfold srcT at hA
    rw [hmin] at hA
    repeat' (first | refine st ?_ | (refine wc_regionS 1 rfl ?_; refine wc_region ?_) | (refine su ?_; refine rn ?_) | (refine g_conv ?_; refine p_c hA ?_; refine rn ?_) | (refine g_load ?_; (first | refine t_loadx rfl hA ?_ | refine t_loada rfl hA ?_); refine rn ?_) | (refine g_call ?_; refine t_appx rfl rfl hA rfl ?_; clear hA; (try clear w); intro v w hA hone hnil; refine h_n hA ?_; clear hA; intro hA; refine rn ?_) | (refine g_store ?_; (first | refine t_storex rfl rfl hA ?_ | refine t_storea rfl rfl hA ?_); clear hA; (try clear w); intro w hA; refine h_m hA ?_; clear hA; intro hA; refine rn ?_) | (refine g_ow ?_; (first | refine t_alloc hA ?_ | refine ow_box rfl rfl hA ?_ | refine t_buildSlice rfl (by decide) rfl hA ?_); clear hA; (try clear w); intro b w hA; refine h_n hA ?_; clear hA; intro hA; refine rn ?_) | (refine g_ow ?_; refine t_make rfl rfl (by omega) (by omega) hA ?_; clear hA; (try clear w); intro v w hA hone hnil; refine rn ?_) | refine wc_pp rfl (fun h => ?_) (fun h => ?_) | refine wc_nn rfl (fun h => ?_) (fun h => ?_) | refine rl_pp rfl (fun h => o_n ?_) (fun h => rn ?_) | refine rl_qq rfl (fun h => o_n ?_) (fun h => rn ?_) | refine rl_nn rfl (fun h => o_n ?_) (fun h => rn ?_) | refine rl_mm rfl (fun h => o_n ?_) (fun h => rn ?_))
    refine' wc_vals 10 [5, 6, 7, 8, 9, 10, 11, 12, 13, 14] [_, _, _, _, _, _, _, _, _, _] rfl (by kernel_rfl) (by kernel_rfl) (by kernel_rfl) hA ?ops1 ?k1
    case ops1 =>
      refine' VOps.c0 rfl [] (by decide) [] (by decide) rfl ?o1_0 ?r1_0
      case o1_0 => intro E' Lx w lf hE hl hA; simp only [setAll, List.zip_cons_cons, List.zip_nil_right, List.map_cons, List.map_nil, List.getD_cons_succ, List.getD_cons_zero, List.set_cons_succ, List.set_cons_zero] at hl; subst hl; first | (refine ow_move_v rfl ?_; exact ⟨pe, hA⟩)
      case r1_0 =>
        refine' VOps.c0 rfl [0] (by decide) [5] (by decide) rfl ?o1_1 ?r1_1
        case o1_1 => intro E' Lx w lf hE hl hA; simp only [setAll, List.zip_cons_cons, List.zip_nil_right, List.map_cons, List.map_nil, List.getD_cons_succ, List.getD_cons_zero, List.set_cons_succ, List.set_cons_zero] at hl; subst hl; first | (refine ow_nilCheck rfl ?_; exact ⟨pe, hA⟩)
        case r1_1 =>
          refine' VOps.c0 rfl [1] (by decide) [6] (by decide) rfl ?o1_2 ?r1_2
          case o1_2 => intro E' Lx w lf hE hl hA; simp only [setAll, List.zip_cons_cons, List.zip_nil_right, List.map_cons, List.map_nil, List.getD_cons_succ, List.getD_cons_zero, List.set_cons_succ, List.set_cons_zero] at hl; subst hl; first | (refine t_fieldAddr rfl ?_; exact ⟨pe, hA⟩)
          case r1_2 =>
            refine' VOps.c0 rfl [2] (by decide) [7] (by decide) rfl ?o1_3 ?r1_3
            case o1_3 => intro E' Lx w lf hE hl hA; simp only [setAll, List.zip_cons_cons, List.zip_nil_right, List.map_cons, List.map_nil, List.getD_cons_succ, List.getD_cons_zero, List.set_cons_succ, List.set_cons_zero] at hl; subst hl; first | (refine t_loadx rfl hA ?_; exact ⟨pe, hA⟩) | (refine t_loada rfl hA ?_; exact ⟨pe, hA⟩)
            case r1_3 =>
              refine' VOps.c0 rfl [] (by decide) [] (by decide) rfl ?o1_4 ?r1_4
              case o1_4 => intro E' Lx w lf hE hl hA; simp only [setAll, List.zip_cons_cons, List.zip_nil_right, List.map_cons, List.map_nil, List.getD_cons_succ, List.getD_cons_zero, List.set_cons_succ, List.set_cons_zero] at hl; subst hl; first | (refine ow_move_v rfl ?_; exact ⟨pe, hA⟩)
              case r1_4 =>
                refine' VOps.c0 rfl [4] (by decide) [9] (by decide) rfl ?o1_5 ?r1_5
                case o1_5 => intro E' Lx w lf hE hl hA; simp only [setAll, List.zip_cons_cons, List.zip_nil_right, List.map_cons, List.map_nil, List.getD_cons_succ, List.getD_cons_zero, List.set_cons_succ, List.set_cons_zero] at hl; subst hl; first | (refine ow_nilCheck rfl ?_; exact ⟨pe, hA⟩)
                case r1_5 =>
                  refine' VOps.c0 rfl [5] (by decide) [10] (by decide) rfl ?o1_6 ?r1_6
                  case o1_6 => intro E' Lx w lf hE hl hA; simp only [setAll, List.zip_cons_cons, List.zip_nil_right, List.map_cons, List.map_nil, List.getD_cons_succ, List.getD_cons_zero, List.set_cons_succ, List.set_cons_zero] at hl; subst hl; first | (refine t_fieldAddr rfl ?_; exact ⟨pe, hA⟩)
                  case r1_6 =>
                    refine' VOps.c0 rfl [6] (by decide) [11] (by decide) rfl ?o1_7 ?r1_7
                    case o1_7 => intro E' Lx w lf hE hl hA; simp only [setAll, List.zip_cons_cons, List.zip_nil_right, List.map_cons, List.map_nil, List.getD_cons_succ, List.getD_cons_zero, List.set_cons_succ, List.set_cons_zero] at hl; subst hl; first | (refine t_loadx rfl hA ?_; exact ⟨pe, hA⟩) | (refine t_loada rfl hA ?_; exact ⟨pe, hA⟩)
                    case r1_7 =>
                      refine' VOps.c0 rfl [7] (by decide) [12] (by decide) rfl ?o1_8 ?r1_8
                      case o1_8 => intro E' Lx w lf hE hl hA; simp only [setAll, List.zip_cons_cons, List.zip_nil_right, List.map_cons, List.map_nil, List.getD_cons_succ, List.getD_cons_zero, List.set_cons_succ, List.set_cons_zero] at hl; subst hl; first | (refine t_len_str rfl ?_; exact ⟨pe, hA⟩) | (refine t_len_slice rfl ?_; exact ⟨pe, hA⟩) | (refine t_lenS rfl (by assumption) ?_; exact ⟨pe, hA⟩)
                      case r1_8 =>
                        refine' VOps.c0 rfl [3, 8] (by decide) [8, 13] (by decide) rfl ?o1_9 ?r1_9
                        case o1_9 => intro E' Lx w lf hE hl hA; simp only [setAll, List.zip_cons_cons, List.zip_nil_right, List.map_cons, List.map_nil, List.getD_cons_succ, List.getD_cons_zero, List.set_cons_succ, List.set_cons_zero] at hl; subst hl; first | (refine ow_eql rfl rfl ?_; exact ⟨pe, hA⟩) | (refine ow_eqs rfl rfl ?_; exact ⟨pe, hA⟩) | (refine t_eqlb rfl rfl ?_; exact ⟨pe, hA⟩)
                        case r1_9 =>
                          exact TameOps.nil
    case' k1 => (try clear hA); intro w hA; refine rn ?_
    repeat' (first | refine st ?_ | (refine wc_regionS 4 rfl ?_; refine wc_region ?_) | (refine su ?_; refine rn ?_) | (refine g_conv ?_; refine p_c hA ?_; refine rn ?_) | (refine g_load ?_; (first | refine t_loadx rfl hA ?_ | refine t_loada rfl hA ?_); refine rn ?_) | (refine g_call ?_; refine t_appx rfl rfl hA rfl ?_; clear hA; (try clear w); intro v w hA hone hnil; refine h_n hA ?_; clear hA; intro hA; refine rn ?_) | (refine g_store ?_; (first | refine t_storex rfl rfl hA ?_ | refine t_storea rfl rfl hA ?_); clear hA; (try clear w); intro w hA; refine h_m hA ?_; clear hA; intro hA; refine rn ?_) | (refine g_ow ?_; (first | refine t_alloc hA ?_ | refine ow_box rfl rfl hA ?_ | refine t_buildSlice rfl (by decide) rfl hA ?_); clear hA; (try clear w); intro b w hA; refine h_n hA ?_; clear hA; intro hA; refine rn ?_) | (refine g_ow ?_; refine t_make rfl rfl (by omega) (by omega) hA ?_; clear hA; (try clear w); intro v w hA hone hnil; refine rn ?_) | refine wc_pp rfl (fun h => ?_) (fun h => ?_) | refine wc_nn rfl (fun h => ?_) (fun h => ?_) | refine rl_pp rfl (fun h => o_n ?_) (fun h => rn ?_) | refine rl_qq rfl (fun h => o_n ?_) (fun h => rn ?_) | refine rl_nn rfl (fun h => o_n ?_) (fun h => rn ?_) | refine rl_mm rfl (fun h => o_n ?_) (fun h => rn ?_))
    refine' wc_vals 13 [22, 23, 24, 25, 26, 27, 28, 29, 30, 31, 32, 33, 34] [_, _, _, _, _, _, _, _, _, _, _, _, _] rfl (by kernel_rfl) (by kernel_rfl) (by kernel_rfl) hA ?ops4 ?k4
    case ops4 =>
      refine' VOps.c0 rfl [] (by decide) [] (by decide) rfl ?o4_0 ?r4_0
      case o4_0 => intro E' Lx w lf hE hl hA; simp only [setAll, List.zip_cons_cons, List.zip_nil_right, List.map_cons, List.map_nil, List.getD_cons_succ, List.getD_cons_zero, List.set_cons_succ, List.set_cons_zero] at hl; subst hl; first | (refine ow_move_v rfl ?_; exact ⟨pe, hA⟩)
      case r4_0 =>
        refine' VOps.c0 rfl [0] (by decide) [22] (by decide) rfl ?o4_1 ?r4_1
        case o4_1 => intro E' Lx w lf hE hl hA; simp only [setAll, List.zip_cons_cons, List.zip_nil_right, List.map_cons, List.map_nil, List.getD_cons_succ, List.getD_cons_zero, List.set_cons_succ, List.set_cons_zero] at hl; subst hl; first | (refine ow_nilCheck rfl ?_; exact ⟨pe, hA⟩)
        case r4_1 =>
          refine' VOps.c0 rfl [1] (by decide) [23] (by decide) rfl ?o4_2 ?r4_2
          case o4_2 => intro E' Lx w lf hE hl hA; simp only [setAll, List.zip_cons_cons, List.zip_nil_right, List.map_cons, List.map_nil, List.getD_cons_succ, List.getD_cons_zero, List.set_cons_succ, List.set_cons_zero] at hl; subst hl; first | (refine t_fieldAddr rfl ?_; exact ⟨pe, hA⟩)
          case r4_2 =>
            refine' VOps.c0 rfl [2] (by decide) [24] (by decide) rfl ?o4_3 ?r4_3
            case o4_3 => intro E' Lx w lf hE hl hA; simp only [setAll, List.zip_cons_cons, List.zip_nil_right, List.map_cons, List.map_nil, List.getD_cons_succ, List.getD_cons_zero, List.set_cons_succ, List.set_cons_zero] at hl; subst hl; first | (refine t_loadx rfl hA ?_; exact ⟨pe, hA⟩) | (refine t_loada rfl hA ?_; exact ⟨pe, hA⟩)
            case r4_3 =>
              refine' VOps.c0 rfl [] (by decide) [] (by decide) rfl ?o4_4 ?r4_4
              case o4_4 => intro E' Lx w lf hE hl hA; simp only [setAll, List.zip_cons_cons, List.zip_nil_right, List.map_cons, List.map_nil, List.getD_cons_succ, List.getD_cons_zero, List.set_cons_succ, List.set_cons_zero] at hl; subst hl; first | (refine ow_move_v rfl ?_; exact ⟨pe, hA⟩)
              case r4_4 =>
                refine' VOps.c0 rfl [4] (by decide) [26] (by decide) rfl ?o4_5 ?r4_5
                case o4_5 => intro E' Lx w lf hE hl hA; simp only [setAll, List.zip_cons_cons, List.zip_nil_right, List.map_cons, List.map_nil, List.getD_cons_succ, List.getD_cons_zero, List.set_cons_succ, List.set_cons_zero] at hl; subst hl; first | (refine ow_nilCheck rfl ?_; exact ⟨pe, hA⟩)
                case r4_5 =>
                  refine' VOps.c0 rfl [5] (by decide) [27] (by decide) rfl ?o4_6 ?r4_6
                  case o4_6 => intro E' Lx w lf hE hl hA; simp only [setAll, List.zip_cons_cons, List.zip_nil_right, List.map_cons, List.map_nil, List.getD_cons_succ, List.getD_cons_zero, List.set_cons_succ, List.set_cons_zero] at hl; subst hl; first | (refine t_fieldAddr rfl ?_; exact ⟨pe, hA⟩)
                  case r4_6 =>
                    refine' VOps.c0 rfl [6] (by decide) [28] (by decide) rfl ?o4_7 ?r4_7
                    case o4_7 => intro E' Lx w lf hE hl hA; simp only [setAll, List.zip_cons_cons, List.zip_nil_right, List.map_cons, List.map_nil, List.getD_cons_succ, List.getD_cons_zero, List.set_cons_succ, List.set_cons_zero] at hl; subst hl; first | (refine t_loadx rfl hA ?_; exact ⟨pe, hA⟩) | (refine t_loada rfl hA ?_; exact ⟨pe, hA⟩)
                    case r4_7 =>
                      refine' VOps.c0 rfl [7] (by decide) [29] (by decide) rfl ?o4_8 ?r4_8
                      case o4_8 => intro E' Lx w lf hE hl hA; simp only [setAll, List.zip_cons_cons, List.zip_nil_right, List.map_cons, List.map_nil, List.getD_cons_succ, List.getD_cons_zero, List.set_cons_succ, List.set_cons_zero] at hl; subst hl; first | (refine ow_sub64 rfl rfl (by omega) ?_; exact ⟨pe, hA⟩) | (refine ow_sub8 rfl rfl (by omega) ?_; exact ⟨pe, hA⟩)
                      case r4_8 =>
                        refine' VOps.c0 rfl [3, 8] (by decide) [25, 30] (by decide) rfl ?o4_9 ?r4_9
                        case o4_9 => intro E' Lx w lf hE hl hA; simp only [setAll, List.zip_cons_cons, List.zip_nil_right, List.map_cons, List.map_nil, List.getD_cons_succ, List.getD_cons_zero, List.set_cons_succ, List.set_cons_zero] at hl; subst hl; first | (refine t_index_str rfl rfl (by omega) hc' ?_; exact ⟨pe, hA⟩)
                        case r4_9 =>
                          refine' VOps.c0 rfl [9] (by decide) [31] (by decide) rfl ?o4_10 ?r4_10
                          case o4_10 => intro E' Lx w lf hE hl hA; simp only [setAll, List.zip_cons_cons, List.zip_nil_right, List.map_cons, List.map_nil, List.getD_cons_succ, List.getD_cons_zero, List.set_cons_succ, List.set_cons_zero] at hl; subst hl; first | (refine t_conv64 rfl (by omega) ?_; exact ⟨pe, hA⟩) | (refine t_conv8 rfl (by omega) ?_; exact ⟨pe, hA⟩)
                          case r4_10 =>
                            refine' VOps.c0 rfl [] (by decide) [] (by decide) rfl ?o4_11 ?r4_11
                            case o4_11 => intro E' Lx w lf hE hl hA; simp only [setAll, List.zip_cons_cons, List.zip_nil_right, List.map_cons, List.map_nil, List.getD_cons_succ, List.getD_cons_zero, List.set_cons_succ, List.set_cons_zero] at hl; subst hl; first | (refine ow_move_v rfl ?_; exact ⟨pe, hA⟩)
                            case r4_11 =>
                              refine' VOps.c0 rfl [10, 11] (by decide) [32, 33] (by decide) rfl ?o4_12 ?r4_12
                              case o4_12 => intro E' Lx w lf hE hl hA; simp only [setAll, List.zip_cons_cons, List.zip_nil_right, List.map_cons, List.map_nil, List.getD_cons_succ, List.getD_cons_zero, List.set_cons_succ, List.set_cons_zero] at hl; subst hl; first | (refine ow_remp rfl rfl (by omega) ?_; exact ⟨pe, hA⟩) | (refine ow_remp rfl rfl (by omega) ?_; exact ⟨pe, hA⟩)
                              case r4_12 =>
                                exact TameOps.nil
    case' k4 => (try clear hA); intro w hA; refine rn ?_
    repeat' (first | refine st ?_ | (refine wc_region ?_) | (refine su ?_; refine rn ?_) | (refine g_conv ?_; refine p_c hA ?_; refine rn ?_) | (refine g_load ?_; (first | refine t_loadx rfl hA ?_ | refine t_loada rfl hA ?_); refine rn ?_) | (refine g_call ?_; refine t_appx rfl rfl hA rfl ?_; clear hA; (try clear w); intro v w hA hone hnil; refine h_n hA ?_; clear hA; intro hA; refine rn ?_) | (refine g_store ?_; (first | refine t_storex rfl rfl hA ?_ | refine t_storea rfl rfl hA ?_); clear hA; (try clear w); intro w hA; refine h_m hA ?_; clear hA; intro hA; refine rn ?_) | (refine g_ow ?_; (first | refine t_alloc hA ?_ | refine ow_box rfl rfl hA ?_ | refine t_buildSlice rfl (by decide) rfl hA ?_); clear hA; (try clear w); intro b w hA; refine h_n hA ?_; clear hA; intro hA; refine rn ?_) | (refine g_ow ?_; refine t_make rfl rfl (by omega) (by omega) hA ?_; clear hA; (try clear w); intro v w hA hone hnil; refine rn ?_) | refine wc_pp rfl (fun h => ?_) (fun h => ?_) | refine wc_nn rfl (fun h => ?_) (fun h => ?_) | refine rl_pp rfl (fun h => o_n ?_) (fun h => rn ?_) | refine rl_qq rfl (fun h => o_n ?_) (fun h => rn ?_) | refine rl_nn rfl (fun h => o_n ?_) (fun h => rn ?_) | refine rl_mm rfl (fun h => o_n ?_) (fun h => rn ?_))
    refine fp_ret (res1 rfl rfl) ⟨?_, ?_⟩
    · show Ending.returned (Value.int .i64 ((c.toNat : Int) % (n : Int))) = _
      unfold tk
      rw [hst]
      rfl
    · show Sat E (cells b [vs s, vi ((min (p + 1) s.length : Nat) : Int)] 104 :: L) w
      rw [show ((min (p + 1) s.length : Nat) : Int) = (p : Int) + 1 by omega]
      exact hA
  · have hst : strm s p = 0 := by unfold strm; rw [List.getElem?_eq_none (by omega)]; rfl
    have hmin : min p s.length = s.length := by omega
    unfold srcT at hA
    rw [hmin] at hA
    repeat' (first | refine st ?_ | (refine wc_regionS 1 rfl ?_; refine wc_region ?_) | (refine su ?_; refine rn ?_) | (refine g_conv ?_; refine p_c hA ?_; refine rn ?_) | (refine g_load ?_; (first | refine t_loadx rfl hA ?_ | refine t_loada rfl hA ?_); refine rn ?_) | (refine g_call ?_; refine t_appx rfl rfl hA rfl ?_; clear hA; (try clear w); intro v w hA hone hnil; refine h_n hA ?_; clear hA; intro hA; refine rn ?_) | (refine g_store ?_; (first | refine t_storex rfl rfl hA ?_ | refine t_storea rfl rfl hA ?_); clear hA; (try clear w); intro w hA; refine h_m hA ?_; clear hA; intro hA; refine rn ?_) | (refine g_ow ?_; (first | refine t_alloc hA ?_ | refine ow_box rfl rfl hA ?_ | refine t_buildSlice rfl (by decide) rfl hA ?_); clear hA; (try clear w); intro b w hA; refine h_n hA ?_; clear hA; intro hA; refine rn ?_) | (refine g_ow ?_; refine t_make rfl rfl (by omega) (by omega) hA ?_; clear hA; (try clear w); intro v w hA hone hnil; refine rn ?_) | refine wc_pp rfl (fun h => ?_) (fun h => ?_) | refine wc_nn rfl (fun h => ?_) (fun h => ?_) | refine rl_pp rfl (fun h => o_n ?_) (fun h => rn ?_) | refine rl_qq rfl (fun h => o_n ?_) (fun h => rn ?_) | refine rl_nn rfl (fun h => o_n ?_) (fun h => rn ?_) | refine rl_mm rfl (fun h => o_n ?_) (fun h => rn ?_))
    refine' wc_vals 10 [5, 6, 7, 8, 9, 10, 11, 12, 13, 14] [_, _, _, _, _, _, _, _, _, _] rfl (by kernel_rfl) (by kernel_rfl) (by kernel_rfl) hA ?ops1xb ?k1xb
    case ops1xb =>
      refine' VOps.c0 rfl [] (by decide) [] (by decide) rfl ?o1xb_0 ?r1xb_0
      case o1xb_0 => intro E' Lx w lf hE hl hA; simp only [setAll, List.zip_cons_cons, List.zip_nil_right, List.map_cons, List.map_nil, List.getD_cons_succ, List.getD_cons_zero, List.set_cons_succ, List.set_cons_zero] at hl; subst hl; first | (refine ow_move_v rfl ?_; exact ⟨pe, hA⟩)
      case r1xb_0 =>
        refine' VOps.c0 rfl [0] (by decide) [5] (by decide) rfl ?o1xb_1 ?r1xb_1
        case o1xb_1 => intro E' Lx w lf hE hl hA; simp only [setAll, List.zip_cons_cons, List.zip_nil_right, List.map_cons, List.map_nil, List.getD_cons_succ, List.getD_cons_zero, List.set_cons_succ, List.set_cons_zero] at hl; subst hl; first | (refine ow_nilCheck rfl ?_; exact ⟨pe, hA⟩)
        case r1xb_1 =>
          refine' VOps.c0 rfl [1] (by decide) [6] (by decide) rfl ?o1xb_2 ?r1xb_2
          case o1xb_2 => intro E' Lx w lf hE hl hA; simp only [setAll, List.zip_cons_cons, List.zip_nil_right, List.map_cons, List.map_nil, List.getD_cons_succ, List.getD_cons_zero, List.set_cons_succ, List.set_cons_zero] at hl; subst hl; first | (refine t_fieldAddr rfl ?_; exact ⟨pe, hA⟩)
          case r1xb_2 =>
            refine' VOps.c0 rfl [2] (by decide) [7] (by decide) rfl ?o1xb_3 ?r1xb_3
            case o1xb_3 => intro E' Lx w lf hE hl hA; simp only [setAll, List.zip_cons_cons, List.zip_nil_right, List.map_cons, List.map_nil, List.getD_cons_succ, List.getD_cons_zero, List.set_cons_succ, List.set_cons_zero] at hl; subst hl; first | (refine t_loadx rfl hA ?_; exact ⟨pe, hA⟩) | (refine t_loada rfl hA ?_; exact ⟨pe, hA⟩)
            case r1xb_3 =>
              refine' VOps.c0 rfl [] (by decide) [] (by decide) rfl ?o1xb_4 ?r1xb_4
              case o1xb_4 => intro E' Lx w lf hE hl hA; simp only [setAll, List.zip_cons_cons, List.zip_nil_right, List.map_cons, List.map_nil, List.getD_cons_succ, List.getD_cons_zero, List.set_cons_succ, List.set_cons_zero] at hl; subst hl; first | (refine ow_move_v rfl ?_; exact ⟨pe, hA⟩)
              case r1xb_4 =>
                refine' VOps.c0 rfl [4] (by decide) [9] (by decide) rfl ?o1xb_5 ?r1xb_5
                case o1xb_5 => intro E' Lx w lf hE hl hA; simp only [setAll, List.zip_cons_cons, List.zip_nil_right, List.map_cons, List.map_nil, List.getD_cons_succ, List.getD_cons_zero, List.set_cons_succ, List.set_cons_zero] at hl; subst hl; first | (refine ow_nilCheck rfl ?_; exact ⟨pe, hA⟩)
                case r1xb_5 =>
                  refine' VOps.c0 rfl [5] (by decide) [10] (by decide) rfl ?o1xb_6 ?r1xb_6
                  case o1xb_6 => intro E' Lx w lf hE hl hA; simp only [setAll, List.zip_cons_cons, List.zip_nil_right, List.map_cons, List.map_nil, List.getD_cons_succ, List.getD_cons_zero, List.set_cons_succ, List.set_cons_zero] at hl; subst hl; first | (refine t_fieldAddr rfl ?_; exact ⟨pe, hA⟩)
                  case r1xb_6 =>
                    refine' VOps.c0 rfl [6] (by decide) [11] (by decide) rfl ?o1xb_7 ?r1xb_7
                    case o1xb_7 => intro E' Lx w lf hE hl hA; simp only [setAll, List.zip_cons_cons, List.zip_nil_right, List.map_cons, List.map_nil, List.getD_cons_succ, List.getD_cons_zero, List.set_cons_succ, List.set_cons_zero] at hl; subst hl; first | (refine t_loadx rfl hA ?_; exact ⟨pe, hA⟩) | (refine t_loada rfl hA ?_; exact ⟨pe, hA⟩)
                    case r1xb_7 =>
                      refine' VOps.c0 rfl [7] (by decide) [12] (by decide) rfl ?o1xb_8 ?r1xb_8
                      case o1xb_8 => intro E' Lx w lf hE hl hA; simp only [setAll, List.zip_cons_cons, List.zip_nil_right, List.map_cons, List.map_nil, List.getD_cons_succ, List.getD_cons_zero, List.set_cons_succ, List.set_cons_zero] at hl; subst hl; first | (refine t_len_str rfl ?_; exact ⟨pe, hA⟩) | (refine t_len_slice rfl ?_; exact ⟨pe, hA⟩) | (refine t_lenS rfl (by assumption) ?_; exact ⟨pe, hA⟩)
                      case r1xb_8 =>
                        refine' VOps.c0 rfl [3, 8] (by decide) [8, 13] (by decide) rfl ?o1xb_9 ?r1xb_9
                        case o1xb_9 => intro E' Lx w lf hE hl hA; simp only [setAll, List.zip_cons_cons, List.zip_nil_right, List.map_cons, List.map_nil, List.getD_cons_succ, List.getD_cons_zero, List.set_cons_succ, List.set_cons_zero] at hl; subst hl; first | (refine ow_eql rfl rfl ?_; exact ⟨pe, hA⟩) | (refine ow_eqs rfl rfl ?_; exact ⟨pe, hA⟩) | (refine t_eqlb rfl rfl ?_; exact ⟨pe, hA⟩)
                        case r1xb_9 =>
                          exact TameOps.nil
    case' k1xb => (try clear hA); intro w hA; refine rn ?_
    repeat' (first | refine st ?_ | (refine wc_region ?_) | (refine su ?_; refine rn ?_) | (refine g_conv ?_; refine p_c hA ?_; refine rn ?_) | (refine g_load ?_; (first | refine t_loadx rfl hA ?_ | refine t_loada rfl hA ?_); refine rn ?_) | (refine g_call ?_; refine t_appx rfl rfl hA rfl ?_; clear hA; (try clear w); intro v w hA hone hnil; refine h_n hA ?_; clear hA; intro hA; refine rn ?_) | (refine g_store ?_; (first | refine t_storex rfl rfl hA ?_ | refine t_storea rfl rfl hA ?_); clear hA; (try clear w); intro w hA; refine h_m hA ?_; clear hA; intro hA; refine rn ?_) | (refine g_ow ?_; (first | refine t_alloc hA ?_ | refine ow_box rfl rfl hA ?_ | refine t_buildSlice rfl (by decide) rfl hA ?_); clear hA; (try clear w); intro b w hA; refine h_n hA ?_; clear hA; intro hA; refine rn ?_) | (refine g_ow ?_; refine t_make rfl rfl (by omega) (by omega) hA ?_; clear hA; (try clear w); intro v w hA hone hnil; refine rn ?_) | refine wc_pp rfl (fun h => ?_) (fun h => ?_) | refine wc_nn rfl (fun h => ?_) (fun h => ?_) | refine rl_pp rfl (fun h => o_n ?_) (fun h => rn ?_) | refine rl_qq rfl (fun h => o_n ?_) (fun h => rn ?_) | refine rl_nn rfl (fun h => o_n ?_) (fun h => rn ?_) | refine rl_mm rfl (fun h => o_n ?_) (fun h => rn ?_))
    refine fp_ret (res1 rfl rfl) ⟨?_, ?_⟩
    · unfold tk
      rw [hst]
      show _ = Ending.returned (vi ((0 % n : Nat) : Int))
      rw [Nat.zero_mod]
      rfl
    · show Sat E (cells b [vs s, vi ((min (p + 1) s.length : Nat) : Int)] 104 :: L) w
      rw [show min (p + 1) s.length = s.length by omega]
      exact hA
end
end Go.Proofs.YtomfoaaaeidpnaaDoor
namespace Go.Proofs.YtomfoaaaeidpnaaDoor
open Go Go.RowKit
attribute [local irreducible] WC RL OW bodyPostM ThenQ BlockQ LoopQ ScopeQ
set_option maxRecDepth 16000 in
set_option maxHeartbeats 8000000 in
theorem numberT_calls (b : Nat) (s : List UInt8) (p : Nat) (E : Env) (L : List Item) (w : World) (most : Nat) (hm : 1 ≤ most ∧ most ≤ 1000000) (hs : s.length ≤ 1000000) (hA : Sat E (srcT b s p :: L) w) :
    Calls Tryd.prog 113 ⟨[.pointer (some ⟨b, 0, none⟩), vi most]⟩ w (fun e w' => e = .returned (vi (numP most (strm s) p).1) ∧ Sat E (srcT b s (numP most (strm s) p).2 :: L) w') := by
  have ha8 : (tk 256 (strm s) p).1 < 256 := Nat.mod_lt _ (by decide)
  have hb8 : (tk 256 (strm s) (p + 1)).1 < 256 := Nat.mod_lt _ (by decide)
  have hc8 : (tk 256 (strm s) (p + 1 + 1)).1 < 256 := Nat.mod_lt _ (by decide)
  have ns := @num_small most (strm s) p
  have ng := @num_great most (strm s) p
  refine enter (fn := Tryd.f113) Tryd.func113 rfl 52 rfl [.pointer (some ⟨b, 0, none⟩), vi most, undef, undef, undef, undef, undef, undef, undef, undef, undef, undef, undef, undef, undef, undef, undef, undef, undef, undef, undef, undef, undef, undef, undef, undef, undef, undef, undef, undef, undef, undef, undef, undef, undef, undef, undef, undef, undef, undef, undef, undef, undef, undef, undef, undef, undef, undef, undef, undef, undef, undef] rfl ?_
  repeat' (first | (refine g_callf 88 ?_; refine ow_call Tryd.call88 rfl ((takeT_calls _ _ _ _ _ _ 256 256 rfl (by omega) hs hA).mono ?_); clear hA; (try clear w); rintro e w ⟨rfl, hA⟩; refine ⟨_, rfl, ?_⟩; refine rn ?_) | refine st ?_ | (refine wc_regionS 7 rfl ?_; refine wc_region ?_) | (refine su ?_; refine rn ?_) | (refine g_conv ?_; refine p_c hA ?_; refine rn ?_) | (refine g_load ?_; (first | refine t_loadx rfl hA ?_ | refine t_loada rfl hA ?_); refine rn ?_) | (refine g_call ?_; refine t_appx rfl rfl hA rfl ?_; clear hA; (try clear w); intro v w hA hone hnil; refine h_n hA ?_; clear hA; intro hA; refine rn ?_) | (refine g_store ?_; (first | refine t_storex rfl rfl hA ?_ | refine t_storea rfl rfl hA ?_); clear hA; (try clear w); intro w hA; refine h_m hA ?_; clear hA; intro hA; refine rn ?_) | (refine g_ow ?_; (first | refine t_alloc hA ?_ | refine ow_box rfl rfl hA ?_ | refine t_buildSlice rfl (by decide) rfl hA ?_); clear hA; (try clear w); intro b w hA; refine h_n hA ?_; clear hA; intro hA; refine rn ?_) | (refine g_ow ?_; refine t_make rfl rfl (by omega) (by omega) hA ?_; clear hA; (try clear w); intro v w hA hone hnil; refine rn ?_) | refine wc_pp rfl (fun h => ?_) (fun h => ?_) | refine wc_nn rfl (fun h => ?_) (fun h => ?_) | refine rl_pp rfl (fun h => o_n ?_) (fun h => rn ?_) | refine rl_qq rfl (fun h => o_n ?_) (fun h => rn ?_) | refine rl_nn rfl (fun h => o_n ?_) (fun h => rn ?_) | refine rl_mm rfl (fun h => o_n ?_) (fun h => rn ?_))
  generalize (tk 256 (strm s) p).1 = a at *
  by_cases h240 : a < 240
  · rw [ns h240]
    clear ns ng
    unfold smallI
    by_cases hodd : a % 2 = 1
    · rw [if_pos hodd]
      dsimp only
      generalize hn : (((a + 1) / 2 : Nat) : Int) = n
      have hnr : -128 ≤ n ∧ n ≤ 128 := by omega
      refine wc_region ?_
      refine' rl_v hA ?o7xa_0 ?k7xa_0
      case o7xa_0 => intro w hA; first | (refine ow_remp rfl rfl (by omega) ?_; exact ⟨pe, hA⟩) | (refine ow_move_v rfl ?_; exact ⟨pe, hA⟩)
      case' k7xa_0 => clear hA; intro w hA; refine rn ?_
      refine' rl_v hA ?o7xa_1 ?k7xa_1
      case o7xa_1 => intro w hA; first | (refine ow_remp rfl rfl (by omega) ?_; exact ⟨pe, hA⟩) | (refine ow_lss rfl rfl ?_; exact ⟨pe, hA⟩)
      case' k7xa_1 => clear hA; intro w hA; refine rn ?_
      refine' rl_v hA ?o7xa_2 ?k7xa_2
      case o7xa_2 => intro w hA; first | (refine ow_remp rfl rfl (by omega) ?_; exact ⟨pe, hA⟩) | (refine ow_move_v rfl ?_; exact ⟨pe, hA⟩)
      case' k7xa_2 => clear hA; intro w hA; refine rn ?_
      first | refine' rl_T rfl hA ?o7xa_3 ?k7xa_3 | refine' rl_Tn rfl hA ?o7xa_3 ?k7xa_3
      case o7xa_3 => intro hg w hA; first | (refine ow_remp opr opr (by omega) ?_; exact ⟨pe, hA⟩) | (refine ow_move_v opr ?_; exact ⟨pe, hA⟩)
      case' k7xa_3 => clear hA; intro w hA; refine rn ?_
      first | refine' rl_T rfl hA ?o7xa_4 ?k7xa_4 | refine' rl_Tn rfl hA ?o7xa_4 ?k7xa_4
      case o7xa_4 => intro hg w hA; first | (refine ow_remp opr opr (by omega) ?_; exact ⟨pe, hA⟩) | (refine ow_remp opr opr (by omega) ?_; exact ⟨pe, hA⟩)
      case' k7xa_4 => clear hA; intro w hA; refine rn ?_
      first | refine' rl_T rfl hA ?o7xa_5 ?k7xa_5 | refine' rl_Tn rfl hA ?o7xa_5 ?k7xa_5
      case o7xa_5 => intro hg w hA; first | (refine ow_remp opr opr (by omega) ?_; exact ⟨pe, hA⟩) | (refine ow_eql opr opr ?_; exact ⟨pe, hA⟩) | (refine ow_eqs opr opr ?_; exact ⟨pe, hA⟩) | (refine t_eqlb opr opr ?_; exact ⟨pe, hA⟩)
      case' k7xa_5 => clear hA; intro w hA; refine rn ?_
      refine' rl_v hA ?o7xa_6 ?k7xa_6
      case o7xa_6 => intro w hA; first | (refine ow_remp rfl rfl (by omega) ?_; exact ⟨pe, hA⟩) | (refine ow_and rfl (by first | rfl) rfl ?_; exact ⟨pe, hA⟩) | (refine ow_pick rfl rfl rfl ?_; exact ⟨pe, hA⟩)
      case' k7xa_6 => clear hA; intro w hA; refine rn ?_
      refine' rl_v hA ?o7xa_7 ?k7xa_7
      case o7xa_7 => intro w hA; first | (refine ow_remp rfl rfl (by omega) ?_; exact ⟨pe, hA⟩) | (refine ow_assign_v rfl ?_; exact ⟨pe, hA⟩)
      case' k7xa_7 => clear hA; intro w hA; refine rn ?_
      refine rl_nil ?_
      refine tq_normal ?_
      refine wc_bb rfl (fun h => ?_) (fun h => ?_)
      · clear h
        by_cases hb : n < -(most : Int) ∨ (most : Int) < n
        · rw [if_pos hb]
          repeat' (first | (refine g_bin ?_; refine ow_quo64 rfl rfl (by omega) ?_; refine rn ?_) | (refine g_ow ?_; refine ow_unary64 rfl (by omega) ?_; refine rn ?_) | (refine g_bin ?_; refine ow_remp rfl rfl (by omega) ?_; refine rn ?_) | refine st ?_ | (refine wc_regionS 11 rfl ?_; refine wc_region ?_) | (refine su ?_; refine rn ?_) | (refine g_conv ?_; refine p_c hA ?_; refine rn ?_) | (refine g_load ?_; (first | refine t_loadx rfl hA ?_ | refine t_loada rfl hA ?_); refine rn ?_) | (refine g_call ?_; refine t_appx rfl rfl hA rfl ?_; clear hA; (try clear w); intro v w hA hone hnil; refine h_n hA ?_; clear hA; intro hA; refine rn ?_) | (refine g_store ?_; (first | refine t_storex rfl rfl hA ?_ | refine t_storea rfl rfl hA ?_); clear hA; (try clear w); intro w hA; refine h_m hA ?_; clear hA; intro hA; refine rn ?_) | (refine g_ow ?_; (first | refine t_alloc hA ?_ | refine ow_box rfl rfl hA ?_ | refine t_buildSlice rfl (by decide) rfl hA ?_); clear hA; (try clear w); intro b w hA; refine h_n hA ?_; clear hA; intro hA; refine rn ?_) | (refine g_ow ?_; refine t_make rfl rfl (by omega) (by omega) hA ?_; clear hA; (try clear w); intro v w hA hone hnil; refine rn ?_) | refine wc_pp rfl (fun h => ?_) (fun h => ?_) | refine wc_nn rfl (fun h => ?_) (fun h => ?_) | refine rl_pp rfl (fun h => o_n ?_) (fun h => rn ?_) | refine rl_qq rfl (fun h => o_n ?_) (fun h => rn ?_) | refine rl_nn rfl (fun h => o_n ?_) (fun h => rn ?_) | refine rl_mm rfl (fun h => o_n ?_) (fun h => rn ?_))
          rw [show ((a : Int) + 1) / 2 = n by omega]
          refine wc_region ?_
          refine' rl_v hA ?o11xap_0 ?k11xap_0
          case o11xap_0 => intro w hA; first | (refine ow_unary64 rfl (by omega) ?_; exact ⟨pe, hA⟩) | (refine ow_move_v rfl ?_; exact ⟨pe, hA⟩)
          case' k11xap_0 => clear hA; intro w hA; refine rn ?_
          refine' rl_v hA ?o11xap_1 ?k11xap_1
          case o11xap_1 => intro w hA; first | (refine ow_unary64 rfl (by omega) ?_; exact ⟨pe, hA⟩) | (refine ow_move_v rfl ?_; exact ⟨pe, hA⟩)
          case' k11xap_1 => clear hA; intro w hA; refine rn ?_
          refine' rl_v hA ?o11xap_2 ?k11xap_2
          case o11xap_2 => intro w hA; first | (refine ow_unary64 rfl (by omega) ?_; exact ⟨pe, hA⟩) | (refine ow_not rfl ?_; exact ⟨pe, hA⟩) | (refine ow_neg rfl ?_; exact ⟨pe, hA⟩)
          case' k11xap_2 => clear hA; intro w hA; refine rn ?_
          refine' rl_v hA ?o11xap_3 ?k11xap_3
          case o11xap_3 => intro w hA; first | (refine ow_unary64 rfl (by omega) ?_; exact ⟨pe, hA⟩) | (refine ow_lss rfl rfl ?_; exact ⟨pe, hA⟩)
          case' k11xap_3 => clear hA; intro w hA; refine rn ?_
          refine' rl_v hA ?o11xap_4 ?k11xap_4
          case o11xap_4 => intro w hA; first | (refine ow_unary64 rfl (by omega) ?_; exact ⟨pe, hA⟩) | (refine ow_move_v rfl ?_; exact ⟨pe, hA⟩)
          case' k11xap_4 => clear hA; intro w hA; refine rn ?_
          first | refine' rl_F rfl hA ?o11xap_5 ?k11xap_5 | refine' rl_Fn rfl hA ?o11xap_5 ?k11xap_5
          case o11xap_5 => intro hg w hA; first | (refine ow_unary64 opr (by omega) ?_; exact ⟨pe, hA⟩) | (refine ow_move_v opr ?_; exact ⟨pe, hA⟩)
          case' k11xap_5 => clear hA; intro w hA; refine rn ?_
          first | refine' rl_F rfl hA ?o11xap_6 ?k11xap_6 | refine' rl_Fn rfl hA ?o11xap_6 ?k11xap_6
          case o11xap_6 => intro hg w hA; first | (refine ow_unary64 opr (by omega) ?_; exact ⟨pe, hA⟩) | (refine ow_move_v opr ?_; exact ⟨pe, hA⟩)
          case' k11xap_6 => clear hA; intro w hA; refine rn ?_
          first | refine' rl_F rfl hA ?o11xap_7 ?k11xap_7 | refine' rl_Fn rfl hA ?o11xap_7 ?k11xap_7
          case o11xap_7 => intro hg w hA; first | (refine ow_unary64 opr (by omega) ?_; exact ⟨pe, hA⟩) | (refine ow_gtr opr opr ?_; exact ⟨pe, hA⟩)
          case' k11xap_7 => clear hA; intro w hA; refine rn ?_
          refine' rl_v hA ?o11xap_8 ?k11xap_8
          case o11xap_8 => intro w hA; first | (refine ow_unary64 rfl (by omega) ?_; exact ⟨pe, hA⟩) | (refine ow_or rfl rfl (by first | rfl) ?_; exact ⟨pe, hA⟩) | (refine ow_pick rfl rfl rfl ?_; exact ⟨pe, hA⟩)
          case' k11xap_8 => clear hA; intro w hA; refine rn ?_
          refine rl_nil ?_
          refine tq_normal ?_
          refine wc_bb rfl (fun h => ?_) (fun h => ?_)
          · repeat' (first | refine st ?_ | (refine wc_region ?_) | (refine su ?_; refine rn ?_) | (refine g_conv ?_; refine p_c hA ?_; refine rn ?_) | (refine g_load ?_; (first | refine t_loadx rfl hA ?_ | refine t_loada rfl hA ?_); refine rn ?_) | (refine g_call ?_; refine t_appx rfl rfl hA rfl ?_; clear hA; (try clear w); intro v w hA hone hnil; refine h_n hA ?_; clear hA; intro hA; refine rn ?_) | (refine g_store ?_; (first | refine t_storex rfl rfl hA ?_ | refine t_storea rfl rfl hA ?_); clear hA; (try clear w); intro w hA; refine h_m hA ?_; clear hA; intro hA; refine rn ?_) | (refine g_ow ?_; (first | refine t_alloc hA ?_ | refine ow_box rfl rfl hA ?_ | refine t_buildSlice rfl (by decide) rfl hA ?_); clear hA; (try clear w); intro b w hA; refine h_n hA ?_; clear hA; intro hA; refine rn ?_) | (refine g_ow ?_; refine t_make rfl rfl (by omega) (by omega) hA ?_; clear hA; (try clear w); intro v w hA hone hnil; refine rn ?_) | refine wc_pp rfl (fun h => ?_) (fun h => ?_) | refine wc_nn rfl (fun h => ?_) (fun h => ?_) | refine rl_pp rfl (fun h => o_n ?_) (fun h => rn ?_) | refine rl_qq rfl (fun h => o_n ?_) (fun h => rn ?_) | refine rl_nn rfl (fun h => o_n ?_) (fun h => rn ?_) | refine rl_mm rfl (fun h => o_n ?_) (fun h => rn ?_))
            exact fp_ret (res1 rfl rfl) ⟨rfl, hA⟩
          · simp only [Bool.or_eq_false_iff, decide_eq_false_iff_not] at h
            omega
        · rw [if_neg hb]
          repeat' (first | (refine g_bin ?_; refine ow_quo64 rfl rfl (by omega) ?_; refine rn ?_) | (refine g_ow ?_; refine ow_unary64 rfl (by omega) ?_; refine rn ?_) | (refine g_bin ?_; refine ow_remp rfl rfl (by omega) ?_; refine rn ?_) | refine st ?_ | (refine wc_regionS 11 rfl ?_; refine wc_region ?_) | (refine su ?_; refine rn ?_) | (refine g_conv ?_; refine p_c hA ?_; refine rn ?_) | (refine g_load ?_; (first | refine t_loadx rfl hA ?_ | refine t_loada rfl hA ?_); refine rn ?_) | (refine g_call ?_; refine t_appx rfl rfl hA rfl ?_; clear hA; (try clear w); intro v w hA hone hnil; refine h_n hA ?_; clear hA; intro hA; refine rn ?_) | (refine g_store ?_; (first | refine t_storex rfl rfl hA ?_ | refine t_storea rfl rfl hA ?_); clear hA; (try clear w); intro w hA; refine h_m hA ?_; clear hA; intro hA; refine rn ?_) | (refine g_ow ?_; (first | refine t_alloc hA ?_ | refine ow_box rfl rfl hA ?_ | refine t_buildSlice rfl (by decide) rfl hA ?_); clear hA; (try clear w); intro b w hA; refine h_n hA ?_; clear hA; intro hA; refine rn ?_) | (refine g_ow ?_; refine t_make rfl rfl (by omega) (by omega) hA ?_; clear hA; (try clear w); intro v w hA hone hnil; refine rn ?_) | refine wc_pp rfl (fun h => ?_) (fun h => ?_) | refine wc_nn rfl (fun h => ?_) (fun h => ?_) | refine rl_pp rfl (fun h => o_n ?_) (fun h => rn ?_) | refine rl_qq rfl (fun h => o_n ?_) (fun h => rn ?_) | refine rl_nn rfl (fun h => o_n ?_) (fun h => rn ?_) | refine rl_mm rfl (fun h => o_n ?_) (fun h => rn ?_))
          rw [show ((a : Int) + 1) / 2 = n by omega]
          refine wc_region ?_
          refine' rl_v hA ?o11xaq_0 ?k11xaq_0
          case o11xaq_0 => intro w hA; first | (refine ow_unary64 rfl (by omega) ?_; exact ⟨pe, hA⟩) | (refine ow_move_v rfl ?_; exact ⟨pe, hA⟩)
          case' k11xaq_0 => clear hA; intro w hA; refine rn ?_
          refine' rl_v hA ?o11xaq_1 ?k11xaq_1
          case o11xaq_1 => intro w hA; first | (refine ow_unary64 rfl (by omega) ?_; exact ⟨pe, hA⟩) | (refine ow_move_v rfl ?_; exact ⟨pe, hA⟩)
          case' k11xaq_1 => clear hA; intro w hA; refine rn ?_
          refine' rl_v hA ?o11xaq_2 ?k11xaq_2
          case o11xaq_2 => intro w hA; first | (refine ow_unary64 rfl (by omega) ?_; exact ⟨pe, hA⟩) | (refine ow_not rfl ?_; exact ⟨pe, hA⟩) | (refine ow_neg rfl ?_; exact ⟨pe, hA⟩)
          case' k11xaq_2 => clear hA; intro w hA; refine rn ?_
          refine' rl_v hA ?o11xaq_3 ?k11xaq_3
          case o11xaq_3 => intro w hA; first | (refine ow_unary64 rfl (by omega) ?_; exact ⟨pe, hA⟩) | (refine ow_lss rfl rfl ?_; exact ⟨pe, hA⟩)
          case' k11xaq_3 => clear hA; intro w hA; refine rn ?_
          refine' rl_v hA ?o11xaq_4 ?k11xaq_4
          case o11xaq_4 => intro w hA; first | (refine ow_unary64 rfl (by omega) ?_; exact ⟨pe, hA⟩) | (refine ow_move_v rfl ?_; exact ⟨pe, hA⟩)
          case' k11xaq_4 => clear hA; intro w hA; refine rn ?_
          first | refine' rl_F rfl hA ?o11xaq_5 ?k11xaq_5 | refine' rl_Fn rfl hA ?o11xaq_5 ?k11xaq_5
          case o11xaq_5 => intro hg w hA; first | (refine ow_unary64 opr (by omega) ?_; exact ⟨pe, hA⟩) | (refine ow_move_v opr ?_; exact ⟨pe, hA⟩)
          case' k11xaq_5 => clear hA; intro w hA; refine rn ?_
          first | refine' rl_F rfl hA ?o11xaq_6 ?k11xaq_6 | refine' rl_Fn rfl hA ?o11xaq_6 ?k11xaq_6
          case o11xaq_6 => intro hg w hA; first | (refine ow_unary64 opr (by omega) ?_; exact ⟨pe, hA⟩) | (refine ow_move_v opr ?_; exact ⟨pe, hA⟩)
          case' k11xaq_6 => clear hA; intro w hA; refine rn ?_
          first | refine' rl_F rfl hA ?o11xaq_7 ?k11xaq_7 | refine' rl_Fn rfl hA ?o11xaq_7 ?k11xaq_7
          case o11xaq_7 => intro hg w hA; first | (refine ow_unary64 opr (by omega) ?_; exact ⟨pe, hA⟩) | (refine ow_gtr opr opr ?_; exact ⟨pe, hA⟩)
          case' k11xaq_7 => clear hA; intro w hA; refine rn ?_
          refine' rl_v hA ?o11xaq_8 ?k11xaq_8
          case o11xaq_8 => intro w hA; first | (refine ow_unary64 rfl (by omega) ?_; exact ⟨pe, hA⟩) | (refine ow_or rfl rfl (by first | rfl) ?_; exact ⟨pe, hA⟩) | (refine ow_pick rfl rfl rfl ?_; exact ⟨pe, hA⟩)
          case' k11xaq_8 => clear hA; intro w hA; refine rn ?_
          refine rl_nil ?_
          refine tq_normal ?_
          refine wc_bb rfl (fun h => ?_) (fun h => ?_)
          · simp only [Bool.or_eq_true, decide_eq_true_eq] at h
            omega
          · repeat' (first | refine st ?_ | (refine wc_region ?_) | (refine su ?_; refine rn ?_) | (refine g_conv ?_; refine p_c hA ?_; refine rn ?_) | (refine g_load ?_; (first | refine t_loadx rfl hA ?_ | refine t_loada rfl hA ?_); refine rn ?_) | (refine g_call ?_; refine t_appx rfl rfl hA rfl ?_; clear hA; (try clear w); intro v w hA hone hnil; refine h_n hA ?_; clear hA; intro hA; refine rn ?_) | (refine g_store ?_; (first | refine t_storex rfl rfl hA ?_ | refine t_storea rfl rfl hA ?_); clear hA; (try clear w); intro w hA; refine h_m hA ?_; clear hA; intro hA; refine rn ?_) | (refine g_ow ?_; (first | refine t_alloc hA ?_ | refine ow_box rfl rfl hA ?_ | refine t_buildSlice rfl (by decide) rfl hA ?_); clear hA; (try clear w); intro b w hA; refine h_n hA ?_; clear hA; intro hA; refine rn ?_) | (refine g_ow ?_; refine t_make rfl rfl (by omega) (by omega) hA ?_; clear hA; (try clear w); intro v w hA hone hnil; refine rn ?_) | refine wc_pp rfl (fun h => ?_) (fun h => ?_) | refine wc_nn rfl (fun h => ?_) (fun h => ?_) | refine rl_pp rfl (fun h => o_n ?_) (fun h => rn ?_) | refine rl_qq rfl (fun h => o_n ?_) (fun h => rn ?_) | refine rl_nn rfl (fun h => o_n ?_) (fun h => rn ?_) | refine rl_mm rfl (fun h => o_n ?_) (fun h => rn ?_))
            exact fp_ret (res1 rfl rfl) ⟨rfl, hA⟩
      · simp only [Bool.and_eq_false_iff, decide_eq_false_iff_not] at h
        omega
    · rw [if_neg hodd]
      dsimp only
      generalize hn : -((a / 2 : Nat) : Int) = n
      have hnr : -128 ≤ n ∧ n ≤ 128 := by omega
      refine wc_region ?_
      refine' rl_v hA ?o7xb_0 ?k7xb_0
      case o7xb_0 => intro w hA; first | (refine ow_remp rfl rfl (by omega) ?_; exact ⟨pe, hA⟩) | (refine ow_move_v rfl ?_; exact ⟨pe, hA⟩)
      case' k7xb_0 => clear hA; intro w hA; refine rn ?_
      refine' rl_v hA ?o7xb_1 ?k7xb_1
      case o7xb_1 => intro w hA; first | (refine ow_remp rfl rfl (by omega) ?_; exact ⟨pe, hA⟩) | (refine ow_lss rfl rfl ?_; exact ⟨pe, hA⟩)
      case' k7xb_1 => clear hA; intro w hA; refine rn ?_
      refine' rl_v hA ?o7xb_2 ?k7xb_2
      case o7xb_2 => intro w hA; first | (refine ow_remp rfl rfl (by omega) ?_; exact ⟨pe, hA⟩) | (refine ow_move_v rfl ?_; exact ⟨pe, hA⟩)
      case' k7xb_2 => clear hA; intro w hA; refine rn ?_
      first | refine' rl_T rfl hA ?o7xb_3 ?k7xb_3 | refine' rl_Tn rfl hA ?o7xb_3 ?k7xb_3
      case o7xb_3 => intro hg w hA; first | (refine ow_remp opr opr (by omega) ?_; exact ⟨pe, hA⟩) | (refine ow_move_v opr ?_; exact ⟨pe, hA⟩)
      case' k7xb_3 => clear hA; intro w hA; refine rn ?_
      first | refine' rl_T rfl hA ?o7xb_4 ?k7xb_4 | refine' rl_Tn rfl hA ?o7xb_4 ?k7xb_4
      case o7xb_4 => intro hg w hA; first | (refine ow_remp opr opr (by omega) ?_; exact ⟨pe, hA⟩) | (refine ow_remp opr opr (by omega) ?_; exact ⟨pe, hA⟩)
      case' k7xb_4 => clear hA; intro w hA; refine rn ?_
      first | refine' rl_T rfl hA ?o7xb_5 ?k7xb_5 | refine' rl_Tn rfl hA ?o7xb_5 ?k7xb_5
      case o7xb_5 => intro hg w hA; first | (refine ow_remp opr opr (by omega) ?_; exact ⟨pe, hA⟩) | (refine ow_eql opr opr ?_; exact ⟨pe, hA⟩) | (refine ow_eqs opr opr ?_; exact ⟨pe, hA⟩) | (refine t_eqlb opr opr ?_; exact ⟨pe, hA⟩)
      case' k7xb_5 => clear hA; intro w hA; refine rn ?_
      refine' rl_v hA ?o7xb_6 ?k7xb_6
      case o7xb_6 => intro w hA; first | (refine ow_remp rfl rfl (by omega) ?_; exact ⟨pe, hA⟩) | (refine ow_and rfl (by first | rfl) rfl ?_; exact ⟨pe, hA⟩) | (refine ow_pick rfl rfl rfl ?_; exact ⟨pe, hA⟩)
      case' k7xb_6 => clear hA; intro w hA; refine rn ?_
      refine' rl_v hA ?o7xb_7 ?k7xb_7
      case o7xb_7 => intro w hA; first | (refine ow_remp rfl rfl (by omega) ?_; exact ⟨pe, hA⟩) | (refine ow_assign_v rfl ?_; exact ⟨pe, hA⟩)
      case' k7xb_7 => clear hA; intro w hA; refine rn ?_
      refine rl_nil ?_
      refine tq_normal ?_
      refine wc_bb rfl (fun h => ?_) (fun h => ?_)
      · simp only [Bool.and_eq_true, decide_eq_true_eq] at h
        omega
      · clear h
        by_cases hb : n < -(most : Int) ∨ (most : Int) < n
        · rw [if_pos hb]
          repeat' (first | (refine g_bin ?_; refine ow_quo64 rfl rfl (by omega) ?_; refine rn ?_) | (refine g_ow ?_; refine ow_unary64 rfl (by omega) ?_; refine rn ?_) | (refine g_bin ?_; refine ow_remp rfl rfl (by omega) ?_; refine rn ?_) | refine st ?_ | (refine wc_regionS 11 rfl ?_; refine wc_region ?_) | (refine su ?_; refine rn ?_) | (refine g_conv ?_; refine p_c hA ?_; refine rn ?_) | (refine g_load ?_; (first | refine t_loadx rfl hA ?_ | refine t_loada rfl hA ?_); refine rn ?_) | (refine g_call ?_; refine t_appx rfl rfl hA rfl ?_; clear hA; (try clear w); intro v w hA hone hnil; refine h_n hA ?_; clear hA; intro hA; refine rn ?_) | (refine g_store ?_; (first | refine t_storex rfl rfl hA ?_ | refine t_storea rfl rfl hA ?_); clear hA; (try clear w); intro w hA; refine h_m hA ?_; clear hA; intro hA; refine rn ?_) | (refine g_ow ?_; (first | refine t_alloc hA ?_ | refine ow_box rfl rfl hA ?_ | refine t_buildSlice rfl (by decide) rfl hA ?_); clear hA; (try clear w); intro b w hA; refine h_n hA ?_; clear hA; intro hA; refine rn ?_) | (refine g_ow ?_; refine t_make rfl rfl (by omega) (by omega) hA ?_; clear hA; (try clear w); intro v w hA hone hnil; refine rn ?_) | refine wc_pp rfl (fun h => ?_) (fun h => ?_) | refine wc_nn rfl (fun h => ?_) (fun h => ?_) | refine rl_pp rfl (fun h => o_n ?_) (fun h => rn ?_) | refine rl_qq rfl (fun h => o_n ?_) (fun h => rn ?_) | refine rl_nn rfl (fun h => o_n ?_) (fun h => rn ?_) | refine rl_mm rfl (fun h => o_n ?_) (fun h => rn ?_))
          rw [show -((a : Int) / 2) = n by omega]
          refine wc_region ?_
          refine' rl_v hA ?o11xbp_0 ?k11xbp_0
          case o11xbp_0 => intro w hA; first | (refine ow_unary64 rfl (by omega) ?_; exact ⟨pe, hA⟩) | (refine ow_move_v rfl ?_; exact ⟨pe, hA⟩)
          case' k11xbp_0 => clear hA; intro w hA; refine rn ?_
          refine' rl_v hA ?o11xbp_1 ?k11xbp_1
          case o11xbp_1 => intro w hA; first | (refine ow_unary64 rfl (by omega) ?_; exact ⟨pe, hA⟩) | (refine ow_move_v rfl ?_; exact ⟨pe, hA⟩)
          case' k11xbp_1 => clear hA; intro w hA; refine rn ?_
          refine' rl_v hA ?o11xbp_2 ?k11xbp_2
          case o11xbp_2 => intro w hA; first | (refine ow_unary64 rfl (by omega) ?_; exact ⟨pe, hA⟩) | (refine ow_not rfl ?_; exact ⟨pe, hA⟩) | (refine ow_neg rfl ?_; exact ⟨pe, hA⟩)
          case' k11xbp_2 => clear hA; intro w hA; refine rn ?_
          refine' rl_v hA ?o11xbp_3 ?k11xbp_3
          case o11xbp_3 => intro w hA; first | (refine ow_unary64 rfl (by omega) ?_; exact ⟨pe, hA⟩) | (refine ow_lss rfl rfl ?_; exact ⟨pe, hA⟩)
          case' k11xbp_3 => clear hA; intro w hA; refine rn ?_
          refine' rl_v hA ?o11xbp_4 ?k11xbp_4
          case o11xbp_4 => intro w hA; first | (refine ow_unary64 rfl (by omega) ?_; exact ⟨pe, hA⟩) | (refine ow_move_v rfl ?_; exact ⟨pe, hA⟩)
          case' k11xbp_4 => clear hA; intro w hA; refine rn ?_
          first | refine' rl_F rfl hA ?o11xbp_5 ?k11xbp_5 | refine' rl_Fn rfl hA ?o11xbp_5 ?k11xbp_5
          case o11xbp_5 => intro hg w hA; first | (refine ow_unary64 opr (by omega) ?_; exact ⟨pe, hA⟩) | (refine ow_move_v opr ?_; exact ⟨pe, hA⟩)
          case' k11xbp_5 => clear hA; intro w hA; refine rn ?_
          first | refine' rl_F rfl hA ?o11xbp_6 ?k11xbp_6 | refine' rl_Fn rfl hA ?o11xbp_6 ?k11xbp_6
          case o11xbp_6 => intro hg w hA; first | (refine ow_unary64 opr (by omega) ?_; exact ⟨pe, hA⟩) | (refine ow_move_v opr ?_; exact ⟨pe, hA⟩)
          case' k11xbp_6 => clear hA; intro w hA; refine rn ?_
          first | refine' rl_F rfl hA ?o11xbp_7 ?k11xbp_7 | refine' rl_Fn rfl hA ?o11xbp_7 ?k11xbp_7
          case o11xbp_7 => intro hg w hA; first | (refine ow_unary64 opr (by omega) ?_; exact ⟨pe, hA⟩) | (refine ow_gtr opr opr ?_; exact ⟨pe, hA⟩)
          case' k11xbp_7 => clear hA; intro w hA; refine rn ?_
          refine' rl_v hA ?o11xbp_8 ?k11xbp_8
          case o11xbp_8 => intro w hA; first | (refine ow_unary64 rfl (by omega) ?_; exact ⟨pe, hA⟩) | (refine ow_or rfl rfl (by first | rfl) ?_; exact ⟨pe, hA⟩) | (refine ow_pick rfl rfl rfl ?_; exact ⟨pe, hA⟩)
          case' k11xbp_8 => clear hA; intro w hA; refine rn ?_
          refine rl_nil ?_
          refine tq_normal ?_
          refine wc_bb rfl (fun h => ?_) (fun h => ?_)
          · repeat' (first | refine st ?_ | (refine wc_region ?_) | (refine su ?_; refine rn ?_) | (refine g_conv ?_; refine p_c hA ?_; refine rn ?_) | (refine g_load ?_; (first | refine t_loadx rfl hA ?_ | refine t_loada rfl hA ?_); refine rn ?_) | (refine g_call ?_; refine t_appx rfl rfl hA rfl ?_; clear hA; (try clear w); intro v w hA hone hnil; refine h_n hA ?_; clear hA; intro hA; refine rn ?_) | (refine g_store ?_; (first | refine t_storex rfl rfl hA ?_ | refine t_storea rfl rfl hA ?_); clear hA; (try clear w); intro w hA; refine h_m hA ?_; clear hA; intro hA; refine rn ?_) | (refine g_ow ?_; (first | refine t_alloc hA ?_ | refine ow_box rfl rfl hA ?_ | refine t_buildSlice rfl (by decide) rfl hA ?_); clear hA; (try clear w); intro b w hA; refine h_n hA ?_; clear hA; intro hA; refine rn ?_) | (refine g_ow ?_; refine t_make rfl rfl (by omega) (by omega) hA ?_; clear hA; (try clear w); intro v w hA hone hnil; refine rn ?_) | refine wc_pp rfl (fun h => ?_) (fun h => ?_) | refine wc_nn rfl (fun h => ?_) (fun h => ?_) | refine rl_pp rfl (fun h => o_n ?_) (fun h => rn ?_) | refine rl_qq rfl (fun h => o_n ?_) (fun h => rn ?_) | refine rl_nn rfl (fun h => o_n ?_) (fun h => rn ?_) | refine rl_mm rfl (fun h => o_n ?_) (fun h => rn ?_))
            exact fp_ret (res1 rfl rfl) ⟨rfl, hA⟩
          · simp only [Bool.or_eq_false_iff, decide_eq_false_iff_not] at h
            omega
        · rw [if_neg hb]
          repeat' (first | (refine g_bin ?_; refine ow_quo64 rfl rfl (by omega) ?_; refine rn ?_) | (refine g_ow ?_; refine ow_unary64 rfl (by omega) ?_; refine rn ?_) | (refine g_bin ?_; refine ow_remp rfl rfl (by omega) ?_; refine rn ?_) | refine st ?_ | (refine wc_regionS 11 rfl ?_; refine wc_region ?_) | (refine su ?_; refine rn ?_) | (refine g_conv ?_; refine p_c hA ?_; refine rn ?_) | (refine g_load ?_; (first | refine t_loadx rfl hA ?_ | refine t_loada rfl hA ?_); refine rn ?_) | (refine g_call ?_; refine t_appx rfl rfl hA rfl ?_; clear hA; (try clear w); intro v w hA hone hnil; refine h_n hA ?_; clear hA; intro hA; refine rn ?_) | (refine g_store ?_; (first | refine t_storex rfl rfl hA ?_ | refine t_storea rfl rfl hA ?_); clear hA; (try clear w); intro w hA; refine h_m hA ?_; clear hA; intro hA; refine rn ?_) | (refine g_ow ?_; (first | refine t_alloc hA ?_ | refine ow_box rfl rfl hA ?_ | refine t_buildSlice rfl (by decide) rfl hA ?_); clear hA; (try clear w); intro b w hA; refine h_n hA ?_; clear hA; intro hA; refine rn ?_) | (refine g_ow ?_; refine t_make rfl rfl (by omega) (by omega) hA ?_; clear hA; (try clear w); intro v w hA hone hnil; refine rn ?_) | refine wc_pp rfl (fun h => ?_) (fun h => ?_) | refine wc_nn rfl (fun h => ?_) (fun h => ?_) | refine rl_pp rfl (fun h => o_n ?_) (fun h => rn ?_) | refine rl_qq rfl (fun h => o_n ?_) (fun h => rn ?_) | refine rl_nn rfl (fun h => o_n ?_) (fun h => rn ?_) | refine rl_mm rfl (fun h => o_n ?_) (fun h => rn ?_))
          rw [show -((a : Int) / 2) = n by omega]
          refine wc_region ?_
          refine' rl_v hA ?o11xbq_0 ?k11xbq_0
          case o11xbq_0 => intro w hA; first | (refine ow_unary64 rfl (by omega) ?_; exact ⟨pe, hA⟩) | (refine ow_move_v rfl ?_; exact ⟨pe, hA⟩)
          case' k11xbq_0 => clear hA; intro w hA; refine rn ?_
          refine' rl_v hA ?o11xbq_1 ?k11xbq_1
          case o11xbq_1 => intro w hA; first | (refine ow_unary64 rfl (by omega) ?_; exact ⟨pe, hA⟩) | (refine ow_move_v rfl ?_; exact ⟨pe, hA⟩)
          case' k11xbq_1 => clear hA; intro w hA; refine rn ?_
          refine' rl_v hA ?o11xbq_2 ?k11xbq_2
          case o11xbq_2 => intro w hA; first | (refine ow_unary64 rfl (by omega) ?_; exact ⟨pe, hA⟩) | (refine ow_not rfl ?_; exact ⟨pe, hA⟩) | (refine ow_neg rfl ?_; exact ⟨pe, hA⟩)
          case' k11xbq_2 => clear hA; intro w hA; refine rn ?_
          refine' rl_v hA ?o11xbq_3 ?k11xbq_3
          case o11xbq_3 => intro w hA; first | (refine ow_unary64 rfl (by omega) ?_; exact ⟨pe, hA⟩) | (refine ow_lss rfl rfl ?_; exact ⟨pe, hA⟩)
          case' k11xbq_3 => clear hA; intro w hA; refine rn ?_
          refine' rl_v hA ?o11xbq_4 ?k11xbq_4
          case o11xbq_4 => intro w hA; first | (refine ow_unary64 rfl (by omega) ?_; exact ⟨pe, hA⟩) | (refine ow_move_v rfl ?_; exact ⟨pe, hA⟩)
          case' k11xbq_4 => clear hA; intro w hA; refine rn ?_
          first | refine' rl_F rfl hA ?o11xbq_5 ?k11xbq_5 | refine' rl_Fn rfl hA ?o11xbq_5 ?k11xbq_5
          case o11xbq_5 => intro hg w hA; first | (refine ow_unary64 opr (by omega) ?_; exact ⟨pe, hA⟩) | (refine ow_move_v opr ?_; exact ⟨pe, hA⟩)
          case' k11xbq_5 => clear hA; intro w hA; refine rn ?_
          first | refine' rl_F rfl hA ?o11xbq_6 ?k11xbq_6 | refine' rl_Fn rfl hA ?o11xbq_6 ?k11xbq_6
          case o11xbq_6 => intro hg w hA; first | (refine ow_unary64 opr (by omega) ?_; exact ⟨pe, hA⟩) | (refine ow_move_v opr ?_; exact ⟨pe, hA⟩)
          case' k11xbq_6 => clear hA; intro w hA; refine rn ?_
          first | refine' rl_F rfl hA ?o11xbq_7 ?k11xbq_7 | refine' rl_Fn rfl hA ?o11xbq_7 ?k11xbq_7
          case o11xbq_7 => intro hg w hA; first | (refine ow_unary64 opr (by omega) ?_; exact ⟨pe, hA⟩) | (refine ow_gtr opr opr ?_; exact ⟨pe, hA⟩)
          case' k11xbq_7 => clear hA; intro w hA; refine rn ?_
          refine' rl_v hA ?o11xbq_8 ?k11xbq_8
          case o11xbq_8 => intro w hA; first | (refine ow_unary64 rfl (by omega) ?_; exact ⟨pe, hA⟩) | (refine ow_or rfl rfl (by first | rfl) ?_; exact ⟨pe, hA⟩) | (refine ow_pick rfl rfl rfl ?_; exact ⟨pe, hA⟩)
          case' k11xbq_8 => clear hA; intro w hA; refine rn ?_
          refine rl_nil ?_
          refine tq_normal ?_
          refine wc_bb rfl (fun h => ?_) (fun h => ?_)
          · simp only [Bool.or_eq_true, decide_eq_true_eq] at h
            omega
          · repeat' (first | refine st ?_ | (refine wc_region ?_) | (refine su ?_; refine rn ?_) | (refine g_conv ?_; refine p_c hA ?_; refine rn ?_) | (refine g_load ?_; (first | refine t_loadx rfl hA ?_ | refine t_loada rfl hA ?_); refine rn ?_) | (refine g_call ?_; refine t_appx rfl rfl hA rfl ?_; clear hA; (try clear w); intro v w hA hone hnil; refine h_n hA ?_; clear hA; intro hA; refine rn ?_) | (refine g_store ?_; (first | refine t_storex rfl rfl hA ?_ | refine t_storea rfl rfl hA ?_); clear hA; (try clear w); intro w hA; refine h_m hA ?_; clear hA; intro hA; refine rn ?_) | (refine g_ow ?_; (first | refine t_alloc hA ?_ | refine ow_box rfl rfl hA ?_ | refine t_buildSlice rfl (by decide) rfl hA ?_); clear hA; (try clear w); intro b w hA; refine h_n hA ?_; clear hA; intro hA; refine rn ?_) | (refine g_ow ?_; refine t_make rfl rfl (by omega) (by omega) hA ?_; clear hA; (try clear w); intro v w hA hone hnil; refine rn ?_) | refine wc_pp rfl (fun h => ?_) (fun h => ?_) | refine wc_nn rfl (fun h => ?_) (fun h => ?_) | refine rl_pp rfl (fun h => o_n ?_) (fun h => rn ?_) | refine rl_qq rfl (fun h => o_n ?_) (fun h => rn ?_) | refine rl_nn rfl (fun h => o_n ?_) (fun h => rn ?_) | refine rl_mm rfl (fun h => o_n ?_) (fun h => rn ?_))
            exact fp_ret (res1 rfl rfl) ⟨rfl, hA⟩
  · rw [ng h240]
    clear ns ng
    unfold greatI
    dsimp only
    refine wc_region ?_
    refine' rl_v hA ?o7xc_0 ?k7xc_0
    case o7xc_0 => intro w hA; first | (refine ow_remp rfl rfl (by omega) ?_; exact ⟨pe, hA⟩) | (refine ow_move_v rfl ?_; exact ⟨pe, hA⟩)
    case' k7xc_0 => clear hA; intro w hA; refine rn ?_
    refine' rl_v hA ?o7xc_1 ?k7xc_1
    case o7xc_1 => intro w hA; first | (refine ow_remp rfl rfl (by omega) ?_; exact ⟨pe, hA⟩) | (refine ow_lss rfl rfl ?_; exact ⟨pe, hA⟩)
    case' k7xc_1 => clear hA; intro w hA; refine rn ?_
    refine' rl_v hA ?o7xc_2 ?k7xc_2
    case o7xc_2 => intro w hA; first | (refine ow_remp rfl rfl (by omega) ?_; exact ⟨pe, hA⟩) | (refine ow_move_v rfl ?_; exact ⟨pe, hA⟩)
    case' k7xc_2 => clear hA; intro w hA; refine rn ?_
    first | refine' rl_T rfl hA ?o7xc_3 ?k7xc_3 | refine' rl_Tn rfl hA ?o7xc_3 ?k7xc_3
    case o7xc_3 => intro hg w hA; first | (refine ow_remp opr opr (by omega) ?_; exact ⟨pe, hA⟩) | (refine ow_move_v opr ?_; exact ⟨pe, hA⟩)
    case' k7xc_3 => clear hA; intro w hA; refine rn ?_
    first | refine' rl_T rfl hA ?o7xc_4 ?k7xc_4 | refine' rl_Tn rfl hA ?o7xc_4 ?k7xc_4
    case o7xc_4 => intro hg w hA; first | (refine ow_remp opr opr (by omega) ?_; exact ⟨pe, hA⟩) | (refine ow_remp opr opr (by omega) ?_; exact ⟨pe, hA⟩)
    case' k7xc_4 => clear hA; intro w hA; refine rn ?_
    first | refine' rl_T rfl hA ?o7xc_5 ?k7xc_5 | refine' rl_Tn rfl hA ?o7xc_5 ?k7xc_5
    case o7xc_5 => intro hg w hA; first | (refine ow_remp opr opr (by omega) ?_; exact ⟨pe, hA⟩) | (refine ow_eql opr opr ?_; exact ⟨pe, hA⟩) | (refine ow_eqs opr opr ?_; exact ⟨pe, hA⟩) | (refine t_eqlb opr opr ?_; exact ⟨pe, hA⟩)
    case' k7xc_5 => clear hA; intro w hA; refine rn ?_
    refine' rl_v hA ?o7xc_6 ?k7xc_6
    case o7xc_6 => intro w hA; first | (refine ow_remp rfl rfl (by omega) ?_; exact ⟨pe, hA⟩) | (refine ow_and rfl (by first | rfl) rfl ?_; exact ⟨pe, hA⟩) | (refine ow_pick rfl rfl rfl ?_; exact ⟨pe, hA⟩)
    case' k7xc_6 => clear hA; intro w hA; refine rn ?_
    refine' rl_v hA ?o7xc_7 ?k7xc_7
    case o7xc_7 => intro w hA; first | (refine ow_remp rfl rfl (by omega) ?_; exact ⟨pe, hA⟩) | (refine ow_assign_v rfl ?_; exact ⟨pe, hA⟩)
    case' k7xc_7 => clear hA; intro w hA; refine rn ?_
    refine rl_nil ?_
    refine tq_normal ?_
    refine wc_bb rfl (fun h => ?_) (fun h => ?_)
    · simp only [Bool.and_eq_true, decide_eq_true_eq] at h
      omega
    clear h
    repeat' (first | (refine g_callf 88 ?_; refine ow_call Tryd.call88 rfl ((takeT_calls _ _ _ _ _ _ 256 256 rfl (by omega) hs hA).mono ?_); clear hA; (try clear w); rintro e w ⟨rfl, hA⟩; refine ⟨_, rfl, ?_⟩; refine rn ?_) | (refine g_bin ?_; refine ow_remp rfl rfl (by omega) ?_; refine rn ?_) | refine st ?_ | (refine wc_regionS 5 rfl ?_; refine wc_region ?_) | (refine su ?_; refine rn ?_) | (refine g_conv ?_; refine p_c hA ?_; refine rn ?_) | (refine g_load ?_; (first | refine t_loadx rfl hA ?_ | refine t_loada rfl hA ?_); refine rn ?_) | (refine g_call ?_; refine t_appx rfl rfl hA rfl ?_; clear hA; (try clear w); intro v w hA hone hnil; refine h_n hA ?_; clear hA; intro hA; refine rn ?_) | (refine g_store ?_; (first | refine t_storex rfl rfl hA ?_ | refine t_storea rfl rfl hA ?_); clear hA; (try clear w); intro w hA; refine h_m hA ?_; clear hA; intro hA; refine rn ?_) | (refine g_ow ?_; (first | refine t_alloc hA ?_ | refine ow_box rfl rfl hA ?_ | refine t_buildSlice rfl (by decide) rfl hA ?_); clear hA; (try clear w); intro b w hA; refine h_n hA ?_; clear hA; intro hA; refine rn ?_) | (refine g_ow ?_; refine t_make rfl rfl (by omega) (by omega) hA ?_; clear hA; (try clear w); intro v w hA hone hnil; refine rn ?_) | refine wc_pp rfl (fun h => ?_) (fun h => ?_) | refine wc_nn rfl (fun h => ?_) (fun h => ?_) | refine rl_pp rfl (fun h => o_n ?_) (fun h => rn ?_) | refine rl_qq rfl (fun h => o_n ?_) (fun h => rn ?_) | refine rl_nn rfl (fun h => o_n ?_) (fun h => rn ?_) | refine rl_mm rfl (fun h => o_n ?_) (fun h => rn ?_))
    generalize (tk 256 (strm s) (p + 1)).1 = x1 at *
    generalize (tk 256 (strm s) (p + 1 + 1)).1 = x2 at *
    have hxr : 256 * x1 + x2 ≤ 65535 := by omega
    have hx : (256 * (x1 : Int) + (x2 : Int)) % ((most : Int) + 1) = (((256 * x1 + x2) % (most + 1) : Nat) : Int) := by push_cast; rfl
    have hle := Nat.mod_le (256 * x1 + x2) (most + 1)
    have hlt := Nat.mod_lt (256 * x1 + x2) (show 0 < most + 1 by omega)
    rw [hx]
    generalize (256 * x1 + x2) % (most + 1) = n at *
    have hn : (n : Int) ≤ 65535 := by omega
    by_cases hodd : a % 2 = 1
    · rw [if_pos hodd]
      repeat' (first | (refine g_bin ?_; refine ow_quo64 rfl rfl (by omega) ?_; refine rn ?_) | (refine g_ow ?_; refine ow_unary64 rfl (by omega) ?_; refine rn ?_) | (refine g_bin ?_; refine ow_remp rfl rfl (by omega) ?_; refine rn ?_) | refine st ?_ | (refine wc_regionS 11 rfl ?_; refine wc_region ?_) | (refine su ?_; refine rn ?_) | (refine g_conv ?_; refine p_c hA ?_; refine rn ?_) | (refine g_load ?_; (first | refine t_loadx rfl hA ?_ | refine t_loada rfl hA ?_); refine rn ?_) | (refine g_call ?_; refine t_appx rfl rfl hA rfl ?_; clear hA; (try clear w); intro v w hA hone hnil; refine h_n hA ?_; clear hA; intro hA; refine rn ?_) | (refine g_store ?_; (first | refine t_storex rfl rfl hA ?_ | refine t_storea rfl rfl hA ?_); clear hA; (try clear w); intro w hA; refine h_m hA ?_; clear hA; intro hA; refine rn ?_) | (refine g_ow ?_; (first | refine t_alloc hA ?_ | refine ow_box rfl rfl hA ?_ | refine t_buildSlice rfl (by decide) rfl hA ?_); clear hA; (try clear w); intro b w hA; refine h_n hA ?_; clear hA; intro hA; refine rn ?_) | (refine g_ow ?_; refine t_make rfl rfl (by omega) (by omega) hA ?_; clear hA; (try clear w); intro v w hA hone hnil; refine rn ?_) | refine wc_pp rfl (fun h => ?_) (fun h => ?_) | refine wc_nn rfl (fun h => ?_) (fun h => ?_) | refine rl_pp rfl (fun h => o_n ?_) (fun h => rn ?_) | refine rl_qq rfl (fun h => o_n ?_) (fun h => rn ?_) | refine rl_nn rfl (fun h => o_n ?_) (fun h => rn ?_) | refine rl_mm rfl (fun h => o_n ?_) (fun h => rn ?_))
      refine wc_region ?_
      refine' rl_v hA ?o11xc_0 ?k11xc_0
      case o11xc_0 => intro w hA; first | (refine ow_unary64 rfl (by omega) ?_; exact ⟨pe, hA⟩) | (refine ow_move_v rfl ?_; exact ⟨pe, hA⟩)
      case' k11xc_0 => clear hA; intro w hA; refine rn ?_
      refine' rl_v hA ?o11xc_1 ?k11xc_1
      case o11xc_1 => intro w hA; first | (refine ow_unary64 rfl (by omega) ?_; exact ⟨pe, hA⟩) | (refine ow_move_v rfl ?_; exact ⟨pe, hA⟩)
      case' k11xc_1 => clear hA; intro w hA; refine rn ?_
      refine' rl_v hA ?o11xc_2 ?k11xc_2
      case o11xc_2 => intro w hA; first | (refine ow_unary64 rfl (by omega) ?_; exact ⟨pe, hA⟩) | (refine ow_not rfl ?_; exact ⟨pe, hA⟩) | (refine ow_neg rfl ?_; exact ⟨pe, hA⟩)
      case' k11xc_2 => clear hA; intro w hA; refine rn ?_
      refine' rl_v hA ?o11xc_3 ?k11xc_3
      case o11xc_3 => intro w hA; first | (refine ow_unary64 rfl (by omega) ?_; exact ⟨pe, hA⟩) | (refine ow_lss rfl rfl ?_; exact ⟨pe, hA⟩)
      case' k11xc_3 => clear hA; intro w hA; refine rn ?_
      refine' rl_v hA ?o11xc_4 ?k11xc_4
      case o11xc_4 => intro w hA; first | (refine ow_unary64 rfl (by omega) ?_; exact ⟨pe, hA⟩) | (refine ow_move_v rfl ?_; exact ⟨pe, hA⟩)
      case' k11xc_4 => clear hA; intro w hA; refine rn ?_
      first | refine' rl_F rfl hA ?o11xc_5 ?k11xc_5 | refine' rl_Fn rfl hA ?o11xc_5 ?k11xc_5
      case o11xc_5 => intro hg w hA; first | (refine ow_unary64 opr (by omega) ?_; exact ⟨pe, hA⟩) | (refine ow_move_v opr ?_; exact ⟨pe, hA⟩)
      case' k11xc_5 => clear hA; intro w hA; refine rn ?_
      first | refine' rl_F rfl hA ?o11xc_6 ?k11xc_6 | refine' rl_Fn rfl hA ?o11xc_6 ?k11xc_6
      case o11xc_6 => intro hg w hA; first | (refine ow_unary64 opr (by omega) ?_; exact ⟨pe, hA⟩) | (refine ow_move_v opr ?_; exact ⟨pe, hA⟩)
      case' k11xc_6 => clear hA; intro w hA; refine rn ?_
      first | refine' rl_F rfl hA ?o11xc_7 ?k11xc_7 | refine' rl_Fn rfl hA ?o11xc_7 ?k11xc_7
      case o11xc_7 => intro hg w hA; first | (refine ow_unary64 opr (by omega) ?_; exact ⟨pe, hA⟩) | (refine ow_gtr opr opr ?_; exact ⟨pe, hA⟩)
      case' k11xc_7 => clear hA; intro w hA; refine rn ?_
      refine' rl_v hA ?o11xc_8 ?k11xc_8
      case o11xc_8 => intro w hA; first | (refine ow_unary64 rfl (by omega) ?_; exact ⟨pe, hA⟩) | (refine ow_or rfl rfl (by first | rfl) ?_; exact ⟨pe, hA⟩) | (refine ow_pick rfl rfl rfl ?_; exact ⟨pe, hA⟩)
      case' k11xc_8 => clear hA; intro w hA; refine rn ?_
      refine rl_nil ?_
      refine tq_normal ?_
      refine wc_bb rfl (fun h => ?_) (fun h => ?_)
      · simp only [Bool.or_eq_true, decide_eq_true_eq] at h
        omega
      · repeat' (first | refine st ?_ | (refine wc_region ?_) | (refine su ?_; refine rn ?_) | (refine g_conv ?_; refine p_c hA ?_; refine rn ?_) | (refine g_load ?_; (first | refine t_loadx rfl hA ?_ | refine t_loada rfl hA ?_); refine rn ?_) | (refine g_call ?_; refine t_appx rfl rfl hA rfl ?_; clear hA; (try clear w); intro v w hA hone hnil; refine h_n hA ?_; clear hA; intro hA; refine rn ?_) | (refine g_store ?_; (first | refine t_storex rfl rfl hA ?_ | refine t_storea rfl rfl hA ?_); clear hA; (try clear w); intro w hA; refine h_m hA ?_; clear hA; intro hA; refine rn ?_) | (refine g_ow ?_; (first | refine t_alloc hA ?_ | refine ow_box rfl rfl hA ?_ | refine t_buildSlice rfl (by decide) rfl hA ?_); clear hA; (try clear w); intro b w hA; refine h_n hA ?_; clear hA; intro hA; refine rn ?_) | (refine g_ow ?_; refine t_make rfl rfl (by omega) (by omega) hA ?_; clear hA; (try clear w); intro v w hA hone hnil; refine rn ?_) | refine wc_pp rfl (fun h => ?_) (fun h => ?_) | refine wc_nn rfl (fun h => ?_) (fun h => ?_) | refine rl_pp rfl (fun h => o_n ?_) (fun h => rn ?_) | refine rl_qq rfl (fun h => o_n ?_) (fun h => rn ?_) | refine rl_nn rfl (fun h => o_n ?_) (fun h => rn ?_) | refine rl_mm rfl (fun h => o_n ?_) (fun h => rn ?_))
        exact fp_ret (res1 rfl rfl) ⟨rfl, hA⟩
    · rw [if_neg hodd]
      repeat' (first | (refine g_bin ?_; refine ow_quo64 rfl rfl (by omega) ?_; refine rn ?_) | (refine g_ow ?_; refine ow_unary64 rfl (by omega) ?_; refine rn ?_) | (refine g_bin ?_; refine ow_remp rfl rfl (by omega) ?_; refine rn ?_) | refine st ?_ | (refine wc_regionS 11 rfl ?_; refine wc_region ?_) | (refine su ?_; refine rn ?_) | (refine g_conv ?_; refine p_c hA ?_; refine rn ?_) | (refine g_load ?_; (first | refine t_loadx rfl hA ?_ | refine t_loada rfl hA ?_); refine rn ?_) | (refine g_call ?_; refine t_appx rfl rfl hA rfl ?_; clear hA; (try clear w); intro v w hA hone hnil; refine h_n hA ?_; clear hA; intro hA; refine rn ?_) | (refine g_store ?_; (first | refine t_storex rfl rfl hA ?_ | refine t_storea rfl rfl hA ?_); clear hA; (try clear w); intro w hA; refine h_m hA ?_; clear hA; intro hA; refine rn ?_) | (refine g_ow ?_; (first | refine t_alloc hA ?_ | refine ow_box rfl rfl hA ?_ | refine t_buildSlice rfl (by decide) rfl hA ?_); clear hA; (try clear w); intro b w hA; refine h_n hA ?_; clear hA; intro hA; refine rn ?_) | (refine g_ow ?_; refine t_make rfl rfl (by omega) (by omega) hA ?_; clear hA; (try clear w); intro v w hA hone hnil; refine rn ?_) | refine wc_pp rfl (fun h => ?_) (fun h => ?_) | refine wc_nn rfl (fun h => ?_) (fun h => ?_) | refine rl_pp rfl (fun h => o_n ?_) (fun h => rn ?_) | refine rl_qq rfl (fun h => o_n ?_) (fun h => rn ?_) | refine rl_nn rfl (fun h => o_n ?_) (fun h => rn ?_) | refine rl_mm rfl (fun h => o_n ?_) (fun h => rn ?_))
      refine wc_region ?_
      refine' rl_v hA ?o11xd_0 ?k11xd_0
      case o11xd_0 => intro w hA; first | (refine ow_unary64 rfl (by omega) ?_; exact ⟨pe, hA⟩) | (refine ow_move_v rfl ?_; exact ⟨pe, hA⟩)
      case' k11xd_0 => clear hA; intro w hA; refine rn ?_
      refine' rl_v hA ?o11xd_1 ?k11xd_1
      case o11xd_1 => intro w hA; first | (refine ow_unary64 rfl (by omega) ?_; exact ⟨pe, hA⟩) | (refine ow_move_v rfl ?_; exact ⟨pe, hA⟩)
      case' k11xd_1 => clear hA; intro w hA; refine rn ?_
      refine' rl_v hA ?o11xd_2 ?k11xd_2
      case o11xd_2 => intro w hA; first | (refine ow_unary64 rfl (by omega) ?_; exact ⟨pe, hA⟩) | (refine ow_not rfl ?_; exact ⟨pe, hA⟩) | (refine ow_neg rfl ?_; exact ⟨pe, hA⟩)
      case' k11xd_2 => clear hA; intro w hA; refine rn ?_
      refine' rl_v hA ?o11xd_3 ?k11xd_3
      case o11xd_3 => intro w hA; first | (refine ow_unary64 rfl (by omega) ?_; exact ⟨pe, hA⟩) | (refine ow_lss rfl rfl ?_; exact ⟨pe, hA⟩)
      case' k11xd_3 => clear hA; intro w hA; refine rn ?_
      refine' rl_v hA ?o11xd_4 ?k11xd_4
      case o11xd_4 => intro w hA; first | (refine ow_unary64 rfl (by omega) ?_; exact ⟨pe, hA⟩) | (refine ow_move_v rfl ?_; exact ⟨pe, hA⟩)
      case' k11xd_4 => clear hA; intro w hA; refine rn ?_
      first | refine' rl_F rfl hA ?o11xd_5 ?k11xd_5 | refine' rl_Fn rfl hA ?o11xd_5 ?k11xd_5
      case o11xd_5 => intro hg w hA; first | (refine ow_unary64 opr (by omega) ?_; exact ⟨pe, hA⟩) | (refine ow_move_v opr ?_; exact ⟨pe, hA⟩)
      case' k11xd_5 => clear hA; intro w hA; refine rn ?_
      first | refine' rl_F rfl hA ?o11xd_6 ?k11xd_6 | refine' rl_Fn rfl hA ?o11xd_6 ?k11xd_6
      case o11xd_6 => intro hg w hA; first | (refine ow_unary64 opr (by omega) ?_; exact ⟨pe, hA⟩) | (refine ow_move_v opr ?_; exact ⟨pe, hA⟩)
      case' k11xd_6 => clear hA; intro w hA; refine rn ?_
      first | refine' rl_F rfl hA ?o11xd_7 ?k11xd_7 | refine' rl_Fn rfl hA ?o11xd_7 ?k11xd_7
      case o11xd_7 => intro hg w hA; first | (refine ow_unary64 opr (by omega) ?_; exact ⟨pe, hA⟩) | (refine ow_gtr opr opr ?_; exact ⟨pe, hA⟩)
      case' k11xd_7 => clear hA; intro w hA; refine rn ?_
      refine' rl_v hA ?o11xd_8 ?k11xd_8
      case o11xd_8 => intro w hA; first | (refine ow_unary64 rfl (by omega) ?_; exact ⟨pe, hA⟩) | (refine ow_or rfl rfl (by first | rfl) ?_; exact ⟨pe, hA⟩) | (refine ow_pick rfl rfl rfl ?_; exact ⟨pe, hA⟩)
      case' k11xd_8 => clear hA; intro w hA; refine rn ?_
      refine rl_nil ?_
      refine tq_normal ?_
      refine wc_bb rfl (fun h => ?_) (fun h => ?_)
      · simp only [Bool.or_eq_true, decide_eq_true_eq] at h
        omega
      · repeat' (first | refine st ?_ | (refine wc_region ?_) | (refine su ?_; refine rn ?_) | (refine g_conv ?_; refine p_c hA ?_; refine rn ?_) | (refine g_load ?_; (first | refine t_loadx rfl hA ?_ | refine t_loada rfl hA ?_); refine rn ?_) | (refine g_call ?_; refine t_appx rfl rfl hA rfl ?_; clear hA; (try clear w); intro v w hA hone hnil; refine h_n hA ?_; clear hA; intro hA; refine rn ?_) | (refine g_store ?_; (first | refine t_storex rfl rfl hA ?_ | refine t_storea rfl rfl hA ?_); clear hA; (try clear w); intro w hA; refine h_m hA ?_; clear hA; intro hA; refine rn ?_) | (refine g_ow ?_; (first | refine t_alloc hA ?_ | refine ow_box rfl rfl hA ?_ | refine t_buildSlice rfl (by decide) rfl hA ?_); clear hA; (try clear w); intro b w hA; refine h_n hA ?_; clear hA; intro hA; refine rn ?_) | (refine g_ow ?_; refine t_make rfl rfl (by omega) (by omega) hA ?_; clear hA; (try clear w); intro v w hA hone hnil; refine rn ?_) | refine wc_pp rfl (fun h => ?_) (fun h => ?_) | refine wc_nn rfl (fun h => ?_) (fun h => ?_) | refine rl_pp rfl (fun h => o_n ?_) (fun h => rn ?_) | refine rl_qq rfl (fun h => o_n ?_) (fun h => rn ?_) | refine rl_nn rfl (fun h => o_n ?_) (fun h => rn ?_) | refine rl_mm rfl (fun h => o_n ?_) (fun h => rn ?_))
        exact fp_ret (res1 rfl rfl) ⟨rfl, hA⟩
end Go.Proofs.YtomfoaaaeidpnaaDoor
