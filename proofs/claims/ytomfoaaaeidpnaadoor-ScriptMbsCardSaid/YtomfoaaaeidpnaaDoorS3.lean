/-
  script's source: number, walked.
-/
import Derived.Test.YtomfoaaaeidpnaaDoorS1
import Derived.Test.YtomfoaaaeidpnaaDoorSlC
import Derived.Test.YtomfoaaaeidpnaaDoorSlM
import Derived.Test.YtomfoaaaeidpnaaDoorSlQ
set_option linter.unusedVariables false
set_option linter.unusedSimpArgs false
namespace Go.Proofs.YtomfoaaaeidpnaaDoor
open Go Go.RowKit
attribute [local irreducible] WC RL OW bodyPostM ThenQ BlockQ LoopQ ScopeQ
/-- A source: its bytes, and how many of them are taken. -/
abbrev src (b : Nat) (s : List UInt8) (p : Nat) : Item := cells b [vs s, vi ((min p s.length : Nat) : Int)] 99
section
variable (b : Nat) (s : List UInt8) (p : Nat) (E : Env) (L : List Item) (w : World)
theorem left_calls (hA : Sat E (src b s p :: L) w) : Calls Tryd.prog 83 ⟨[.pointer (some ⟨b, 0, none⟩)]⟩ w (fun e w' => e = .returned (.bool (decide (p < s.length))) ∧ Sat E (src b s p :: L) w') := by
  have e : decide (((min p s.length : Nat) : Int) < (s.length : Int)) = decide (p < s.length) := decide_eq_decide.2 (by omega)
  rw [← e]
  refine enter (fn := Tryd.f83) Tryd.func83 rfl 13 rfl [.pointer (some ⟨b, 0, none⟩), undef, undef, undef, undef, undef, undef, undef, undef, undef, undef, undef, undef] rfl ?_
  repeat' (first | refine st ?_ | (refine wc_regionS 1 rfl ?_; refine wc_region ?_) | (refine su ?_; refine rn ?_) | (refine g_conv ?_; refine p_c hA ?_; refine rn ?_) | (refine g_load ?_; (first | refine t_loadx rfl hA ?_ | refine t_loada rfl hA ?_); refine rn ?_) | (refine g_call ?_; refine t_appx rfl rfl hA rfl ?_; clear hA; (try clear w); intro v w hA hone hnil; refine h_n hA ?_; clear hA; intro hA; refine rn ?_) | (refine g_store ?_; (first | refine t_storex rfl rfl hA ?_ | refine t_storea rfl rfl hA ?_); clear hA; (try clear w); intro w hA; refine h_m hA ?_; clear hA; intro hA; refine rn ?_) | (refine g_ow ?_; (first | refine t_alloc hA ?_ | refine ow_box rfl rfl hA ?_ | refine t_buildSlice rfl (by decide) rfl hA ?_); clear hA; (try clear w); intro b w hA; refine h_n hA ?_; clear hA; intro hA; refine rn ?_) | (refine g_ow ?_; refine t_make rfl rfl (by omega) (by omega) hA ?_; clear hA; (try clear w); intro v w hA hone hnil; refine rn ?_) | refine wc_pp rfl (fun h => ?_) (fun h => ?_) | refine wc_nn rfl (fun h => ?_) (fun h => ?_) | refine rl_pp rfl (fun h => o_n ?_) (fun h => rn ?_) | refine rl_qq rfl (fun h => o_n ?_) (fun h => rn ?_) | refine rl_nn rfl (fun h => o_n ?_) (fun h => rn ?_) | refine rl_mm rfl (fun h => o_n ?_) (fun h => rn ?_))
  refine' wc_vals 10 [3, 4, 5, 6, 7, 8, 9, 10, 11, 12] [_, _, _, _, _, _, _, _, _, _] rfl (by kernel_rfl) (by kernel_rfl) (by kernel_rfl) hA ?ops1 ?k1
  case ops1 =>
    refine' VOps.c0 rfl [] (by decide) [] (by decide) rfl ?o1_0 ?r1_0
    case o1_0 => intro E' Lx w lf hE hl hA; simp only [setAll, List.zip_cons_cons, List.zip_nil_right, List.map_cons, List.map_nil, List.getD_cons_succ, List.getD_cons_zero, List.set_cons_succ, List.set_cons_zero] at hl; subst hl; first | (refine ow_move_v rfl ?_; exact ⟨pe, hA⟩)
    case r1_0 =>
      refine' VOps.c0 rfl [0] (by decide) [3] (by decide) rfl ?o1_1 ?r1_1
      case o1_1 => intro E' Lx w lf hE hl hA; simp only [setAll, List.zip_cons_cons, List.zip_nil_right, List.map_cons, List.map_nil, List.getD_cons_succ, List.getD_cons_zero, List.set_cons_succ, List.set_cons_zero] at hl; subst hl; first | (refine ow_nilCheck rfl ?_; exact ⟨pe, hA⟩)
      case r1_1 =>
        refine' VOps.c0 rfl [1] (by decide) [4] (by decide) rfl ?o1_2 ?r1_2
        case o1_2 => intro E' Lx w lf hE hl hA; simp only [setAll, List.zip_cons_cons, List.zip_nil_right, List.map_cons, List.map_nil, List.getD_cons_succ, List.getD_cons_zero, List.set_cons_succ, List.set_cons_zero] at hl; subst hl; first | (refine t_fieldAddr rfl ?_; exact ⟨pe, hA⟩)
        case r1_2 =>
          refine' VOps.c0 rfl [2] (by decide) [5] (by decide) rfl ?o1_3 ?r1_3
          case o1_3 => intro E' Lx w lf hE hl hA; simp only [setAll, List.zip_cons_cons, List.zip_nil_right, List.map_cons, List.map_nil, List.getD_cons_succ, List.getD_cons_zero, List.set_cons_succ, List.set_cons_zero] at hl; subst hl; first | (refine t_loadx rfl hA ?_; exact ⟨pe, hA⟩) | (refine t_loada rfl hA ?_; exact ⟨pe, hA⟩)
          case r1_3 =>
            refine' VOps.c0 rfl [] (by decide) [] (by decide) rfl ?o1_4 ?r1_4
            case o1_4 => intro E' Lx w lf hE hl hA; simp only [setAll, List.zip_cons_cons, List.zip_nil_right, List.map_cons, List.map_nil, List.getD_cons_succ, List.getD_cons_zero, List.set_cons_succ, List.set_cons_zero] at hl; subst hl; first | (refine ow_move_v rfl ?_; exact ⟨pe, hA⟩)
            case r1_4 =>
              refine' VOps.c0 rfl [4] (by decide) [7] (by decide) rfl ?o1_5 ?r1_5
              case o1_5 => intro E' Lx w lf hE hl hA; simp only [setAll, List.zip_cons_cons, List.zip_nil_right, List.map_cons, List.map_nil, List.getD_cons_succ, List.getD_cons_zero, List.set_cons_succ, List.set_cons_zero] at hl; subst hl; first | (refine ow_nilCheck rfl ?_; exact ⟨pe, hA⟩)
              case r1_5 =>
                refine' VOps.c0 rfl [5] (by decide) [8] (by decide) rfl ?o1_6 ?r1_6
                case o1_6 => intro E' Lx w lf hE hl hA; simp only [setAll, List.zip_cons_cons, List.zip_nil_right, List.map_cons, List.map_nil, List.getD_cons_succ, List.getD_cons_zero, List.set_cons_succ, List.set_cons_zero] at hl; subst hl; first | (refine t_fieldAddr rfl ?_; exact ⟨pe, hA⟩)
                case r1_6 =>
                  refine' VOps.c0 rfl [6] (by decide) [9] (by decide) rfl ?o1_7 ?r1_7
                  case o1_7 => intro E' Lx w lf hE hl hA; simp only [setAll, List.zip_cons_cons, List.zip_nil_right, List.map_cons, List.map_nil, List.getD_cons_succ, List.getD_cons_zero, List.set_cons_succ, List.set_cons_zero] at hl; subst hl; first | (refine t_loadx rfl hA ?_; exact ⟨pe, hA⟩) | (refine t_loada rfl hA ?_; exact ⟨pe, hA⟩)
                  case r1_7 =>
                    refine' VOps.c0 rfl [7] (by decide) [10] (by decide) rfl ?o1_8 ?r1_8
                    case o1_8 => intro E' Lx w lf hE hl hA; simp only [setAll, List.zip_cons_cons, List.zip_nil_right, List.map_cons, List.map_nil, List.getD_cons_succ, List.getD_cons_zero, List.set_cons_succ, List.set_cons_zero] at hl; subst hl; first | (refine t_len_str rfl ?_; exact ⟨pe, hA⟩) | (refine t_len_slice rfl ?_; exact ⟨pe, hA⟩) | (refine t_lenS rfl (by assumption) ?_; exact ⟨pe, hA⟩)
                    case r1_8 =>
                      refine' VOps.c0 rfl [3, 8] (by decide) [6, 11] (by decide) rfl ?o1_9 ?r1_9
                      case o1_9 => intro E' Lx w lf hE hl hA; simp only [setAll, List.zip_cons_cons, List.zip_nil_right, List.map_cons, List.map_nil, List.getD_cons_succ, List.getD_cons_zero, List.set_cons_succ, List.set_cons_zero] at hl; subst hl; first | (refine ow_lss rfl rfl ?_; exact ⟨pe, hA⟩)
                      case r1_9 =>
                        exact TameOps.nil
  case' k1 => (try clear hA); intro w hA; refine rn ?_
  repeat' (first | refine st ?_ | (refine wc_region ?_) | (refine su ?_; refine rn ?_) | (refine g_conv ?_; refine p_c hA ?_; refine rn ?_) | (refine g_load ?_; (first | refine t_loadx rfl hA ?_ | refine t_loada rfl hA ?_); refine rn ?_) | (refine g_call ?_; refine t_appx rfl rfl hA rfl ?_; clear hA; (try clear w); intro v w hA hone hnil; refine h_n hA ?_; clear hA; intro hA; refine rn ?_) | (refine g_store ?_; (first | refine t_storex rfl rfl hA ?_ | refine t_storea rfl rfl hA ?_); clear hA; (try clear w); intro w hA; refine h_m hA ?_; clear hA; intro hA; refine rn ?_) | (refine g_ow ?_; (first | refine t_alloc hA ?_ | refine ow_box rfl rfl hA ?_ | refine t_buildSlice rfl (by decide) rfl hA ?_); clear hA; (try clear w); intro b w hA; refine h_n hA ?_; clear hA; intro hA; refine rn ?_) | (refine g_ow ?_; refine t_make rfl rfl (by omega) (by omega) hA ?_; clear hA; (try clear w); intro v w hA hone hnil; refine rn ?_) | refine wc_pp rfl (fun h => ?_) (fun h => ?_) | refine wc_nn rfl (fun h => ?_) (fun h => ?_) | refine rl_pp rfl (fun h => o_n ?_) (fun h => rn ?_) | refine rl_qq rfl (fun h => o_n ?_) (fun h => rn ?_) | refine rl_nn rfl (fun h => o_n ?_) (fun h => rn ?_) | refine rl_mm rfl (fun h => o_n ?_) (fun h => rn ?_))
  exact fp_ret (res1 rfl rfl) ⟨rfl, hA⟩
theorem take_calls (n : Nat) (N : Int) (hN : N = (n : Int)) (hn : 0 < n ∧ n ≤ 1000000) (hs : s.length ≤ 1000000) (hA : Sat E (src b s p :: L) w) :
    Calls Tryd.prog 84 ⟨[.pointer (some ⟨b, 0, none⟩), vi N]⟩ w (fun e w' => e = .returned (vi (tk n (strm s) p).1) ∧ Sat E (src b s (p + 1) :: L) w') := by
  subst hN
  refine enter (fn := Tryd.f84) Tryd.func84 rfl 29 rfl [.pointer (some ⟨b, 0, none⟩), vi n, undef, undef, undef, undef, undef, undef, undef, undef, undef, undef, undef, undef, undef, undef, undef, undef, undef, undef, undef, undef, undef, undef, undef, undef, undef, undef, undef] rfl ?_
  by_cases hp : p < s.length
  · have hmin : min p s.length = p := by omega
    obtain ⟨c, hc⟩ : ∃ c, s[p]? = some c := ⟨_, List.getElem?_eq_getElem hp⟩
    have hc' : s[((p : Nat) : Int).toNat]? = some c := hc
    have hc8 := c.toNat_lt
    have hst : strm s p = c := by unfold strm; rw [hc]; rfl
    repeat' (first | (refine g_callf 83 ?_; refine ow_call Tryd.call83 rfl ((left_calls _ _ _ _ _ _ hA).mono ?_); clear hA; (try clear w); rintro e w ⟨rfl, hA⟩; refine ⟨_, rfl, ?_⟩; (try rw [decide_eq_true hp]); refine rn ?_) | refine st ?_ | (refine wc_regionS 3 rfl ?_; refine wc_region ?_) | (refine su ?_; refine rn ?_) | (refine g_conv ?_; refine p_c hA ?_; refine rn ?_) | (refine g_load ?_; (first | refine t_loadx rfl hA ?_ | refine t_loada rfl hA ?_); refine rn ?_) | (refine g_call ?_; refine t_appx rfl rfl hA rfl ?_; clear hA; (try clear w); intro v w hA hone hnil; refine h_n hA ?_; clear hA; intro hA; refine rn ?_) | (refine g_store ?_; (first | refine t_storex rfl rfl hA ?_ | refine t_storea rfl rfl hA ?_); clear hA; (try clear w); intro w hA; refine h_m hA ?_; clear hA; intro hA; refine rn ?_) | (refine g_ow ?_; (first | refine t_alloc hA ?_ | refine ow_box rfl rfl hA ?_ | refine t_buildSlice rfl (by decide) rfl hA ?_); clear hA; (try clear w); intro b w hA; refine h_n hA ?_; clear hA; intro hA; refine rn ?_) | (refine g_ow ?_; refine t_make rfl rfl (by omega) (by omega) hA ?_; clear hA; (try clear w); intro v w hA hone hnil; refine rn ?_) | refine wc_pp rfl (fun h => ?_) (fun h => ?_) | refine wc_nn rfl (fun h => ?_) (fun h => ?_) | refine rl_pp rfl (fun h => o_n ?_) (fun h => rn ?_) | refine rl_qq rfl (fun h => o_n ?_) (fun h => rn ?_) | refine rl_nn rfl (fun h => o_n ?_) (fun h => rn ?_) | refine rl_mm rfl (fun h => o_n ?_) (fun h => rn ?_))
    unfold src at hA
    rw [hmin] at hA
    refine' wc_vals 9 [9, 10, 11, 12, 13, 14, 15, 16, 17] [_, _, _, _, _, _, _, _, _] rfl (by kernel_rfl) (by kernel_rfl) (by kernel_rfl) hA ?ops3 ?k3
    case ops3 =>
      refine' VOps.c0 rfl [] (by decide) [] (by decide) rfl ?o3_0 ?r3_0
      case o3_0 => intro E' Lx w lf hE hl hA; simp only [setAll, List.zip_cons_cons, List.zip_nil_right, List.map_cons, List.map_nil, List.getD_cons_succ, List.getD_cons_zero, List.set_cons_succ, List.set_cons_zero] at hl; subst hl; first | (refine ow_move_v rfl ?_; exact ⟨pe, hA⟩)
      case r3_0 =>
        refine' VOps.c0 rfl [0] (by decide) [9] (by decide) rfl ?o3_1 ?r3_1
        case o3_1 => intro E' Lx w lf hE hl hA; simp only [setAll, List.zip_cons_cons, List.zip_nil_right, List.map_cons, List.map_nil, List.getD_cons_succ, List.getD_cons_zero, List.set_cons_succ, List.set_cons_zero] at hl; subst hl; first | (refine ow_nilCheck rfl ?_; exact ⟨pe, hA⟩)
        case r3_1 =>
          refine' VOps.c0 rfl [1] (by decide) [10] (by decide) rfl ?o3_2 ?r3_2
          case o3_2 => intro E' Lx w lf hE hl hA; simp only [setAll, List.zip_cons_cons, List.zip_nil_right, List.map_cons, List.map_nil, List.getD_cons_succ, List.getD_cons_zero, List.set_cons_succ, List.set_cons_zero] at hl; subst hl; first | (refine t_fieldAddr rfl ?_; exact ⟨pe, hA⟩)
          case r3_2 =>
            refine' VOps.c0 rfl [2] (by decide) [11] (by decide) rfl ?o3_3 ?r3_3
            case o3_3 => intro E' Lx w lf hE hl hA; simp only [setAll, List.zip_cons_cons, List.zip_nil_right, List.map_cons, List.map_nil, List.getD_cons_succ, List.getD_cons_zero, List.set_cons_succ, List.set_cons_zero] at hl; subst hl; first | (refine t_loadx rfl hA ?_; exact ⟨pe, hA⟩) | (refine t_loada rfl hA ?_; exact ⟨pe, hA⟩)
            case r3_3 =>
              refine' VOps.c0 rfl [] (by decide) [] (by decide) rfl ?o3_4 ?r3_4
              case o3_4 => intro E' Lx w lf hE hl hA; simp only [setAll, List.zip_cons_cons, List.zip_nil_right, List.map_cons, List.map_nil, List.getD_cons_succ, List.getD_cons_zero, List.set_cons_succ, List.set_cons_zero] at hl; subst hl; first | (refine ow_move_v rfl ?_; exact ⟨pe, hA⟩)
              case r3_4 =>
                refine' VOps.c0 rfl [4] (by decide) [13] (by decide) rfl ?o3_5 ?r3_5
                case o3_5 => intro E' Lx w lf hE hl hA; simp only [setAll, List.zip_cons_cons, List.zip_nil_right, List.map_cons, List.map_nil, List.getD_cons_succ, List.getD_cons_zero, List.set_cons_succ, List.set_cons_zero] at hl; subst hl; first | (refine ow_nilCheck rfl ?_; exact ⟨pe, hA⟩)
                case r3_5 =>
                  refine' VOps.c0 rfl [5] (by decide) [14] (by decide) rfl ?o3_6 ?r3_6
                  case o3_6 => intro E' Lx w lf hE hl hA; simp only [setAll, List.zip_cons_cons, List.zip_nil_right, List.map_cons, List.map_nil, List.getD_cons_succ, List.getD_cons_zero, List.set_cons_succ, List.set_cons_zero] at hl; subst hl; first | (refine t_fieldAddr rfl ?_; exact ⟨pe, hA⟩)
                  case r3_6 =>
                    refine' VOps.c0 rfl [6] (by decide) [15] (by decide) rfl ?o3_7 ?r3_7
                    case o3_7 => intro E' Lx w lf hE hl hA; simp only [setAll, List.zip_cons_cons, List.zip_nil_right, List.map_cons, List.map_nil, List.getD_cons_succ, List.getD_cons_zero, List.set_cons_succ, List.set_cons_zero] at hl; subst hl; first | (refine t_loadx rfl hA ?_; exact ⟨pe, hA⟩) | (refine t_loada rfl hA ?_; exact ⟨pe, hA⟩)
                    case r3_7 =>
                      refine' VOps.c0 rfl [3, 7] (by decide) [12, 16] (by decide) rfl ?o3_8 ?r3_8
                      case o3_8 => intro E' Lx w lf hE hl hA; simp only [setAll, List.zip_cons_cons, List.zip_nil_right, List.map_cons, List.map_nil, List.getD_cons_succ, List.getD_cons_zero, List.set_cons_succ, List.set_cons_zero] at hl; subst hl; first | (refine t_index_str rfl rfl (by omega) hc' ?_; exact ⟨pe, hA⟩)
                      case r3_8 =>
                        exact TameOps.nil
    case' k3 => (try clear hA); intro w hA; refine rn ?_
    repeat' (first | (refine g_bin ?_; refine ow_remp rfl rfl (by omega) ?_; refine rn ?_) | refine st ?_ | (refine wc_region ?_) | (refine su ?_; refine rn ?_) | (refine g_conv ?_; refine p_c hA ?_; refine rn ?_) | (refine g_load ?_; (first | refine t_loadx rfl hA ?_ | refine t_loada rfl hA ?_); refine rn ?_) | (refine g_call ?_; refine t_appx rfl rfl hA rfl ?_; clear hA; (try clear w); intro v w hA hone hnil; refine h_n hA ?_; clear hA; intro hA; refine rn ?_) | (refine g_store ?_; (first | refine t_storex rfl rfl hA ?_ | refine t_storea rfl rfl hA ?_); clear hA; (try clear w); intro w hA; refine h_m hA ?_; clear hA; intro hA; refine rn ?_) | (refine g_ow ?_; (first | refine t_alloc hA ?_ | refine ow_box rfl rfl hA ?_ | refine t_buildSlice rfl (by decide) rfl hA ?_); clear hA; (try clear w); intro b w hA; refine h_n hA ?_; clear hA; intro hA; refine rn ?_) | (refine g_ow ?_; refine t_make rfl rfl (by omega) (by omega) hA ?_; clear hA; (try clear w); intro v w hA hone hnil; refine rn ?_) | refine wc_pp rfl (fun h => ?_) (fun h => ?_) | refine wc_nn rfl (fun h => ?_) (fun h => ?_) | refine rl_pp rfl (fun h => o_n ?_) (fun h => rn ?_) | refine rl_qq rfl (fun h => o_n ?_) (fun h => rn ?_) | refine rl_nn rfl (fun h => o_n ?_) (fun h => rn ?_) | refine rl_mm rfl (fun h => o_n ?_) (fun h => rn ?_))
    refine fp_ret (res1 rfl rfl) ⟨?_, ?_⟩
    · show Ending.returned (Value.int .i64 ((c.toNat : Int) % (n : Int))) = _
      unfold tk
      rw [hst]
      rfl
    · show Sat E (cells b [vs s, vi ((min (p + 1) s.length : Nat) : Int)] 99 :: L) w
      rw [show ((min (p + 1) s.length : Nat) : Int) = (p : Int) + 1 by omega]
      exact hA
  · have hst : strm s p = 0 := by unfold strm; rw [List.getElem?_eq_none (by omega)]; rfl
    repeat' (first | (refine g_callf 83 ?_; refine ow_call Tryd.call83 rfl ((left_calls _ _ _ _ _ _ hA).mono ?_); clear hA; (try clear w); rintro e w ⟨rfl, hA⟩; refine ⟨_, rfl, ?_⟩; (try rw [decide_eq_false hp]); refine rn ?_) | refine st ?_ | (refine wc_region ?_) | (refine su ?_; refine rn ?_) | (refine g_conv ?_; refine p_c hA ?_; refine rn ?_) | (refine g_load ?_; (first | refine t_loadx rfl hA ?_ | refine t_loada rfl hA ?_); refine rn ?_) | (refine g_call ?_; refine t_appx rfl rfl hA rfl ?_; clear hA; (try clear w); intro v w hA hone hnil; refine h_n hA ?_; clear hA; intro hA; refine rn ?_) | (refine g_store ?_; (first | refine t_storex rfl rfl hA ?_ | refine t_storea rfl rfl hA ?_); clear hA; (try clear w); intro w hA; refine h_m hA ?_; clear hA; intro hA; refine rn ?_) | (refine g_ow ?_; (first | refine t_alloc hA ?_ | refine ow_box rfl rfl hA ?_ | refine t_buildSlice rfl (by decide) rfl hA ?_); clear hA; (try clear w); intro b w hA; refine h_n hA ?_; clear hA; intro hA; refine rn ?_) | (refine g_ow ?_; refine t_make rfl rfl (by omega) (by omega) hA ?_; clear hA; (try clear w); intro v w hA hone hnil; refine rn ?_) | refine wc_pp rfl (fun h => ?_) (fun h => ?_) | refine wc_nn rfl (fun h => ?_) (fun h => ?_) | refine rl_pp rfl (fun h => o_n ?_) (fun h => rn ?_) | refine rl_qq rfl (fun h => o_n ?_) (fun h => rn ?_) | refine rl_nn rfl (fun h => o_n ?_) (fun h => rn ?_) | refine rl_mm rfl (fun h => o_n ?_) (fun h => rn ?_))
    refine fp_ret (res1 rfl rfl) ⟨?_, ?_⟩
    · unfold tk
      rw [hst]
      show _ = Ending.returned (vi ((0 % n : Nat) : Int))
      rw [Nat.zero_mod]
      rfl
    · show Sat E (cells b [vs s, vi ((min (p + 1) s.length : Nat) : Int)] 99 :: L) w
      rw [show min (p + 1) s.length = min p s.length by omega]
      exact hA
end
end Go.Proofs.YtomfoaaaeidpnaaDoor
namespace Go.Proofs.YtomfoaaaeidpnaaDoor
open Go Go.RowKit
attribute [local irreducible] WC RL OW bodyPostM ThenQ BlockQ LoopQ ScopeQ
section
variable {ro : Option Nat} {P : Program} {l : List Value} {ds : List Deferred} {w : World} {next : List Value → World → Prop} {Q : Exit → Act → World → Prop}
variable {d : Option Tmp} {ty : TypeId} {pos : String} {aft : Array Edge} {g : Option (Nat × Bool)} {T : TypeId} {X : Operand}
theorem ow_unary64 {x : Int} (hx : ev l X = .int .i64 x) (hr : -9223372036854775807 ≤ x ∧ x ≤ 9223372036854775807) (h : next (put l d (.int .i64 (-x))) w) : OW ro P ⟨d, .unOp .neg T X, ty, pos, aft, g⟩ l ds w next Q :=
  ow_neg hx (by rw [IntWalk.i64_in _ (by omega)]; exact h)
end
section
variable (b : Nat) (s : List UInt8) (p : Nat) (E : Env) (L : List Item) (w : World)
theorem num_small {most : Nat} {σ : Nat → UInt8} {p : Nat} (h : (tk 256 σ p).1 < 240) : numP most σ p = (smallI (tk 256 σ p).1 most, p + 1) := by
  show (if _ then _ else _ : Par Int) _ _ = _
  rw [if_pos h]
  rfl
theorem num_great {most : Nat} {σ : Nat → UInt8} {p : Nat} (h : ¬ (tk 256 σ p).1 < 240) : numP most σ p = (greatI (tk 256 σ p).1 (tk 256 σ (p + 1)).1 (tk 256 σ (p + 1 + 1)).1 most, p + 1 + 1 + 1) := by
  show (if _ then _ else _ : Par Int) _ _ = _
  rw [if_neg h]
  rfl
set_option maxRecDepth 16000 in
set_option maxHeartbeats 4000000 in
theorem number_calls (most : Nat) (hm : 1 ≤ most ∧ most ≤ 1000000) (hs : s.length ≤ 1000000) (hA : Sat E (src b s p :: L) w) :
    Calls Tryd.prog 139 ⟨[.pointer (some ⟨b, 0, none⟩), vi most]⟩ w (fun e w' => e = .returned (vi (numP most (strm s) p).1) ∧ Sat E (src b s (numP most (strm s) p).2 :: L) w') := by
  have ha8 : (tk 256 (strm s) p).1 < 256 := Nat.mod_lt _ (by decide)
  have hb8 : (tk 256 (strm s) (p + 1)).1 < 256 := Nat.mod_lt _ (by decide)
  have hc8 : (tk 256 (strm s) (p + 1 + 1)).1 < 256 := Nat.mod_lt _ (by decide)
  have ns := @num_small most (strm s) p
  have ng := @num_great most (strm s) p
  refine enter (fn := Tryd.f139) Tryd.func139 rfl 48 rfl [.pointer (some ⟨b, 0, none⟩), vi most, undef, undef, undef, undef, undef, undef, undef, undef, undef, undef, undef, undef, undef, undef, undef, undef, undef, undef, undef, undef, undef, undef, undef, undef, undef, undef, undef, undef, undef, undef, undef, undef, undef, undef, undef, undef, undef, undef, undef, undef, undef, undef, undef, undef, undef, undef] rfl ?_
  repeat' (first | (refine g_callf 84 ?_; refine ow_call Tryd.call84 rfl ((take_calls _ _ _ _ _ _ 256 256 rfl (by omega) hs hA).mono ?_); clear hA; (try clear w); rintro e w ⟨rfl, hA⟩; refine ⟨_, rfl, ?_⟩; refine rn ?_) | refine st ?_ | (refine wc_regionS 2 rfl ?_; refine wc_region ?_) | (refine su ?_; refine rn ?_) | (refine g_conv ?_; refine p_c hA ?_; refine rn ?_) | (refine g_load ?_; (first | refine t_loadx rfl hA ?_ | refine t_loada rfl hA ?_); refine rn ?_) | (refine g_call ?_; refine t_appx rfl rfl hA rfl ?_; clear hA; (try clear w); intro v w hA hone hnil; refine h_n hA ?_; clear hA; intro hA; refine rn ?_) | (refine g_store ?_; (first | refine t_storex rfl rfl hA ?_ | refine t_storea rfl rfl hA ?_); clear hA; (try clear w); intro w hA; refine h_m hA ?_; clear hA; intro hA; refine rn ?_) | (refine g_ow ?_; (first | refine t_alloc hA ?_ | refine ow_box rfl rfl hA ?_ | refine t_buildSlice rfl (by decide) rfl hA ?_); clear hA; (try clear w); intro b w hA; refine h_n hA ?_; clear hA; intro hA; refine rn ?_) | (refine g_ow ?_; refine t_make rfl rfl (by omega) (by omega) hA ?_; clear hA; (try clear w); intro v w hA hone hnil; refine rn ?_) | refine wc_pp rfl (fun h => ?_) (fun h => ?_) | refine wc_nn rfl (fun h => ?_) (fun h => ?_) | refine rl_pp rfl (fun h => o_n ?_) (fun h => rn ?_) | refine rl_qq rfl (fun h => o_n ?_) (fun h => rn ?_) | refine rl_nn rfl (fun h => o_n ?_) (fun h => rn ?_) | refine rl_mm rfl (fun h => o_n ?_) (fun h => rn ?_))
  generalize (tk 256 (strm s) p).1 = a at *
  by_cases h240 : a < 240
  · rw [ns h240]
    clear ns ng
    unfold smallI
    by_cases hodd : a % 2 = 1
    · rw [if_pos hodd]
      dsimp only
      generalize hn : (((a + 1) / 2 : Nat) : Int) = n
      have hnr : 0 ≤ n ∧ n ≤ 128 := by omega
      by_cases hb : n < -(most : Int) ∨ (most : Int) < n
      · rw [if_pos hb]
        repeat' (first | (refine g_bin ?_; refine ow_quo64 rfl rfl (by omega) ?_; refine rn ?_) | (refine g_ow ?_; refine ow_unary64 rfl (by omega) ?_; refine rn ?_) | (refine g_bin ?_; refine ow_remp rfl rfl (by omega) ?_; refine rn ?_) | refine st ?_ | (refine wc_regionS 6 rfl ?_; refine wc_region ?_) | (refine su ?_; refine rn ?_) | (refine g_conv ?_; refine p_c hA ?_; refine rn ?_) | (refine g_load ?_; (first | refine t_loadx rfl hA ?_ | refine t_loada rfl hA ?_); refine rn ?_) | (refine g_call ?_; refine t_appx rfl rfl hA rfl ?_; clear hA; (try clear w); intro v w hA hone hnil; refine h_n hA ?_; clear hA; intro hA; refine rn ?_) | (refine g_store ?_; (first | refine t_storex rfl rfl hA ?_ | refine t_storea rfl rfl hA ?_); clear hA; (try clear w); intro w hA; refine h_m hA ?_; clear hA; intro hA; refine rn ?_) | (refine g_ow ?_; (first | refine t_alloc hA ?_ | refine ow_box rfl rfl hA ?_ | refine t_buildSlice rfl (by decide) rfl hA ?_); clear hA; (try clear w); intro b w hA; refine h_n hA ?_; clear hA; intro hA; refine rn ?_) | (refine g_ow ?_; refine t_make rfl rfl (by omega) (by omega) hA ?_; clear hA; (try clear w); intro v w hA hone hnil; refine rn ?_) | refine wc_pp rfl (fun h => ?_) (fun h => ?_) | refine wc_nn rfl (fun h => ?_) (fun h => ?_) | refine rl_pp rfl (fun h => o_n ?_) (fun h => rn ?_) | refine rl_qq rfl (fun h => o_n ?_) (fun h => rn ?_) | refine rl_nn rfl (fun h => o_n ?_) (fun h => rn ?_) | refine rl_mm rfl (fun h => o_n ?_) (fun h => rn ?_))
        rw [show ((a : Int) + 1) / 2 = n by omega]
        refine wc_region ?_
        refine' rl_v hA ?o6xa_0 ?k6xa_0
        case o6xa_0 => intro w hA; first | (refine ow_unary64 rfl (by omega) ?_; exact ⟨pe, hA⟩) | (refine ow_move_v rfl ?_; exact ⟨pe, hA⟩)
        case' k6xa_0 => clear hA; intro w hA; refine rn ?_
        refine' rl_v hA ?o6xa_1 ?k6xa_1
        case o6xa_1 => intro w hA; first | (refine ow_unary64 rfl (by omega) ?_; exact ⟨pe, hA⟩) | (refine ow_move_v rfl ?_; exact ⟨pe, hA⟩)
        case' k6xa_1 => clear hA; intro w hA; refine rn ?_
        refine' rl_v hA ?o6xa_2 ?k6xa_2
        case o6xa_2 => intro w hA; first | (refine ow_unary64 rfl (by omega) ?_; exact ⟨pe, hA⟩) | (refine ow_not rfl ?_; exact ⟨pe, hA⟩) | (refine ow_neg rfl ?_; exact ⟨pe, hA⟩)
        case' k6xa_2 => clear hA; intro w hA; refine rn ?_
        refine' rl_v hA ?o6xa_3 ?k6xa_3
        case o6xa_3 => intro w hA; first | (refine ow_unary64 rfl (by omega) ?_; exact ⟨pe, hA⟩) | (refine ow_lss rfl rfl ?_; exact ⟨pe, hA⟩)
        case' k6xa_3 => clear hA; intro w hA; refine rn ?_
        refine' rl_v hA ?o6xa_4 ?k6xa_4
        case o6xa_4 => intro w hA; first | (refine ow_unary64 rfl (by omega) ?_; exact ⟨pe, hA⟩) | (refine ow_move_v rfl ?_; exact ⟨pe, hA⟩)
        case' k6xa_4 => clear hA; intro w hA; refine rn ?_
        first | refine' rl_F rfl hA ?o6xa_5 ?k6xa_5 | refine' rl_Fn rfl hA ?o6xa_5 ?k6xa_5
        case o6xa_5 => intro hg w hA; first | (refine ow_unary64 opr (by omega) ?_; exact ⟨pe, hA⟩) | (refine ow_move_v opr ?_; exact ⟨pe, hA⟩)
        case' k6xa_5 => clear hA; intro w hA; refine rn ?_
        first | refine' rl_F rfl hA ?o6xa_6 ?k6xa_6 | refine' rl_Fn rfl hA ?o6xa_6 ?k6xa_6
        case o6xa_6 => intro hg w hA; first | (refine ow_unary64 opr (by omega) ?_; exact ⟨pe, hA⟩) | (refine ow_move_v opr ?_; exact ⟨pe, hA⟩)
        case' k6xa_6 => clear hA; intro w hA; refine rn ?_
        first | refine' rl_F rfl hA ?o6xa_7 ?k6xa_7 | refine' rl_Fn rfl hA ?o6xa_7 ?k6xa_7
        case o6xa_7 => intro hg w hA; first | (refine ow_unary64 opr (by omega) ?_; exact ⟨pe, hA⟩) | (refine ow_gtr opr opr ?_; exact ⟨pe, hA⟩)
        case' k6xa_7 => clear hA; intro w hA; refine rn ?_
        refine' rl_v hA ?o6xa_8 ?k6xa_8
        case o6xa_8 => intro w hA; first | (refine ow_unary64 rfl (by omega) ?_; exact ⟨pe, hA⟩) | (refine ow_or rfl rfl (by first | rfl) ?_; exact ⟨pe, hA⟩) | (refine ow_pick rfl rfl rfl ?_; exact ⟨pe, hA⟩)
        case' k6xa_8 => clear hA; intro w hA; refine rn ?_
        refine rl_nil ?_
        refine tq_normal ?_
        refine wc_bb rfl (fun h => ?_) (fun h => ?_)
        · repeat' (first | refine st ?_ | (refine wc_region ?_) | (refine su ?_; refine rn ?_) | (refine g_conv ?_; refine p_c hA ?_; refine rn ?_) | (refine g_load ?_; (first | refine t_loadx rfl hA ?_ | refine t_loada rfl hA ?_); refine rn ?_) | (refine g_call ?_; refine t_appx rfl rfl hA rfl ?_; clear hA; (try clear w); intro v w hA hone hnil; refine h_n hA ?_; clear hA; intro hA; refine rn ?_) | (refine g_store ?_; (first | refine t_storex rfl rfl hA ?_ | refine t_storea rfl rfl hA ?_); clear hA; (try clear w); intro w hA; refine h_m hA ?_; clear hA; intro hA; refine rn ?_) | (refine g_ow ?_; (first | refine t_alloc hA ?_ | refine ow_box rfl rfl hA ?_ | refine t_buildSlice rfl (by decide) rfl hA ?_); clear hA; (try clear w); intro b w hA; refine h_n hA ?_; clear hA; intro hA; refine rn ?_) | (refine g_ow ?_; refine t_make rfl rfl (by omega) (by omega) hA ?_; clear hA; (try clear w); intro v w hA hone hnil; refine rn ?_) | refine wc_pp rfl (fun h => ?_) (fun h => ?_) | refine wc_nn rfl (fun h => ?_) (fun h => ?_) | refine rl_pp rfl (fun h => o_n ?_) (fun h => rn ?_) | refine rl_qq rfl (fun h => o_n ?_) (fun h => rn ?_) | refine rl_nn rfl (fun h => o_n ?_) (fun h => rn ?_) | refine rl_mm rfl (fun h => o_n ?_) (fun h => rn ?_))
          exact fp_ret (res1 rfl rfl) ⟨rfl, hA⟩
        · simp only [Bool.or_eq_false_iff, decide_eq_false_iff_not] at h
          omega
      · rw [if_neg hb]
        repeat' (first | (refine g_bin ?_; refine ow_quo64 rfl rfl (by omega) ?_; refine rn ?_) | (refine g_ow ?_; refine ow_unary64 rfl (by omega) ?_; refine rn ?_) | (refine g_bin ?_; refine ow_remp rfl rfl (by omega) ?_; refine rn ?_) | refine st ?_ | (refine wc_regionS 6 rfl ?_; refine wc_region ?_) | (refine su ?_; refine rn ?_) | (refine g_conv ?_; refine p_c hA ?_; refine rn ?_) | (refine g_load ?_; (first | refine t_loadx rfl hA ?_ | refine t_loada rfl hA ?_); refine rn ?_) | (refine g_call ?_; refine t_appx rfl rfl hA rfl ?_; clear hA; (try clear w); intro v w hA hone hnil; refine h_n hA ?_; clear hA; intro hA; refine rn ?_) | (refine g_store ?_; (first | refine t_storex rfl rfl hA ?_ | refine t_storea rfl rfl hA ?_); clear hA; (try clear w); intro w hA; refine h_m hA ?_; clear hA; intro hA; refine rn ?_) | (refine g_ow ?_; (first | refine t_alloc hA ?_ | refine ow_box rfl rfl hA ?_ | refine t_buildSlice rfl (by decide) rfl hA ?_); clear hA; (try clear w); intro b w hA; refine h_n hA ?_; clear hA; intro hA; refine rn ?_) | (refine g_ow ?_; refine t_make rfl rfl (by omega) (by omega) hA ?_; clear hA; (try clear w); intro v w hA hone hnil; refine rn ?_) | refine wc_pp rfl (fun h => ?_) (fun h => ?_) | refine wc_nn rfl (fun h => ?_) (fun h => ?_) | refine rl_pp rfl (fun h => o_n ?_) (fun h => rn ?_) | refine rl_qq rfl (fun h => o_n ?_) (fun h => rn ?_) | refine rl_nn rfl (fun h => o_n ?_) (fun h => rn ?_) | refine rl_mm rfl (fun h => o_n ?_) (fun h => rn ?_))
        rw [show ((a : Int) + 1) / 2 = n by omega]
        refine wc_region ?_
        refine' rl_v hA ?o6xb_0 ?k6xb_0
        case o6xb_0 => intro w hA; first | (refine ow_unary64 rfl (by omega) ?_; exact ⟨pe, hA⟩) | (refine ow_move_v rfl ?_; exact ⟨pe, hA⟩)
        case' k6xb_0 => clear hA; intro w hA; refine rn ?_
        refine' rl_v hA ?o6xb_1 ?k6xb_1
        case o6xb_1 => intro w hA; first | (refine ow_unary64 rfl (by omega) ?_; exact ⟨pe, hA⟩) | (refine ow_move_v rfl ?_; exact ⟨pe, hA⟩)
        case' k6xb_1 => clear hA; intro w hA; refine rn ?_
        refine' rl_v hA ?o6xb_2 ?k6xb_2
        case o6xb_2 => intro w hA; first | (refine ow_unary64 rfl (by omega) ?_; exact ⟨pe, hA⟩) | (refine ow_not rfl ?_; exact ⟨pe, hA⟩) | (refine ow_neg rfl ?_; exact ⟨pe, hA⟩)
        case' k6xb_2 => clear hA; intro w hA; refine rn ?_
        refine' rl_v hA ?o6xb_3 ?k6xb_3
        case o6xb_3 => intro w hA; first | (refine ow_unary64 rfl (by omega) ?_; exact ⟨pe, hA⟩) | (refine ow_lss rfl rfl ?_; exact ⟨pe, hA⟩)
        case' k6xb_3 => clear hA; intro w hA; refine rn ?_
        refine' rl_v hA ?o6xb_4 ?k6xb_4
        case o6xb_4 => intro w hA; first | (refine ow_unary64 rfl (by omega) ?_; exact ⟨pe, hA⟩) | (refine ow_move_v rfl ?_; exact ⟨pe, hA⟩)
        case' k6xb_4 => clear hA; intro w hA; refine rn ?_
        first | refine' rl_F rfl hA ?o6xb_5 ?k6xb_5 | refine' rl_Fn rfl hA ?o6xb_5 ?k6xb_5
        case o6xb_5 => intro hg w hA; first | (refine ow_unary64 opr (by omega) ?_; exact ⟨pe, hA⟩) | (refine ow_move_v opr ?_; exact ⟨pe, hA⟩)
        case' k6xb_5 => clear hA; intro w hA; refine rn ?_
        first | refine' rl_F rfl hA ?o6xb_6 ?k6xb_6 | refine' rl_Fn rfl hA ?o6xb_6 ?k6xb_6
        case o6xb_6 => intro hg w hA; first | (refine ow_unary64 opr (by omega) ?_; exact ⟨pe, hA⟩) | (refine ow_move_v opr ?_; exact ⟨pe, hA⟩)
        case' k6xb_6 => clear hA; intro w hA; refine rn ?_
        first | refine' rl_F rfl hA ?o6xb_7 ?k6xb_7 | refine' rl_Fn rfl hA ?o6xb_7 ?k6xb_7
        case o6xb_7 => intro hg w hA; first | (refine ow_unary64 opr (by omega) ?_; exact ⟨pe, hA⟩) | (refine ow_gtr opr opr ?_; exact ⟨pe, hA⟩)
        case' k6xb_7 => clear hA; intro w hA; refine rn ?_
        refine' rl_v hA ?o6xb_8 ?k6xb_8
        case o6xb_8 => intro w hA; first | (refine ow_unary64 rfl (by omega) ?_; exact ⟨pe, hA⟩) | (refine ow_or rfl rfl (by first | rfl) ?_; exact ⟨pe, hA⟩) | (refine ow_pick rfl rfl rfl ?_; exact ⟨pe, hA⟩)
        case' k6xb_8 => clear hA; intro w hA; refine rn ?_
        refine rl_nil ?_
        refine tq_normal ?_
        refine wc_bb rfl (fun h => ?_) (fun h => ?_)
        · simp only [Bool.or_eq_true, decide_eq_true_eq] at h
          omega
        · repeat' (first | refine st ?_ | (refine wc_region ?_) | (refine su ?_; refine rn ?_) | (refine g_conv ?_; refine p_c hA ?_; refine rn ?_) | (refine g_load ?_; (first | refine t_loadx rfl hA ?_ | refine t_loada rfl hA ?_); refine rn ?_) | (refine g_call ?_; refine t_appx rfl rfl hA rfl ?_; clear hA; (try clear w); intro v w hA hone hnil; refine h_n hA ?_; clear hA; intro hA; refine rn ?_) | (refine g_store ?_; (first | refine t_storex rfl rfl hA ?_ | refine t_storea rfl rfl hA ?_); clear hA; (try clear w); intro w hA; refine h_m hA ?_; clear hA; intro hA; refine rn ?_) | (refine g_ow ?_; (first | refine t_alloc hA ?_ | refine ow_box rfl rfl hA ?_ | refine t_buildSlice rfl (by decide) rfl hA ?_); clear hA; (try clear w); intro b w hA; refine h_n hA ?_; clear hA; intro hA; refine rn ?_) | (refine g_ow ?_; refine t_make rfl rfl (by omega) (by omega) hA ?_; clear hA; (try clear w); intro v w hA hone hnil; refine rn ?_) | refine wc_pp rfl (fun h => ?_) (fun h => ?_) | refine wc_nn rfl (fun h => ?_) (fun h => ?_) | refine rl_pp rfl (fun h => o_n ?_) (fun h => rn ?_) | refine rl_qq rfl (fun h => o_n ?_) (fun h => rn ?_) | refine rl_nn rfl (fun h => o_n ?_) (fun h => rn ?_) | refine rl_mm rfl (fun h => o_n ?_) (fun h => rn ?_))
          exact fp_ret (res1 rfl rfl) ⟨rfl, hA⟩
    · rw [if_neg hodd]
      dsimp only
      generalize hn : -((a / 2 : Nat) : Int) = n
      have hnr : -128 ≤ n ∧ n ≤ 0 := by omega
      by_cases hb : n < -(most : Int) ∨ (most : Int) < n
      · rw [if_pos hb]
        repeat' (first | (refine g_bin ?_; refine ow_quo64 rfl rfl (by omega) ?_; refine rn ?_) | (refine g_ow ?_; refine ow_unary64 rfl (by omega) ?_; refine rn ?_) | (refine g_bin ?_; refine ow_remp rfl rfl (by omega) ?_; refine rn ?_) | refine st ?_ | (refine wc_regionS 6 rfl ?_; refine wc_region ?_) | (refine su ?_; refine rn ?_) | (refine g_conv ?_; refine p_c hA ?_; refine rn ?_) | (refine g_load ?_; (first | refine t_loadx rfl hA ?_ | refine t_loada rfl hA ?_); refine rn ?_) | (refine g_call ?_; refine t_appx rfl rfl hA rfl ?_; clear hA; (try clear w); intro v w hA hone hnil; refine h_n hA ?_; clear hA; intro hA; refine rn ?_) | (refine g_store ?_; (first | refine t_storex rfl rfl hA ?_ | refine t_storea rfl rfl hA ?_); clear hA; (try clear w); intro w hA; refine h_m hA ?_; clear hA; intro hA; refine rn ?_) | (refine g_ow ?_; (first | refine t_alloc hA ?_ | refine ow_box rfl rfl hA ?_ | refine t_buildSlice rfl (by decide) rfl hA ?_); clear hA; (try clear w); intro b w hA; refine h_n hA ?_; clear hA; intro hA; refine rn ?_) | (refine g_ow ?_; refine t_make rfl rfl (by omega) (by omega) hA ?_; clear hA; (try clear w); intro v w hA hone hnil; refine rn ?_) | refine wc_pp rfl (fun h => ?_) (fun h => ?_) | refine wc_nn rfl (fun h => ?_) (fun h => ?_) | refine rl_pp rfl (fun h => o_n ?_) (fun h => rn ?_) | refine rl_qq rfl (fun h => o_n ?_) (fun h => rn ?_) | refine rl_nn rfl (fun h => o_n ?_) (fun h => rn ?_) | refine rl_mm rfl (fun h => o_n ?_) (fun h => rn ?_))
        rw [show -((a : Int) / 2) = n by omega]
        refine wc_region ?_
        refine' rl_v hA ?o6xc_0 ?k6xc_0
        case o6xc_0 => intro w hA; first | (refine ow_unary64 rfl (by omega) ?_; exact ⟨pe, hA⟩) | (refine ow_move_v rfl ?_; exact ⟨pe, hA⟩)
        case' k6xc_0 => clear hA; intro w hA; refine rn ?_
        refine' rl_v hA ?o6xc_1 ?k6xc_1
        case o6xc_1 => intro w hA; first | (refine ow_unary64 rfl (by omega) ?_; exact ⟨pe, hA⟩) | (refine ow_move_v rfl ?_; exact ⟨pe, hA⟩)
        case' k6xc_1 => clear hA; intro w hA; refine rn ?_
        refine' rl_v hA ?o6xc_2 ?k6xc_2
        case o6xc_2 => intro w hA; first | (refine ow_unary64 rfl (by omega) ?_; exact ⟨pe, hA⟩) | (refine ow_not rfl ?_; exact ⟨pe, hA⟩) | (refine ow_neg rfl ?_; exact ⟨pe, hA⟩)
        case' k6xc_2 => clear hA; intro w hA; refine rn ?_
        refine' rl_v hA ?o6xc_3 ?k6xc_3
        case o6xc_3 => intro w hA; first | (refine ow_unary64 rfl (by omega) ?_; exact ⟨pe, hA⟩) | (refine ow_lss rfl rfl ?_; exact ⟨pe, hA⟩)
        case' k6xc_3 => clear hA; intro w hA; refine rn ?_
        refine' rl_v hA ?o6xc_4 ?k6xc_4
        case o6xc_4 => intro w hA; first | (refine ow_unary64 rfl (by omega) ?_; exact ⟨pe, hA⟩) | (refine ow_move_v rfl ?_; exact ⟨pe, hA⟩)
        case' k6xc_4 => clear hA; intro w hA; refine rn ?_
        first | refine' rl_F rfl hA ?o6xc_5 ?k6xc_5 | refine' rl_Fn rfl hA ?o6xc_5 ?k6xc_5
        case o6xc_5 => intro hg w hA; first | (refine ow_unary64 opr (by omega) ?_; exact ⟨pe, hA⟩) | (refine ow_move_v opr ?_; exact ⟨pe, hA⟩)
        case' k6xc_5 => clear hA; intro w hA; refine rn ?_
        first | refine' rl_F rfl hA ?o6xc_6 ?k6xc_6 | refine' rl_Fn rfl hA ?o6xc_6 ?k6xc_6
        case o6xc_6 => intro hg w hA; first | (refine ow_unary64 opr (by omega) ?_; exact ⟨pe, hA⟩) | (refine ow_move_v opr ?_; exact ⟨pe, hA⟩)
        case' k6xc_6 => clear hA; intro w hA; refine rn ?_
        first | refine' rl_F rfl hA ?o6xc_7 ?k6xc_7 | refine' rl_Fn rfl hA ?o6xc_7 ?k6xc_7
        case o6xc_7 => intro hg w hA; first | (refine ow_unary64 opr (by omega) ?_; exact ⟨pe, hA⟩) | (refine ow_gtr opr opr ?_; exact ⟨pe, hA⟩)
        case' k6xc_7 => clear hA; intro w hA; refine rn ?_
        refine' rl_v hA ?o6xc_8 ?k6xc_8
        case o6xc_8 => intro w hA; first | (refine ow_unary64 rfl (by omega) ?_; exact ⟨pe, hA⟩) | (refine ow_or rfl rfl (by first | rfl) ?_; exact ⟨pe, hA⟩) | (refine ow_pick rfl rfl rfl ?_; exact ⟨pe, hA⟩)
        case' k6xc_8 => clear hA; intro w hA; refine rn ?_
        refine rl_nil ?_
        refine tq_normal ?_
        refine wc_bb rfl (fun h => ?_) (fun h => ?_)
        · repeat' (first | refine st ?_ | (refine wc_region ?_) | (refine su ?_; refine rn ?_) | (refine g_conv ?_; refine p_c hA ?_; refine rn ?_) | (refine g_load ?_; (first | refine t_loadx rfl hA ?_ | refine t_loada rfl hA ?_); refine rn ?_) | (refine g_call ?_; refine t_appx rfl rfl hA rfl ?_; clear hA; (try clear w); intro v w hA hone hnil; refine h_n hA ?_; clear hA; intro hA; refine rn ?_) | (refine g_store ?_; (first | refine t_storex rfl rfl hA ?_ | refine t_storea rfl rfl hA ?_); clear hA; (try clear w); intro w hA; refine h_m hA ?_; clear hA; intro hA; refine rn ?_) | (refine g_ow ?_; (first | refine t_alloc hA ?_ | refine ow_box rfl rfl hA ?_ | refine t_buildSlice rfl (by decide) rfl hA ?_); clear hA; (try clear w); intro b w hA; refine h_n hA ?_; clear hA; intro hA; refine rn ?_) | (refine g_ow ?_; refine t_make rfl rfl (by omega) (by omega) hA ?_; clear hA; (try clear w); intro v w hA hone hnil; refine rn ?_) | refine wc_pp rfl (fun h => ?_) (fun h => ?_) | refine wc_nn rfl (fun h => ?_) (fun h => ?_) | refine rl_pp rfl (fun h => o_n ?_) (fun h => rn ?_) | refine rl_qq rfl (fun h => o_n ?_) (fun h => rn ?_) | refine rl_nn rfl (fun h => o_n ?_) (fun h => rn ?_) | refine rl_mm rfl (fun h => o_n ?_) (fun h => rn ?_))
          exact fp_ret (res1 rfl rfl) ⟨rfl, hA⟩
        · simp only [Bool.or_eq_false_iff, decide_eq_false_iff_not] at h
          omega
      · rw [if_neg hb]
        repeat' (first | (refine g_bin ?_; refine ow_quo64 rfl rfl (by omega) ?_; refine rn ?_) | (refine g_ow ?_; refine ow_unary64 rfl (by omega) ?_; refine rn ?_) | (refine g_bin ?_; refine ow_remp rfl rfl (by omega) ?_; refine rn ?_) | refine st ?_ | (refine wc_regionS 6 rfl ?_; refine wc_region ?_) | (refine su ?_; refine rn ?_) | (refine g_conv ?_; refine p_c hA ?_; refine rn ?_) | (refine g_load ?_; (first | refine t_loadx rfl hA ?_ | refine t_loada rfl hA ?_); refine rn ?_) | (refine g_call ?_; refine t_appx rfl rfl hA rfl ?_; clear hA; (try clear w); intro v w hA hone hnil; refine h_n hA ?_; clear hA; intro hA; refine rn ?_) | (refine g_store ?_; (first | refine t_storex rfl rfl hA ?_ | refine t_storea rfl rfl hA ?_); clear hA; (try clear w); intro w hA; refine h_m hA ?_; clear hA; intro hA; refine rn ?_) | (refine g_ow ?_; (first | refine t_alloc hA ?_ | refine ow_box rfl rfl hA ?_ | refine t_buildSlice rfl (by decide) rfl hA ?_); clear hA; (try clear w); intro b w hA; refine h_n hA ?_; clear hA; intro hA; refine rn ?_) | (refine g_ow ?_; refine t_make rfl rfl (by omega) (by omega) hA ?_; clear hA; (try clear w); intro v w hA hone hnil; refine rn ?_) | refine wc_pp rfl (fun h => ?_) (fun h => ?_) | refine wc_nn rfl (fun h => ?_) (fun h => ?_) | refine rl_pp rfl (fun h => o_n ?_) (fun h => rn ?_) | refine rl_qq rfl (fun h => o_n ?_) (fun h => rn ?_) | refine rl_nn rfl (fun h => o_n ?_) (fun h => rn ?_) | refine rl_mm rfl (fun h => o_n ?_) (fun h => rn ?_))
        rw [show -((a : Int) / 2) = n by omega]
        refine wc_region ?_
        refine' rl_v hA ?o6xd_0 ?k6xd_0
        case o6xd_0 => intro w hA; first | (refine ow_unary64 rfl (by omega) ?_; exact ⟨pe, hA⟩) | (refine ow_move_v rfl ?_; exact ⟨pe, hA⟩)
        case' k6xd_0 => clear hA; intro w hA; refine rn ?_
        refine' rl_v hA ?o6xd_1 ?k6xd_1
        case o6xd_1 => intro w hA; first | (refine ow_unary64 rfl (by omega) ?_; exact ⟨pe, hA⟩) | (refine ow_move_v rfl ?_; exact ⟨pe, hA⟩)
        case' k6xd_1 => clear hA; intro w hA; refine rn ?_
        refine' rl_v hA ?o6xd_2 ?k6xd_2
        case o6xd_2 => intro w hA; first | (refine ow_unary64 rfl (by omega) ?_; exact ⟨pe, hA⟩) | (refine ow_not rfl ?_; exact ⟨pe, hA⟩) | (refine ow_neg rfl ?_; exact ⟨pe, hA⟩)
        case' k6xd_2 => clear hA; intro w hA; refine rn ?_
        refine' rl_v hA ?o6xd_3 ?k6xd_3
        case o6xd_3 => intro w hA; first | (refine ow_unary64 rfl (by omega) ?_; exact ⟨pe, hA⟩) | (refine ow_lss rfl rfl ?_; exact ⟨pe, hA⟩)
        case' k6xd_3 => clear hA; intro w hA; refine rn ?_
        refine' rl_v hA ?o6xd_4 ?k6xd_4
        case o6xd_4 => intro w hA; first | (refine ow_unary64 rfl (by omega) ?_; exact ⟨pe, hA⟩) | (refine ow_move_v rfl ?_; exact ⟨pe, hA⟩)
        case' k6xd_4 => clear hA; intro w hA; refine rn ?_
        first | refine' rl_F rfl hA ?o6xd_5 ?k6xd_5 | refine' rl_Fn rfl hA ?o6xd_5 ?k6xd_5
        case o6xd_5 => intro hg w hA; first | (refine ow_unary64 opr (by omega) ?_; exact ⟨pe, hA⟩) | (refine ow_move_v opr ?_; exact ⟨pe, hA⟩)
        case' k6xd_5 => clear hA; intro w hA; refine rn ?_
        first | refine' rl_F rfl hA ?o6xd_6 ?k6xd_6 | refine' rl_Fn rfl hA ?o6xd_6 ?k6xd_6
        case o6xd_6 => intro hg w hA; first | (refine ow_unary64 opr (by omega) ?_; exact ⟨pe, hA⟩) | (refine ow_move_v opr ?_; exact ⟨pe, hA⟩)
        case' k6xd_6 => clear hA; intro w hA; refine rn ?_
        first | refine' rl_F rfl hA ?o6xd_7 ?k6xd_7 | refine' rl_Fn rfl hA ?o6xd_7 ?k6xd_7
        case o6xd_7 => intro hg w hA; first | (refine ow_unary64 opr (by omega) ?_; exact ⟨pe, hA⟩) | (refine ow_gtr opr opr ?_; exact ⟨pe, hA⟩)
        case' k6xd_7 => clear hA; intro w hA; refine rn ?_
        refine' rl_v hA ?o6xd_8 ?k6xd_8
        case o6xd_8 => intro w hA; first | (refine ow_unary64 rfl (by omega) ?_; exact ⟨pe, hA⟩) | (refine ow_or rfl rfl (by first | rfl) ?_; exact ⟨pe, hA⟩) | (refine ow_pick rfl rfl rfl ?_; exact ⟨pe, hA⟩)
        case' k6xd_8 => clear hA; intro w hA; refine rn ?_
        refine rl_nil ?_
        refine tq_normal ?_
        refine wc_bb rfl (fun h => ?_) (fun h => ?_)
        · simp only [Bool.or_eq_true, decide_eq_true_eq] at h
          omega
        · repeat' (first | refine st ?_ | (refine wc_region ?_) | (refine su ?_; refine rn ?_) | (refine g_conv ?_; refine p_c hA ?_; refine rn ?_) | (refine g_load ?_; (first | refine t_loadx rfl hA ?_ | refine t_loada rfl hA ?_); refine rn ?_) | (refine g_call ?_; refine t_appx rfl rfl hA rfl ?_; clear hA; (try clear w); intro v w hA hone hnil; refine h_n hA ?_; clear hA; intro hA; refine rn ?_) | (refine g_store ?_; (first | refine t_storex rfl rfl hA ?_ | refine t_storea rfl rfl hA ?_); clear hA; (try clear w); intro w hA; refine h_m hA ?_; clear hA; intro hA; refine rn ?_) | (refine g_ow ?_; (first | refine t_alloc hA ?_ | refine ow_box rfl rfl hA ?_ | refine t_buildSlice rfl (by decide) rfl hA ?_); clear hA; (try clear w); intro b w hA; refine h_n hA ?_; clear hA; intro hA; refine rn ?_) | (refine g_ow ?_; refine t_make rfl rfl (by omega) (by omega) hA ?_; clear hA; (try clear w); intro v w hA hone hnil; refine rn ?_) | refine wc_pp rfl (fun h => ?_) (fun h => ?_) | refine wc_nn rfl (fun h => ?_) (fun h => ?_) | refine rl_pp rfl (fun h => o_n ?_) (fun h => rn ?_) | refine rl_qq rfl (fun h => o_n ?_) (fun h => rn ?_) | refine rl_nn rfl (fun h => o_n ?_) (fun h => rn ?_) | refine rl_mm rfl (fun h => o_n ?_) (fun h => rn ?_))
          exact fp_ret (res1 rfl rfl) ⟨rfl, hA⟩
  · rw [ng h240]
    clear ns ng
    unfold greatI
    dsimp only
    repeat' (first | (refine g_callf 84 ?_; refine ow_call Tryd.call84 rfl ((take_calls _ _ _ _ _ _ 256 256 rfl (by omega) hs hA).mono ?_); clear hA; (try clear w); rintro e w ⟨rfl, hA⟩; refine ⟨_, rfl, ?_⟩; refine rn ?_) | (refine g_bin ?_; refine ow_remp rfl rfl (by omega) ?_; refine rn ?_) | refine st ?_ | (refine wc_regionS 11 rfl ?_; refine wc_region ?_) | (refine su ?_; refine rn ?_) | (refine g_conv ?_; refine p_c hA ?_; refine rn ?_) | (refine g_load ?_; (first | refine t_loadx rfl hA ?_ | refine t_loada rfl hA ?_); refine rn ?_) | (refine g_call ?_; refine t_appx rfl rfl hA rfl ?_; clear hA; (try clear w); intro v w hA hone hnil; refine h_n hA ?_; clear hA; intro hA; refine rn ?_) | (refine g_store ?_; (first | refine t_storex rfl rfl hA ?_ | refine t_storea rfl rfl hA ?_); clear hA; (try clear w); intro w hA; refine h_m hA ?_; clear hA; intro hA; refine rn ?_) | (refine g_ow ?_; (first | refine t_alloc hA ?_ | refine ow_box rfl rfl hA ?_ | refine t_buildSlice rfl (by decide) rfl hA ?_); clear hA; (try clear w); intro b w hA; refine h_n hA ?_; clear hA; intro hA; refine rn ?_) | (refine g_ow ?_; refine t_make rfl rfl (by omega) (by omega) hA ?_; clear hA; (try clear w); intro v w hA hone hnil; refine rn ?_) | refine wc_pp rfl (fun h => ?_) (fun h => ?_) | refine wc_nn rfl (fun h => ?_) (fun h => ?_) | refine rl_pp rfl (fun h => o_n ?_) (fun h => rn ?_) | refine rl_qq rfl (fun h => o_n ?_) (fun h => rn ?_) | refine rl_nn rfl (fun h => o_n ?_) (fun h => rn ?_) | refine rl_mm rfl (fun h => o_n ?_) (fun h => rn ?_))
    generalize (tk 256 (strm s) (p + 1)).1 = x1 at *
    generalize (tk 256 (strm s) (p + 1 + 1)).1 = x2 at *
    have hxr : 256 * x1 + x2 ≤ 65535 := by omega
    have hx : (256 * (x1 : Int) + (x2 : Int)) % ((most : Int) + 1) = (((256 * x1 + x2) % (most + 1) : Nat) : Int) := by push_cast; rfl
    have hle := Nat.mod_le (256 * x1 + x2) (most + 1)
    rw [hx]
    generalize (256 * x1 + x2) % (most + 1) = n at *
    have hn : (n : Int) ≤ 65535 := by omega
    by_cases hodd : a % 2 = 1
    · rw [if_pos hodd]
      repeat' (first | (refine g_ow ?_; refine ow_unary64 rfl (by omega) ?_; refine rn ?_) | (refine g_bin ?_; refine ow_remp rfl rfl (by omega) ?_; refine rn ?_) | refine st ?_ | (refine wc_region ?_) | (refine su ?_; refine rn ?_) | (refine g_conv ?_; refine p_c hA ?_; refine rn ?_) | (refine g_load ?_; (first | refine t_loadx rfl hA ?_ | refine t_loada rfl hA ?_); refine rn ?_) | (refine g_call ?_; refine t_appx rfl rfl hA rfl ?_; clear hA; (try clear w); intro v w hA hone hnil; refine h_n hA ?_; clear hA; intro hA; refine rn ?_) | (refine g_store ?_; (first | refine t_storex rfl rfl hA ?_ | refine t_storea rfl rfl hA ?_); clear hA; (try clear w); intro w hA; refine h_m hA ?_; clear hA; intro hA; refine rn ?_) | (refine g_ow ?_; (first | refine t_alloc hA ?_ | refine ow_box rfl rfl hA ?_ | refine t_buildSlice rfl (by decide) rfl hA ?_); clear hA; (try clear w); intro b w hA; refine h_n hA ?_; clear hA; intro hA; refine rn ?_) | (refine g_ow ?_; refine t_make rfl rfl (by omega) (by omega) hA ?_; clear hA; (try clear w); intro v w hA hone hnil; refine rn ?_) | refine wc_pp rfl (fun h => ?_) (fun h => ?_) | refine wc_nn rfl (fun h => ?_) (fun h => ?_) | refine rl_pp rfl (fun h => o_n ?_) (fun h => rn ?_) | refine rl_qq rfl (fun h => o_n ?_) (fun h => rn ?_) | refine rl_nn rfl (fun h => o_n ?_) (fun h => rn ?_) | refine rl_mm rfl (fun h => o_n ?_) (fun h => rn ?_))
      exact fp_ret (res1 rfl rfl) ⟨rfl, hA⟩
    · rw [if_neg hodd]
      repeat' (first | (refine g_ow ?_; refine ow_unary64 rfl (by omega) ?_; refine rn ?_) | (refine g_bin ?_; refine ow_remp rfl rfl (by omega) ?_; refine rn ?_) | refine st ?_ | (refine wc_region ?_) | (refine su ?_; refine rn ?_) | (refine g_conv ?_; refine p_c hA ?_; refine rn ?_) | (refine g_load ?_; (first | refine t_loadx rfl hA ?_ | refine t_loada rfl hA ?_); refine rn ?_) | (refine g_call ?_; refine t_appx rfl rfl hA rfl ?_; clear hA; (try clear w); intro v w hA hone hnil; refine h_n hA ?_; clear hA; intro hA; refine rn ?_) | (refine g_store ?_; (first | refine t_storex rfl rfl hA ?_ | refine t_storea rfl rfl hA ?_); clear hA; (try clear w); intro w hA; refine h_m hA ?_; clear hA; intro hA; refine rn ?_) | (refine g_ow ?_; (first | refine t_alloc hA ?_ | refine ow_box rfl rfl hA ?_ | refine t_buildSlice rfl (by decide) rfl hA ?_); clear hA; (try clear w); intro b w hA; refine h_n hA ?_; clear hA; intro hA; refine rn ?_) | (refine g_ow ?_; refine t_make rfl rfl (by omega) (by omega) hA ?_; clear hA; (try clear w); intro v w hA hone hnil; refine rn ?_) | refine wc_pp rfl (fun h => ?_) (fun h => ?_) | refine wc_nn rfl (fun h => ?_) (fun h => ?_) | refine rl_pp rfl (fun h => o_n ?_) (fun h => rn ?_) | refine rl_qq rfl (fun h => o_n ?_) (fun h => rn ?_) | refine rl_nn rfl (fun h => o_n ?_) (fun h => rn ?_) | refine rl_mm rfl (fun h => o_n ?_) (fun h => rn ?_))
      exact fp_ret (res1 rfl rfl) ⟨rfl, hA⟩
end
end Go.Proofs.YtomfoaaaeidpnaaDoor
