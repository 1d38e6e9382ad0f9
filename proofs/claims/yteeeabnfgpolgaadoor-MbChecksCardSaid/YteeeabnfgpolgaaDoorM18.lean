/-
  spindlelaw13.MbChecks, walked.
-/
import Derived.Test.YteeeabnfgpolgaaDoorM17
import Derived.Test.YteeeabnfgpolgaaDoorM8
import Derived.Test.YteeeabnfgpolgaaDoorN1
set_option linter.unusedVariables false
set_option linter.unusedSimpArgs false
namespace Go.Proofs.YteeeabnfgpolgaaDoor
open Go Go.RowKit
attribute [local irreducible] WC RL OW bodyPostM ThenQ BlockQ LoopQ ScopeQ
theorem fits_few {m : Mb} : Fits (fewMb m) := by
  refine ⟨by show (m.refs.take 6).length ≤ _; rw [List.length_take]; omega, by show (m.mvds.take 20).length ≤ _; rw [List.length_take]; omega, by show ((m.blocks.take 30).map (·.take 20)).length ≤ _; rw [List.length_map, List.length_take]; omega, fun b hb => ?_⟩
  obtain ⟨x, _, rfl⟩ := List.mem_map.1 hb
  rw [List.length_take]; omega
theorem few_blocks {m : Mb} : ∀ b ∈ (fewMb m).blocks, b.length ≤ 1000000 := by
  intro b hb
  obtain ⟨x, _, rfl⟩ := List.mem_map.1 hb
  rw [List.length_take]; omega
set_option maxRecDepth 16000 in
set_option maxHeartbeats 8000000 in
theorem mbChecks_calls (m : Mb) (r v u : Value) (refs : Int) (E : Env) (L : List Item) (w : World) (hA : Sat E L w) (hG : MbG E) (hm : MbL E m r v u) (hf : Short m.blocks) :
    Calls Tryd.prog 3 ⟨[.agg ⟨mbC m r v u⟩, vi refs]⟩ w (Ret E L (.bool true)) := by
  have hFA : Fits (fewMb m) := fits_few
  have hfb := few_blocks (m := m)
  refine enter (fn := Tryd.f3) Tryd.func3 rfl 46 rfl [.agg ⟨mbC m r v u⟩, vi refs, undef, undef, undef, undef, undef, undef, undef, undef, undef, undef, undef, undef, undef, undef, undef, undef, undef, undef, undef, undef, undef, undef, undef, undef, undef, undef, undef, undef, undef, undef, undef, undef, undef, undef, undef, undef, undef, undef, undef, undef, undef, undef, undef, undef] rfl ?_
  repeat' (first | (refine g_callf 15 ?_; refine ow_call Tryd.call15 rfl ((fewMb_calls m r v u _ _ _ hA hm hf).mono ?_); clear hA; (try clear w); rintro e w ⟨E1, z, rfl, hE1, ⟨rA, vA, uA, rfl, hmA⟩, hA⟩; refine ⟨_, rfl, ?_⟩; (try have o1 := hmA.refs.one; have o2 := hmA.mvds.one; have o3 := hmA.blocks.one); refine rn ?_) | refine st ?_ | (refine wc_regionS 2 rfl ?_; refine wc_region ?_) | (refine su ?_; refine rn ?_) | (refine g_conv ?_; refine p_c hA ?_; refine rn ?_) | (refine g_load ?_; (first | refine t_loadx rfl hA ?_ | refine t_loada rfl hA ?_); refine rn ?_) | (refine g_call ?_; refine t_appx rfl rfl hA rfl ?_; clear hA; (try clear w); intro v w hA hone hnil; refine h_n hA ?_; clear hA; intro hA; refine rn ?_) | (refine g_store ?_; (first | refine t_storex rfl rfl hA ?_ | refine t_storea rfl rfl hA ?_); clear hA; (try clear w); intro w hA; refine h_m hA ?_; clear hA; intro hA; refine rn ?_) | (refine g_ow ?_; (first | refine t_alloc hA ?_ | refine ow_box rfl rfl hA ?_ | refine t_buildSlice rfl (by decide) rfl hA ?_); clear hA; (try clear w); intro b w hA; refine h_n hA ?_; clear hA; intro hA; refine rn ?_) | (refine g_ow ?_; refine t_make rfl rfl (by omega) (by omega) hA ?_; clear hA; (try clear w); intro v w hA hone hnil; refine rn ?_) | refine wc_pp rfl (fun h => ?_) (fun h => ?_) | refine wc_nn rfl (fun h => ?_) (fun h => ?_) | refine rl_pp rfl (fun h => o_n ?_) (fun h => rn ?_) | refine rl_qq rfl (fun h => o_n ?_) (fun h => rn ?_) | refine rl_nn rfl (fun h => o_n ?_) (fun h => rn ?_) | refine rl_mm rfl (fun h => o_n ?_) (fun h => rn ?_))
  generalize hb2 : b = b2 at *
  clear hb2
  generalize fewMb m = xa at *
  repeat' (first | (refine g_callf 16 ?_; refine ow_call Tryd.call16 rfl ((copyMb_calls xa rA vA uA _ _ _ hA hmA hFA).mono ?_); clear hA; (try clear w); rintro e w ⟨E3, rO, vO, uO, rfl, hE3, hmO0, hA⟩; refine ⟨_, rfl, ?_⟩; (try have hmO := hmO0.mono (Env.sub_le _ _); have oo1 := hmO.refs.one; have oo2 := hmO.mvds.one; have oo3 := hmO.blocks.one); refine rn ?_) | refine st ?_ | (refine wc_region ?_) | (refine su ?_; refine rn ?_) | (refine g_conv ?_; refine p_c hA ?_; refine rn ?_) | (refine g_load ?_; (first | refine t_loadx rfl hA ?_ | refine t_loada rfl hA ?_); refine rn ?_) | (refine g_call ?_; refine t_appx rfl rfl hA rfl ?_; clear hA; (try clear w); intro v w hA hone hnil; refine h_n hA ?_; clear hA; intro hA; refine rn ?_) | (refine g_store ?_; (first | refine t_storex rfl rfl hA ?_ | refine t_storea rfl rfl hA ?_); clear hA; (try clear w); intro w hA; refine h_m hA ?_; clear hA; intro hA; refine rn ?_) | (refine g_ow ?_; (first | refine t_alloc hA ?_ | refine ow_box rfl rfl hA ?_ | refine t_buildSlice rfl (by decide) rfl hA ?_); clear hA; (try clear w); intro b w hA; refine h_n hA ?_; clear hA; intro hA; refine rn ?_) | (refine g_ow ?_; refine t_make rfl rfl (by omega) (by omega) hA ?_; clear hA; (try clear w); intro v w hA hone hnil; refine rn ?_) | refine wc_pp rfl (fun h => ?_) (fun h => ?_) | refine wc_nn rfl (fun h => ?_) (fun h => ?_) | refine rl_pp rfl (fun h => o_n ?_) (fun h => rn ?_) | refine rl_qq rfl (fun h => o_n ?_) (fun h => rn ?_) | refine rl_nn rfl (fun h => o_n ?_) (fun h => rn ?_) | refine rl_mm rfl (fun h => o_n ?_) (fun h => rn ?_))
  generalize hb5 : b = b5 at *
  clear hb5
  have hmA3 := hmA.mono hE3
  have hG3 := hG.mono (hE1.trans hE3)
  have hE03 := hE1.trans hE3
  clear hmA hG hE1 hE3 hmO0
  refine wc_loopn (fun k l w => ∃ (i : Nat), (∃ jk : Nat → Value, l = [jk 0, vi refs, .pointer (some ⟨b2, 0, none⟩), jk 3, .bool false, .pointer (some ⟨b5, 0, none⟩), .int .i64 (i : Int), jk 7, jk 8, jk 9, jk 10, jk 11, jk 12, jk 13, jk 14, jk 15, jk 16, jk 17, jk 18, jk 19, jk 20, jk 21, jk 22, jk 23, jk 24, jk 25, jk 26, jk 27, jk 28, jk 29, jk 30, jk 31, jk 32, jk 33, jk 34, jk 35, jk 36, jk 37, jk 38, jk 39, jk 40, jk 41, jk 42, jk 43, jk 44, jk 45]) ∧ i + k = 2 ∧ Sat E3 (cells b5 (mbC xa rO vO uO) 28 :: cells b2 (mbC xa rA vA uA) 28 :: L) w) 2 ⟨0, (ex_getD rfl), by omega, hA⟩ ?_
  clear hA
  rintro k l w ⟨i, ⟨jk, rfl⟩, hi, hA⟩
  by_cases hlt : i < 2
  · repeat' (first | refine st ?_ | (refine wc_regionS 6 rfl ?_; refine wc_region ?_) | (refine su ?_; refine rn ?_) | (refine g_conv ?_; refine p_c hA ?_; refine rn ?_) | (refine g_load ?_; (first | refine t_loadx rfl hA ?_ | refine t_loada rfl hA ?_); refine rn ?_) | (refine g_call ?_; refine t_appx rfl rfl hA rfl ?_; clear hA; (try clear w); intro v w hA hone hnil; refine h_n hA ?_; clear hA; intro hA; refine rn ?_) | (refine g_store ?_; (first | refine t_storex rfl rfl hA ?_ | refine t_storea rfl rfl hA ?_); clear hA; (try clear w); intro w hA; refine h_m hA ?_; clear hA; intro hA; refine rn ?_) | (refine g_ow ?_; (first | refine t_alloc hA ?_ | refine ow_box rfl rfl hA ?_ | refine t_buildSlice rfl (by decide) rfl hA ?_); clear hA; (try clear w); intro b w hA; refine h_n hA ?_; clear hA; intro hA; refine rn ?_) | (refine g_ow ?_; refine t_make rfl rfl (by omega) (by omega) hA ?_; clear hA; (try clear w); intro v w hA hone hnil; refine rn ?_) | refine wc_pp rfl (fun h => ?_) (fun h => ?_) | refine wc_nn rfl (fun h => ?_) (fun h => ?_) | refine rl_pp rfl (fun h => o_n ?_) (fun h => rn ?_) | refine rl_qq rfl (fun h => o_n ?_) (fun h => rn ?_) | refine rl_nn rfl (fun h => o_n ?_) (fun h => rn ?_) | refine rl_mm rfl (fun h => o_n ?_) (fun h => rn ?_))
    refine' wc_vals 11 [15, 16, 17, 18, 19, 20, 21, 22, 23, 24, 25] [_, _, _, _, _, _, _, _, _, _, _] rfl (by kernel_rfl) (by kernel_rfl) (by kernel_rfl) hA ?ops6 ?k6
    case ops6 =>
      refine' VOps.c0 rfl [] (by decide) [] (by decide) rfl ?o6_0 ?r6_0
      case o6_0 => intro E' Lx w lf hE hl hA; simp only [setAll, List.zip_cons_cons, List.zip_nil_right, List.map_cons, List.map_nil, List.getD_cons_succ, List.getD_cons_zero, List.set_cons_succ, List.set_cons_zero] at hl; subst hl; first | (refine t_loadx rfl hA ?_; exact ⟨pe, hA⟩) | (refine t_loada rfl hA ?_; exact ⟨pe, hA⟩)
      case r6_0 =>
        refine' VOps.c0 rfl [] (by decide) [] (by decide) rfl ?o6_1 ?r6_1
        case o6_1 => intro E' Lx w lf hE hl hA; simp only [setAll, List.zip_cons_cons, List.zip_nil_right, List.map_cons, List.map_nil, List.getD_cons_succ, List.getD_cons_zero, List.set_cons_succ, List.set_cons_zero] at hl; subst hl; first | (refine ow_move_v rfl ?_; exact ⟨pe, hA⟩)
        case r6_1 =>
          refine' VOps.c0 rfl [1] (by decide) [16] (by decide) rfl ?o6_2 ?r6_2
          case o6_2 => intro E' Lx w lf hE hl hA; simp only [setAll, List.zip_cons_cons, List.zip_nil_right, List.map_cons, List.map_nil, List.getD_cons_succ, List.getD_cons_zero, List.set_cons_succ, List.set_cons_zero] at hl; subst hl; first | (refine ow_eql rfl rfl ?_; exact ⟨pe, hA⟩) | (refine ow_eqs rfl rfl ?_; exact ⟨pe, hA⟩) | (refine t_eqlb rfl rfl ?_; exact ⟨pe, hA⟩)
          case r6_2 =>
            refine' VOps.c0 rfl [] (by decide) [] (by decide) rfl ?o6_3 ?r6_3
            case o6_3 => intro E' Lx w lf hE hl hA; simp only [setAll, List.zip_cons_cons, List.zip_nil_right, List.map_cons, List.map_nil, List.getD_cons_succ, List.getD_cons_zero, List.set_cons_succ, List.set_cons_zero] at hl; subst hl; first | (refine ow_move_v rfl ?_; exact ⟨pe, hA⟩)
            case r6_3 =>
              refine' VOps.c0 rfl [0, 2, 3] (by decide) [15, 17, 18] (by decide) rfl ?o6_4 ?r6_4
              case o6_4 => intro E' Lx w lf hE hl hA; simp only [setAll, List.zip_cons_cons, List.zip_nil_right, List.map_cons, List.map_nil, List.getD_cons_succ, List.getD_cons_zero, List.set_cons_succ, List.set_cons_zero] at hl; subst hl; first | (refine ow_call Tryd.call17 rfl ((mbCheck_ret xa rO vO uO (decide ((i : Int) = 1)) refs _ _ _ _ hA (hmO.mono hE) (hG3.mono hE) rfl).mono ?_); clear hA; rintro e w ⟨rfl, hA⟩; refine ⟨_, rfl, ?_⟩; exact ⟨put_eq (by rfl), hA⟩)
              case r6_4 =>
                refine' VOps.c0 rfl [] (by decide) [] (by decide) rfl ?o6_5 ?r6_5
                case o6_5 => intro E' Lx w lf hE hl hA; simp only [setAll, List.zip_cons_cons, List.zip_nil_right, List.map_cons, List.map_nil, List.getD_cons_succ, List.getD_cons_zero, List.set_cons_succ, List.set_cons_zero] at hl; subst hl; first | (refine t_loadx rfl hA ?_; exact ⟨pe, hA⟩) | (refine t_loada rfl hA ?_; exact ⟨pe, hA⟩)
                case r6_5 =>
                  refine' VOps.c0 rfl [] (by decide) [] (by decide) rfl ?o6_6 ?r6_6
                  case o6_6 => intro E' Lx w lf hE hl hA; simp only [setAll, List.zip_cons_cons, List.zip_nil_right, List.map_cons, List.map_nil, List.getD_cons_succ, List.getD_cons_zero, List.set_cons_succ, List.set_cons_zero] at hl; subst hl; first | (refine ow_move_v rfl ?_; exact ⟨pe, hA⟩)
                  case r6_6 =>
                    refine' VOps.c0 rfl [6] (by decide) [21] (by decide) rfl ?o6_7 ?r6_7
                    case o6_7 => intro E' Lx w lf hE hl hA; simp only [setAll, List.zip_cons_cons, List.zip_nil_right, List.map_cons, List.map_nil, List.getD_cons_succ, List.getD_cons_zero, List.set_cons_succ, List.set_cons_zero] at hl; subst hl; first | (refine ow_eql rfl rfl ?_; exact ⟨pe, hA⟩) | (refine ow_eqs rfl rfl ?_; exact ⟨pe, hA⟩) | (refine t_eqlb rfl rfl ?_; exact ⟨pe, hA⟩)
                    case r6_7 =>
                      refine' VOps.c0 rfl [] (by decide) [] (by decide) rfl ?o6_8 ?r6_8
                      case o6_8 => intro E' Lx w lf hE hl hA; simp only [setAll, List.zip_cons_cons, List.zip_nil_right, List.map_cons, List.map_nil, List.getD_cons_succ, List.getD_cons_zero, List.set_cons_succ, List.set_cons_zero] at hl; subst hl; first | (refine ow_move_v rfl ?_; exact ⟨pe, hA⟩)
                      case r6_8 =>
                        refine' VOps.c0 rfl [5, 7, 8, 4] (by decide) [20, 22, 23, 19] (by decide) rfl ?o6_9 ?r6_9
                        case o6_9 => intro E' Lx w lf hE hl hA; simp only [setAll, List.zip_cons_cons, List.zip_nil_right, List.map_cons, List.map_nil, List.getD_cons_succ, List.getD_cons_zero, List.set_cons_succ, List.set_cons_zero] at hl; subst hl; first | (refine ow_call Tryd.call18 rfl ((refCheck_calls xa rA vA uA (decide ((i : Int) = 1)) refs _ _ _ _ hA (hmA3.mono hE) hFA hfb (ref_check _ _ _)).mono ?_); clear hA; rintro e w ⟨rfl, hA⟩; refine ⟨_, rfl, ?_⟩; exact ⟨put_eq (by rfl), hA⟩)
                        case r6_9 =>
                          refine' VOps.c0 rfl [4, 9] (by decide) [19, 24] (by decide) rfl ?o6_10 ?r6_10
                          case o6_10 => intro E' Lx w lf hE hl hA; simp only [setAll, List.zip_cons_cons, List.zip_nil_right, List.map_cons, List.map_nil, List.getD_cons_succ, List.getD_cons_zero, List.set_cons_succ, List.set_cons_zero] at hl; subst hl; first | (refine ow_neq rfl rfl ?_; exact ⟨pe, hA⟩) | (refine ow_neqs rfl rfl ?_; exact ⟨pe, hA⟩) | (refine t_neqb rfl rfl ?_; exact ⟨pe, hA⟩)
                          case r6_10 =>
                            exact TameOps.nil
    case' k6 => (try clear hA); intro w hA; refine rn ?_
    repeat' (first | refine st ?_ | (refine wc_region ?_) | (refine su ?_; refine rn ?_) | (refine g_conv ?_; refine p_c hA ?_; refine rn ?_) | (refine g_load ?_; (first | refine t_loadx rfl hA ?_ | refine t_loada rfl hA ?_); refine rn ?_) | (refine g_call ?_; refine t_appx rfl rfl hA rfl ?_; clear hA; (try clear w); intro v w hA hone hnil; refine h_n hA ?_; clear hA; intro hA; refine rn ?_) | (refine g_store ?_; (first | refine t_storex rfl rfl hA ?_ | refine t_storea rfl rfl hA ?_); clear hA; (try clear w); intro w hA; refine h_m hA ?_; clear hA; intro hA; refine rn ?_) | (refine g_ow ?_; (first | refine t_alloc hA ?_ | refine ow_box rfl rfl hA ?_ | refine t_buildSlice rfl (by decide) rfl hA ?_); clear hA; (try clear w); intro b w hA; refine h_n hA ?_; clear hA; intro hA; refine rn ?_) | (refine g_ow ?_; refine t_make rfl rfl (by omega) (by omega) hA ?_; clear hA; (try clear w); intro v w hA hone hnil; refine rn ?_) | refine wc_pp rfl (fun h => ?_) (fun h => ?_) | refine wc_nn rfl (fun h => ?_) (fun h => ?_) | refine rl_pp rfl (fun h => o_n ?_) (fun h => rn ?_) | refine rl_qq rfl (fun h => o_n ?_) (fun h => rn ?_) | refine rl_nn rfl (fun h => o_n ?_) (fun h => rn ?_) | refine rl_mm rfl (fun h => o_n ?_) (fun h => rn ?_))
    exact lq_next (k - 1) (by omega) ⟨i + 1, (ex_getD rfl), by omega, hA⟩
  · repeat' (first | refine st ?_ | (refine wc_regionS 8 rfl ?_; refine wc_region ?_) | (refine su ?_; refine rn ?_) | (refine g_conv ?_; refine p_c hA ?_; refine rn ?_) | (refine g_load ?_; (first | refine t_loadx rfl hA ?_ | refine t_loada rfl hA ?_); refine rn ?_) | (refine g_call ?_; refine t_appx rfl rfl hA rfl ?_; clear hA; (try clear w); intro v w hA hone hnil; refine h_n hA ?_; clear hA; intro hA; refine rn ?_) | (refine g_store ?_; (first | refine t_storex rfl rfl hA ?_ | refine t_storea rfl rfl hA ?_); clear hA; (try clear w); intro w hA; refine h_m hA ?_; clear hA; intro hA; refine rn ?_) | (refine g_ow ?_; (first | refine t_alloc hA ?_ | refine ow_box rfl rfl hA ?_ | refine t_buildSlice rfl (by decide) rfl hA ?_); clear hA; (try clear w); intro b w hA; refine h_n hA ?_; clear hA; intro hA; refine rn ?_) | (refine g_ow ?_; refine t_make rfl rfl (by omega) (by omega) hA ?_; clear hA; (try clear w); intro v w hA hone hnil; refine rn ?_) | refine wc_pp rfl (fun h => ?_) (fun h => ?_) | refine wc_nn rfl (fun h => ?_) (fun h => ?_) | refine rl_pp rfl (fun h => o_n ?_) (fun h => rn ?_) | refine rl_qq rfl (fun h => o_n ?_) (fun h => rn ?_) | refine rl_nn rfl (fun h => o_n ?_) (fun h => rn ?_) | refine rl_mm rfl (fun h => o_n ?_) (fun h => rn ?_))
    refine' wc_vals 20 [26, 27, 28, 29, 30, 31, 32, 33, 34, 35, 36, 37, 38, 39, 40, 41, 42, 43, 44, 45] [_, _, _, _, _, _, _, _, _, _, _, _, _, _, _, _, _, _, _, _] rfl (by kernel_rfl) (by kernel_rfl) (by kernel_rfl) hA ?ops8 ?k8
    case ops8 =>
      refine' VOps.c0 rfl [] (by decide) [] (by decide) rfl ?o8_0 ?r8_0
      case o8_0 => intro E' Lx w lf hE hl hA; simp only [setAll, List.zip_cons_cons, List.zip_nil_right, List.map_cons, List.map_nil, List.getD_cons_succ, List.getD_cons_zero, List.set_cons_succ, List.set_cons_zero] at hl; subst hl; first | (refine t_loadx rfl hA ?_; exact ⟨pe, hA⟩) | (refine t_loada rfl hA ?_; exact ⟨pe, hA⟩)
      case r8_0 =>
        refine' VOps.c0 rfl [0] (by decide) [26] (by decide) rfl ?o8_1 ?r8_1
        case o8_1 => intro E' Lx w lf hE hl hA; simp only [setAll, List.zip_cons_cons, List.zip_nil_right, List.map_cons, List.map_nil, List.getD_cons_succ, List.getD_cons_zero, List.set_cons_succ, List.set_cons_zero] at hl; subst hl; first | (refine ow_call Tryd.call17 rfl ((mbCheck_ret xa rO vO uO true 0 _ _ _ _ hA (hmO.mono hE) (hG3.mono hE) rfl).mono ?_); clear hA; rintro e w ⟨rfl, hA⟩; refine ⟨_, rfl, ?_⟩; exact ⟨put_eq (by rfl), hA⟩)
        case r8_1 =>
          refine' VOps.c0 rfl [] (by decide) [] (by decide) rfl ?o8_2 ?r8_2
          case o8_2 => intro E' Lx w lf hE hl hA; simp only [setAll, List.zip_cons_cons, List.zip_nil_right, List.map_cons, List.map_nil, List.getD_cons_succ, List.getD_cons_zero, List.set_cons_succ, List.set_cons_zero] at hl; subst hl; first | (refine t_loadx rfl hA ?_; exact ⟨pe, hA⟩) | (refine t_loada rfl hA ?_; exact ⟨pe, hA⟩)
          case r8_2 =>
            refine' VOps.c0 rfl [2, 1] (by decide) [28, 27] (by decide) rfl ?o8_3 ?r8_3
            case o8_3 => intro E' Lx w lf hE hl hA; simp only [setAll, List.zip_cons_cons, List.zip_nil_right, List.map_cons, List.map_nil, List.getD_cons_succ, List.getD_cons_zero, List.set_cons_succ, List.set_cons_zero] at hl; subst hl; first | (refine ow_call Tryd.call18 rfl ((refCheck_calls xa rA vA uA true 0 _ _ _ _ hA (hmA3.mono hE) hFA hfb (ref_check _ _ _)).mono ?_); clear hA; rintro e w ⟨rfl, hA⟩; refine ⟨_, rfl, ?_⟩; exact ⟨put_eq (by rfl), hA⟩)
            case r8_3 =>
              refine' VOps.c0 rfl [1, 3] (by decide) [27, 29] (by decide) rfl ?o8_4 ?r8_4
              case o8_4 => intro E' Lx w lf hE hl hA; simp only [setAll, List.zip_cons_cons, List.zip_nil_right, List.map_cons, List.map_nil, List.getD_cons_succ, List.getD_cons_zero, List.set_cons_succ, List.set_cons_zero] at hl; subst hl; first | (refine ow_eql rfl rfl ?_; exact ⟨pe, hA⟩) | (refine ow_eqs rfl rfl ?_; exact ⟨pe, hA⟩) | (refine t_eqlb rfl rfl ?_; exact ⟨pe, hA⟩)
              case r8_4 =>
                refine' VOps.c0 rfl [4, 3] (by decide) [30, 29] (by decide) rfl ?o8_5 ?r8_5
                case o8_5 => intro E' Lx w lf hE hl hA; simp only [setAll, List.zip_cons_cons, List.zip_nil_right, List.map_cons, List.map_nil, List.getD_cons_succ, List.getD_cons_zero, List.set_cons_succ, List.set_cons_zero] at hl; subst hl; first | (refine ow_move_v rfl ?_; exact ⟨pe, hA⟩)
                case r8_5 =>
                  first | refine' VOps.cT rfl [5] (by decide) [31] (by decide) rfl rfl ?o8_6 ?r8_6 | refine' VOps.cTn rfl [5] (by decide) [31] (by decide) rfl rfl ?o8_6 ?r8_6
                  case o8_6 => intro hg E' Lx w lf hE hl hA; simp only [setAll, List.zip_cons_cons, List.zip_nil_right, List.map_cons, List.map_nil, List.getD_cons_succ, List.getD_cons_zero, List.set_cons_succ, List.set_cons_zero] at hl; subst hl; first | (refine t_loadx opr hA ?_; exact ⟨pe, hA⟩) | (refine t_loada opr hA ?_; exact ⟨pe, hA⟩)
                  case r8_6 =>
                    first | refine' VOps.cT rfl [6, 5] (by decide) [32, 31] (by decide) rfl rfl ?o8_7 ?r8_7 | refine' VOps.cTn rfl [6, 5] (by decide) [32, 31] (by decide) rfl rfl ?o8_7 ?r8_7
                    case o8_7 => intro hg E' Lx w lf hE hl hA; simp only [setAll, List.zip_cons_cons, List.zip_nil_right, List.map_cons, List.map_nil, List.getD_cons_succ, List.getD_cons_zero, List.set_cons_succ, List.set_cons_zero] at hl; subst hl; first | (refine ow_call Tryd.call17 (evs3 opr opr opr) ((mbCheck_ret xa rO vO uO false 2 _ _ _ _ hA (hmO.mono hE) (hG3.mono hE) rfl).mono ?_); clear hA; rintro e w ⟨rfl, hA⟩; refine ⟨_, rfl, ?_⟩; exact ⟨put_eq (by rfl), hA⟩)
                    case r8_7 =>
                      first | refine' VOps.cT rfl [5] (by decide) [31] (by decide) rfl rfl ?o8_8 ?r8_8 | refine' VOps.cTn rfl [5] (by decide) [31] (by decide) rfl rfl ?o8_8 ?r8_8
                      case o8_8 => intro hg E' Lx w lf hE hl hA; simp only [setAll, List.zip_cons_cons, List.zip_nil_right, List.map_cons, List.map_nil, List.getD_cons_succ, List.getD_cons_zero, List.set_cons_succ, List.set_cons_zero] at hl; subst hl; first | (refine t_loadx opr hA ?_; exact ⟨pe, hA⟩) | (refine t_loada opr hA ?_; exact ⟨pe, hA⟩)
                      case r8_8 =>
                        first | refine' VOps.cT rfl [8, 7, 5] (by decide) [34, 33, 31] (by decide) rfl rfl ?o8_9 ?r8_9 | refine' VOps.cTn rfl [8, 7, 5] (by decide) [34, 33, 31] (by decide) rfl rfl ?o8_9 ?r8_9
                        case o8_9 => intro hg E' Lx w lf hE hl hA; simp only [setAll, List.zip_cons_cons, List.zip_nil_right, List.map_cons, List.map_nil, List.getD_cons_succ, List.getD_cons_zero, List.set_cons_succ, List.set_cons_zero] at hl; subst hl; first | (refine ow_call Tryd.call18 (evs3 opr opr opr) ((refCheck_calls xa rA vA uA false 2 _ _ _ _ hA (hmA3.mono hE) hFA hfb (ref_check _ _ _)).mono ?_); clear hA; rintro e w ⟨rfl, hA⟩; refine ⟨_, rfl, ?_⟩; exact ⟨put_eq (by rfl), hA⟩)
                        case r8_9 =>
                          first | refine' VOps.cT rfl [7, 9, 5] (by decide) [33, 35, 31] (by decide) rfl rfl ?o8_10 ?r8_10 | refine' VOps.cTn rfl [7, 9, 5] (by decide) [33, 35, 31] (by decide) rfl rfl ?o8_10 ?r8_10
                          case o8_10 => intro hg E' Lx w lf hE hl hA; simp only [setAll, List.zip_cons_cons, List.zip_nil_right, List.map_cons, List.map_nil, List.getD_cons_succ, List.getD_cons_zero, List.set_cons_succ, List.set_cons_zero] at hl; subst hl; first | (refine ow_eql opr opr ?_; exact ⟨pe, hA⟩) | (refine ow_eqs opr opr ?_; exact ⟨pe, hA⟩) | (refine t_eqlb opr opr ?_; exact ⟨pe, hA⟩)
                          case r8_10 =>
                            refine' VOps.c0 rfl [5, 10] (by decide) [31, 36] (by decide) rfl ?o8_11 ?r8_11
                            case o8_11 => intro E' Lx w lf hE hl hA; simp only [setAll, List.zip_cons_cons, List.zip_nil_right, List.map_cons, List.map_nil, List.getD_cons_succ, List.getD_cons_zero, List.set_cons_succ, List.set_cons_zero] at hl; subst hl; first | (refine ow_and rfl (by first | rfl) rfl ?_; exact ⟨pe, hA⟩) | (refine ow_pick rfl rfl rfl ?_; exact ⟨pe, hA⟩)
                            case r8_11 =>
                              refine' VOps.c0 rfl [11, 9] (by decide) [37, 35] (by decide) rfl ?o8_12 ?r8_12
                              case o8_12 => intro E' Lx w lf hE hl hA; simp only [setAll, List.zip_cons_cons, List.zip_nil_right, List.map_cons, List.map_nil, List.getD_cons_succ, List.getD_cons_zero, List.set_cons_succ, List.set_cons_zero] at hl; subst hl; first | (refine ow_move_v rfl ?_; exact ⟨pe, hA⟩)
                              case r8_12 =>
                                first | refine' VOps.cT rfl [12] (by decide) [38] (by decide) rfl rfl ?o8_13 ?r8_13 | refine' VOps.cTn rfl [12] (by decide) [38] (by decide) rfl rfl ?o8_13 ?r8_13
                                case o8_13 => intro hg E' Lx w lf hE hl hA; simp only [setAll, List.zip_cons_cons, List.zip_nil_right, List.map_cons, List.map_nil, List.getD_cons_succ, List.getD_cons_zero, List.set_cons_succ, List.set_cons_zero] at hl; subst hl; first | (refine t_loadx opr hA ?_; exact ⟨pe, hA⟩) | (refine t_loada opr hA ?_; exact ⟨pe, hA⟩)
                                case r8_13 =>
                                  first | refine' VOps.cT rfl [12] (by decide) [38] (by decide) rfl rfl ?o8_14 ?r8_14 | refine' VOps.cTn rfl [12] (by decide) [38] (by decide) rfl rfl ?o8_14 ?r8_14
                                  case o8_14 => intro hg E' Lx w lf hE hl hA; simp only [setAll, List.zip_cons_cons, List.zip_nil_right, List.map_cons, List.map_nil, List.getD_cons_succ, List.getD_cons_zero, List.set_cons_succ, List.set_cons_zero] at hl; subst hl; first | (refine t_loadx opr hA ?_; exact ⟨pe, hA⟩) | (refine t_loada opr hA ?_; exact ⟨pe, hA⟩)
                                  case r8_14 =>
                                    first | refine' VOps.cT rfl [13, 14, 12] (by decide) [39, 40, 38] (by decide) rfl rfl ?o8_15 ?r8_15 | refine' VOps.cTn rfl [13, 14, 12] (by decide) [39, 40, 38] (by decide) rfl rfl ?o8_15 ?r8_15
                                    case o8_15 => intro hg E' Lx w lf hE hl hA; simp only [setAll, List.zip_cons_cons, List.zip_nil_right, List.map_cons, List.map_nil, List.getD_cons_succ, List.getD_cons_zero, List.set_cons_succ, List.set_cons_zero] at hl; subst hl; first | (refine ow_call Tryd.call19 (evs2 opr opr) ((equalMb_calls xa xa rO vO uO rA vA uA _ _ _ hA (hmO.mono hE) (hmA3.mono hE)).mono ?_); clear hA; rintro e w ⟨rfl, hA⟩; refine ⟨_, rfl, ?_⟩; exact ⟨put_eq (by rfl), hA⟩)
                                    case r8_15 =>
                                      refine' VOps.c0 rfl [12, 15] (by decide) [38, 41] (by decide) rfl ?o8_16 ?r8_16
                                      case o8_16 => intro E' Lx w lf hE hl hA; simp only [setAll, List.zip_cons_cons, List.zip_nil_right, List.map_cons, List.map_nil, List.getD_cons_succ, List.getD_cons_zero, List.set_cons_succ, List.set_cons_zero] at hl; subst hl; first | (refine ow_and rfl (by first | rfl) rfl ?_; exact ⟨pe, hA⟩) | (refine ow_pick rfl rfl rfl ?_; exact ⟨pe, hA⟩)
                                      case r8_16 =>
                                        refine' VOps.c0 rfl [16, 15] (by decide) [42, 41] (by decide) rfl ?o8_17 ?r8_17
                                        case o8_17 => intro E' Lx w lf hE hl hA; simp only [setAll, List.zip_cons_cons, List.zip_nil_right, List.map_cons, List.map_nil, List.getD_cons_succ, List.getD_cons_zero, List.set_cons_succ, List.set_cons_zero] at hl; subst hl; first | (refine ow_move_v rfl ?_; exact ⟨pe, hA⟩)
                                        case r8_17 =>
                                          first | refine' VOps.cT rfl [17] (by decide) [43] (by decide) rfl rfl ?o8_18 ?r8_18 | refine' VOps.cTn rfl [17] (by decide) [43] (by decide) rfl rfl ?o8_18 ?r8_18
                                          case o8_18 => intro hg E' Lx w lf hE hl hA; simp only [setAll, List.zip_cons_cons, List.zip_nil_right, List.map_cons, List.map_nil, List.getD_cons_succ, List.getD_cons_zero, List.set_cons_succ, List.set_cons_zero] at hl; subst hl; first | (refine ow_call Tryd.call20 rfl ((awake13_calls _ _ _ hA (hG3.mono hE)).mono ?_); clear hA; rintro e w ⟨rfl, hA⟩; refine ⟨_, rfl, ?_⟩; exact ⟨put_eq (by rfl), hA⟩)
                                          case r8_18 =>
                                            refine' VOps.c0 rfl [17, 18] (by decide) [43, 44] (by decide) rfl ?o8_19 ?r8_19
                                            case o8_19 => intro E' Lx w lf hE hl hA; simp only [setAll, List.zip_cons_cons, List.zip_nil_right, List.map_cons, List.map_nil, List.getD_cons_succ, List.getD_cons_zero, List.set_cons_succ, List.set_cons_zero] at hl; subst hl; first | (refine ow_and rfl (by first | rfl) rfl ?_; exact ⟨pe, hA⟩) | (refine ow_pick rfl rfl rfl ?_; exact ⟨pe, hA⟩)
                                            case r8_19 =>
                                              exact TameOps.nil
    case' k8 => (try clear hA); intro w hA; refine rn ?_
    repeat' (first | refine st ?_ | (refine wc_region ?_) | (refine su ?_; refine rn ?_) | (refine g_conv ?_; refine p_c hA ?_; refine rn ?_) | (refine g_load ?_; (first | refine t_loadx rfl hA ?_ | refine t_loada rfl hA ?_); refine rn ?_) | (refine g_call ?_; refine t_appx rfl rfl hA rfl ?_; clear hA; (try clear w); intro v w hA hone hnil; refine h_n hA ?_; clear hA; intro hA; refine rn ?_) | (refine g_store ?_; (first | refine t_storex rfl rfl hA ?_ | refine t_storea rfl rfl hA ?_); clear hA; (try clear w); intro w hA; refine h_m hA ?_; clear hA; intro hA; refine rn ?_) | (refine g_ow ?_; (first | refine t_alloc hA ?_ | refine ow_box rfl rfl hA ?_ | refine t_buildSlice rfl (by decide) rfl hA ?_); clear hA; (try clear w); intro b w hA; refine h_n hA ?_; clear hA; intro hA; refine rn ?_) | (refine g_ow ?_; refine t_make rfl rfl (by omega) (by omega) hA ?_; clear hA; (try clear w); intro v w hA hone hnil; refine rn ?_) | refine wc_pp rfl (fun h => ?_) (fun h => ?_) | refine wc_nn rfl (fun h => ?_) (fun h => ?_) | refine rl_pp rfl (fun h => o_n ?_) (fun h => rn ?_) | refine rl_qq rfl (fun h => o_n ?_) (fun h => rn ?_) | refine rl_nn rfl (fun h => o_n ?_) (fun h => rn ?_) | refine rl_mm rfl (fun h => o_n ?_) (fun h => rn ?_))
    exact ret1 ((hA.le hE03).dropN 2) rfl rfl
end Go.Proofs.YteeeabnfgpolgaaDoor
