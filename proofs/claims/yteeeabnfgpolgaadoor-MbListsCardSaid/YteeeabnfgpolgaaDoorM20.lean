/-
  slices.Index of blocks and mb.Block, walked.
-/
import Derived.Test.YteeeabnfgpolgaaDoorM5
import Derived.Test.YteeeabnfgpolgaaDoorN0
set_option linter.unusedVariables false
set_option linter.unusedSimpArgs false
namespace Go.Proofs.YteeeabnfgpolgaaDoor
open Go Go.RowKit
attribute [local irreducible] WC RL OW bodyPostM ThenQ BlockQ LoopQ ScopeQ
/-- Where a block stands first; -1: nowhere. -/
def idxC (l : List Coded) (c : Coded) : Int := match l.findIdx? (fun x => decide (c = x)) with | some n => n | none => -1
set_option maxHeartbeats 4000000 in
theorem idx_calls (v : Value) (xs : List Coded) (c : Coded) (E : Env) (L : List Item) (w : World) (hA : Sat E L w) (hx : ListE codedR 3 E v xs) (hc : I64 c.k) :
    Calls Tryd.prog 83 ⟨[v, .agg ⟨codedC c⟩]⟩ w (Ret E L (vi (idxC xs c))) := by
  obtain ⟨cx, hcx⟩ := hx.sl
  have hle := hcx.le
  refine enter (fn := Tryd.f83) Tryd.func83 rfl 19 rfl [v, .agg ⟨codedC c⟩, undef, undef, undef, undef, undef, undef, undef, undef, undef, undef, undef, undef, undef, undef, undef, undef, undef] rfl ?_
  repeat' (first | (refine g_call ?_; refine t_lenS rfl hcx ?_; refine rn ?_) | refine st ?_ | (refine wc_region ?_) | (refine su ?_; refine rn ?_) | (refine g_conv ?_; refine p_c hA ?_; refine rn ?_) | (refine g_load ?_; (first | refine t_loadx rfl hA ?_ | refine t_loada rfl hA ?_); refine rn ?_) | (refine g_call ?_; refine t_appx rfl rfl hA rfl ?_; clear hA; (try clear w); intro v w hA hone hnil; refine h_n hA ?_; clear hA; intro hA; refine rn ?_) | (refine g_store ?_; (first | refine t_storex rfl rfl hA ?_ | refine t_storea rfl rfl hA ?_); clear hA; (try clear w); intro w hA; refine h_m hA ?_; clear hA; intro hA; refine rn ?_) | (refine g_ow ?_; (first | refine t_alloc hA ?_ | refine ow_box rfl rfl hA ?_ | refine t_buildSlice rfl (by decide) rfl hA ?_); clear hA; (try clear w); intro b w hA; refine h_n hA ?_; clear hA; intro hA; refine rn ?_) | (refine g_ow ?_; refine t_make rfl rfl (by omega) (by omega) hA ?_; clear hA; (try clear w); intro v w hA hone hnil; refine rn ?_) | refine wc_pp rfl (fun h => ?_) (fun h => ?_) | refine wc_nn rfl (fun h => ?_) (fun h => ?_) | refine rl_pp rfl (fun h => o_n ?_) (fun h => rn ?_) | refine rl_qq rfl (fun h => o_n ?_) (fun h => rn ?_) | refine rl_nn rfl (fun h => o_n ?_) (fun h => rn ?_) | refine rl_mm rfl (fun h => o_n ?_) (fun h => rn ?_))
  generalize hb3 : b = b3 at *
  clear hb3
  refine wc_loopn (fun k l w => ∃ (i : Nat), (∃ jk : Nat → Value, l = [v, jk 1, jk 2, .pointer (some ⟨b3, 0, none⟩), jk 4, jk 5, jk 6, .int .i64 (xs.length : Int), .int .i64 (i : Int), jk 9, jk 10, jk 11, jk 12, jk 13, jk 14, jk 15, jk 16, jk 17, jk 18]) ∧ i + k = xs.length ∧ (∀ j x, j < i → xs[j]? = some x → c ≠ x) ∧ Sat E (cells b3 (codedC c) 48 :: L) w) xs.length ⟨0, (ex_getD rfl), by omega, fun j x hj => absurd hj (by omega), hA⟩ ?_
  clear hA
  rintro k l w ⟨i, ⟨jk, rfl⟩, hi, hn, hA⟩
  by_cases hlt : i < xs.length
  · obtain ⟨x, hxi⟩ : ∃ x, xs[i]? = some x := ⟨_, List.getElem?_eq_getElem hlt⟩
    obtain ⟨cs, hcsl, ⟨rfl, hxI⟩, hg⟩ := hx.get hxi
    have px : ∀ t z, (codedC x)[t]? = some z → E.cell? ⟨sB v, sO v + (i : Int).toNat * 3 + t, none⟩ = some z := fun t z hz => by rw [Int.toNat_natCast]; exact hg t z hz
    repeat' (first | refine st ?_ | (refine wc_regionS 4 rfl ?_; refine wc_region ?_) | (refine su ?_; refine rn ?_) | (refine g_conv ?_; refine p_c hA ?_; refine rn ?_) | (refine g_load ?_; (first | refine t_loadx rfl hA ?_ | refine t_loada rfl hA ?_); refine rn ?_) | (refine g_call ?_; refine t_appx rfl rfl hA rfl ?_; clear hA; (try clear w); intro v w hA hone hnil; refine h_n hA ?_; clear hA; intro hA; refine rn ?_) | (refine g_store ?_; (first | refine t_storex rfl rfl hA ?_ | refine t_storea rfl rfl hA ?_); clear hA; (try clear w); intro w hA; refine h_m hA ?_; clear hA; intro hA; refine rn ?_) | (refine g_ow ?_; (first | refine t_alloc hA ?_ | refine ow_box rfl rfl hA ?_ | refine t_buildSlice rfl (by decide) rfl hA ?_); clear hA; (try clear w); intro b w hA; refine h_n hA ?_; clear hA; intro hA; refine rn ?_) | (refine g_ow ?_; refine t_make rfl rfl (by omega) (by omega) hA ?_; clear hA; (try clear w); intro v w hA hone hnil; refine rn ?_) | refine wc_pp rfl (fun h => ?_) (fun h => ?_) | refine wc_nn rfl (fun h => ?_) (fun h => ?_) | refine rl_pp rfl (fun h => o_n ?_) (fun h => rn ?_) | refine rl_qq rfl (fun h => o_n ?_) (fun h => rn ?_) | refine rl_nn rfl (fun h => o_n ?_) (fun h => rn ?_) | refine rl_mm rfl (fun h => o_n ?_) (fun h => rn ?_))
    refine' wc_vals 6 [11, 12, 13, 14, 15, 16] [_, _, _, _, _, _] rfl (by kernel_rfl) (by kernel_rfl) (by kernel_rfl) hA ?ops4 ?k4
    case ops4 =>
      refine' VOps.c0 rfl [] (by decide) [] (by decide) rfl ?o4_0 ?r4_0
      case o4_0 => intro E' Lx w lf hE hl hA; simp only [setAll, List.zip_cons_cons, List.zip_nil_right, List.map_cons, List.map_nil, List.getD_cons_succ, List.getD_cons_zero, List.set_cons_succ, List.set_cons_zero] at hl; subst hl; first | (refine t_loadx rfl hA ?_; exact ⟨pe, hA⟩) | (refine t_loada rfl hA ?_; exact ⟨pe, hA⟩)
      case r4_0 =>
        refine' VOps.c0 rfl [] (by decide) [] (by decide) rfl ?o4_1 ?r4_1
        case o4_1 => intro E' Lx w lf hE hl hA; simp only [setAll, List.zip_cons_cons, List.zip_nil_right, List.map_cons, List.map_nil, List.getD_cons_succ, List.getD_cons_zero, List.set_cons_succ, List.set_cons_zero] at hl; subst hl; first | (refine ow_move_v rfl ?_; exact ⟨pe, hA⟩)
        case r4_1 =>
          refine' VOps.c0 rfl [] (by decide) [] (by decide) rfl ?o4_2 ?r4_2
          case o4_2 => intro E' Lx w lf hE hl hA; simp only [setAll, List.zip_cons_cons, List.zip_nil_right, List.map_cons, List.map_nil, List.getD_cons_succ, List.getD_cons_zero, List.set_cons_succ, List.set_cons_zero] at hl; subst hl; first | (refine ow_move_v rfl ?_; exact ⟨pe, hA⟩)
          case r4_2 =>
            refine' VOps.c0 rfl [1, 2] (by decide) [12, 13] (by decide) rfl ?o4_3 ?r4_3
            case o4_3 => intro E' Lx w lf hE hl hA; simp only [setAll, List.zip_cons_cons, List.zip_nil_right, List.map_cons, List.map_nil, List.getD_cons_succ, List.getD_cons_zero, List.set_cons_succ, List.set_cons_zero] at hl; subst hl; first | (refine t_indexAddrS rfl (hcx.mono hE) rfl (by omega) ?_; exact ⟨pe, hA⟩) | (refine t_indexAddrS rfl hcx rfl (by omega) ?_; exact ⟨pe, hA⟩) | (refine t_indexAddr rfl rfl (by omega) ?_; exact ⟨pe, hA⟩) | (refine t_indexAddrS rfl rfl (by omega) ?_; exact ⟨pe, hA⟩)
            case r4_3 =>
              refine' VOps.c0 rfl [3] (by decide) [14] (by decide) rfl ?o4_4 ?r4_4
              case o4_4 => intro E' Lx w lf hE hl hA; simp only [setAll, List.zip_cons_cons, List.zip_nil_right, List.map_cons, List.map_nil, List.getD_cons_succ, List.getD_cons_zero, List.set_cons_succ, List.set_cons_zero] at hl; subst hl; first | (refine t_load_agg_env rfl rfl hA (fun t z hz => hE.cell (px t z hz)) rfl ?_; exact ⟨pe, hA⟩) | (refine t_loadx rfl hA ?_; exact ⟨pe, hA⟩) | (refine t_loada rfl hA ?_; exact ⟨pe, hA⟩)
              case r4_4 =>
                refine' VOps.c0 rfl [0, 4] (by decide) [11, 15] (by decide) rfl ?o4_5 ?r4_5
                case o4_5 => intro E' Lx w lf hE hl hA; simp only [setAll, List.zip_cons_cons, List.zip_nil_right, List.map_cons, List.map_nil, List.getD_cons_succ, List.getD_cons_zero, List.set_cons_succ, List.set_cons_zero] at hl; subst hl; first | (refine t_eqCoded (a := c) (b := x) rfl rfl hc hxI ?_; exact ⟨pe, hA⟩) | (refine ow_eql rfl rfl ?_; exact ⟨pe, hA⟩) | (refine ow_eqs rfl rfl ?_; exact ⟨pe, hA⟩) | (refine t_eqlb rfl rfl ?_; exact ⟨pe, hA⟩)
                case r4_5 =>
                  exact TameOps.nil
    case' k4 => (try clear hA); intro w hA; refine rn ?_
    by_cases he : c = x
    · have e : idxC xs c = (i : Int) := by
        unfold idxC
        have : xs.findIdx? (fun x => decide (c = x)) = some i := by
          rw [List.findIdx?_eq_some_iff_getElem]
          refine ⟨hlt, ?_, fun j hj => ?_⟩
          · have : xs[i] = x := (List.getElem?_eq_some_iff.1 hxi).2
            rw [this]; exact decide_eq_true he
          · have := hn j _ hj (List.getElem?_eq_getElem (by omega))
            simpa using this
        rw [this]
      rw [e]
      repeat' (first | refine st ?_ | (refine wc_region ?_) | (refine su ?_; refine rn ?_) | (refine g_conv ?_; refine p_c hA ?_; refine rn ?_) | (refine g_load ?_; (first | refine t_loadx rfl hA ?_ | refine t_loada rfl hA ?_); refine rn ?_) | (refine g_call ?_; refine t_appx rfl rfl hA rfl ?_; clear hA; (try clear w); intro v w hA hone hnil; refine h_n hA ?_; clear hA; intro hA; refine rn ?_) | (refine g_store ?_; (first | refine t_storex rfl rfl hA ?_ | refine t_storea rfl rfl hA ?_); clear hA; (try clear w); intro w hA; refine h_m hA ?_; clear hA; intro hA; refine rn ?_) | (refine g_ow ?_; (first | refine t_alloc hA ?_ | refine ow_box rfl rfl hA ?_ | refine t_buildSlice rfl (by decide) rfl hA ?_); clear hA; (try clear w); intro b w hA; refine h_n hA ?_; clear hA; intro hA; refine rn ?_) | (refine g_ow ?_; refine t_make rfl rfl (by omega) (by omega) hA ?_; clear hA; (try clear w); intro v w hA hone hnil; refine rn ?_) | refine wc_pp rfl (fun h => ?_) (fun h => ?_) | refine wc_nn rfl (fun h => ?_) (fun h => ?_) | refine rl_pp rfl (fun h => o_n ?_) (fun h => rn ?_) | refine rl_qq rfl (fun h => o_n ?_) (fun h => rn ?_) | refine rl_nn rfl (fun h => o_n ?_) (fun h => rn ?_) | refine rl_mm rfl (fun h => o_n ?_) (fun h => rn ?_))
      exact ret1 hA.tail rfl rfl
    · repeat' (first | refine st ?_ | (refine wc_region ?_) | (refine su ?_; refine rn ?_) | (refine g_conv ?_; refine p_c hA ?_; refine rn ?_) | (refine g_load ?_; (first | refine t_loadx rfl hA ?_ | refine t_loada rfl hA ?_); refine rn ?_) | (refine g_call ?_; refine t_appx rfl rfl hA rfl ?_; clear hA; (try clear w); intro v w hA hone hnil; refine h_n hA ?_; clear hA; intro hA; refine rn ?_) | (refine g_store ?_; (first | refine t_storex rfl rfl hA ?_ | refine t_storea rfl rfl hA ?_); clear hA; (try clear w); intro w hA; refine h_m hA ?_; clear hA; intro hA; refine rn ?_) | (refine g_ow ?_; (first | refine t_alloc hA ?_ | refine ow_box rfl rfl hA ?_ | refine t_buildSlice rfl (by decide) rfl hA ?_); clear hA; (try clear w); intro b w hA; refine h_n hA ?_; clear hA; intro hA; refine rn ?_) | (refine g_ow ?_; refine t_make rfl rfl (by omega) (by omega) hA ?_; clear hA; (try clear w); intro v w hA hone hnil; refine rn ?_) | refine wc_pp rfl (fun h => ?_) (fun h => ?_) | refine wc_nn rfl (fun h => ?_) (fun h => ?_) | refine rl_pp rfl (fun h => o_n ?_) (fun h => rn ?_) | refine rl_qq rfl (fun h => o_n ?_) (fun h => rn ?_) | refine rl_nn rfl (fun h => o_n ?_) (fun h => rn ?_) | refine rl_mm rfl (fun h => o_n ?_) (fun h => rn ?_))
      exact lq_next (k - 1) (by omega) ⟨i + 1, (ex_getD rfl), by omega, fun j y hj hy => by
        by_cases hji : j = i
        · subst hji; rw [hxi] at hy; cases hy; exact he
        · exact hn j y (by omega) hy, hA⟩
  · have e : idxC xs c = -1 := by
      unfold idxC
      have : xs.findIdx? (fun x => decide (c = x)) = none := by
        rw [List.findIdx?_eq_none_iff]
        intro x hx
        obtain ⟨j, hj⟩ := List.getElem?_of_mem hx
        have := hn j x (by have := (List.getElem?_eq_some_iff.1 hj).1; omega) hj
        simpa using this
      rw [this]
    rw [e]
    repeat' (first | refine st ?_ | (refine wc_region ?_) | (refine su ?_; refine rn ?_) | (refine g_conv ?_; refine p_c hA ?_; refine rn ?_) | (refine g_load ?_; (first | refine t_loadx rfl hA ?_ | refine t_loada rfl hA ?_); refine rn ?_) | (refine g_call ?_; refine t_appx rfl rfl hA rfl ?_; clear hA; (try clear w); intro v w hA hone hnil; refine h_n hA ?_; clear hA; intro hA; refine rn ?_) | (refine g_store ?_; (first | refine t_storex rfl rfl hA ?_ | refine t_storea rfl rfl hA ?_); clear hA; (try clear w); intro w hA; refine h_m hA ?_; clear hA; intro hA; refine rn ?_) | (refine g_ow ?_; (first | refine t_alloc hA ?_ | refine ow_box rfl rfl hA ?_ | refine t_buildSlice rfl (by decide) rfl hA ?_); clear hA; (try clear w); intro b w hA; refine h_n hA ?_; clear hA; intro hA; refine rn ?_) | (refine g_ow ?_; refine t_make rfl rfl (by omega) (by omega) hA ?_; clear hA; (try clear w); intro v w hA hone hnil; refine rn ?_) | refine wc_pp rfl (fun h => ?_) (fun h => ?_) | refine wc_nn rfl (fun h => ?_) (fun h => ?_) | refine rl_pp rfl (fun h => o_n ?_) (fun h => rn ?_) | refine rl_qq rfl (fun h => o_n ?_) (fun h => rn ?_) | refine rl_nn rfl (fun h => o_n ?_) (fun h => rn ?_) | refine rl_mm rfl (fun h => o_n ?_) (fun h => rn ?_))
    exact ret1 hA.tail rfl rfl
/-- A block of a macroblock, if it is coded. -/
def blockO (m : Mb) (c : Coded) : Option (List Int) := ((blocksL m).findIdx? (fun x => decide (c = x))).bind fun n => m.blocks[n]?
set_option maxHeartbeats 4000000 in
theorem block_calls (m : Mb) (r v u : Value) (c : Coded) (E : Env) (L : List Item) (w : World) (hA : Sat E L w) (hm : MbL E m r v u) (hc : I64 c.k) (hf : Short m.blocks) :
    Calls Tryd.prog 30 ⟨[.agg ⟨mbC m r v u⟩, .agg ⟨codedC c⟩]⟩ w (fun e w' => ∃ E' q, e = .returned (.tuple ⟨[q, .bool (blockO m c).isSome]⟩) ∧ E.Le E' ∧ ListE intR 1 (E'.sub E) q ((blockO m c).getD []) ∧ Sat E' L w') := by
  obtain ⟨x3, hs3⟩ := hm.blocks.sl
  have hle := hs3.le
  refine enter (fn := Tryd.f30) Tryd.func30 rfl 26 rfl [.agg ⟨mbC m r v u⟩, .agg ⟨codedC c⟩, undef, undef, undef, undef, undef, undef, undef, undef, undef, undef, undef, undef, undef, undef, undef, undef, undef, undef, undef, undef, undef, undef, undef, undef] rfl ?_
  repeat' (first | refine st ?_ | (refine wc_regionS 1 rfl ?_; refine wc_region ?_) | (refine su ?_; refine rn ?_) | (refine g_conv ?_; refine p_c hA ?_; refine rn ?_) | (refine g_load ?_; (first | refine t_loadx rfl hA ?_ | refine t_loada rfl hA ?_); refine rn ?_) | (refine g_call ?_; refine t_appx rfl rfl hA rfl ?_; clear hA; (try clear w); intro v w hA hone hnil; refine h_n hA ?_; clear hA; intro hA; refine rn ?_) | (refine g_store ?_; (first | refine t_storex rfl rfl hA ?_ | refine t_storea rfl rfl hA ?_); clear hA; (try clear w); intro w hA; refine h_m hA ?_; clear hA; intro hA; refine rn ?_) | (refine g_ow ?_; (first | refine t_alloc hA ?_ | refine ow_box rfl rfl hA ?_ | refine t_buildSlice rfl (by decide) rfl hA ?_); clear hA; (try clear w); intro b w hA; refine h_n hA ?_; clear hA; intro hA; refine rn ?_) | (refine g_ow ?_; refine t_make rfl rfl (by omega) (by omega) hA ?_; clear hA; (try clear w); intro v w hA hone hnil; refine rn ?_) | refine wc_pp rfl (fun h => ?_) (fun h => ?_) | refine wc_nn rfl (fun h => ?_) (fun h => ?_) | refine rl_pp rfl (fun h => o_n ?_) (fun h => rn ?_) | refine rl_qq rfl (fun h => o_n ?_) (fun h => rn ?_) | refine rl_nn rfl (fun h => o_n ?_) (fun h => rn ?_) | refine rl_mm rfl (fun h => o_n ?_) (fun h => rn ?_))
  refine' wc_mix 4 [7, 8, 9, 10] [0, 1, 2, 3] (mixPhi [_, undef, _, _] (fun ix => match ix with | 1 => some (fun E1 q => ListE codedR 3 E1 q (blocksL m)) | _ => none)) rfl (by kernel_rfl) (by kernel_rfl) (by decide) hA ?phi1 ?ops1 ?k1
  case ops1 =>
    refine' TameOps.m rfl [] (by decide) [] (by decide) ?o1_0 ?r1_0
    case o1_0 => intro yy E' Lx w lf hE hph hl hA; simp only [setAll, List.zip_cons_cons, List.zip_nil_right, List.map_cons, List.map_nil, List.set_cons_succ, List.set_cons_zero] at hl; subst hl; clear hph; first | (refine t_loadx rfl hA ?_; exact ⟨_, E', pe, Env.Le.refl _, mix_mk rfl rfl, hA⟩) | (refine t_loada rfl hA ?_; exact ⟨_, E', pe, Env.Le.refl _, mix_mk rfl rfl, hA⟩)
    case r1_0 =>
      refine' TameOps.m rfl [0] (by decide) [7] (by decide) ?o1_1 ?r1_1
      case o1_1 => intro yy E' Lx w lf hE hph hl hA; have e0 := mix_known (hph 0 (by decide)) rfl rfl; simp only [setAll, List.zip_cons_cons, List.zip_nil_right, List.map_cons, List.map_nil, List.set_cons_succ, List.set_cons_zero, ← e0] at hl; subst hl; clear hph; refine ow_call Tryd.call28 rfl ((blocksL_calls m r v u _ _ _ hA).mono ?_); clear hA; rintro e w ⟨E2, q, rfl, hE2, hq, hA⟩; exact ⟨_, rfl, q, E2, rfl, hE2, mix_mkP rfl hq, hA⟩
      case r1_1 =>
        refine' TameOps.m rfl [] (by decide) [] (by decide) ?o1_2 ?r1_2
        case o1_2 => intro yy E' Lx w lf hE hph hl hA; simp only [setAll, List.zip_cons_cons, List.zip_nil_right, List.map_cons, List.map_nil, List.set_cons_succ, List.set_cons_zero] at hl; subst hl; clear hph; first | (refine t_loadx rfl hA ?_; exact ⟨_, E', pe, Env.Le.refl _, mix_mk rfl rfl, hA⟩) | (refine t_loada rfl hA ?_; exact ⟨_, E', pe, Env.Le.refl _, mix_mk rfl rfl, hA⟩)
        case r1_2 =>
          refine' TameOps.m rfl [1, 2] (by decide) [8, 9] (by decide) ?o1_3 ?r1_3
          case o1_3 => intro yy E' Lx w lf hE hph hl hA; have e2 := mix_known (hph 2 (by decide)) rfl rfl; simp only [setAll, List.zip_cons_cons, List.zip_nil_right, List.map_cons, List.map_nil, List.set_cons_succ, List.set_cons_zero, ← e2] at hl; subst hl; have p1 := mix_pred (hph 1 (by decide)) rfl; generalize yy 1 = y1 at *; clear hph; first | (refine ow_call Tryd.call83 rfl ((idx_calls _ _ c _ _ _ hA p1 hc).mono ?_); clear hA; rintro e w ⟨rfl, hA⟩; refine ⟨_, rfl, ?_⟩; exact ⟨_, E', put_eq (by rfl), Env.Le.refl _, mix_mk rfl rfl, hA⟩)
          case r1_3 =>
            exact TameOps.nil
  case phi1 => (refine mix_mono fun i p hp E1 E2 v hE h => ?_; split at hp <;> first | (cases hp; done) | (obtain rfl := Option.some.inj hp; first | exact ListE.mono h hE | exact ListE.mono h (Env.sub_left _ hE) | exact PMono.mono hE h | exact PMono.mono (Env.sub_left _ hE) h | exact h))
  case' k1 => (try clear hA); intro yy E' w lf hE hph hl hA; have e0 := mix_known (hph 0 (by decide)) rfl rfl; have e2 := mix_known (hph 2 (by decide)) rfl rfl; have e3 := mix_known (hph 3 (by decide)) rfl rfl; simp only [setAll, List.zip_cons_cons, List.zip_nil_right, List.map_cons, List.map_nil, List.set_cons_succ, List.set_cons_zero, ← e0, ← e2, ← e3] at hl; subst hl; have p1 := mix_pred (hph 1 (by decide)) rfl; generalize yy 1 = y1 at *; clear hph
  clear e0 e2 e3
  replace hs3 := hs3.mono hE
  replace hm := hm.mono hE
  have hnn : idxC (blocksL m) c = match (blocksL m).findIdx? (fun x => decide (c = x)) with | some n => (n : Int) | none => -1 := rfl
  unfold blockO
  cases hfi : (blocksL m).findIdx? (fun x => decide (c = x)) with
  | none =>
    rw [hfi] at hnn
    simp only at hnn
    rw [hnn]
    repeat' (first | refine st ?_ | (refine wc_region ?_) | (refine su ?_; refine rn ?_) | (refine g_conv ?_; refine p_c hA ?_; refine rn ?_) | (refine g_load ?_; (first | refine t_loadx rfl hA ?_ | refine t_loada rfl hA ?_); refine rn ?_) | (refine g_call ?_; refine t_appx rfl rfl hA rfl ?_; clear hA; (try clear w); intro v w hA hone hnil; refine h_n hA ?_; clear hA; intro hA; refine rn ?_) | (refine g_store ?_; (first | refine t_storex rfl rfl hA ?_ | refine t_storea rfl rfl hA ?_); clear hA; (try clear w); intro w hA; refine h_m hA ?_; clear hA; intro hA; refine rn ?_) | (refine g_ow ?_; (first | refine t_alloc hA ?_ | refine ow_box rfl rfl hA ?_ | refine t_buildSlice rfl (by decide) rfl hA ?_); clear hA; (try clear w); intro b w hA; refine h_n hA ?_; clear hA; intro hA; refine rn ?_) | (refine g_ow ?_; refine t_make rfl rfl (by omega) (by omega) hA ?_; clear hA; (try clear w); intro v w hA hone hnil; refine rn ?_) | refine wc_pp rfl (fun h => ?_) (fun h => ?_) | refine wc_nn rfl (fun h => ?_) (fun h => ?_) | refine rl_pp rfl (fun h => o_n ?_) (fun h => rn ?_) | refine rl_qq rfl (fun h => o_n ?_) (fun h => rn ?_) | refine rl_nn rfl (fun h => o_n ?_) (fun h => rn ?_) | refine rl_mm rfl (fun h => o_n ?_) (fun h => rn ?_))
    exact fp_ret (res2 rfl rfl rfl) ⟨E', _, rfl, hE, ListE.nil, hA.dropN 2⟩
  | some n =>
    rw [hfi] at hnn
    simp only at hnn
    rw [hnn]
    have hn27 : n < (blocksL m).length := by
      rw [List.findIdx?_eq_some_iff_getElem] at hfi
      exact hfi.1
    have h27 := blocksL_len m
    by_cases hlt : n < m.blocks.length
    · obtain ⟨y, hy⟩ : ∃ y, m.blocks[n]? = some y := ⟨_, List.getElem?_eq_getElem hlt⟩
      obtain ⟨cs, hcsl, ⟨qv, rfl, hq⟩, hg⟩ := hm.blocks.get hy
      have px : E'.cell? ⟨sB u, sO u + (n : Int).toNat * 1, none⟩ = some qv := by rw [Int.toNat_natCast]; exact hg 0 _ rfl
      have hyl := hf y (List.mem_of_getElem? hy)
      rw [show ((some n).bind fun n => m.blocks[n]?) = some y from hy]
      repeat' (first | (refine g_call ?_; refine t_lenS rfl hs3 ?_; refine rn ?_) | (refine g_ow ?_; refine t_indexAddrS rfl hs3 rfl (by omega) ?_; refine rn ?_) | (refine g_ow ?_; refine t_load_env rfl rfl hA px ?_; refine rn ?_) | (refine g_ow ?_; refine t_loadx rfl hA ?_; refine rn ?_) | (refine g_callf 78 ?_; refine ow_call Tryd.call78 rfl ((cloneInts_calls _ _ _ _ _ hA hq (by omega)).mono ?_); clear hA; (try clear w); rintro e w ⟨E2, q, rfl, hE2, hql, hA⟩; refine ⟨_, rfl, ?_⟩; refine rn ?_) | refine st ?_ | (refine wc_region ?_) | (refine su ?_; refine rn ?_) | (refine g_conv ?_; refine p_c hA ?_; refine rn ?_) | (refine g_load ?_; (first | refine t_loadx rfl hA ?_ | refine t_loada rfl hA ?_); refine rn ?_) | (refine g_call ?_; refine t_appx rfl rfl hA rfl ?_; clear hA; (try clear w); intro v w hA hone hnil; refine h_n hA ?_; clear hA; intro hA; refine rn ?_) | (refine g_store ?_; (first | refine t_storex rfl rfl hA ?_ | refine t_storea rfl rfl hA ?_); clear hA; (try clear w); intro w hA; refine h_m hA ?_; clear hA; intro hA; refine rn ?_) | (refine g_ow ?_; (first | refine t_alloc hA ?_ | refine ow_box rfl rfl hA ?_ | refine t_buildSlice rfl (by decide) rfl hA ?_); clear hA; (try clear w); intro b w hA; refine h_n hA ?_; clear hA; intro hA; refine rn ?_) | (refine g_ow ?_; refine t_make rfl rfl (by omega) (by omega) hA ?_; clear hA; (try clear w); intro v w hA hone hnil; refine rn ?_) | refine wc_pp rfl (fun h => ?_) (fun h => ?_) | refine wc_nn rfl (fun h => ?_) (fun h => ?_) | refine rl_pp rfl (fun h => o_n ?_) (fun h => rn ?_) | refine rl_qq rfl (fun h => o_n ?_) (fun h => rn ?_) | refine rl_nn rfl (fun h => o_n ?_) (fun h => rn ?_) | refine rl_mm rfl (fun h => o_n ?_) (fun h => rn ?_))
      exact fp_ret (res2 rfl rfl rfl) ⟨E2, q, rfl, hE.trans hE2, hql.mono (Env.sub_right _ hE), hA.dropN 2⟩
    · rw [show ((some n).bind fun n => m.blocks[n]?) = none from List.getElem?_eq_none (by omega)]
      repeat' (first | (refine g_call ?_; refine t_lenS rfl hs3 ?_; refine rn ?_) | refine st ?_ | (refine wc_region ?_) | (refine su ?_; refine rn ?_) | (refine g_conv ?_; refine p_c hA ?_; refine rn ?_) | (refine g_load ?_; (first | refine t_loadx rfl hA ?_ | refine t_loada rfl hA ?_); refine rn ?_) | (refine g_call ?_; refine t_appx rfl rfl hA rfl ?_; clear hA; (try clear w); intro v w hA hone hnil; refine h_n hA ?_; clear hA; intro hA; refine rn ?_) | (refine g_store ?_; (first | refine t_storex rfl rfl hA ?_ | refine t_storea rfl rfl hA ?_); clear hA; (try clear w); intro w hA; refine h_m hA ?_; clear hA; intro hA; refine rn ?_) | (refine g_ow ?_; (first | refine t_alloc hA ?_ | refine ow_box rfl rfl hA ?_ | refine t_buildSlice rfl (by decide) rfl hA ?_); clear hA; (try clear w); intro b w hA; refine h_n hA ?_; clear hA; intro hA; refine rn ?_) | (refine g_ow ?_; refine t_make rfl rfl (by omega) (by omega) hA ?_; clear hA; (try clear w); intro v w hA hone hnil; refine rn ?_) | refine wc_pp rfl (fun h => ?_) (fun h => ?_) | refine wc_nn rfl (fun h => ?_) (fun h => ?_) | refine rl_pp rfl (fun h => o_n ?_) (fun h => rn ?_) | refine rl_qq rfl (fun h => o_n ?_) (fun h => rn ?_) | refine rl_nn rfl (fun h => o_n ?_) (fun h => rn ?_) | refine rl_mm rfl (fun h => o_n ?_) (fun h => rn ?_))
      exact fp_ret (res2 rfl rfl rfl) ⟨E', _, rfl, hE, ListE.nil, hA.dropN 2⟩
end Go.Proofs.YteeeabnfgpolgaaDoor
