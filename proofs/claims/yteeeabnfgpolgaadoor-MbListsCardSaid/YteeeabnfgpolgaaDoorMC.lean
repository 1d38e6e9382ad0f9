/-
  spindlekit.CopyMb, walked: its blocks still the call's own.
-/
import Derived.Test.YteeeabnfgpolgaaDoorK4
import Derived.Test.YteeeabnfgpolgaaDoorSlD
import Derived.Test.YteeeabnfgpolgaaDoorSlI
set_option linter.unusedVariables false
set_option linter.unusedSimpArgs false
namespace Go.Proofs.YteeeabnfgpolgaaDoor
open Go Go.RowKit
attribute [local irreducible] WC RL OW bodyPostM ThenQ BlockQ LoopQ
def rowInts (xs : List Int) : Env → Value → Prop := fun E v => v.oneCell' = true ∧ ∃ cells, CsE intR 1 E cells xs ∧ RowIn E 3 1 v xs.length cells
def rowVecs (xs : List Vec) : Env → Value → Prop := fun E v => v.oneCell' = true ∧ ∃ cells, CsE vecR 2 E cells xs ∧ RowIn E 43 2 v xs.length cells
def rowBl (E0 : Env) (xs : List (List Int)) : Env → Value → Prop := fun E v => v.oneCell' = true ∧ ∃ D cells, E0.Le D ∧ D.Le E ∧ (∀ g m c, v = .slice (some ⟨g, 0, none⟩) m c → D.H g = none) ∧ CsE (listR intR 1) 1 D cells xs ∧ RowIn E 24 1 v xs.length cells
instance {xs} : PMono (rowInts xs) := ⟨fun hE ⟨h0, c, h1, h2⟩ => ⟨h0, c, h1.mono hE, h2.mono hE⟩⟩
instance {xs} : PMono (rowVecs xs) := ⟨fun hE ⟨h0, c, h1, h2⟩ => ⟨h0, c, h1.mono hE, h2.mono hE⟩⟩
instance {E0 xs} : PMono (rowBl E0 xs) := ⟨fun hE ⟨h0, D, c, h3, h4, h5, h1, h2⟩ => ⟨h0, D, c, h3, h4.trans hE, h5, h1, h2.mono hE⟩⟩
set_option maxHeartbeats 4000000 in
theorem copyMb_row (m : Mb) (r v b : Value) (E : Env) (L : List Item) (w : World) (hA : Sat E L w) (hm : MbL E m r v b) (hf : Fits m) :
    Calls Tryd.prog 16 ⟨[.agg ⟨mbC m r v b⟩]⟩ w (fun e w' => ∃ E' r' v' b' cells, e = .returned (.agg ⟨mbC m r' v' b'⟩) ∧ E.Le E' ∧ ListE intR 1 E' r' m.refs ∧ ListE vecR 2 E' v' m.mvds ∧ b'.oneCell' = true ∧ CsE (listR intR 1) 1 E' cells m.blocks ∧ Sat E' (row 24 1 b' m.blocks.length cells :: L) w') := by
  obtain ⟨cv, hcv, hsv⟩ := hm.mvds.cs
  have hf1 := hf.refs
  have hf2 := hf.mvds
  refine enter (fn := Tryd.f16) Tryd.func16 rfl 16 rfl [.agg ⟨mbC m r v b⟩, undef, undef, undef, undef, undef, undef, undef, undef, undef, undef, undef, undef, undef, undef, undef] rfl ?_
  repeat' (first | refine st ?_ | (refine wc_regionS 1 rfl ?_; refine wc_region ?_) | (refine su ?_; refine rn ?_) | (refine g_conv ?_; refine p_c hA ?_; refine rn ?_) | (refine g_load ?_; (first | refine t_loadx rfl hA ?_ | refine t_loada rfl hA ?_); refine rn ?_) | (refine g_call ?_; refine t_appx rfl rfl hA rfl ?_; clear hA; (try clear w); intro v w hA hone hnil; refine h_n hA ?_; clear hA; intro hA; refine rn ?_) | (refine g_store ?_; (first | refine t_storex rfl rfl hA ?_ | refine t_storea rfl rfl hA ?_); clear hA; (try clear w); intro w hA; refine h_m hA ?_; clear hA; intro hA; refine rn ?_) | (refine g_ow ?_; (first | refine t_alloc hA ?_ | refine ow_box rfl rfl hA ?_ | refine t_buildSlice rfl (by decide) rfl hA ?_); clear hA; (try clear w); intro b w hA; refine h_n hA ?_; clear hA; intro hA; refine rn ?_) | (refine g_ow ?_; refine t_make rfl rfl (by omega) (by omega) hA ?_; clear hA; (try clear w); intro v w hA hone hnil; refine rn ?_) | refine wc_pp rfl (fun h => ?_) (fun h => ?_) | refine wc_nn rfl (fun h => ?_) (fun h => ?_) | refine rl_pp rfl (fun h => o_n ?_) (fun h => rn ?_) | refine rl_qq rfl (fun h => o_n ?_) (fun h => rn ?_) | refine rl_nn rfl (fun h => o_n ?_) (fun h => rn ?_) | refine rl_mm rfl (fun h => o_n ?_) (fun h => rn ?_))
  refine' wc_mix 10 [3, 4, 5, 6, 7, 8, 9, 10, 11, 12] [0, 1, 2, 3, 4, 5, 6, 7, 8, 9] (mixPhi [_, _, undef, _, _, undef, _, _, undef, _] (fun ix => match ix with | 2 => some (rowInts m.refs) | 5 => some (rowVecs m.mvds) | 8 => some (rowBl E m.blocks) | _ => none)) rfl (by kernel_rfl) (by kernel_rfl) (by decide) hA ?phi1 ?ops1 ?k1
  case ops1 =>
    refine' TameOps.m rfl [] (by decide) [] (by decide) ?o1_0 ?r1_0
    case o1_0 => intro yy E' Lx w lf hE hph hl hA; simp only [setAll, List.zip_cons_cons, List.zip_nil_right, List.map_cons, List.map_nil, List.set_cons_succ, List.set_cons_zero] at hl; subst hl; clear hph; first | (refine t_fieldAddr rfl ?_; exact ⟨_, E', pe, Env.Le.refl _, mix_mk rfl rfl, hA⟩)
    case r1_0 =>
      refine' TameOps.m rfl [0] (by decide) [3] (by decide) ?o1_1 ?r1_1
      case o1_1 => intro yy E' Lx w lf hE hph hl hA; have e0 := mix_known (hph 0 (by decide)) rfl rfl; simp only [setAll, List.zip_cons_cons, List.zip_nil_right, List.map_cons, List.map_nil, List.set_cons_succ, List.set_cons_zero, ← e0] at hl; subst hl; clear hph; first | (refine t_loadx rfl hA ?_; exact ⟨_, E', pe, Env.Le.refl _, mix_mk rfl rfl, hA⟩) | (refine t_loada rfl hA ?_; exact ⟨_, E', pe, Env.Le.refl _, mix_mk rfl rfl, hA⟩)
      case r1_1 =>
        refine' TameOps.m rfl [1] (by decide) [4] (by decide) ?o1_2 ?r1_2
        case o1_2 => intro yy E' Lx w lf hE hph hl hA; have e1 := mix_known (hph 1 (by decide)) rfl rfl; simp only [setAll, List.zip_cons_cons, List.zip_nil_right, List.map_cons, List.map_nil, List.set_cons_succ, List.set_cons_zero, ← e1] at hl; subst hl; clear hph; refine ow_call Tryd.call45 rfl ((copyInts_own _ _ _ _ _ hA (hm.refs.mono hE) (by omega)).mono ?_); clear hA; rintro e w ⟨q, cl, rfl, hq, hc, hA⟩; obtain ⟨E2, hE2, hA, hr, -⟩ := hA.freezeRow; exact ⟨_, rfl, q, E2, rfl, hE2, mix_mkP rfl ⟨hq, cl, hc.ints E2, hr⟩, hA⟩
        case r1_2 =>
          refine' TameOps.m rfl [] (by decide) [] (by decide) ?o1_3 ?r1_3
          case o1_3 => intro yy E' Lx w lf hE hph hl hA; simp only [setAll, List.zip_cons_cons, List.zip_nil_right, List.map_cons, List.map_nil, List.set_cons_succ, List.set_cons_zero] at hl; subst hl; clear hph; first | (refine t_fieldAddr rfl ?_; exact ⟨_, E', pe, Env.Le.refl _, mix_mk rfl rfl, hA⟩)
          case r1_3 =>
            refine' TameOps.m rfl [3] (by decide) [6] (by decide) ?o1_4 ?r1_4
            case o1_4 => intro yy E' Lx w lf hE hph hl hA; have e3 := mix_known (hph 3 (by decide)) rfl rfl; simp only [setAll, List.zip_cons_cons, List.zip_nil_right, List.map_cons, List.map_nil, List.set_cons_succ, List.set_cons_zero, ← e3] at hl; subst hl; clear hph; first | (refine t_loadx rfl hA ?_; exact ⟨_, E', pe, Env.Le.refl _, mix_mk rfl rfl, hA⟩) | (refine t_loada rfl hA ?_; exact ⟨_, E', pe, Env.Le.refl _, mix_mk rfl rfl, hA⟩)
            case r1_4 =>
              refine' TameOps.m rfl [4, 2] (by decide) [7, 5] (by decide) ?o1_5 ?r1_5
              case o1_5 => intro yy E' Lx w lf hE hph hl hA; have e4 := mix_known (hph 4 (by decide)) rfl rfl; simp only [setAll, List.zip_cons_cons, List.zip_nil_right, List.map_cons, List.map_nil, List.set_cons_succ, List.set_cons_zero, ← e4] at hl; subst hl; have p2 := mix_pred (hph 2 (by decide)) rfl; generalize yy 2 = y2 at *; clear hph; refine t_append_nil (by decide) (by rfl) rfl rfl hA (hsv.mono hE) hcv.one (by unfold maxLen; omega) (by omega) ?_; clear hA; intro v' w hA h1; obtain ⟨E2, hE2, hA, hr, -⟩ := hA.freezeRow; exact ⟨v', E2, rfl, hE2, mix_mkP rfl ⟨h1, _, hcv.vecs, hr⟩, hA⟩
              case r1_5 =>
                refine' TameOps.m rfl [] (by decide) [] (by decide) ?o1_6 ?r1_6
                case o1_6 => intro yy E' Lx w lf hE hph hl hA; simp only [setAll, List.zip_cons_cons, List.zip_nil_right, List.map_cons, List.map_nil, List.set_cons_succ, List.set_cons_zero] at hl; subst hl; clear hph; first | (refine t_fieldAddr rfl ?_; exact ⟨_, E', pe, Env.Le.refl _, mix_mk rfl rfl, hA⟩)
                case r1_6 =>
                  refine' TameOps.m rfl [6] (by decide) [9] (by decide) ?o1_7 ?r1_7
                  case o1_7 => intro yy E' Lx w lf hE hph hl hA; have e6 := mix_known (hph 6 (by decide)) rfl rfl; simp only [setAll, List.zip_cons_cons, List.zip_nil_right, List.map_cons, List.map_nil, List.set_cons_succ, List.set_cons_zero, ← e6] at hl; subst hl; clear hph; first | (refine t_loadx rfl hA ?_; exact ⟨_, E', pe, Env.Le.refl _, mix_mk rfl rfl, hA⟩) | (refine t_loada rfl hA ?_; exact ⟨_, E', pe, Env.Le.refl _, mix_mk rfl rfl, hA⟩)
                  case r1_7 =>
                    refine' TameOps.m rfl [7, 5] (by decide) [10, 8] (by decide) ?o1_8 ?r1_8
                    case o1_8 => intro yy E' Lx w lf hE hph hl hA; have e7 := mix_known (hph 7 (by decide)) rfl rfl; simp only [setAll, List.zip_cons_cons, List.zip_nil_right, List.map_cons, List.map_nil, List.set_cons_succ, List.set_cons_zero, ← e7] at hl; subst hl; have p5 := mix_pred (hph 5 (by decide)) rfl; generalize yy 5 = y5 at *; clear hph; refine ow_call Tryd.call46 rfl ((copyBlocks_own _ _ _ _ _ hA (hm.blocks.mono hE) hf.short hf.blocks).mono ?_); clear hA; rintro e w ⟨E2, hE2, q, cl, rfl, hq, hc, hA⟩; obtain ⟨E3, hE3, hA, hr, hfr⟩ := hA.freezeRow; exact ⟨_, rfl, q, E3, rfl, hE2.trans hE3, mix_mkP rfl ⟨hq, E2, cl, hE.trans hE2, hE3, hfr, hc.mono (Env.sub_le _ _), hr⟩, hA⟩
                    case r1_8 =>
                      refine' TameOps.m rfl [0, 1, 2, 3, 4, 6, 7] (by decide) [3, 4, 5, 6, 7, 9, 10] (by decide) ?o1_9 ?r1_9
                      case o1_9 => intro yy E' Lx w lf hE hph hl hA; have e0 := mix_known (hph 0 (by decide)) rfl rfl; have e1 := mix_known (hph 1 (by decide)) rfl rfl; have e3 := mix_known (hph 3 (by decide)) rfl rfl; have e4 := mix_known (hph 4 (by decide)) rfl rfl; have e6 := mix_known (hph 6 (by decide)) rfl rfl; have e7 := mix_known (hph 7 (by decide)) rfl rfl; simp only [setAll, List.zip_cons_cons, List.zip_nil_right, List.map_cons, List.map_nil, List.set_cons_succ, List.set_cons_zero, ← e0, ← e1, ← e3, ← e4, ← e6, ← e7] at hl; subst hl; have p2 := mix_pred (hph 2 (by decide)) rfl; generalize yy 2 = y2 at *; clear hph; first | (refine t_fieldAddr rfl ?_; exact ⟨_, E', pe, Env.Le.refl _, mix_mk rfl rfl, hA⟩)
                      case r1_9 =>
                        exact TameOps.nil
  case phi1 => (refine mix_mono fun i p hp E1 E2 v hE h => ?_; split at hp <;> first | (cases hp; done) | (obtain rfl := Option.some.inj hp; first | exact ListE.mono h hE | exact ListE.mono h (Env.sub_left _ hE) | exact PMono.mono hE h | exact PMono.mono (Env.sub_left _ hE) h | exact h))
  case' k1 => (try clear hA); intro yy E' w lf hE hph hl hA; have e0 := mix_known (hph 0 (by decide)) rfl rfl; have e1 := mix_known (hph 1 (by decide)) rfl rfl; have e3 := mix_known (hph 3 (by decide)) rfl rfl; have e4 := mix_known (hph 4 (by decide)) rfl rfl; have e6 := mix_known (hph 6 (by decide)) rfl rfl; have e7 := mix_known (hph 7 (by decide)) rfl rfl; have e9 := mix_known (hph 9 (by decide)) rfl rfl; simp only [setAll, List.zip_cons_cons, List.zip_nil_right, List.map_cons, List.map_nil, List.set_cons_succ, List.set_cons_zero, ← e0, ← e1, ← e3, ← e4, ← e6, ← e7, ← e9] at hl; subst hl; have p2 := mix_pred (hph 2 (by decide)) rfl; generalize yy 2 = y2 at *; have p5 := mix_pred (hph 5 (by decide)) rfl; generalize yy 5 = y5 at *; have p8 := mix_pred (hph 8 (by decide)) rfl; generalize yy 8 = y8 at *; clear hph
  obtain ⟨o2, c2, hc2, hr2⟩ := p2
  obtain ⟨o5, c5, hc5, hr5⟩ := p5
  obtain ⟨o8, D, c8, h0D, hDE, hfr, hc8, hr8⟩ := p8
  repeat' (first | refine st ?_ | (refine wc_region ?_) | (refine su ?_; refine rn ?_) | (refine g_conv ?_; refine p_c hA ?_; refine rn ?_) | (refine g_load ?_; (first | refine t_loadx rfl hA ?_ | refine t_loada rfl hA ?_); refine rn ?_) | (refine g_call ?_; refine t_appx rfl rfl hA rfl ?_; clear hA; (try clear w); intro v w hA hone hnil; refine h_n hA ?_; clear hA; intro hA; refine rn ?_) | (refine g_store ?_; (first | refine t_storex rfl rfl hA ?_ | refine t_storea rfl rfl hA ?_); clear hA; (try clear w); intro w hA; refine h_m hA ?_; clear hA; intro hA; refine rn ?_) | (refine g_ow ?_; (first | refine t_alloc hA ?_ | refine ow_box rfl rfl hA ?_ | refine t_buildSlice rfl (by decide) rfl hA ?_); clear hA; (try clear w); intro b w hA; refine h_n hA ?_; clear hA; intro hA; refine rn ?_) | (refine g_ow ?_; refine t_make rfl rfl (by omega) (by omega) hA ?_; clear hA; (try clear w); intro v w hA hone hnil; refine rn ?_) | refine wc_pp rfl (fun h => ?_) (fun h => ?_) | refine wc_nn rfl (fun h => ?_) (fun h => ?_) | refine rl_pp rfl (fun h => o_n ?_) (fun h => rn ?_) | refine rl_qq rfl (fun h => o_n ?_) (fun h => rn ?_) | refine rl_nn rfl (fun h => o_n ?_) (fun h => rn ?_) | refine rl_mm rfl (fun h => o_n ?_) (fun h => rn ?_))
  obtain ⟨E3, hA', h3, hk⟩ := hA.thawRow hr8
  have hD3 : D.Le E3 := ⟨h3.os.symm.trans hDE.os, h3.tape.symm.trans hDE.tape, h3.output.symm.trans hDE.output, fun b o hb => hk b o (hDE.H b o hb) (fun m c e => by rw [hfr b m c e] at hb; cases hb)⟩
  have hr2' := hr8.keep hr2 (by decide) hk
  have hr5' := hr8.keep hr5 (by decide) hk
  exact fp_ret (resSole rfl (one_cell 0 rfl rfl hA rfl rfl)) ⟨E3, y2, y5, y8, c8, rfl, h0D.trans hD3, hc2.ints E3 |>.sl hr2'.sl, hc5.vecs |>.sl hr5'.sl, o8, hc8.mono hD3, hA'.sub (.cons_cons _ (.cons _ (.cons _ (List.Sublist.refl _))))⟩
end Go.Proofs.YteeeabnfgpolgaaDoor
