/-
  elems.equalNode, walked.
-/
import Derived.Test.YteeeabnfgpolgaaDoorE4
set_option linter.unusedVariables false
set_option linter.unusedSimpArgs false
namespace Go.Proofs.YteeeabnfgpolgaaDoor
open Go Go.RowKit
attribute [local irreducible] WC RL OW bodyPostM ThenQ BlockQ LoopQ
set_option maxRecDepth 20000 in
set_option maxHeartbeats 4000000 in
theorem eEqualNode_calls (x y : Node) (m k u m' k' u' : Value) (E : Env) (L : List Item) (w : World) (hA : Sat E L w) (hx : NodeL E x m k u) (hy : NodeL E y m' k' u') :
    Calls Tryd.prog 89 ⟨[.agg ⟨nodeC x m k u⟩, .agg ⟨nodeC y m' k' u'⟩]⟩ w (Ret E L (.bool (decide (x = y)))) := by
  have o1 := hx.slice.head.mods.one
  have o2 := hx.slice.head.marks.one
  have o3 := hx.slice.mbs.one
  have o1' := hy.slice.head.mods.one
  have o2' := hy.slice.head.marks.one
  have o3' := hy.slice.mbs.one
  refine enter (fn := Tryd.f89) Tryd.func89 rfl 74 rfl [.agg ⟨nodeC x m k u⟩, .agg ⟨nodeC y m' k' u'⟩, undef, undef, undef, undef, undef, undef, undef, undef, undef, undef, undef, undef, undef, undef, undef, undef, undef, undef, undef, undef, undef, undef, undef, undef, undef, undef, undef, undef, undef, undef, undef, undef, undef, undef, undef, undef, undef, undef, undef, undef, undef, undef, undef, undef, undef, undef, undef, undef, undef, undef, undef, undef, undef, undef, undef, undef, undef, undef, undef, undef, undef, undef, undef, undef, undef, undef, undef, undef, undef, undef, undef, undef] rfl ?_
  repeat' (first | ((refine g_wc ?_; first | (refine wc_seq ?_) | (refine wc_region ?_) | (refine wc_block ?_) | (refine wc_true rfl ?_) | (refine wc_false rfl ?_) | (refine wc_pt rfl (by omega) ?_) | (refine wc_pf rfl (by omega) ?_) | (refine wc_nt rfl (by omega) ?_) | (refine wc_nf rfl (by omega) ?_) | (refine wc_pp rfl (fun h => ?_) (fun h => ?_)) | (refine wc_nn rfl (fun h => ?_) (fun h => ?_)) | (refine wc_skip ?_) | (refine wc_exit ?_) | (refine wc_ret ?_))) | (refine g_rl ?_; first | (first | (refine rl_op ?_) | (refine rl_nil ?_) | (refine rl_on rfl ?_) | (refine rl_pt rfl (by omega) ?_) | (refine rl_qt rfl (by omega) ?_) | (refine rl_nt rfl (by omega) ?_) | (refine rl_mt rfl (by omega) ?_)) | ((first | (refine rl_off rfl rfl ?_) | (refine rl_undef rfl ?_) | (refine rl_pf rfl (by omega) ?_) | (refine rl_qf rfl (by omega) ?_) | (refine rl_nf rfl (by omega) ?_) | (refine rl_mf rfl (by omega) ?_)); refine rn ?_) | (first | (refine rl_pp rfl (fun h => o_n ?_) (fun h => rn ?_)) | (refine rl_qq rfl (fun h => o_n ?_) (fun h => rn ?_)) | (refine rl_nn rfl (fun h => o_n ?_) (fun h => rn ?_)) | (refine rl_mm rfl (fun h => o_n ?_) (fun h => rn ?_)))) | ((refine g_bin ?_; refine p_b ?_); refine rn ?_) | (refine g_call ?_; first | ((first | (refine p_l ?_)); refine rn ?_) | ((first | (refine t_appx rfl rfl hA rfl ?_)); clear hA; (try clear w); intro v w hA hone hnil; refine h_n hA ?_; clear hA; intro hA; refine rn ?_)) | ((refine g_conv ?_; first | (refine p_c hA ?_)); refine rn ?_) | ((refine g_load ?_; first | (refine t_loadx rfl hA ?_) | (refine t_loada rfl hA ?_)); refine rn ?_) | (refine g_store ?_; first | ((first | (refine t_storex rfl rfl hA ?_)); clear hA; (try clear w); intro w hA; refine h_n hA ?_; clear hA; intro hA; refine rn ?_) | ((first | (refine t_storea rfl rfl hA ?_)); clear hA; (try clear w); intro w hA; (try simp only [List.drop_zero, List.drop_nil, List.drop_succ_cons, List.take_succ_cons, List.take_zero, List.length_cons, List.length_nil, Nat.zero_add, Nat.reduceAdd] at hA); refine h_n hA ?_; clear hA; intro hA; refine rn ?_)) | (refine g_ow ?_; first | ((first | (refine p_o ?_)); refine rn ?_) | ((first | (refine t_alloc hA ?_) | (refine ow_box rfl rfl hA ?_) | (refine t_buildSlice rfl (by decide) rfl hA ?_)); clear hA; (try clear w); intro b w hA; refine h_n hA ?_; clear hA; intro hA; refine rn ?_) | ((first | (refine t_make rfl rfl (by omega) (by omega) hA ?_)); clear hA; (try clear w); intro v w hA hone hnil; refine rn ?_)) | (refine tq_normal ?_) | (refine bq_normal ?_) | (refine bq_hit ?_) | (refine bq_miss (by decide) ?_) | (refine tq_exit ?_) | (refine lq_exit ?_) | (refine tq_ret ?_) | (refine bq_ret ?_) | (refine lq_ret ?_))
  rename_i bx
  refine' wc_flow' 0 (fun _ => undef) (fun ix => match ix with | 6 => [4] | 7 => [5] | _ => []) (fun ix => match ix with | 6 => [4] | 7 => [5] | _ => []) (fun ix => match ix with | 4 => [4] | 5 => [5] | 6 => [4] | 7 => [5] | _ => []) (mixPhi [_, _, _, _, undef, undef, undef, undef] (fun ix => match ix with | 4 => some (ptrV) | 5 => some (ptrV) | 6 => some (trueV) | 7 => some (trueV) | _ => none)) (fun ix yy => match ix with | 4 => [cells (pB (yy 4)) [Go.Value.int Go.IntKind.u8 0, Go.Value.bool false, Go.Value.int Go.IntKind.i64 0, Go.Value.bool false, Go.Value.bool false, Go.Value.int Go.IntKind.i64 0, Go.Value.int Go.IntKind.i64 0, Go.Value.int Go.IntKind.i64 0, Go.Value.int Go.IntKind.i64 0, Go.Value.bool false, Go.Value.int Go.IntKind.i64 0, Go.Value.bool false, Go.Value.slice none 0 0, Go.Value.bool false, Go.Value.bool false, Go.Value.bool false, Go.Value.slice none 0 0, Go.Value.int Go.IntKind.i64 0, Go.Value.int Go.IntKind.i64 0, Go.Value.int Go.IntKind.i64 0, Go.Value.int Go.IntKind.i64 0, Go.Value.int Go.IntKind.i64 0, Go.Value.slice none 0 0] 72] | 5 => [cells (pB (yy 5)) [Go.Value.int Go.IntKind.u8 0, Go.Value.bool false, Go.Value.int Go.IntKind.i64 0, Go.Value.bool false, Go.Value.bool false, Go.Value.int Go.IntKind.i64 0, Go.Value.int Go.IntKind.i64 0, Go.Value.int Go.IntKind.i64 0, Go.Value.int Go.IntKind.i64 0, Go.Value.bool false, Go.Value.int Go.IntKind.i64 0, Go.Value.bool false, Go.Value.slice none 0 0, Go.Value.bool false, Go.Value.bool false, Go.Value.bool false, Go.Value.slice none 0 0, Go.Value.int Go.IntKind.i64 0, Go.Value.int Go.IntKind.i64 0, Go.Value.int Go.IntKind.i64 0, Go.Value.int Go.IntKind.i64 0, Go.Value.int Go.IntKind.i64 0, Go.Value.slice none 0 0] 72] | 6 => [cells (pB (yy 4)) (sliceC x.slice m k u) 72] | 7 => [cells (pB (yy 5)) (sliceC y.slice m' k' u') 72] | _ => []) (cells b (nodeC y m' k' u') 76 :: cells bx (nodeC x m k u) 76 :: L) 8 (by kernel_rfl) rfl (by kernel_rfl) [(0, 8), (1, 9), (2, 10), (3, 11), (4, 5), (5, 6)] (by kernel_rfl) [0, 1, 2, 3, 6, 7] (by kernel_rfl) [] (by kernel_rfl) hA ?itd1 ?phi1 ?ops1 ?k1
  case itd1 => (intro i y y' h; first | rfl | ((try dsimp only at h ⊢); split <;> first | rfl | (simp only [List.mem_cons, List.not_mem_nil, or_false, forall_eq_or_imp, forall_eq] at h; simp only [h]; done)))
  case phi1 => (refine mix_mono fun i p hp E1 E2 v hE h => ?_; split at hp <;> first | (cases hp; done) | (obtain rfl := Option.some.inj hp; first | exact ListE.mono h hE | exact ListE.mono h (Env.sub_left _ hE) | exact PMono.mono hE h | exact PMono.mono (Env.sub_left _ hE) h))
  case ops1 =>
    refine' FlowOps.c rfl [] (by decide) [] (by decide) [] rfl [] rfl ?o1_0 ?r1_0
    case o1_0 => intro yy E' Lx w lf hE hph hyp hl hA; simp only [setAll, List.map_cons, List.map_nil, List.set_cons_succ, List.set_cons_zero] at hl; subst hl; (try simp only [List.flatMap_cons, List.flatMap_nil, List.nil_append, List.append_nil, List.cons_append] at hA ⊢); (try clear hph hyp); first | (refine t_fieldAddr rfl ?_; exact ⟨_, E', pe, Env.Le.refl _, mix_mk rfl rfl, hA⟩)
    case r1_0 =>
      refine' FlowOps.c rfl [(0, 8)] (by decide) [0] (by decide) [] rfl [] rfl ?o1_1 ?r1_1
      case o1_1 => intro yy E' Lx w lf hE hph hyp hl hA; have e0 := mix_known (hph 0 (by decide)) rfl rfl; simp only [setAll, List.map_cons, List.map_nil, List.set_cons_succ, List.set_cons_zero, ← e0] at hl; subst hl; (try simp only [← e0] at hA ⊢); (try simp only [List.flatMap_cons, List.flatMap_nil, List.nil_append, List.append_nil, List.cons_append] at hA ⊢); (try clear hph hyp); first | (refine t_loadx rfl hA ?_; exact ⟨_, E', pe, Env.Le.refl _, mix_mk rfl rfl, hA⟩) | (refine t_loada rfl hA ?_; exact ⟨_, E', pe, Env.Le.refl _, mix_mk rfl rfl, hA⟩)
      case r1_1 =>
        refine' FlowOps.c rfl [] (by decide) [] (by decide) [] rfl [] rfl ?o1_2 ?r1_2
        case o1_2 => intro yy E' Lx w lf hE hph hyp hl hA; simp only [setAll, List.map_cons, List.map_nil, List.set_cons_succ, List.set_cons_zero] at hl; subst hl; (try simp only [List.flatMap_cons, List.flatMap_nil, List.nil_append, List.append_nil, List.cons_append] at hA ⊢); (try clear hph hyp); first | (refine t_fieldAddr rfl ?_; exact ⟨_, E', pe, Env.Le.refl _, mix_mk rfl rfl, hA⟩)
        case r1_2 =>
          refine' FlowOps.c rfl [(2, 10)] (by decide) [2] (by decide) [] rfl [] rfl ?o1_3 ?r1_3
          case o1_3 => intro yy E' Lx w lf hE hph hyp hl hA; have e2 := mix_known (hph 2 (by decide)) rfl rfl; simp only [setAll, List.map_cons, List.map_nil, List.set_cons_succ, List.set_cons_zero, ← e2] at hl; subst hl; (try simp only [← e2] at hA ⊢); (try simp only [List.flatMap_cons, List.flatMap_nil, List.nil_append, List.append_nil, List.cons_append] at hA ⊢); (try clear hph hyp); first | (refine t_loadx rfl hA ?_; exact ⟨_, E', pe, Env.Le.refl _, mix_mk rfl rfl, hA⟩) | (refine t_loada rfl hA ?_; exact ⟨_, E', pe, Env.Le.refl _, mix_mk rfl rfl, hA⟩)
          case r1_3 =>
            refine' FlowOps.c rfl [] (by decide) [] (by decide) [] rfl [] rfl ?o1_4 ?r1_4
            case o1_4 => intro yy E' Lx w lf hE hph hyp hl hA; simp only [setAll, List.map_cons, List.map_nil, List.set_cons_succ, List.set_cons_zero] at hl; subst hl; (try simp only [List.flatMap_cons, List.flatMap_nil, List.nil_append, List.append_nil, List.cons_append] at hA ⊢); (try clear hph hyp); refine t_alloc hA ?_; clear hA; intro bb w hA; exact ⟨_, E', rfl, Env.Le.refl _, mix_mkP rfl ⟨bb, rfl⟩, hA⟩
            case r1_4 =>
              refine' FlowOps.c rfl [] (by decide) [] (by decide) [] rfl [] rfl ?o1_5 ?r1_5
              case o1_5 => intro yy E' Lx w lf hE hph hyp hl hA; simp only [setAll, List.map_cons, List.map_nil, List.set_cons_succ, List.set_cons_zero] at hl; subst hl; (try simp only [List.flatMap_cons, List.flatMap_nil, List.nil_append, List.append_nil, List.cons_append] at hA ⊢); (try clear hph hyp); refine t_alloc hA ?_; clear hA; intro bb w hA; exact ⟨_, E', rfl, Env.Le.refl _, mix_mkP rfl ⟨bb, rfl⟩, hA⟩
              case r1_5 =>
                refine' FlowOps.c rfl [(4, 5), (1, 9), (0, 8), (5, 6)] (by decide) [4, 1, 0, 5] (by decide) [4] rfl [] rfl ?o1_6 ?r1_6
                case o1_6 => intro yy E' Lx w lf hE hph hyp hl hA; have hu4 : ∀ v, upd yy 6 v 4 = yy 4 := fun _ => rfl; simp only [Nat.reduceAdd, hu4]; clear hu4; have e1 := mix_known (hph 1 (by decide)) rfl rfl; have e0 := mix_known (hph 0 (by decide)) rfl rfl; simp only [setAll, List.map_cons, List.map_nil, List.set_cons_succ, List.set_cons_zero, ← e1, ← e0] at hl; subst hl; have p4 := mix_pred (hph 4 (by decide)) rfl; have p5 := mix_pred (hph 5 (by decide)) rfl; (try simp only [← e1, ← e0] at hA ⊢); generalize yy 4 = y4 at *; generalize yy 5 = y5 at *; (try simp only [List.flatMap_cons, List.flatMap_nil, List.nil_append, List.append_nil, List.cons_append] at hA ⊢); (try clear hph hyp); obtain ⟨b4, rfl⟩ := p4; refine t_store_agg 0 rfl rfl (by simp only [List.mem_cons, List.not_mem_nil, or_false, forall_eq_or_imp, forall_eq]; (repeat' apply And.intro) <;> first | rfl | assumption) rfl hA rfl (Nat.le_of_ble_eq_true rfl) ?_; clear hA; intro w hA; (try simp only [List.drop_zero, List.drop_nil, List.drop_succ_cons, List.take_succ_cons, List.take_zero, List.length_cons, List.length_nil, Nat.zero_add, Nat.reduceAdd] at hA); refine h_n hA ?_; clear hA; intro hA; exact ⟨undef, E', rfl, Env.Le.refl _, mix_mkP rfl trivial, hA⟩
                case r1_6 =>
                  refine' FlowOps.c rfl [(5, 6), (3, 11), (0, 8), (1, 9), (2, 10), (4, 5)] (by decide) [5, 3, 6, 0, 1, 2, 4] (by decide) [5] rfl [] rfl ?o1_7 ?r1_7
                  case o1_7 => intro yy E' Lx w lf hE hph hyp hl hA; have hu5 : ∀ v, upd yy 7 v 5 = yy 5 := fun _ => rfl; simp only [Nat.reduceAdd, hu5]; clear hu5; have e3 := mix_known (hph 3 (by decide)) rfl rfl; have e0 := mix_known (hph 0 (by decide)) rfl rfl; have e1 := mix_known (hph 1 (by decide)) rfl rfl; have e2 := mix_known (hph 2 (by decide)) rfl rfl; simp only [setAll, List.map_cons, List.map_nil, List.set_cons_succ, List.set_cons_zero, ← e3, ← e0, ← e1, ← e2] at hl; subst hl; have p5 := mix_pred (hph 5 (by decide)) rfl; have p6 := mix_pred (hph 6 (by decide)) rfl; have p4 := mix_pred (hph 4 (by decide)) rfl; (try simp only [← e3, ← e0, ← e1, ← e2] at hA ⊢); generalize yy 5 = y5 at *; generalize yy 6 = y6 at *; generalize yy 4 = y4 at *; (try simp only [List.flatMap_cons, List.flatMap_nil, List.nil_append, List.append_nil, List.cons_append] at hA ⊢); (try clear hph hyp); obtain ⟨b5, rfl⟩ := p5; refine t_store_agg 0 rfl rfl (by simp only [List.mem_cons, List.not_mem_nil, or_false, forall_eq_or_imp, forall_eq]; (repeat' apply And.intro) <;> first | rfl | assumption) rfl hA rfl (Nat.le_of_ble_eq_true rfl) ?_; clear hA; intro w hA; (try simp only [List.drop_zero, List.drop_nil, List.drop_succ_cons, List.take_succ_cons, List.take_zero, List.length_cons, List.length_nil, Nat.zero_add, Nat.reduceAdd] at hA); refine h_n hA ?_; clear hA; intro hA; exact ⟨undef, E', rfl, Env.Le.refl _, mix_mkP rfl trivial, hA⟩
                  case r1_7 =>
                    exact FlowOps.nil
  case' k1 => (try clear hA); intro yy E' w lf hE hph hyp hl hA; have e0 := mix_known (hph 0 (by decide)) rfl rfl; have e1 := mix_known (hph 1 (by decide)) rfl rfl; have e2 := mix_known (hph 2 (by decide)) rfl rfl; have e3 := mix_known (hph 3 (by decide)) rfl rfl; simp only [setAll, List.map_cons, List.map_nil, List.set_cons_succ, List.set_cons_zero, ← e0, ← e1, ← e2, ← e3] at hl; subst hl; have p4 := mix_pred (hph 4 (by decide)) rfl; have p5 := mix_pred (hph 5 (by decide)) rfl; have p6 := mix_pred (hph 6 (by decide)) rfl; have p7 := mix_pred (hph 7 (by decide)) rfl; (try simp only [← e0, ← e1, ← e2, ← e3] at hA); generalize yy 4 = y4 at *; generalize yy 5 = y5 at *; generalize yy 6 = y6 at *; generalize yy 7 = y7 at *; (try simp only [List.flatMap_cons, List.flatMap_nil, List.nil_append, List.append_nil, List.cons_append] at hA); clear hph hyp
  obtain ⟨b4, rfl⟩ := p4
  obtain ⟨b5, rfl⟩ := p5
  dsimp only [pB] at hA
  repeat' (first | ((refine g_wc ?_; first | (refine wc_seq ?_) | (refine wc_regionS 2 rfl ?_; refine wc_region ?_) | (refine wc_block ?_) | (refine wc_true rfl ?_) | (refine wc_false rfl ?_) | (refine wc_pt rfl (by omega) ?_) | (refine wc_pf rfl (by omega) ?_) | (refine wc_nt rfl (by omega) ?_) | (refine wc_nf rfl (by omega) ?_) | (refine wc_pp rfl (fun h => ?_) (fun h => ?_)) | (refine wc_nn rfl (fun h => ?_) (fun h => ?_)) | (refine wc_skip ?_) | (refine wc_exit ?_) | (refine wc_ret ?_))) | (refine g_rl ?_; first | (first | (refine rl_op ?_) | (refine rl_nil ?_) | (refine rl_on rfl ?_) | (refine rl_pt rfl (by omega) ?_) | (refine rl_qt rfl (by omega) ?_) | (refine rl_nt rfl (by omega) ?_) | (refine rl_mt rfl (by omega) ?_)) | ((first | (refine rl_off rfl rfl ?_) | (refine rl_undef rfl ?_) | (refine rl_pf rfl (by omega) ?_) | (refine rl_qf rfl (by omega) ?_) | (refine rl_nf rfl (by omega) ?_) | (refine rl_mf rfl (by omega) ?_)); refine rn ?_) | (first | (refine rl_pp rfl (fun h => o_n ?_) (fun h => rn ?_)) | (refine rl_qq rfl (fun h => o_n ?_) (fun h => rn ?_)) | (refine rl_nn rfl (fun h => o_n ?_) (fun h => rn ?_)) | (refine rl_mm rfl (fun h => o_n ?_) (fun h => rn ?_)))) | ((refine g_bin ?_; refine p_b ?_); refine rn ?_) | (refine g_call ?_; first | ((first | (refine p_l ?_)); refine rn ?_) | ((first | (refine t_appx rfl rfl hA rfl ?_)); clear hA; (try clear w); intro v w hA hone hnil; refine h_n hA ?_; clear hA; intro hA; refine rn ?_)) | ((refine g_conv ?_; first | (refine p_c hA ?_)); refine rn ?_) | ((refine g_load ?_; first | (refine t_loadx rfl hA ?_) | (refine t_loada rfl hA ?_)); refine rn ?_) | (refine g_store ?_; first | ((first | (refine t_storex rfl rfl hA ?_)); clear hA; (try clear w); intro w hA; refine h_n hA ?_; clear hA; intro hA; refine rn ?_) | ((first | (refine t_storea rfl rfl hA ?_)); clear hA; (try clear w); intro w hA; (try simp only [List.drop_zero, List.drop_nil, List.drop_succ_cons, List.take_succ_cons, List.take_zero, List.length_cons, List.length_nil, Nat.zero_add, Nat.reduceAdd] at hA); refine h_n hA ?_; clear hA; intro hA; refine rn ?_)) | (refine g_ow ?_; first | ((first | (refine p_o ?_)); refine rn ?_) | ((first | (refine t_alloc hA ?_) | (refine ow_box rfl rfl hA ?_) | (refine t_buildSlice rfl (by decide) rfl hA ?_)); clear hA; (try clear w); intro b w hA; refine h_n hA ?_; clear hA; intro hA; refine rn ?_) | ((first | (refine t_make rfl rfl (by omega) (by omega) hA ?_)); clear hA; (try clear w); intro v w hA hone hnil; refine rn ?_)) | (refine tq_normal ?_) | (refine bq_normal ?_) | (refine bq_hit ?_) | (refine bq_miss (by decide) ?_) | (refine tq_exit ?_) | (refine lq_exit ?_) | (refine tq_ret ?_) | (refine bq_ret ?_) | (refine lq_ret ?_))
  refine wc_region ?_
  refine' rl_v hA ?o2_0 ?k2_0
  case o2_0 => intro w hA; first | (refine t_fieldAddr rfl ?_; exact ⟨pe, hA⟩)
  case' k2_0 => clear hA; intro w hA; refine rn ?_
  refine' rl_v hA ?o2_1 ?k2_1
  case o2_1 => intro w hA; first | (refine t_loadx rfl hA ?_; exact ⟨pe, hA⟩) | (refine t_loada rfl hA ?_; exact ⟨pe, hA⟩)
  case' k2_1 => clear hA; intro w hA; refine rn ?_
  refine' rl_v hA ?o2_2 ?k2_2
  case o2_2 => intro w hA; first | (refine t_fieldAddr rfl ?_; exact ⟨pe, hA⟩)
  case' k2_2 => clear hA; intro w hA; refine rn ?_
  refine' rl_v hA ?o2_3 ?k2_3
  case o2_3 => intro w hA; first | (refine t_loadx rfl hA ?_; exact ⟨pe, hA⟩) | (refine t_loada rfl hA ?_; exact ⟨pe, hA⟩)
  case' k2_3 => clear hA; intro w hA; refine rn ?_
  refine' rl_v hA ?o2_4 ?k2_4
  case o2_4 => intro w hA; first | (refine t_eqSps (x := x.sps) (y := y.sps) rfl rfl hx.sps hy.sps ?_; exact ⟨pe, hA⟩) | (refine t_eqPps (x := x.pps) (y := y.pps) rfl rfl hx.pps hy.pps ?_; exact ⟨pe, hA⟩) | (refine t_eqNal (x := x.other) (y := y.other) rfl rfl hx.other hy.other ?_; exact ⟨pe, hA⟩) | (refine ow_eql rfl rfl ?_; exact ⟨pe, hA⟩) | (refine ow_eqs rfl rfl ?_; exact ⟨pe, hA⟩) | (refine t_eqlb rfl rfl ?_; exact ⟨pe, hA⟩)
  case' k2_4 => clear hA; intro w hA; refine rn ?_
  refine' rl_v hA ?o2_5 ?k2_5
  case o2_5 => intro w hA; first | (refine ow_move_v rfl ?_; exact ⟨pe, hA⟩)
  case' k2_5 => clear hA; intro w hA; refine rn ?_
  first | refine' rl_T rfl hA ?o2_6 ?k2_6 | refine' rl_Tn rfl hA ?o2_6 ?k2_6
  case o2_6 => intro hg w hA; first | (refine t_fieldAddr opr ?_; exact ⟨pe, hA⟩)
  case' k2_6 => clear hA; intro w hA; refine rn ?_
  first | refine' rl_T rfl hA ?o2_7 ?k2_7 | refine' rl_Tn rfl hA ?o2_7 ?k2_7
  case o2_7 => intro hg w hA; first | (refine t_loadx opr hA ?_; exact ⟨pe, hA⟩) | (refine t_loada opr hA ?_; exact ⟨pe, hA⟩)
  case' k2_7 => clear hA; intro w hA; refine rn ?_
  first | refine' rl_T rfl hA ?o2_8 ?k2_8 | refine' rl_Tn rfl hA ?o2_8 ?k2_8
  case o2_8 => intro hg w hA; first | (refine t_fieldAddr opr ?_; exact ⟨pe, hA⟩)
  case' k2_8 => clear hA; intro w hA; refine rn ?_
  first | refine' rl_T rfl hA ?o2_9 ?k2_9 | refine' rl_Tn rfl hA ?o2_9 ?k2_9
  case o2_9 => intro hg w hA; first | (refine t_loadx opr hA ?_; exact ⟨pe, hA⟩) | (refine t_loada opr hA ?_; exact ⟨pe, hA⟩)
  case' k2_9 => clear hA; intro w hA; refine rn ?_
  first | refine' rl_T rfl hA ?o2_10 ?k2_10 | refine' rl_Tn rfl hA ?o2_10 ?k2_10
  case o2_10 => intro hg w hA; first | (refine t_eqSps (x := x.sps) (y := y.sps) opr opr hx.sps hy.sps ?_; exact ⟨pe, hA⟩) | (refine t_eqPps (x := x.pps) (y := y.pps) opr opr hx.pps hy.pps ?_; exact ⟨pe, hA⟩) | (refine t_eqNal (x := x.other) (y := y.other) opr opr hx.other hy.other ?_; exact ⟨pe, hA⟩) | (refine ow_eql opr opr ?_; exact ⟨pe, hA⟩) | (refine ow_eqs opr opr ?_; exact ⟨pe, hA⟩) | (refine t_eqlb opr opr ?_; exact ⟨pe, hA⟩)
  case' k2_10 => clear hA; intro w hA; refine rn ?_
  refine' rl_v hA ?o2_11 ?k2_11
  case o2_11 => intro w hA; first | (refine ow_and rfl (by first | rfl) rfl ?_; exact ⟨pe, hA⟩) | (refine ow_pick rfl rfl rfl ?_; exact ⟨pe, hA⟩)
  case' k2_11 => clear hA; intro w hA; refine rn ?_
  refine' rl_v hA ?o2_12 ?k2_12
  case o2_12 => intro w hA; first | (refine ow_move_v rfl ?_; exact ⟨pe, hA⟩)
  case' k2_12 => clear hA; intro w hA; refine rn ?_
  first | refine' rl_T rfl hA ?o2_13 ?k2_13 | refine' rl_Tn rfl hA ?o2_13 ?k2_13
  case o2_13 => intro hg w hA; first | (refine t_fieldAddr opr ?_; exact ⟨pe, hA⟩)
  case' k2_13 => clear hA; intro w hA; refine rn ?_
  first | refine' rl_T rfl hA ?o2_14 ?k2_14 | refine' rl_Tn rfl hA ?o2_14 ?k2_14
  case o2_14 => intro hg w hA; first | (refine t_loadx opr hA ?_; exact ⟨pe, hA⟩) | (refine t_loada opr hA ?_; exact ⟨pe, hA⟩)
  case' k2_14 => clear hA; intro w hA; refine rn ?_
  first | refine' rl_T rfl hA ?o2_15 ?k2_15 | refine' rl_Tn rfl hA ?o2_15 ?k2_15
  case o2_15 => intro hg w hA; first | (refine t_fieldAddr opr ?_; exact ⟨pe, hA⟩)
  case' k2_15 => clear hA; intro w hA; refine rn ?_
  first | refine' rl_T rfl hA ?o2_16 ?k2_16 | refine' rl_Tn rfl hA ?o2_16 ?k2_16
  case o2_16 => intro hg w hA; first | (refine t_loadx opr hA ?_; exact ⟨pe, hA⟩) | (refine t_loada opr hA ?_; exact ⟨pe, hA⟩)
  case' k2_16 => clear hA; intro w hA; refine rn ?_
  first | refine' rl_T rfl hA ?o2_17 ?k2_17 | refine' rl_Tn rfl hA ?o2_17 ?k2_17
  case o2_17 => intro hg w hA; first | (refine t_eqSps (x := x.sps) (y := y.sps) opr opr hx.sps hy.sps ?_; exact ⟨pe, hA⟩) | (refine t_eqPps (x := x.pps) (y := y.pps) opr opr hx.pps hy.pps ?_; exact ⟨pe, hA⟩) | (refine t_eqNal (x := x.other) (y := y.other) opr opr hx.other hy.other ?_; exact ⟨pe, hA⟩) | (refine ow_eql opr opr ?_; exact ⟨pe, hA⟩) | (refine ow_eqs opr opr ?_; exact ⟨pe, hA⟩) | (refine t_eqlb opr opr ?_; exact ⟨pe, hA⟩)
  case' k2_17 => clear hA; intro w hA; refine rn ?_
  refine' rl_v hA ?o2_18 ?k2_18
  case o2_18 => intro w hA; first | (refine ow_and rfl (by first | rfl) rfl ?_; exact ⟨pe, hA⟩) | (refine ow_pick rfl rfl rfl ?_; exact ⟨pe, hA⟩)
  case' k2_18 => clear hA; intro w hA; refine rn ?_
  refine' rl_v hA ?o2_19 ?k2_19
  case o2_19 => intro w hA; first | (refine ow_move_v rfl ?_; exact ⟨pe, hA⟩)
  case' k2_19 => clear hA; intro w hA; refine rn ?_
  first | refine' rl_T rfl hA ?o2_20 ?k2_20 | refine' rl_Tn rfl hA ?o2_20 ?k2_20
  case o2_20 => intro hg w hA; first | (refine t_fieldAddr opr ?_; exact ⟨pe, hA⟩)
  case' k2_20 => clear hA; intro w hA; refine rn ?_
  first | refine' rl_T rfl hA ?o2_21 ?k2_21 | refine' rl_Tn rfl hA ?o2_21 ?k2_21
  case o2_21 => intro hg w hA; first | (refine t_loadx opr hA ?_; exact ⟨pe, hA⟩) | (refine t_loada opr hA ?_; exact ⟨pe, hA⟩)
  case' k2_21 => clear hA; intro w hA; refine rn ?_
  first | refine' rl_T rfl hA ?o2_22 ?k2_22 | refine' rl_Tn rfl hA ?o2_22 ?k2_22
  case o2_22 => intro hg w hA; first | (refine t_fieldAddr opr ?_; exact ⟨pe, hA⟩)
  case' k2_22 => clear hA; intro w hA; refine rn ?_
  first | refine' rl_T rfl hA ?o2_23 ?k2_23 | refine' rl_Tn rfl hA ?o2_23 ?k2_23
  case o2_23 => intro hg w hA; first | (refine t_loadx opr hA ?_; exact ⟨pe, hA⟩) | (refine t_loada opr hA ?_; exact ⟨pe, hA⟩)
  case' k2_23 => clear hA; intro w hA; refine rn ?_
  first | refine' rl_T rfl hA ?o2_24 ?k2_24 | refine' rl_Tn rfl hA ?o2_24 ?k2_24
  case o2_24 => intro hg w hA; first | (refine t_eqSps (x := x.sps) (y := y.sps) opr opr hx.sps hy.sps ?_; exact ⟨pe, hA⟩) | (refine t_eqPps (x := x.pps) (y := y.pps) opr opr hx.pps hy.pps ?_; exact ⟨pe, hA⟩) | (refine t_eqNal (x := x.other) (y := y.other) opr opr hx.other hy.other ?_; exact ⟨pe, hA⟩) | (refine ow_eql opr opr ?_; exact ⟨pe, hA⟩) | (refine ow_eqs opr opr ?_; exact ⟨pe, hA⟩) | (refine t_eqlb opr opr ?_; exact ⟨pe, hA⟩)
  case' k2_24 => clear hA; intro w hA; refine rn ?_
  refine' rl_v hA ?o2_25 ?k2_25
  case o2_25 => intro w hA; first | (refine ow_and rfl (by first | rfl) rfl ?_; exact ⟨pe, hA⟩) | (refine ow_pick rfl rfl rfl ?_; exact ⟨pe, hA⟩)
  case' k2_25 => clear hA; intro w hA; refine rn ?_
  refine' rl_v hA ?o2_26 ?k2_26
  case o2_26 => intro w hA; first | (refine ow_move_v rfl ?_; exact ⟨pe, hA⟩)
  case' k2_26 => clear hA; intro w hA; refine rn ?_
  first | refine' rl_T rfl hA ?o2_27 ?k2_27 | refine' rl_Tn rfl hA ?o2_27 ?k2_27
  case o2_27 => intro hg w hA; first | (refine t_fieldAddr opr ?_; exact ⟨pe, hA⟩)
  case' k2_27 => clear hA; intro w hA; refine rn ?_
  first | refine' rl_T rfl hA ?o2_28 ?k2_28 | refine' rl_Tn rfl hA ?o2_28 ?k2_28
  case o2_28 => intro hg w hA; first | (refine t_loadx opr hA ?_; exact ⟨pe, hA⟩) | (refine t_loada opr hA ?_; exact ⟨pe, hA⟩)
  case' k2_28 => clear hA; intro w hA; refine rn ?_
  first | refine' rl_T rfl hA ?o2_29 ?k2_29 | refine' rl_Tn rfl hA ?o2_29 ?k2_29
  case o2_29 => intro hg w hA; first | (refine t_fieldAddr opr ?_; exact ⟨pe, hA⟩)
  case' k2_29 => clear hA; intro w hA; refine rn ?_
  first | refine' rl_T rfl hA ?o2_30 ?k2_30 | refine' rl_Tn rfl hA ?o2_30 ?k2_30
  case o2_30 => intro hg w hA; first | (refine t_loadx opr hA ?_; exact ⟨pe, hA⟩) | (refine t_loada opr hA ?_; exact ⟨pe, hA⟩)
  case' k2_30 => clear hA; intro w hA; refine rn ?_
  first | refine' rl_T rfl hA ?o2_31 ?k2_31 | refine' rl_Tn rfl hA ?o2_31 ?k2_31
  case o2_31 => intro hg w hA; first | (refine t_eqSps (x := x.sps) (y := y.sps) opr opr hx.sps hy.sps ?_; exact ⟨pe, hA⟩) | (refine t_eqPps (x := x.pps) (y := y.pps) opr opr hx.pps hy.pps ?_; exact ⟨pe, hA⟩) | (refine t_eqNal (x := x.other) (y := y.other) opr opr hx.other hy.other ?_; exact ⟨pe, hA⟩) | (refine ow_eql opr opr ?_; exact ⟨pe, hA⟩) | (refine ow_eqs opr opr ?_; exact ⟨pe, hA⟩) | (refine t_eqlb opr opr ?_; exact ⟨pe, hA⟩)
  case' k2_31 => clear hA; intro w hA; refine rn ?_
  refine' rl_v hA ?o2_32 ?k2_32
  case o2_32 => intro w hA; first | (refine ow_and rfl (by first | rfl) rfl ?_; exact ⟨pe, hA⟩) | (refine ow_pick rfl rfl rfl ?_; exact ⟨pe, hA⟩)
  case' k2_32 => clear hA; intro w hA; refine rn ?_
  refine' rl_v hA ?o2_33 ?k2_33
  case o2_33 => intro w hA; first | (refine ow_assign_v rfl ?_; exact ⟨pe, hA⟩)
  case' k2_33 => clear hA; intro w hA; refine rn ?_
  refine rl_nil ?_
  repeat' (first | ((refine g_wc ?_; first | (refine wc_seq ?_) | (refine wc_regionS 3 rfl ?_; refine wc_region ?_) | (refine wc_block ?_) | (refine wc_true rfl ?_) | (refine wc_false rfl ?_) | (refine wc_pt rfl (by omega) ?_) | (refine wc_pf rfl (by omega) ?_) | (refine wc_nt rfl (by omega) ?_) | (refine wc_nf rfl (by omega) ?_) | (refine wc_pp rfl (fun h => ?_) (fun h => ?_)) | (refine wc_nn rfl (fun h => ?_) (fun h => ?_)) | (refine wc_skip ?_) | (refine wc_exit ?_) | (refine wc_ret ?_))) | (refine g_rl ?_; first | (first | (refine rl_op ?_) | (refine rl_nil ?_) | (refine rl_on rfl ?_) | (refine rl_pt rfl (by omega) ?_) | (refine rl_qt rfl (by omega) ?_) | (refine rl_nt rfl (by omega) ?_) | (refine rl_mt rfl (by omega) ?_)) | ((first | (refine rl_off rfl rfl ?_) | (refine rl_undef rfl ?_) | (refine rl_pf rfl (by omega) ?_) | (refine rl_qf rfl (by omega) ?_) | (refine rl_nf rfl (by omega) ?_) | (refine rl_mf rfl (by omega) ?_)); refine rn ?_) | (first | (refine rl_pp rfl (fun h => o_n ?_) (fun h => rn ?_)) | (refine rl_qq rfl (fun h => o_n ?_) (fun h => rn ?_)) | (refine rl_nn rfl (fun h => o_n ?_) (fun h => rn ?_)) | (refine rl_mm rfl (fun h => o_n ?_) (fun h => rn ?_)))) | ((refine g_bin ?_; refine p_b ?_); refine rn ?_) | (refine g_call ?_; first | ((first | (refine p_l ?_)); refine rn ?_) | ((first | (refine t_appx rfl rfl hA rfl ?_)); clear hA; (try clear w); intro v w hA hone hnil; refine h_n hA ?_; clear hA; intro hA; refine rn ?_)) | ((refine g_conv ?_; first | (refine p_c hA ?_)); refine rn ?_) | ((refine g_load ?_; first | (refine t_loadx rfl hA ?_) | (refine t_loada rfl hA ?_)); refine rn ?_) | (refine g_store ?_; first | ((first | (refine t_storex rfl rfl hA ?_)); clear hA; (try clear w); intro w hA; refine h_n hA ?_; clear hA; intro hA; refine rn ?_) | ((first | (refine t_storea rfl rfl hA ?_)); clear hA; (try clear w); intro w hA; (try simp only [List.drop_zero, List.drop_nil, List.drop_succ_cons, List.take_succ_cons, List.take_zero, List.length_cons, List.length_nil, Nat.zero_add, Nat.reduceAdd] at hA); refine h_n hA ?_; clear hA; intro hA; refine rn ?_)) | (refine g_ow ?_; first | ((first | (refine p_o ?_)); refine rn ?_) | ((first | (refine t_alloc hA ?_) | (refine ow_box rfl rfl hA ?_) | (refine t_buildSlice rfl (by decide) rfl hA ?_)); clear hA; (try clear w); intro b w hA; refine h_n hA ?_; clear hA; intro hA; refine rn ?_) | ((first | (refine t_make rfl rfl (by omega) (by omega) hA ?_)); clear hA; (try clear w); intro v w hA hone hnil; refine rn ?_)) | (refine tq_normal ?_) | (refine bq_normal ?_) | (refine bq_hit ?_) | (refine bq_miss (by decide) ?_) | (refine tq_exit ?_) | (refine lq_exit ?_) | (refine tq_ret ?_) | (refine bq_ret ?_) | (refine lq_ret ?_))
  refine wc_region ?_
  refine' rl_v hA ?o3_0 ?k3_0
  case o3_0 => intro w hA; first | (refine ow_move_v rfl ?_; exact ⟨pe, hA⟩)
  case' k3_0 => clear hA; intro w hA; refine rn ?_
  refine' rl_v hA ?o3_1 ?k3_1
  case o3_1 => intro w hA; first | (refine ow_move_v rfl ?_; exact ⟨pe, hA⟩)
  case' k3_1 => clear hA; intro w hA; refine rn ?_
  first | refine' rl_T rfl hA ?o3_2 ?k3_2 | refine' rl_Tn rfl hA ?o3_2 ?k3_2
  case o3_2 => intro hg w hA; first | (refine t_fieldAddr opr ?_; exact ⟨pe, hA⟩)
  case' k3_2 => clear hA; intro w hA; refine rn ?_
  first | refine' rl_T rfl hA ?o3_3 ?k3_3 | refine' rl_Tn rfl hA ?o3_3 ?k3_3
  case o3_3 => intro hg w hA; first | (refine t_loadx opr hA ?_; exact ⟨pe, hA⟩) | (refine t_loada opr hA ?_; exact ⟨pe, hA⟩)
  case' k3_3 => clear hA; intro w hA; refine rn ?_
  first | refine' rl_T rfl hA ?o3_4 ?k3_4 | refine' rl_Tn rfl hA ?o3_4 ?k3_4
  case o3_4 => intro hg w hA; first | (refine t_fieldAddr opr ?_; exact ⟨pe, hA⟩)
  case' k3_4 => clear hA; intro w hA; refine rn ?_
  first | refine' rl_T rfl hA ?o3_5 ?k3_5 | refine' rl_Tn rfl hA ?o3_5 ?k3_5
  case o3_5 => intro hg w hA; first | (refine t_loadx opr hA ?_; exact ⟨pe, hA⟩) | (refine t_loada opr hA ?_; exact ⟨pe, hA⟩)
  case' k3_5 => clear hA; intro w hA; refine rn ?_
  first | refine' rl_T rfl hA ?o3_6 ?k3_6 | refine' rl_Tn rfl hA ?o3_6 ?k3_6
  case o3_6 => intro hg w hA; first | (refine ow_eql opr opr ?_; exact ⟨pe, hA⟩) | (refine ow_eqs opr opr ?_; exact ⟨pe, hA⟩) | (refine t_eqlb opr opr ?_; exact ⟨pe, hA⟩)
  case' k3_6 => clear hA; intro w hA; refine rn ?_
  refine' rl_v hA ?o3_7 ?k3_7
  case o3_7 => intro w hA; first | (refine ow_and rfl (by first | rfl) rfl ?_; exact ⟨pe, hA⟩) | (refine ow_pick rfl rfl rfl ?_; exact ⟨pe, hA⟩)
  case' k3_7 => clear hA; intro w hA; refine rn ?_
  refine' rl_v hA ?o3_8 ?k3_8
  case o3_8 => intro w hA; first | (refine ow_move_v rfl ?_; exact ⟨pe, hA⟩)
  case' k3_8 => clear hA; intro w hA; refine rn ?_
  first | refine' rl_T rfl hA ?o3_9 ?k3_9 | refine' rl_Tn rfl hA ?o3_9 ?k3_9
  case o3_9 => intro hg w hA; first | (refine t_fieldAddr opr ?_; exact ⟨pe, hA⟩)
  case' k3_9 => clear hA; intro w hA; refine rn ?_
  first | refine' rl_T rfl hA ?o3_10 ?k3_10 | refine' rl_Tn rfl hA ?o3_10 ?k3_10
  case o3_10 => intro hg w hA; first | (refine t_loadx opr hA ?_; exact ⟨pe, hA⟩) | (refine t_loada opr hA ?_; exact ⟨pe, hA⟩)
  case' k3_10 => clear hA; intro w hA; refine rn ?_
  first | refine' rl_T rfl hA ?o3_11 ?k3_11 | refine' rl_Tn rfl hA ?o3_11 ?k3_11
  case o3_11 => intro hg w hA; first | (refine t_fieldAddr opr ?_; exact ⟨pe, hA⟩)
  case' k3_11 => clear hA; intro w hA; refine rn ?_
  first | refine' rl_T rfl hA ?o3_12 ?k3_12 | refine' rl_Tn rfl hA ?o3_12 ?k3_12
  case o3_12 => intro hg w hA; first | (refine t_loadx opr hA ?_; exact ⟨pe, hA⟩) | (refine t_loada opr hA ?_; exact ⟨pe, hA⟩)
  case' k3_12 => clear hA; intro w hA; refine rn ?_
  first | refine' rl_T rfl hA ?o3_13 ?k3_13 | refine' rl_Tn rfl hA ?o3_13 ?k3_13
  case o3_13 => intro hg w hA; first | (refine ow_eql opr opr ?_; exact ⟨pe, hA⟩) | (refine ow_eqs opr opr ?_; exact ⟨pe, hA⟩) | (refine t_eqlb opr opr ?_; exact ⟨pe, hA⟩)
  case' k3_13 => clear hA; intro w hA; refine rn ?_
  refine' rl_v hA ?o3_14 ?k3_14
  case o3_14 => intro w hA; first | (refine ow_and rfl (by first | rfl) rfl ?_; exact ⟨pe, hA⟩) | (refine ow_pick rfl rfl rfl ?_; exact ⟨pe, hA⟩)
  case' k3_14 => clear hA; intro w hA; refine rn ?_
  refine' rl_v hA ?o3_15 ?k3_15
  case o3_15 => intro w hA; first | (refine ow_move_v rfl ?_; exact ⟨pe, hA⟩)
  case' k3_15 => clear hA; intro w hA; refine rn ?_
  first | refine' rl_T rfl hA ?o3_16 ?k3_16 | refine' rl_Tn rfl hA ?o3_16 ?k3_16
  case o3_16 => intro hg w hA; first | (refine t_fieldAddr opr ?_; exact ⟨pe, hA⟩)
  case' k3_16 => clear hA; intro w hA; refine rn ?_
  first | refine' rl_T rfl hA ?o3_17 ?k3_17 | refine' rl_Tn rfl hA ?o3_17 ?k3_17
  case o3_17 => intro hg w hA; first | (refine t_loadx opr hA ?_; exact ⟨pe, hA⟩) | (refine t_loada opr hA ?_; exact ⟨pe, hA⟩)
  case' k3_17 => clear hA; intro w hA; refine rn ?_
  first | refine' rl_T rfl hA ?o3_18 ?k3_18 | refine' rl_Tn rfl hA ?o3_18 ?k3_18
  case o3_18 => intro hg w hA; first | (refine t_fieldAddr opr ?_; exact ⟨pe, hA⟩)
  case' k3_18 => clear hA; intro w hA; refine rn ?_
  first | refine' rl_T rfl hA ?o3_19 ?k3_19 | refine' rl_Tn rfl hA ?o3_19 ?k3_19
  case o3_19 => intro hg w hA; first | (refine t_loadx opr hA ?_; exact ⟨pe, hA⟩) | (refine t_loada opr hA ?_; exact ⟨pe, hA⟩)
  case' k3_19 => clear hA; intro w hA; refine rn ?_
  first | refine' rl_T rfl hA ?o3_20 ?k3_20 | refine' rl_Tn rfl hA ?o3_20 ?k3_20
  case o3_20 => intro hg w hA; first | (refine ow_call Tryd.call99 (evs2 opr opr) ((eEqualHeader_calls x.slice.head y.slice.head m k m' k' _ _ _ hA (hx.slice.head.mono hE) (hy.slice.head.mono hE)).mono ?_); clear hA; rintro e w ⟨rfl, hA⟩; refine ⟨_, rfl, ?_⟩; exact ⟨put_eq (by rfl), hA⟩)
  case' k3_20 => clear hA; intro w hA; refine rn ?_
  refine' rl_v hA ?o3_21 ?k3_21
  case o3_21 => intro w hA; first | (refine ow_and rfl (by first | rfl) rfl ?_; exact ⟨pe, hA⟩) | (refine ow_pick rfl rfl rfl ?_; exact ⟨pe, hA⟩)
  case' k3_21 => clear hA; intro w hA; refine rn ?_
  refine' rl_v hA ?o3_22 ?k3_22
  case o3_22 => intro w hA; first | (refine ow_move_v rfl ?_; exact ⟨pe, hA⟩)
  case' k3_22 => clear hA; intro w hA; refine rn ?_
  first | refine' rl_T rfl hA ?o3_23 ?k3_23 | refine' rl_Tn rfl hA ?o3_23 ?k3_23
  case o3_23 => intro hg w hA; first | (refine t_fieldAddr opr ?_; exact ⟨pe, hA⟩)
  case' k3_23 => clear hA; intro w hA; refine rn ?_
  first | refine' rl_T rfl hA ?o3_24 ?k3_24 | refine' rl_Tn rfl hA ?o3_24 ?k3_24
  case o3_24 => intro hg w hA; first | (refine t_loadx opr hA ?_; exact ⟨pe, hA⟩) | (refine t_loada opr hA ?_; exact ⟨pe, hA⟩)
  case' k3_24 => clear hA; intro w hA; refine rn ?_
  first | refine' rl_T rfl hA ?o3_25 ?k3_25 | refine' rl_Tn rfl hA ?o3_25 ?k3_25
  case o3_25 => intro hg w hA; first | (refine t_fieldAddr opr ?_; exact ⟨pe, hA⟩)
  case' k3_25 => clear hA; intro w hA; refine rn ?_
  first | refine' rl_T rfl hA ?o3_26 ?k3_26 | refine' rl_Tn rfl hA ?o3_26 ?k3_26
  case o3_26 => intro hg w hA; first | (refine t_loadx opr hA ?_; exact ⟨pe, hA⟩) | (refine t_loada opr hA ?_; exact ⟨pe, hA⟩)
  case' k3_26 => clear hA; intro w hA; refine rn ?_
  first | refine' rl_T rfl hA ?o3_27 ?k3_27 | refine' rl_Tn rfl hA ?o3_27 ?k3_27
  case o3_27 => intro hg w hA; first | (refine ow_call Tryd.call100 (evs3 opr opr opr) ((fEqMbs_calls _ _ _ _ _ _ _ hA (hx.slice.mbs.mono hE) (hy.slice.mbs.mono hE)).mono ?_); clear hA; rintro e w ⟨rfl, hA⟩; refine ⟨_, rfl, ?_⟩; exact ⟨put_eq (by rfl), hA⟩)
  case' k3_27 => clear hA; intro w hA; refine rn ?_
  refine' rl_v hA ?o3_28 ?k3_28
  case o3_28 => intro w hA; first | (refine ow_and rfl (by first | rfl) rfl ?_; exact ⟨pe, hA⟩) | (refine ow_pick rfl rfl rfl ?_; exact ⟨pe, hA⟩)
  case' k3_28 => clear hA; intro w hA; refine rn ?_
  refine' rl_v hA ?o3_29 ?k3_29
  case o3_29 => intro w hA; first | (refine ow_assign_v rfl ?_; exact ⟨pe, hA⟩)
  case' k3_29 => clear hA; intro w hA; refine rn ?_
  refine rl_nil ?_
  repeat' (first | ((refine g_wc ?_; first | (refine wc_seq ?_) | (refine wc_region ?_) | (refine wc_block ?_) | (refine wc_true rfl ?_) | (refine wc_false rfl ?_) | (refine wc_pt rfl (by omega) ?_) | (refine wc_pf rfl (by omega) ?_) | (refine wc_nt rfl (by omega) ?_) | (refine wc_nf rfl (by omega) ?_) | (refine wc_pp rfl (fun h => ?_) (fun h => ?_)) | (refine wc_nn rfl (fun h => ?_) (fun h => ?_)) | (refine wc_skip ?_) | (refine wc_exit ?_) | (refine wc_ret ?_))) | (refine g_rl ?_; first | (first | (refine rl_op ?_) | (refine rl_nil ?_) | (refine rl_on rfl ?_) | (refine rl_pt rfl (by omega) ?_) | (refine rl_qt rfl (by omega) ?_) | (refine rl_nt rfl (by omega) ?_) | (refine rl_mt rfl (by omega) ?_)) | ((first | (refine rl_off rfl rfl ?_) | (refine rl_undef rfl ?_) | (refine rl_pf rfl (by omega) ?_) | (refine rl_qf rfl (by omega) ?_) | (refine rl_nf rfl (by omega) ?_) | (refine rl_mf rfl (by omega) ?_)); refine rn ?_) | (first | (refine rl_pp rfl (fun h => o_n ?_) (fun h => rn ?_)) | (refine rl_qq rfl (fun h => o_n ?_) (fun h => rn ?_)) | (refine rl_nn rfl (fun h => o_n ?_) (fun h => rn ?_)) | (refine rl_mm rfl (fun h => o_n ?_) (fun h => rn ?_)))) | ((refine g_bin ?_; refine p_b ?_); refine rn ?_) | (refine g_call ?_; first | ((first | (refine p_l ?_)); refine rn ?_) | ((first | (refine t_appx rfl rfl hA rfl ?_)); clear hA; (try clear w); intro v w hA hone hnil; refine h_n hA ?_; clear hA; intro hA; refine rn ?_)) | ((refine g_conv ?_; first | (refine p_c hA ?_)); refine rn ?_) | ((refine g_load ?_; first | (refine t_loadx rfl hA ?_) | (refine t_loada rfl hA ?_)); refine rn ?_) | (refine g_store ?_; first | ((first | (refine t_storex rfl rfl hA ?_)); clear hA; (try clear w); intro w hA; refine h_n hA ?_; clear hA; intro hA; refine rn ?_) | ((first | (refine t_storea rfl rfl hA ?_)); clear hA; (try clear w); intro w hA; (try simp only [List.drop_zero, List.drop_nil, List.drop_succ_cons, List.take_succ_cons, List.take_zero, List.length_cons, List.length_nil, Nat.zero_add, Nat.reduceAdd] at hA); refine h_n hA ?_; clear hA; intro hA; refine rn ?_)) | (refine g_ow ?_; first | ((first | (refine p_o ?_)); refine rn ?_) | ((first | (refine t_alloc hA ?_) | (refine ow_box rfl rfl hA ?_) | (refine t_buildSlice rfl (by decide) rfl hA ?_)); clear hA; (try clear w); intro b w hA; refine h_n hA ?_; clear hA; intro hA; refine rn ?_) | ((first | (refine t_make rfl rfl (by omega) (by omega) hA ?_)); clear hA; (try clear w); intro v w hA hone hnil; refine rn ?_)) | (refine tq_normal ?_) | (refine bq_normal ?_) | (refine bq_hit ?_) | (refine bq_miss (by decide) ?_) | (refine tq_exit ?_) | (refine lq_exit ?_) | (refine tq_ret ?_) | (refine bq_ret ?_) | (refine lq_ret ?_))
  refine ret1 ((hA.dropN 4 : Sat E' L w).le hE) rfl ?_
  simp only [List.getD_cons_succ, List.getD_cons_zero, node_eq x y, slice_eq x.slice y.slice, u8_inj, Bool.decide_and, Bool.and_assoc]
  congr 1
  generalize decide (x.kind = y.kind) = a1; generalize decide (x.ref = y.ref) = a2; generalize decide (x.sps = y.sps) = a3; generalize decide (x.pps = y.pps) = a4; generalize decide (x.other = y.other) = a5; generalize decide (x.slice.ref = y.slice.ref) = a6; generalize decide (x.slice.idr = y.slice.idr) = a7; generalize decide (x.slice.head = y.slice.head) = a8; generalize decide (x.slice.mbs = y.slice.mbs) = a9
  ac_rfl
end Go.Proofs.YteeeabnfgpolgaaDoor
