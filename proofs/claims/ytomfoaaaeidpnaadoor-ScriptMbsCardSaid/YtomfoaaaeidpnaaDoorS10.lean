/-
  spindlelaw40.known, walked.
-/
import Derived.Test.YtomfoaaaeidpnaaDoorS8
import Derived.Test.YtomfoaaaeidpnaaDoorK3
import Derived.Test.YtomfoaaaeidpnaaDoorSlH
set_option linter.unusedVariables false
set_option linter.unusedSimpArgs false
namespace Go.Proofs.YtomfoaaaeidpnaaDoor
open Go Go.RowKit
attribute [local irreducible] WC RL OW bodyPostM ThenQ BlockQ LoopQ ScopeQ
theorem resThree {P : Program} {w : World} {l : List Value} {fn : Func} {r r' r'' : ResultVar} {v v' v'' : Value} (h : fn.results = #[r, r', r'']) (h1 : (resOne l r).run P w = .ok v w) (h2 : (resOne l r').run P w = .ok v' w) (h3 : (resOne l r'').run P w = .ok v'' w) : (results fn ⟨l⟩).run P w = .ok (.tuple ⟨[v, v', v'']⟩) w := by
  rw [results_eq, h]; simp [h1, h2, h3]
theorem src_zero (bx : Nat) (s : List UInt8) : src bx s 0 = cells bx [vs s, .int .i64 0] 99 := by
  unfold src
  rw [Nat.zero_min]
  rfl
set_option maxRecDepth 16000 in
set_option maxHeartbeats 8000000 in
theorem script_calls (s : List UInt8) (intra : Bool) (refs : Nat) (E : Env) (L : List Item) (w : World) (hv : intra = true ∧ refs = 0 ∨ intra = false ∧ 1 ≤ refs ∧ refs ≤ 32) (hs : s.length ≤ 1000000) (hA : Sat E L w) (hG : SzG E) :
    Calls Tryd.prog 36 ⟨[vs s, .bool intra, vi refs]⟩ w (fun e w' => ∃ E' r v u, e = .returned (.tuple ⟨[.agg ⟨mbC (mbP intra refs (strm s) 0).1 r v u⟩, vi ((min (mbP intra refs (strm s) 0).2 s.length : Nat) : Int), vi 0]⟩) ∧ E.Le E' ∧ MbL (E'.sub E) (mbP intra refs (strm s) 0).1 r v u ∧ Sat E' L w') := by
  have hir : intra = true ∨ 1 ≤ refs := hv.imp (·.1) (·.2.1)
  have hr2 : refs ≤ 1000 := by omega
  refine enter (fn := Tryd.f36) Tryd.func36 rfl 41 rfl [vs s, .bool intra, vi refs, undef, undef, undef, undef, undef, undef, undef, undef, undef, undef, undef, undef, undef, undef, undef, undef, undef, undef, undef, undef, undef, undef, undef, undef, undef, undef, undef, undef, undef, undef, undef, undef, undef, undef, undef, undef, undef, undef] rfl ?_
  repeat' (first | refine st ?_ | (refine wc_regionS 1 rfl ?_; refine wc_region ?_) | (refine su ?_; refine rn ?_) | (refine g_conv ?_; refine p_c hA ?_; refine rn ?_) | (refine g_load ?_; (first | refine t_loadx rfl hA ?_ | refine t_loada rfl hA ?_); refine rn ?_) | (refine g_call ?_; refine t_appx rfl rfl hA rfl ?_; clear hA; (try clear w); intro v w hA hone hnil; refine h_n hA ?_; clear hA; intro hA; refine rn ?_) | (refine g_store ?_; (first | refine t_storex rfl rfl hA ?_ | refine t_storea rfl rfl hA ?_); clear hA; (try clear w); intro w hA; refine h_m hA ?_; clear hA; intro hA; refine rn ?_) | (refine g_ow ?_; (first | refine t_alloc hA ?_ | refine ow_box rfl rfl hA ?_ | refine t_buildSlice rfl (by decide) rfl hA ?_); clear hA; (try clear w); intro b w hA; refine h_n hA ?_; clear hA; intro hA; refine rn ?_) | (refine g_ow ?_; refine t_make rfl rfl (by omega) (by omega) hA ?_; clear hA; (try clear w); intro v w hA hone hnil; refine rn ?_) | refine wc_pp rfl (fun h => ?_) (fun h => ?_) | refine wc_nn rfl (fun h => ?_) (fun h => ?_) | refine rl_pp rfl (fun h => o_n ?_) (fun h => rn ?_) | refine rl_qq rfl (fun h => o_n ?_) (fun h => rn ?_) | refine rl_nn rfl (fun h => o_n ?_) (fun h => rn ?_) | refine rl_mm rfl (fun h => o_n ?_) (fun h => rn ?_))
  generalize hb6 : b = b6 at *
  clear hb6
  refine wc_region ?_
  refine' rl_v hA ?o1_0 ?k1_0
  case o1_0 => intro w hA; first | (refine ow_move_v rfl ?_; exact ⟨pe, hA⟩)
  case' k1_0 => clear hA; intro w hA; refine rn ?_
  refine' rl_v hA ?o1_1 ?k1_1
  case o1_1 => intro w hA; first | (refine ow_move_v rfl ?_; exact ⟨pe, hA⟩)
  case' k1_1 => clear hA; intro w hA; refine rn ?_
  first | refine' rl_T rfl hA ?o1_2 ?k1_2 | refine' rl_Tn rfl hA ?o1_2 ?k1_2
  case o1_2 => intro hg w hA; first | (refine ow_move_v opr ?_; exact ⟨pe, hA⟩)
  case' k1_2 => clear hA; intro w hA; refine rn ?_
  first | refine' rl_T rfl hA ?o1_3 ?k1_3 | refine' rl_Tn rfl hA ?o1_3 ?k1_3
  case o1_3 => intro hg w hA; first | (refine ow_neq opr opr ?_; exact ⟨pe, hA⟩) | (refine ow_neqs opr opr ?_; exact ⟨pe, hA⟩) | (refine t_neqb opr opr ?_; exact ⟨pe, hA⟩)
  case' k1_3 => clear hA; intro w hA; refine rn ?_
  refine' rl_v hA ?o1_4 ?k1_4
  case o1_4 => intro w hA; first | (refine ow_and rfl (by first | rfl) rfl ?_; exact ⟨pe, hA⟩) | (refine ow_pick rfl rfl rfl ?_; exact ⟨pe, hA⟩)
  case' k1_4 => clear hA; intro w hA; refine rn ?_
  refine' rl_v hA ?o1_5 ?k1_5
  case o1_5 => intro w hA; first | (refine ow_move_v rfl ?_; exact ⟨pe, hA⟩)
  case' k1_5 => clear hA; intro w hA; refine rn ?_
  first | refine' rl_F rfl hA ?o1_6 ?k1_6 | refine' rl_Fn rfl hA ?o1_6 ?k1_6
  case o1_6 => intro hg w hA; first | (refine ow_move_v opr ?_; exact ⟨pe, hA⟩)
  case' k1_6 => clear hA; intro w hA; refine rn ?_
  first | refine' rl_F rfl hA ?o1_7 ?k1_7 | refine' rl_Fn rfl hA ?o1_7 ?k1_7
  case o1_7 => intro hg w hA; first | (refine ow_not opr ?_; exact ⟨pe, hA⟩) | (refine ow_neg opr ?_; exact ⟨pe, hA⟩)
  case' k1_7 => clear hA; intro w hA; refine rn ?_
  first | refine' rl_F rfl hA ?o1_8 ?k1_8 | refine' rl_Fn rfl hA ?o1_8 ?k1_8
  case o1_8 => intro hg w hA; first | (refine ow_move_v opr ?_; exact ⟨pe, hA⟩)
  case' k1_8 => clear hA; intro w hA; refine rn ?_
  first | refine' rl_T rfl hA ?o1_9 ?k1_9 | refine' rl_Tn rfl hA ?o1_9 ?k1_9
  case o1_9 => intro hg w hA; first | (refine ow_move_v opr ?_; exact ⟨pe, hA⟩)
  case' k1_9 => clear hA; intro w hA; refine rn ?_
  first | refine' rl_T rfl hA ?o1_10 ?k1_10 | refine' rl_Tn rfl hA ?o1_10 ?k1_10
  case o1_10 => intro hg w hA; first | (refine ow_lss opr opr ?_; exact ⟨pe, hA⟩)
  case' k1_10 => clear hA; intro w hA; refine rn ?_
  first | refine' rl_T rfl hA ?o1_11 ?k1_11 | refine' rl_Tn rfl hA ?o1_11 ?k1_11
  case o1_11 => intro hg w hA; first | (refine ow_move_v opr ?_; exact ⟨pe, hA⟩)
  case' k1_11 => clear hA; intro w hA; refine rn ?_
  first | refine' rl_F rfl hA ?o1_12 ?k1_12 | refine' rl_Fn rfl hA ?o1_12 ?k1_12
  case o1_12 => intro hg w hA; first | (refine ow_move_v opr ?_; exact ⟨pe, hA⟩)
  case' k1_12 => clear hA; intro w hA; refine rn ?_
  first | refine' rl_F rfl hA ?o1_13 ?k1_13 | refine' rl_Fn rfl hA ?o1_13 ?k1_13
  case o1_13 => intro hg w hA; first | (refine ow_gtr opr opr ?_; exact ⟨pe, hA⟩)
  case' k1_13 => clear hA; intro w hA; refine rn ?_
  first | refine' rl_T rfl hA ?o1_14 ?k1_14 | refine' rl_Tn rfl hA ?o1_14 ?k1_14
  case o1_14 => intro hg w hA; first | (refine ow_or opr rfl (by first | rfl | exact sel_in rfl hg) ?_; exact ⟨pe, hA⟩) | (refine ow_pick opr opr opr ?_; exact ⟨pe, hA⟩)
  case' k1_14 => clear hA; intro w hA; refine rn ?_
  first | refine' rl_F rfl hA ?o1_15 ?k1_15 | refine' rl_Fn rfl hA ?o1_15 ?k1_15
  case o1_15 => intro hg w hA; first | (refine ow_and opr (by first | rfl | exact sel_in rfl hg) rfl ?_; exact ⟨pe, hA⟩) | (refine ow_pick opr opr opr ?_; exact ⟨pe, hA⟩)
  case' k1_15 => clear hA; intro w hA; refine rn ?_
  refine' rl_v hA ?o1_16 ?k1_16
  case o1_16 => intro w hA; first | (refine ow_or rfl rfl (by first | rfl) ?_; exact ⟨pe, hA⟩) | (refine ow_pick rfl rfl rfl ?_; exact ⟨pe, hA⟩)
  case' k1_16 => clear hA; intro w hA; refine rn ?_
  refine rl_nil ?_
  refine tq_normal ?_
  refine wc_bb rfl (fun h => ?_) (fun h => ?_)
  · exfalso
    rcases hv with ⟨rfl, rfl⟩ | ⟨rfl, h1, h2⟩
    · simp at h
    · simp at h
      omega
  clear h
  repeat' (first | refine st ?_ | (refine wc_regionS 4 rfl ?_; refine wc_region ?_) | (refine su ?_; refine rn ?_) | (refine g_conv ?_; refine p_c hA ?_; refine rn ?_) | (refine g_load ?_; (first | refine t_loadx rfl hA ?_ | refine t_loada rfl hA ?_); refine rn ?_) | (refine g_call ?_; refine t_appx rfl rfl hA rfl ?_; clear hA; (try clear w); intro v w hA hone hnil; refine h_n hA ?_; clear hA; intro hA; refine rn ?_) | (refine g_store ?_; (first | refine t_storex rfl rfl hA ?_ | refine t_storea rfl rfl hA ?_); clear hA; (try clear w); intro w hA; refine h_m hA ?_; clear hA; intro hA; refine rn ?_) | (refine g_ow ?_; (first | refine t_alloc hA ?_ | refine ow_box rfl rfl hA ?_ | refine t_buildSlice rfl (by decide) rfl hA ?_); clear hA; (try clear w); intro b w hA; refine h_n hA ?_; clear hA; intro hA; refine rn ?_) | (refine g_ow ?_; refine t_make rfl rfl (by omega) (by omega) hA ?_; clear hA; (try clear w); intro v w hA hone hnil; refine rn ?_) | refine wc_pp rfl (fun h => ?_) (fun h => ?_) | refine wc_nn rfl (fun h => ?_) (fun h => ?_) | refine rl_pp rfl (fun h => o_n ?_) (fun h => rn ?_) | refine rl_qq rfl (fun h => o_n ?_) (fun h => rn ?_) | refine rl_nn rfl (fun h => o_n ?_) (fun h => rn ?_) | refine rl_mm rfl (fun h => o_n ?_) (fun h => rn ?_))
  generalize hbx : b = bx at *
  clear hbx
  rw [← src_zero] at hA
  repeat' (first | (refine g_callf 59 ?_; refine ow_call Tryd.call59 rfl ((mb_calls bx s 0 intra refs _ _ _ hir hr2 hs hA hG).mono ?_); clear hA; (try clear w); rintro e w ⟨E1, r, vv, u, rfl, hE1, hm, hA⟩; refine ⟨_, rfl, ?_⟩; (try have o1 := hm.refs.one; have o2 := hm.mvds.one; have o3 := hm.blocks.one); refine rn ?_) | refine st ?_ | (refine wc_regionS 5 rfl ?_; refine wc_region ?_) | (refine su ?_; refine rn ?_) | (refine g_conv ?_; refine p_c hA ?_; refine rn ?_) | (refine g_load ?_; (first | refine t_loadx rfl hA ?_ | refine t_loada rfl hA ?_); refine rn ?_) | (refine g_call ?_; refine t_appx rfl rfl hA rfl ?_; clear hA; (try clear w); intro v w hA hone hnil; refine h_n hA ?_; clear hA; intro hA; refine rn ?_) | (refine g_store ?_; (first | refine t_storex rfl rfl hA ?_ | refine t_storea rfl rfl hA ?_); clear hA; (try clear w); intro w hA; refine h_m hA ?_; clear hA; intro hA; refine rn ?_) | (refine g_ow ?_; (first | refine t_alloc hA ?_ | refine ow_box rfl rfl hA ?_ | refine t_buildSlice rfl (by decide) rfl hA ?_); clear hA; (try clear w); intro b w hA; refine h_n hA ?_; clear hA; intro hA; refine rn ?_) | (refine g_ow ?_; refine t_make rfl rfl (by omega) (by omega) hA ?_; clear hA; (try clear w); intro v w hA hone hnil; refine rn ?_) | refine wc_pp rfl (fun h => ?_) (fun h => ?_) | refine wc_nn rfl (fun h => ?_) (fun h => ?_) | refine rl_pp rfl (fun h => o_n ?_) (fun h => rn ?_) | refine rl_qq rfl (fun h => o_n ?_) (fun h => rn ?_) | refine rl_nn rfl (fun h => o_n ?_) (fun h => rn ?_) | refine rl_mm rfl (fun h => o_n ?_) (fun h => rn ?_))
  generalize mbP intra refs (strm s) 0 = R at *
  obtain ⟨m, q⟩ := R
  dsimp only at hm hA o1 o2 o3 ⊢
  have hA := hA.perm (List.Perm.swap _ _ _)
  refine' wc_flow' 3 (fun _ => undef) (fun ix => match ix with | 0 => [9] | 4 => [8] | 5 => [10] | _ => []) (fun ix => match ix with | 5 => [10] | _ => []) (fun ix => match ix with  | _ => []) (mixPhi [_, _, _, _, _, undef, _, _] (fun ix => match ix with | 5 => some (trueV) | _ => none)) (fun ix yy => match ix with | 5 => [cells b6 (mbC m r vv u) 28] | 8 => [src bx s q] | 9 => [cells b (mbC m r vv u) 28] | 10 => [cells b6 ([Go.Value.int Go.IntKind.u8 0, Go.Value.int Go.IntKind.u8 0, Go.Value.int Go.IntKind.u8 0, Go.Value.int Go.IntKind.u8 0, Go.Value.int Go.IntKind.u8 0, Go.Value.int Go.IntKind.u8 0, Go.Value.int Go.IntKind.u8 0, Go.Value.int Go.IntKind.u8 0, Go.Value.int Go.IntKind.u8 0, Go.Value.int Go.IntKind.u8 0, Go.Value.int Go.IntKind.u8 0, Go.Value.int Go.IntKind.u8 0, Go.Value.int Go.IntKind.u8 0, Go.Value.int Go.IntKind.u8 0, Go.Value.int Go.IntKind.u8 0, Go.Value.int Go.IntKind.u8 0, Go.Value.int Go.IntKind.u8 0, Go.Value.int Go.IntKind.u8 0, Go.Value.int Go.IntKind.u8 0, Go.Value.int Go.IntKind.u8 0, Go.Value.int Go.IntKind.u8 0, Go.Value.int Go.IntKind.u8 0, Go.Value.int Go.IntKind.u8 0, Go.Value.slice none 0 0, Go.Value.slice none 0 0, Go.Value.int Go.IntKind.u8 0, Go.Value.int Go.IntKind.i64 0, Go.Value.slice none 0 0, Go.Value.string { data := #[] }]) 28] | _ => []) (L) 8 (by kernel_rfl) rfl (by kernel_rfl) [(0, 36), (1, 37), (2, 38), (3, 39), (4, 40), (6, 7), (7, 8)] (by kernel_rfl) [0, 1, 2, 3, 4, 5, 6, 7, 8, 9] (by kernel_rfl) [8, 9, 10] (by kernel_rfl) hA ?itd5 ?phi5 ?ops5 ?k5
  case itd5 => (intro i y y' h; first | rfl | ((try dsimp only at h ⊢); split <;> first | rfl | (simp only [List.mem_cons, List.not_mem_nil, or_false, forall_eq_or_imp, forall_eq] at h; simp only [h]; done)))
  case phi5 => (refine mix_mono fun i p hp E1 E2 v hE h => ?_; split at hp <;> first | (cases hp; done) | (obtain rfl := Option.some.inj hp; first | exact ListE.mono h hE | exact ListE.mono h (Env.sub_left _ hE) | exact PMono.mono hE h | exact PMono.mono (Env.sub_left _ hE) h | exact h))
  case ops5 =>
    refine' FlowOps.c rfl [] (by decide) [] (by decide) [9] rfl [9] rfl ?o5_0 ?r5_0
    case o5_0 => intro yy E' Lx w lf hE hph hyp hl hA; simp only [setAll, List.map_cons, List.map_nil, List.set_cons_succ, List.set_cons_zero] at hl; subst hl; (try simp only [List.flatMap_cons, List.flatMap_nil, List.nil_append, List.append_nil, List.cons_append] at hA ⊢); (try clear hph hyp); first | (refine t_loadx rfl hA ?_; exact ⟨_, E', pe, Env.Le.refl _, mix_mk rfl rfl, hA⟩) | (refine t_loada rfl hA ?_; exact ⟨_, E', pe, Env.Le.refl _, mix_mk rfl rfl, hA⟩)
    case r5_0 =>
      refine' FlowOps.c rfl [] (by decide) [] (by decide) [] rfl [] rfl ?o5_1 ?r5_1
      case o5_1 => intro yy E' Lx w lf hE hph hyp hl hA; simp only [setAll, List.map_cons, List.map_nil, List.set_cons_succ, List.set_cons_zero] at hl; subst hl; (try simp only [List.flatMap_cons, List.flatMap_nil, List.nil_append, List.append_nil, List.cons_append] at hA ⊢); (try clear hph hyp); first | (refine ow_move_v rfl ?_; exact ⟨_, E', pe, Env.Le.refl _, mix_mk rfl rfl, hA⟩)
      case r5_1 =>
        refine' FlowOps.c rfl [(1, 37)] (by decide) [1] (by decide) [] rfl [] rfl ?o5_2 ?r5_2
        case o5_2 => intro yy E' Lx w lf hE hph hyp hl hA; have e1 := mix_known (hph 1 (by decide)) rfl rfl; simp only [setAll, List.map_cons, List.map_nil, List.set_cons_succ, List.set_cons_zero, ← e1] at hl; subst hl; (try simp only [← e1] at hA ⊢); (try simp only [List.flatMap_cons, List.flatMap_nil, List.nil_append, List.append_nil, List.cons_append] at hA ⊢); (try clear hph hyp); first | (refine ow_nilCheck rfl ?_; exact ⟨_, E', pe, Env.Le.refl _, mix_mk rfl rfl, hA⟩)
        case r5_2 =>
          refine' FlowOps.c rfl [(2, 38)] (by decide) [1, 2] (by decide) [] rfl [] rfl ?o5_3 ?r5_3
          case o5_3 => intro yy E' Lx w lf hE hph hyp hl hA; have e1 := mix_known (hph 1 (by decide)) rfl rfl; have e2 := mix_known (hph 2 (by decide)) rfl rfl; simp only [setAll, List.map_cons, List.map_nil, List.set_cons_succ, List.set_cons_zero, ← e1, ← e2] at hl; subst hl; (try simp only [← e1, ← e2] at hA ⊢); (try simp only [List.flatMap_cons, List.flatMap_nil, List.nil_append, List.append_nil, List.cons_append] at hA ⊢); (try clear hph hyp); first | (refine t_fieldAddr rfl ?_; exact ⟨_, E', pe, Env.Le.refl _, mix_mk rfl rfl, hA⟩)
          case r5_3 =>
            refine' FlowOps.c rfl [(3, 39)] (by decide) [1, 2, 3] (by decide) [8] rfl [8] rfl ?o5_4 ?r5_4
            case o5_4 => intro yy E' Lx w lf hE hph hyp hl hA; have e1 := mix_known (hph 1 (by decide)) rfl rfl; have e2 := mix_known (hph 2 (by decide)) rfl rfl; have e3 := mix_known (hph 3 (by decide)) rfl rfl; simp only [setAll, List.map_cons, List.map_nil, List.set_cons_succ, List.set_cons_zero, ← e1, ← e2, ← e3] at hl; subst hl; (try simp only [← e1, ← e2, ← e3] at hA ⊢); (try simp only [List.flatMap_cons, List.flatMap_nil, List.nil_append, List.append_nil, List.cons_append] at hA ⊢); (try clear hph hyp); first | (refine t_loadx rfl hA ?_; exact ⟨_, E', pe, Env.Le.refl _, mix_mk rfl rfl, hA⟩) | (refine t_loada rfl hA ?_; exact ⟨_, E', pe, Env.Le.refl _, mix_mk rfl rfl, hA⟩)
            case r5_4 =>
              refine' FlowOps.c rfl [(0, 36)] (by decide) [0] (by decide) [10] rfl [] rfl ?o5_5 ?r5_5
              case o5_5 => intro yy E' Lx w lf hE hph hyp hl hA; have e0 := mix_known (hph 0 (by decide)) rfl rfl; simp only [setAll, List.map_cons, List.map_nil, List.set_cons_succ, List.set_cons_zero, ← e0] at hl; subst hl; (try simp only [← e0] at hA ⊢); (try simp only [List.flatMap_cons, List.flatMap_nil, List.nil_append, List.append_nil, List.cons_append] at hA ⊢); (try clear hph hyp); refine t_store_agg 0 rfl rfl (by simp only [List.mem_cons, List.not_mem_nil, or_false, forall_eq_or_imp, forall_eq]; (repeat' apply And.intro) <;> first | rfl | assumption) rfl hA rfl (Nat.le_of_ble_eq_true rfl) ?_; clear hA; intro w hA; (try simp only [List.drop_zero, List.drop_nil, List.drop_succ_cons, List.take_succ_cons, List.take_zero, List.length_cons, List.length_nil, Nat.zero_add, Nat.reduceAdd] at hA); refine h_n hA ?_; clear hA; intro hA; exact ⟨undef, E', rfl, Env.Le.refl _, mix_mkP rfl trivial, hA⟩
              case r5_5 =>
                refine' FlowOps.c rfl [(4, 40), (0, 36), (1, 37), (2, 38), (3, 39)] (by decide) [4, 5, 0, 1, 2, 3] (by decide) [] rfl [] rfl ?o5_6 ?r5_6
                case o5_6 => intro yy E' Lx w lf hE hph hyp hl hA; have e4 := mix_known (hph 4 (by decide)) rfl rfl; have e0 := mix_known (hph 0 (by decide)) rfl rfl; have e1 := mix_known (hph 1 (by decide)) rfl rfl; have e2 := mix_known (hph 2 (by decide)) rfl rfl; have e3 := mix_known (hph 3 (by decide)) rfl rfl; simp only [setAll, List.map_cons, List.map_nil, List.set_cons_succ, List.set_cons_zero, ← e4, ← e0, ← e1, ← e2, ← e3] at hl; subst hl; have p5 := mix_pred (hph 5 (by decide)) rfl; (try simp only [← e4, ← e0, ← e1, ← e2, ← e3] at hA ⊢); generalize yy 5 = y5 at *; (try simp only [List.flatMap_cons, List.flatMap_nil, List.nil_append, List.append_nil, List.cons_append] at hA ⊢); (try clear hph hyp); first | (refine ow_assign_v rfl ?_; exact ⟨_, E', pe, Env.Le.refl _, mix_mk rfl rfl, hA⟩)
                case r5_6 =>
                  refine' FlowOps.c rfl [(6, 7), (0, 36), (1, 37), (2, 38), (3, 39), (4, 40)] (by decide) [6, 0, 1, 2, 3, 4, 5] (by decide) [] rfl [] rfl ?o5_7 ?r5_7
                  case o5_7 => intro yy E' Lx w lf hE hph hyp hl hA; have e6 := mix_known (hph 6 (by decide)) rfl rfl; have e0 := mix_known (hph 0 (by decide)) rfl rfl; have e1 := mix_known (hph 1 (by decide)) rfl rfl; have e2 := mix_known (hph 2 (by decide)) rfl rfl; have e3 := mix_known (hph 3 (by decide)) rfl rfl; have e4 := mix_known (hph 4 (by decide)) rfl rfl; simp only [setAll, List.map_cons, List.map_nil, List.set_cons_succ, List.set_cons_zero, ← e6, ← e0, ← e1, ← e2, ← e3, ← e4] at hl; subst hl; have p5 := mix_pred (hph 5 (by decide)) rfl; (try simp only [← e6, ← e0, ← e1, ← e2, ← e3, ← e4] at hA ⊢); generalize yy 5 = y5 at *; (try simp only [List.flatMap_cons, List.flatMap_nil, List.nil_append, List.append_nil, List.cons_append] at hA ⊢); (try clear hph hyp); first | (refine ow_assign_v rfl ?_; exact ⟨_, E', pe, Env.Le.refl _, mix_mk rfl rfl, hA⟩)
                  case r5_7 =>
                    exact FlowOps.nil
  case' k5 => (try clear hA); intro yy E' w lf hE hph hyp hl hA; have e0 := mix_known (hph 0 (by decide)) rfl rfl; have e1 := mix_known (hph 1 (by decide)) rfl rfl; have e2 := mix_known (hph 2 (by decide)) rfl rfl; have e3 := mix_known (hph 3 (by decide)) rfl rfl; have e4 := mix_known (hph 4 (by decide)) rfl rfl; have e6 := mix_known (hph 6 (by decide)) rfl rfl; have e7 := mix_known (hph 7 (by decide)) rfl rfl; simp only [setAll, List.map_cons, List.map_nil, List.set_cons_succ, List.set_cons_zero, ← e0, ← e1, ← e2, ← e3, ← e4, ← e6, ← e7] at hl; subst hl; have p5 := mix_pred (hph 5 (by decide)) rfl; (try simp only [← e0, ← e1, ← e2, ← e3, ← e4, ← e6, ← e7] at hA); generalize yy 5 = y5 at *; (try simp only [List.flatMap_cons, List.flatMap_nil, List.nil_append, List.append_nil, List.cons_append] at hA); clear hph hyp
  repeat' (first | refine st ?_ | (refine wc_region ?_) | (refine su ?_; refine rn ?_) | (refine g_conv ?_; refine p_c hA ?_; refine rn ?_) | (refine g_load ?_; (first | refine t_loadx rfl hA ?_ | refine t_loada rfl hA ?_); refine rn ?_) | (refine g_call ?_; refine t_appx rfl rfl hA rfl ?_; clear hA; (try clear w); intro v w hA hone hnil; refine h_n hA ?_; clear hA; intro hA; refine rn ?_) | (refine g_store ?_; (first | refine t_storex rfl rfl hA ?_ | refine t_storea rfl rfl hA ?_); clear hA; (try clear w); intro w hA; refine h_m hA ?_; clear hA; intro hA; refine rn ?_) | (refine g_ow ?_; (first | refine t_alloc hA ?_ | refine ow_box rfl rfl hA ?_ | refine t_buildSlice rfl (by decide) rfl hA ?_); clear hA; (try clear w); intro b w hA; refine h_n hA ?_; clear hA; intro hA; refine rn ?_) | (refine g_ow ?_; refine t_make rfl rfl (by omega) (by omega) hA ?_; clear hA; (try clear w); intro v w hA hone hnil; refine rn ?_) | refine wc_pp rfl (fun h => ?_) (fun h => ?_) | refine wc_nn rfl (fun h => ?_) (fun h => ?_) | refine rl_pp rfl (fun h => o_n ?_) (fun h => rn ?_) | refine rl_qq rfl (fun h => o_n ?_) (fun h => rn ?_) | refine rl_nn rfl (fun h => o_n ?_) (fun h => rn ?_) | refine rl_mm rfl (fun h => o_n ?_) (fun h => rn ?_))
  exact fp_ret (resThree rfl (one_cell 0 rfl rfl hA rfl rfl) (one_tmp rfl) (one_tmp rfl)) ⟨E', r, vv, u, rfl, hE1.trans hE, hm.mono (Env.sub_left E hE), hA.dropN 3⟩
end Go.Proofs.YtomfoaaaeidpnaaDoor
namespace Go.Proofs.YtomfoaaaeidpnaaDoor
open Go Go.RowKit
attribute [local irreducible] WC RL OW bodyPostM ThenQ BlockQ LoopQ ScopeQ
def kM : Mb := ⟨3, 0, 0, vec16 [], vec4 [], [0], [⟨1, -1⟩], 0, 0, [], []⟩
theorem known_mb : mbP false 1 (strm [3, 0, 1, 2, 0]) 0 = (kM, 5) := by kernel_rfl
theorem mbP_kind (intra : Bool) (refs : Nat) (σ : Nat → UInt8) (p : Nat) : (mbP intra refs σ p).1.kind = (u8P (if intra then 3 else 8) σ p).1 := by
  unfold mbP
  simp only [Par.bnd]
  generalize u8P (if intra then 3 else 8) σ p = k
  split
  · rename_i h
    exact (UInt8.toNat_inj.1 (h.trans rfl)).symm
  · split
    · rename_i h
      exact (UInt8.toNat_inj.1 (h.trans rfl)).symm
    · rfl
theorem min55 : ((min 5 [(3 : UInt8), 0, 1, 2, 0].length : Nat) : Int) = 5 := rfl
set_option maxRecDepth 16000 in
set_option maxHeartbeats 8000000 in
theorem known_calls (E : Env) (L : List Item) (w : World) (hA : Sat E L w) (hG : SzG E) :
    Calls Tryd.prog 35 ⟨[]⟩ w (Ret E L (.bool true)) := by
  refine enter (fn := Tryd.f35) Tryd.func35 rfl 23 rfl [undef, undef, undef, undef, undef, undef, undef, undef, undef, undef, undef, undef, undef, undef, undef, undef, undef, undef, undef, undef, undef, undef, undef] rfl ?_
  repeat' (first | (refine g_callf 36 ?_; refine ow_call Tryd.call36 rfl ((script_calls [3, 0, 1, 2, 0] false 1 _ _ _ (.inr ⟨rfl, by decide, by decide⟩) (by decide) hA hG).mono ?_); clear hA; (try clear w); rintro e w ⟨E1, r, vv, u, rfl, hE1, hm, hA⟩; refine ⟨_, rfl, ?_⟩; (try rw [known_mb] at hm ⊢; dsimp only at hm ⊢; rw [min55]; have o1 := hm.refs.one; have o2 := hm.mvds.one; have o3 := hm.blocks.one); refine rn ?_) | refine st ?_ | (refine wc_regionS 2 rfl ?_; refine wc_region ?_) | (refine su ?_; refine rn ?_) | (refine g_conv ?_; refine p_c hA ?_; refine rn ?_) | (refine g_load ?_; (first | refine t_loadx rfl hA ?_ | refine t_loada rfl hA ?_); refine rn ?_) | (refine g_call ?_; refine t_appx rfl rfl hA rfl ?_; clear hA; (try clear w); intro v w hA hone hnil; refine h_n hA ?_; clear hA; intro hA; refine rn ?_) | (refine g_store ?_; (first | refine t_storex rfl rfl hA ?_ | refine t_storea rfl rfl hA ?_); clear hA; (try clear w); intro w hA; refine h_m hA ?_; clear hA; intro hA; refine rn ?_) | (refine g_ow ?_; (first | refine t_alloc hA ?_ | refine ow_box rfl rfl hA ?_ | refine t_buildSlice rfl (by decide) rfl hA ?_); clear hA; (try clear w); intro b w hA; refine h_n hA ?_; clear hA; intro hA; refine rn ?_) | (refine g_ow ?_; refine t_make rfl rfl (by omega) (by omega) hA ?_; clear hA; (try clear w); intro v w hA hone hnil; refine rn ?_) | refine wc_pp rfl (fun h => ?_) (fun h => ?_) | refine wc_nn rfl (fun h => ?_) (fun h => ?_) | refine rl_pp rfl (fun h => o_n ?_) (fun h => rn ?_) | refine rl_qq rfl (fun h => o_n ?_) (fun h => rn ?_) | refine rl_nn rfl (fun h => o_n ?_) (fun h => rn ?_) | refine rl_mm rfl (fun h => o_n ?_) (fun h => rn ?_))
  generalize hb1 : b = b1 at *
  clear hb1
  have hm := hm.mono (Env.sub_le _ _)
  repeat' (first | (refine g_ow ?_; refine t_buildSlice rfl (by decide) rfl hA ?_; clear hA; intro bb w hA; obtain ⟨E2, hE2, hA, l1⟩ := hA.freezeLitE (R := intR) (xs := [0]) 0 rfl (cseVi (E := E1) (xs := [0]) (by decide)) (Nat.le_of_ble_eq_true rfl); replace hA : Sat E2 (cells b1 (mbC kM r vv u) 28 :: L) w := hA; simp only [List.length_cons, List.length_nil, Nat.zero_add] at l1; refine rn ?_) | (refine g_ow ?_; refine t_buildSlice rfl (by decide) rfl hA ?_; clear hA; intro bb w hA; obtain ⟨E3, hE3, hA, l2⟩ := hA.freezeLitE (R := vecR) (xs := [⟨1, -1⟩]) 0 rfl (CsE.of (R := vecR) (sz := 2) (f := fun v : Vec => [vi v.x, vi v.y]) (xs := [⟨1, -1⟩]) (fun _ => rfl) (by intro x hx; rw [List.mem_singleton.1 hx]; exact ⟨rfl, by decide, by decide⟩)) (Nat.le_of_ble_eq_true rfl); replace hA : Sat E3 (cells b1 (mbC kM r vv u) 28 :: L) w := hA; simp only [List.length_cons, List.length_nil, Nat.zero_add] at l2; have hE13 := hE2.trans hE3; have hmk : MbL E3 kM _ _ nilV := ⟨l1.mono hE3, l2, ListE.nil, by show I64 0; decide, Nat.zero_le _⟩; refine rn ?_) | (refine g_callf 23 ?_; refine ow_call Tryd.call23 rfl ((equalMb_calls kM kM r vv u _ _ nilV _ _ _ hA (hm.mono hE13) hmk).mono ?_); clear hA; (try clear w); rintro e w ⟨rfl, hA⟩; refine ⟨_, rfl, ?_⟩; (try rw [decide_eq_true (rfl : kM = kM)]); refine rn ?_) | refine st ?_ | (refine wc_regionS 3 rfl ?_; refine wc_region ?_) | (refine su ?_; refine rn ?_) | (refine g_conv ?_; refine p_c hA ?_; refine rn ?_) | (refine g_load ?_; (first | refine t_loadx rfl hA ?_ | refine t_loada rfl hA ?_); refine rn ?_) | (refine g_call ?_; refine t_appx rfl rfl hA rfl ?_; clear hA; (try clear w); intro v w hA hone hnil; refine h_n hA ?_; clear hA; intro hA; refine rn ?_) | (refine g_store ?_; (first | refine t_storex rfl rfl hA ?_ | refine t_storea rfl rfl hA ?_); clear hA; (try clear w); intro w hA; refine h_m hA ?_; clear hA; intro hA; refine rn ?_) | (refine g_ow ?_; (first | refine t_alloc hA ?_ | refine ow_box rfl rfl hA ?_ | refine t_buildSlice rfl (by decide) rfl hA ?_); clear hA; (try clear w); intro b w hA; refine h_n hA ?_; clear hA; intro hA; refine rn ?_) | (refine g_ow ?_; refine t_make rfl rfl (by omega) (by omega) hA ?_; clear hA; (try clear w); intro v w hA hone hnil; refine rn ?_) | refine wc_pp rfl (fun h => ?_) (fun h => ?_) | refine wc_nn rfl (fun h => ?_) (fun h => ?_) | refine rl_pp rfl (fun h => o_n ?_) (fun h => rn ?_) | refine rl_qq rfl (fun h => o_n ?_) (fun h => rn ?_) | refine rl_nn rfl (fun h => o_n ?_) (fun h => rn ?_) | refine rl_mm rfl (fun h => o_n ?_) (fun h => rn ?_))
  exact ret1 ((hA.le (hE1.trans hE13)).dropN 1) rfl rfl
end Go.Proofs.YtomfoaaaeidpnaaDoor
