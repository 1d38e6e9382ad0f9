/-
  spindlekit.EqualMb, walked.
-/
import Derived.Test.YtomfoaaaeidpnaaDoorK2
set_option linter.unusedVariables false
set_option linter.unusedSimpArgs false
namespace Go.Proofs.YtomfoaaaeidpnaaDoor
open Go Go.RowKit
attribute [local irreducible] WC RL OW bodyPostM ThenQ BlockQ LoopQ
theorem mb_eq (m m' : Mb) : (m = m') ↔ (m.kind = m'.kind ∧ m.mode = m'.mode ∧ m.chroma = m'.chroma ∧ m.preds = m'.preds ∧ m.sub = m'.sub ∧ m.refs = m'.refs ∧ m.mvds = m'.mvds ∧ m.cbp = m'.cbp ∧ m.qp = m'.qp ∧ m.blocks = m'.blocks ∧ m.pcm = m'.pcm) := by
  cases m; cases m'; simp
set_option maxHeartbeats 4000000 in
theorem equalMb_calls (m m' : Mb) (r v b r' v' b' : Value) (E : Env) (L : List Item) (w : World) (hA : Sat E L w) (hm : MbL E m r v b) (hm' : MbL E m' r' v' b') :
    Calls Tryd.prog 23 ⟨[.agg ⟨mbC m r v b⟩, .agg ⟨mbC m' r' v' b'⟩]⟩ w (Ret E L (.bool (decide (m = m')))) := by
  refine enter (fn := Tryd.f23) Tryd.func23 rfl 80 rfl [.agg ⟨mbC m r v b⟩, .agg ⟨mbC m' r' v' b'⟩, undef, undef, undef, undef, undef, undef, undef, undef, undef, undef, undef, undef, undef, undef, undef, undef, undef, undef, undef, undef, undef, undef, undef, undef, undef, undef, undef, undef, undef, undef, undef, undef, undef, undef, undef, undef, undef, undef, undef, undef, undef, undef, undef, undef, undef, undef, undef, undef, undef, undef, undef, undef, undef, undef, undef, undef, undef, undef, undef, undef, undef, undef, undef, undef, undef, undef, undef, undef, undef, undef, undef, undef, undef, undef, undef, undef, undef, undef] rfl ?_
  repeat' (first | refine st ?_ | refine sr ?_ | refine sl hA ?_ | (refine s_w hA ?_; clear hA; (try clear w); intro w hA) | (refine s_v hA ?_; clear hA; (try clear w); intro v w hA hone hnil) | (refine s_b hA ?_; clear hA; (try clear w); intro b w hA) | refine sp (fun h => ?_) (fun h => ?_) | (refine wc_regionS 1 rfl ?_; refine wc_region ?_))
  refine wc_region ?_
  refine rv hA ?_; clear hA; intro w hA
  refine rv hA ?_; clear hA; intro w hA
  refine rv hA ?_; clear hA; intro w hA
  refine rv hA ?_; clear hA; intro w hA
  refine' rl_v hA ?o1_4 ?k1_4
  case o1_4 => intro w hA; first | (refine t_eqArr16 rfl rfl ?_; exact ⟨pe, hA⟩) | (refine t_eqArr4 rfl rfl ?_; exact ⟨pe, hA⟩) | (refine oq ?_; exact ⟨pe, hA⟩)
  clear hA; intro w hA; refine rn ?_
  refine rv hA ?_; clear hA; intro w hA
  refine rt hA ?_; clear hA; intro w hA
  refine rt hA ?_; clear hA; intro w hA
  refine rt hA ?_; clear hA; intro w hA
  refine rt hA ?_; clear hA; intro w hA
  first | refine' rl_T rfl hA ?o1_10 ?k1_10 | refine' rl_Tn rfl hA ?o1_10 ?k1_10
  case o1_10 => intro hg w hA; first | (refine t_eqArr16 opr opr ?_; exact ⟨pe, hA⟩) | (refine t_eqArr4 opr opr ?_; exact ⟨pe, hA⟩) | (refine oqg ?_; exact ⟨pe, hA⟩)
  clear hA; intro w hA; refine rn ?_
  refine rv hA ?_; clear hA; intro w hA
  refine rv hA ?_; clear hA; intro w hA
  refine rt hA ?_; clear hA; intro w hA
  refine rt hA ?_; clear hA; intro w hA
  refine rt hA ?_; clear hA; intro w hA
  refine rt hA ?_; clear hA; intro w hA
  first | refine' rl_T rfl hA ?o1_17 ?k1_17 | refine' rl_Tn rfl hA ?o1_17 ?k1_17
  case o1_17 => intro hg w hA; first | (refine t_eqArr16 opr opr ?_; exact ⟨pe, hA⟩) | (refine t_eqArr4 opr opr ?_; exact ⟨pe, hA⟩) | (refine oqg ?_; exact ⟨pe, hA⟩)
  clear hA; intro w hA; refine rn ?_
  refine rv hA ?_; clear hA; intro w hA
  refine rv hA ?_; clear hA; intro w hA
  refine rt hA ?_; clear hA; intro w hA
  refine rt hA ?_; clear hA; intro w hA
  refine rt hA ?_; clear hA; intro w hA
  refine rt hA ?_; clear hA; intro w hA
  first | refine' rl_T rfl hA ?o1_24 ?k1_24 | refine' rl_Tn rfl hA ?o1_24 ?k1_24
  case o1_24 => intro hg w hA; first | (refine t_eqArr16 opr opr ?_; exact ⟨pe, hA⟩) | (refine t_eqArr4 opr opr ?_; exact ⟨pe, hA⟩) | (refine oqg ?_; exact ⟨pe, hA⟩)
  clear hA; intro w hA; refine rn ?_
  refine rv hA ?_; clear hA; intro w hA
  refine rv hA ?_; clear hA; intro w hA
  refine rt hA ?_; clear hA; intro w hA
  refine rt hA ?_; clear hA; intro w hA
  refine rt hA ?_; clear hA; intro w hA
  refine rt hA ?_; clear hA; intro w hA
  first | refine' rl_T rfl hA ?o1_31 ?k1_31 | refine' rl_Tn rfl hA ?o1_31 ?k1_31
  case o1_31 => intro hg w hA; first | (refine t_eqArr16 opr opr ?_; exact ⟨pe, hA⟩) | (refine t_eqArr4 opr opr ?_; exact ⟨pe, hA⟩) | (refine oqg ?_; exact ⟨pe, hA⟩)
  clear hA; intro w hA; refine rn ?_
  refine rv hA ?_; clear hA; intro w hA
  refine rv hA ?_; clear hA; intro w hA
  refine rt hA ?_; clear hA; intro w hA
  refine rt hA ?_; clear hA; intro w hA
  refine rt hA ?_; clear hA; intro w hA
  refine rt hA ?_; clear hA; intro w hA
  first | refine' rl_T rfl hA ?o1_38 ?k1_38 | refine' rl_Tn rfl hA ?o1_38 ?k1_38
  case o1_38 => intro hg w hA; first | (refine ow_call Tryd.call50 (evs2 opr opr) ((equalInts_calls _ _ _ _ _ _ _ hA hm.refs hm'.refs).mono ?_); clear hA; rintro e w ⟨rfl, hA⟩; refine ⟨_, rfl, ?_⟩; exact ⟨put_eq (by rfl), hA⟩)
  clear hA; intro w hA; refine rn ?_
  refine rv hA ?_; clear hA; intro w hA
  refine rv hA ?_; clear hA; intro w hA
  refine rt hA ?_; clear hA; intro w hA
  refine rt hA ?_; clear hA; intro w hA
  refine rt hA ?_; clear hA; intro w hA
  refine rt hA ?_; clear hA; intro w hA
  first | refine' rl_T rfl hA ?o1_45 ?k1_45 | refine' rl_Tn rfl hA ?o1_45 ?k1_45
  case o1_45 => intro hg w hA; first | (refine ow_call Tryd.call51 (evs2 opr opr) ((equalVecs_calls _ _ _ _ _ _ _ hA hm.mvds hm'.mvds).mono ?_); clear hA; rintro e w ⟨rfl, hA⟩; refine ⟨_, rfl, ?_⟩; exact ⟨put_eq (by rfl), hA⟩)
  clear hA; intro w hA; refine rn ?_
  refine rv hA ?_; clear hA; intro w hA
  refine rv hA ?_; clear hA; intro w hA
  refine rt hA ?_; clear hA; intro w hA
  refine rt hA ?_; clear hA; intro w hA
  refine rt hA ?_; clear hA; intro w hA
  refine rt hA ?_; clear hA; intro w hA
  first | refine' rl_T rfl hA ?o1_52 ?k1_52 | refine' rl_Tn rfl hA ?o1_52 ?k1_52
  case o1_52 => intro hg w hA; first | (refine t_eqArr16 opr opr ?_; exact ⟨pe, hA⟩) | (refine t_eqArr4 opr opr ?_; exact ⟨pe, hA⟩) | (refine oqg ?_; exact ⟨pe, hA⟩)
  clear hA; intro w hA; refine rn ?_
  refine rv hA ?_; clear hA; intro w hA
  refine rv hA ?_; clear hA; intro w hA
  refine rt hA ?_; clear hA; intro w hA
  refine rt hA ?_; clear hA; intro w hA
  refine rt hA ?_; clear hA; intro w hA
  refine rt hA ?_; clear hA; intro w hA
  first | refine' rl_T rfl hA ?o1_59 ?k1_59 | refine' rl_Tn rfl hA ?o1_59 ?k1_59
  case o1_59 => intro hg w hA; first | (refine t_eqArr16 opr opr ?_; exact ⟨pe, hA⟩) | (refine t_eqArr4 opr opr ?_; exact ⟨pe, hA⟩) | (refine oqg ?_; exact ⟨pe, hA⟩)
  clear hA; intro w hA; refine rn ?_
  refine rv hA ?_; clear hA; intro w hA
  refine rv hA ?_; clear hA; intro w hA
  refine rt hA ?_; clear hA; intro w hA
  refine rt hA ?_; clear hA; intro w hA
  refine rt hA ?_; clear hA; intro w hA
  refine rt hA ?_; clear hA; intro w hA
  first | refine' rl_T rfl hA ?o1_66 ?k1_66 | refine' rl_Tn rfl hA ?o1_66 ?k1_66
  case o1_66 => intro hg w hA; first | (refine ow_call Tryd.call52 (evs2 opr opr) ((equalBlocks_calls _ _ _ _ _ _ _ hA hm.blocks hm'.blocks).mono ?_); clear hA; rintro e w ⟨rfl, hA⟩; refine ⟨_, rfl, ?_⟩; exact ⟨put_eq (by rfl), hA⟩)
  clear hA; intro w hA; refine rn ?_
  refine rv hA ?_; clear hA; intro w hA
  refine rv hA ?_; clear hA; intro w hA
  refine rt hA ?_; clear hA; intro w hA
  refine rt hA ?_; clear hA; intro w hA
  refine rt hA ?_; clear hA; intro w hA
  refine rt hA ?_; clear hA; intro w hA
  first | refine' rl_T rfl hA ?o1_73 ?k1_73 | refine' rl_Tn rfl hA ?o1_73 ?k1_73
  case o1_73 => intro hg w hA; first | (refine t_eqArr16 opr opr ?_; exact ⟨pe, hA⟩) | (refine t_eqArr4 opr opr ?_; exact ⟨pe, hA⟩) | (refine oqg ?_; exact ⟨pe, hA⟩)
  clear hA; intro w hA; refine rn ?_
  refine rv hA ?_; clear hA; intro w hA
  refine rv hA ?_; clear hA; intro w hA
  refine rl_nil ?_
  repeat' (first | refine st ?_ | refine sr ?_ | refine sl hA ?_ | (refine s_w hA ?_; clear hA; (try clear w); intro w hA) | (refine s_v hA ?_; clear hA; (try clear w); intro v w hA hone hnil) | (refine s_b hA ?_; clear hA; (try clear w); intro b w hA) | refine sp (fun h => ?_) (fun h => ?_) | (refine wc_region ?_))
  refine ret1 (hA.dropN 2 : Sat E L w) rfl ?_
  simp only [List.getD_cons_succ, List.getD_cons_zero, u8_inj, mb_eq m m', Bool.decide_and, Bool.and_assoc]
end Go.Proofs.YtomfoaaaeidpnaaDoor
