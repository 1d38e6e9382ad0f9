/-
  The reference's Mb; spindlelaw40.ScriptMbs, walked.
-/
import Derived.Test.YtomfoaaaeidpnaaDoorT6
import Derived.Test.YtomfoaaaeidpnaaDoorS10
set_option linter.unusedVariables false
set_option linter.unusedSimpArgs false
namespace Go.Proofs.YtomfoaaaeidpnaaDoor
open Go Go.RowKit
attribute [local irreducible] WC RL OW bodyPostM ThenQ BlockQ LoopQ ScopeQ
/-- Whether there may be so many reference indices. -/
def refsB (intra : Bool) (refs : Int) : Bool := bif intra then decide (refs = 0) else decide (1 ≤ refs ∧ refs ≤ 32)
def scrO (s : List UInt8) (intra : Bool) (refs : Int) : Mb × Int × Int :=
  if refsB intra refs = true then ((mbP intra refs.toNat (strm s) 0).1, ((min (mbP intra refs.toNat (strm s) 0).2 s.length : Nat) : Int), 0) else (mF 0 0 0 [] [] 0 0, 0, 2)
theorem refs_nat {intra : Bool} {refs : Int} (h : refsB intra refs = true) : (intra = true ∧ refs.toNat = 0 ∨ intra = false ∧ 1 ≤ refs.toNat ∧ refs.toNat ≤ 32) ∧ refs = (refs.toNat : Int) := by
  unfold refsB at h
  cases intra with
  | true => have h : refs = 0 := of_decide_eq_true h; exact ⟨.inl ⟨rfl, by omega⟩, by omega⟩
  | false => have h : 1 ≤ refs ∧ refs ≤ 32 := of_decide_eq_true h; exact ⟨.inr ⟨rfl, by omega, by omega⟩, by omega⟩
theorem refs_cond (intra : Bool) (refs : Int) : ((intra && !decide (refs = 0)) || (!intra && (decide (refs < 1) || decide (32 < refs)))) = !refsB intra refs := by
  unfold refsB
  cases intra with
  | true => simp
  | false =>
    by_cases h : 1 ≤ refs ∧ refs ≤ 32
    · have h1 : ¬ refs < 1 := by omega
      have h2 : ¬ 32 < refs := by omega
      simp [h, h1, h2]
    · by_cases h1 : refs < 1
      · simp [h1, h]
      · have h2 : 32 < refs := by omega
        simp [h1, h2, h]
theorem srcT_zero (bx : Nat) (s : List UInt8) : srcT bx s 0 = cells bx [vs s, .int .i64 0] 104 := by
  unfold srcT
  rw [Nat.zero_min]
  rfl
theorem refsErr_calls (intra : Bool) (refs : Int) (E : Env) (L : List Item) (w : World) (hA : Sat E L w) :
    Calls Tryd.prog 60 ⟨[.bool intra, vi refs]⟩ w (Ret E L (vi (if refsB intra refs = true then 0 else 2))) := by
  have hc := refs_cond intra refs
  refine enter (fn := Tryd.f60) Tryd.func60 rfl 22 rfl [.bool intra, vi refs, undef, undef, undef, undef, undef, undef, undef, undef, undef, undef, undef, undef, undef, undef, undef, undef, undef, undef, undef, undef] rfl ?_
  repeat' (first | refine st ?_ | (refine wc_regionS 1 rfl ?_; refine wc_region ?_) | (refine su ?_; refine rn ?_) | (refine g_conv ?_; refine p_c hA ?_; refine rn ?_) | (refine g_load ?_; (first | refine t_loadx rfl hA ?_ | refine t_loada rfl hA ?_); refine rn ?_) | (refine g_call ?_; refine t_appx rfl rfl hA rfl ?_; clear hA; (try clear w); intro v w hA hone hnil; refine h_n hA ?_; clear hA; intro hA; refine rn ?_) | (refine g_store ?_; (first | refine t_storex rfl rfl hA ?_ | refine t_storea rfl rfl hA ?_); clear hA; (try clear w); intro w hA; refine h_m hA ?_; clear hA; intro hA; refine rn ?_) | (refine g_ow ?_; (first | refine t_alloc hA ?_ | refine ow_box rfl rfl hA ?_ | refine t_buildSlice rfl (by decide) rfl hA ?_); clear hA; (try clear w); intro b w hA; refine h_n hA ?_; clear hA; intro hA; refine rn ?_) | (refine g_ow ?_; refine t_make rfl rfl (by omega) (by omega) hA ?_; clear hA; (try clear w); intro v w hA hone hnil; refine rn ?_) | refine wc_pp rfl (fun h => ?_) (fun h => ?_) | refine wc_nn rfl (fun h => ?_) (fun h => ?_) | refine rl_pp rfl (fun h => o_n ?_) (fun h => rn ?_) | refine rl_qq rfl (fun h => o_n ?_) (fun h => rn ?_) | refine rl_nn rfl (fun h => o_n ?_) (fun h => rn ?_) | refine rl_mm rfl (fun h => o_n ?_) (fun h => rn ?_))
  refine wc_region ?_
  refine' rl_v hA ?o1_0 ?k1_0
  case o1_0 => intro w hA; first | (refine ow_move_v rfl ?_; exact ⟨pe, hA⟩)
  case' k1_0 => clear hA; intro w hA; refine rn ?_
  refine' rl_v hA ?o1_1 ?k1_1
  case o1_1 => intro w hA; first | (refine ow_move_v rfl ?_; exact ⟨pe, hA⟩)
  case' k1_1 => clear hA; intro w hA; refine rn ?_
  first | refine' rl_T rfl hA ?o1_2 ?k1_2 | refine' rl_Tn rfl hA ?o1_2 ?k1_2
  case o1_2 => intro hg w hA; first | (refine ow_move_v opr ?_; exact ⟨pe, hA⟩)
  case' k1_2 => clear hA; intro w hA; refine rn ?_
  first | refine' rl_T rfl hA ?o1_3 ?k1_3 | refine' rl_Tn rfl hA ?o1_3 ?k1_3
  case o1_3 => intro hg w hA; first | (refine ow_neq opr opr ?_; exact ⟨pe, hA⟩) | (refine ow_neqs opr opr ?_; exact ⟨pe, hA⟩) | (refine t_neqb opr opr ?_; exact ⟨pe, hA⟩)
  case' k1_3 => clear hA; intro w hA; refine rn ?_
  refine' rl_v hA ?o1_4 ?k1_4
  case o1_4 => intro w hA; first | (refine ow_and rfl (by first | rfl) rfl ?_; exact ⟨pe, hA⟩) | (refine ow_pick rfl rfl rfl ?_; exact ⟨pe, hA⟩)
  case' k1_4 => clear hA; intro w hA; refine rn ?_
  refine' rl_v hA ?o1_5 ?k1_5
  case o1_5 => intro w hA; first | (refine ow_move_v rfl ?_; exact ⟨pe, hA⟩)
  case' k1_5 => clear hA; intro w hA; refine rn ?_
  first | refine' rl_F rfl hA ?o1_6 ?k1_6 | refine' rl_Fn rfl hA ?o1_6 ?k1_6
  case o1_6 => intro hg w hA; first | (refine ow_move_v opr ?_; exact ⟨pe, hA⟩)
  case' k1_6 => clear hA; intro w hA; refine rn ?_
  first | refine' rl_F rfl hA ?o1_7 ?k1_7 | refine' rl_Fn rfl hA ?o1_7 ?k1_7
  case o1_7 => intro hg w hA; first | (refine ow_not opr ?_; exact ⟨pe, hA⟩) | (refine ow_neg opr ?_; exact ⟨pe, hA⟩)
  case' k1_7 => clear hA; intro w hA; refine rn ?_
  first | refine' rl_F rfl hA ?o1_8 ?k1_8 | refine' rl_Fn rfl hA ?o1_8 ?k1_8
  case o1_8 => intro hg w hA; first | (refine ow_move_v opr ?_; exact ⟨pe, hA⟩)
  case' k1_8 => clear hA; intro w hA; refine rn ?_
  first | refine' rl_T rfl hA ?o1_9 ?k1_9 | refine' rl_Tn rfl hA ?o1_9 ?k1_9
  case o1_9 => intro hg w hA; first | (refine ow_move_v opr ?_; exact ⟨pe, hA⟩)
  case' k1_9 => clear hA; intro w hA; refine rn ?_
  first | refine' rl_T rfl hA ?o1_10 ?k1_10 | refine' rl_Tn rfl hA ?o1_10 ?k1_10
  case o1_10 => intro hg w hA; first | (refine ow_lss opr opr ?_; exact ⟨pe, hA⟩)
  case' k1_10 => clear hA; intro w hA; refine rn ?_
  first | refine' rl_T rfl hA ?o1_11 ?k1_11 | refine' rl_Tn rfl hA ?o1_11 ?k1_11
  case o1_11 => intro hg w hA; first | (refine ow_move_v opr ?_; exact ⟨pe, hA⟩)
  case' k1_11 => clear hA; intro w hA; refine rn ?_
  first | refine' rl_F rfl hA ?o1_12 ?k1_12 | refine' rl_Fn rfl hA ?o1_12 ?k1_12
  case o1_12 => intro hg w hA; first | (refine ow_move_v opr ?_; exact ⟨pe, hA⟩)
  case' k1_12 => clear hA; intro w hA; refine rn ?_
  first | refine' rl_F rfl hA ?o1_13 ?k1_13 | refine' rl_Fn rfl hA ?o1_13 ?k1_13
  case o1_13 => intro hg w hA; first | (refine ow_gtr opr opr ?_; exact ⟨pe, hA⟩)
  case' k1_13 => clear hA; intro w hA; refine rn ?_
  first | refine' rl_T rfl hA ?o1_14 ?k1_14 | refine' rl_Tn rfl hA ?o1_14 ?k1_14
  case o1_14 => intro hg w hA; first | (refine ow_or opr rfl (by first | rfl | exact sel_in rfl hg) ?_; exact ⟨pe, hA⟩) | (refine ow_pick opr opr opr ?_; exact ⟨pe, hA⟩)
  case' k1_14 => clear hA; intro w hA; refine rn ?_
  first | refine' rl_F rfl hA ?o1_15 ?k1_15 | refine' rl_Fn rfl hA ?o1_15 ?k1_15
  case o1_15 => intro hg w hA; first | (refine ow_and opr (by first | rfl | exact sel_in rfl hg) rfl ?_; exact ⟨pe, hA⟩) | (refine ow_pick opr opr opr ?_; exact ⟨pe, hA⟩)
  case' k1_15 => clear hA; intro w hA; refine rn ?_
  refine' rl_v hA ?o1_16 ?k1_16
  case o1_16 => intro w hA; first | (refine ow_or rfl rfl (by first | rfl) ?_; exact ⟨pe, hA⟩) | (refine ow_pick rfl rfl rfl ?_; exact ⟨pe, hA⟩)
  case' k1_16 => clear hA; intro w hA; refine rn ?_
  refine rl_nil ?_
  refine tq_normal ?_
  refine wc_bb rfl (fun h => ?_) (fun h => ?_)
  · have h : ((intra && !decide (refs = 0)) || (!intra && (decide (refs < 1) || decide (32 < refs)))) = true := h
    rw [hc] at h
    rw [if_neg (by rw [Bool.not_eq_true'] at h; rw [h]; decide)]
    repeat' (first | refine st ?_ | (refine wc_region ?_) | (refine su ?_; refine rn ?_) | (refine g_conv ?_; refine p_c hA ?_; refine rn ?_) | (refine g_load ?_; (first | refine t_loadx rfl hA ?_ | refine t_loada rfl hA ?_); refine rn ?_) | (refine g_call ?_; refine t_appx rfl rfl hA rfl ?_; clear hA; (try clear w); intro v w hA hone hnil; refine h_n hA ?_; clear hA; intro hA; refine rn ?_) | (refine g_store ?_; (first | refine t_storex rfl rfl hA ?_ | refine t_storea rfl rfl hA ?_); clear hA; (try clear w); intro w hA; refine h_m hA ?_; clear hA; intro hA; refine rn ?_) | (refine g_ow ?_; (first | refine t_alloc hA ?_ | refine ow_box rfl rfl hA ?_ | refine t_buildSlice rfl (by decide) rfl hA ?_); clear hA; (try clear w); intro b w hA; refine h_n hA ?_; clear hA; intro hA; refine rn ?_) | (refine g_ow ?_; refine t_make rfl rfl (by omega) (by omega) hA ?_; clear hA; (try clear w); intro v w hA hone hnil; refine rn ?_) | refine wc_pp rfl (fun h => ?_) (fun h => ?_) | refine wc_nn rfl (fun h => ?_) (fun h => ?_) | refine rl_pp rfl (fun h => o_n ?_) (fun h => rn ?_) | refine rl_qq rfl (fun h => o_n ?_) (fun h => rn ?_) | refine rl_nn rfl (fun h => o_n ?_) (fun h => rn ?_) | refine rl_mm rfl (fun h => o_n ?_) (fun h => rn ?_))
    exact ret1 hA rfl rfl
  · have h : ((intra && !decide (refs = 0)) || (!intra && (decide (refs < 1) || decide (32 < refs)))) = false := h
    rw [hc] at h
    rw [if_pos (by rw [Bool.not_eq_false'] at h; exact h)]
    repeat' (first | refine st ?_ | (refine wc_region ?_) | (refine su ?_; refine rn ?_) | (refine g_conv ?_; refine p_c hA ?_; refine rn ?_) | (refine g_load ?_; (first | refine t_loadx rfl hA ?_ | refine t_loada rfl hA ?_); refine rn ?_) | (refine g_call ?_; refine t_appx rfl rfl hA rfl ?_; clear hA; (try clear w); intro v w hA hone hnil; refine h_n hA ?_; clear hA; intro hA; refine rn ?_) | (refine g_store ?_; (first | refine t_storex rfl rfl hA ?_ | refine t_storea rfl rfl hA ?_); clear hA; (try clear w); intro w hA; refine h_m hA ?_; clear hA; intro hA; refine rn ?_) | (refine g_ow ?_; (first | refine t_alloc hA ?_ | refine ow_box rfl rfl hA ?_ | refine t_buildSlice rfl (by decide) rfl hA ?_); clear hA; (try clear w); intro b w hA; refine h_n hA ?_; clear hA; intro hA; refine rn ?_) | (refine g_ow ?_; refine t_make rfl rfl (by omega) (by omega) hA ?_; clear hA; (try clear w); intro v w hA hone hnil; refine rn ?_) | refine wc_pp rfl (fun h => ?_) (fun h => ?_) | refine wc_nn rfl (fun h => ?_) (fun h => ?_) | refine rl_pp rfl (fun h => o_n ?_) (fun h => rn ?_) | refine rl_qq rfl (fun h => o_n ?_) (fun h => rn ?_) | refine rl_nn rfl (fun h => o_n ?_) (fun h => rn ?_) | refine rl_mm rfl (fun h => o_n ?_) (fun h => rn ?_))
    exact ret1 hA rfl rfl
abbrev zE : Mb := mF 0 0 0 [] [] 0 0
theorem zE_L {E : Env} : MbL E zE nilV nilV nilV := ⟨ListE.nil, ListE.nil, ListE.nil, by show I64 0; decide, Nat.zero_le _⟩
section
variable (s : List UInt8) (intra : Bool) (refs : Int) (E : Env) (L : List Item) (w : World)
set_option maxRecDepth 16000 in
set_option maxHeartbeats 8000000 in
theorem script_any (hs : s.length ≤ 1000000) (hA : Sat E L w) (hG : SzG E) :
    Calls Tryd.prog 36 ⟨[vs s, .bool intra, vi refs]⟩ w (fun e w' => ∃ E' r v u, e = .returned (.tuple ⟨[.agg ⟨mbC (scrO s intra refs).1 r v u⟩, vi (scrO s intra refs).2.1, vi (scrO s intra refs).2.2]⟩) ∧ E.Le E' ∧ MbL E' (scrO s intra refs).1 r v u ∧ Sat E' L w') := by
  unfold scrO
  by_cases hB : refsB intra refs = true
  · rw [if_pos hB]
    obtain ⟨hv, hn⟩ := refs_nat hB
    generalize refs.toNat = n at *
    subst hn
    exact (script_calls s intra n E L w hv hs hA hG).mono fun e w' ⟨E', r, v, u, h1, h2, h3, h4⟩ => ⟨E', r, v, u, h1, h2, h3.mono (Env.sub_le _ _), h4⟩
  · rw [if_neg hB]
    have hc := refs_cond intra refs
    have hB : refsB intra refs = false := by cases h : refsB intra refs <;> simp_all
    rw [hB] at hc
    refine enter (fn := Tryd.f36) Tryd.func36 rfl 41 rfl [vs s, .bool intra, vi refs, undef, undef, undef, undef, undef, undef, undef, undef, undef, undef, undef, undef, undef, undef, undef, undef, undef, undef, undef, undef, undef, undef, undef, undef, undef, undef, undef, undef, undef, undef, undef, undef, undef, undef, undef, undef, undef, undef] rfl ?_
    repeat' (first | refine st ?_ | (refine wc_regionS 1 rfl ?_; refine wc_region ?_) | (refine su ?_; refine rn ?_) | (refine g_conv ?_; refine p_c hA ?_; refine rn ?_) | (refine g_load ?_; (first | refine t_loadx rfl hA ?_ | refine t_loada rfl hA ?_); refine rn ?_) | (refine g_call ?_; refine t_appx rfl rfl hA rfl ?_; clear hA; (try clear w); intro v w hA hone hnil; refine h_n hA ?_; clear hA; intro hA; refine rn ?_) | (refine g_store ?_; (first | refine t_storex rfl rfl hA ?_ | refine t_storea rfl rfl hA ?_); clear hA; (try clear w); intro w hA; refine h_m hA ?_; clear hA; intro hA; refine rn ?_) | (refine g_ow ?_; (first | refine t_alloc hA ?_ | refine ow_box rfl rfl hA ?_ | refine t_buildSlice rfl (by decide) rfl hA ?_); clear hA; (try clear w); intro b w hA; refine h_n hA ?_; clear hA; intro hA; refine rn ?_) | (refine g_ow ?_; refine t_make rfl rfl (by omega) (by omega) hA ?_; clear hA; (try clear w); intro v w hA hone hnil; refine rn ?_) | refine wc_pp rfl (fun h => ?_) (fun h => ?_) | refine wc_nn rfl (fun h => ?_) (fun h => ?_) | refine rl_pp rfl (fun h => o_n ?_) (fun h => rn ?_) | refine rl_qq rfl (fun h => o_n ?_) (fun h => rn ?_) | refine rl_nn rfl (fun h => o_n ?_) (fun h => rn ?_) | refine rl_mm rfl (fun h => o_n ?_) (fun h => rn ?_))
    refine wc_region ?_
    refine' rl_v hA ?o1_0 ?k1_0
    case o1_0 => intro w hA; first | (refine ow_move_v rfl ?_; exact ⟨pe, hA⟩)
    case' k1_0 => clear hA; intro w hA; refine rn ?_
    refine' rl_v hA ?o1_1 ?k1_1
    case o1_1 => intro w hA; first | (refine ow_move_v rfl ?_; exact ⟨pe, hA⟩)
    case' k1_1 => clear hA; intro w hA; refine rn ?_
    first | refine' rl_T rfl hA ?o1_2 ?k1_2 | refine' rl_Tn rfl hA ?o1_2 ?k1_2
    case o1_2 => intro hg w hA; first | (refine ow_move_v opr ?_; exact ⟨pe, hA⟩)
    case' k1_2 => clear hA; intro w hA; refine rn ?_
    first | refine' rl_T rfl hA ?o1_3 ?k1_3 | refine' rl_Tn rfl hA ?o1_3 ?k1_3
    case o1_3 => intro hg w hA; first | (refine ow_neq opr opr ?_; exact ⟨pe, hA⟩) | (refine ow_neqs opr opr ?_; exact ⟨pe, hA⟩) | (refine t_neqb opr opr ?_; exact ⟨pe, hA⟩)
    case' k1_3 => clear hA; intro w hA; refine rn ?_
    refine' rl_v hA ?o1_4 ?k1_4
    case o1_4 => intro w hA; first | (refine ow_and rfl (by first | rfl) rfl ?_; exact ⟨pe, hA⟩) | (refine ow_pick rfl rfl rfl ?_; exact ⟨pe, hA⟩)
    case' k1_4 => clear hA; intro w hA; refine rn ?_
    refine' rl_v hA ?o1_5 ?k1_5
    case o1_5 => intro w hA; first | (refine ow_move_v rfl ?_; exact ⟨pe, hA⟩)
    case' k1_5 => clear hA; intro w hA; refine rn ?_
    first | refine' rl_F rfl hA ?o1_6 ?k1_6 | refine' rl_Fn rfl hA ?o1_6 ?k1_6
    case o1_6 => intro hg w hA; first | (refine ow_move_v opr ?_; exact ⟨pe, hA⟩)
    case' k1_6 => clear hA; intro w hA; refine rn ?_
    first | refine' rl_F rfl hA ?o1_7 ?k1_7 | refine' rl_Fn rfl hA ?o1_7 ?k1_7
    case o1_7 => intro hg w hA; first | (refine ow_not opr ?_; exact ⟨pe, hA⟩) | (refine ow_neg opr ?_; exact ⟨pe, hA⟩)
    case' k1_7 => clear hA; intro w hA; refine rn ?_
    first | refine' rl_F rfl hA ?o1_8 ?k1_8 | refine' rl_Fn rfl hA ?o1_8 ?k1_8
    case o1_8 => intro hg w hA; first | (refine ow_move_v opr ?_; exact ⟨pe, hA⟩)
    case' k1_8 => clear hA; intro w hA; refine rn ?_
    first | refine' rl_T rfl hA ?o1_9 ?k1_9 | refine' rl_Tn rfl hA ?o1_9 ?k1_9
    case o1_9 => intro hg w hA; first | (refine ow_move_v opr ?_; exact ⟨pe, hA⟩)
    case' k1_9 => clear hA; intro w hA; refine rn ?_
    first | refine' rl_T rfl hA ?o1_10 ?k1_10 | refine' rl_Tn rfl hA ?o1_10 ?k1_10
    case o1_10 => intro hg w hA; first | (refine ow_lss opr opr ?_; exact ⟨pe, hA⟩)
    case' k1_10 => clear hA; intro w hA; refine rn ?_
    first | refine' rl_T rfl hA ?o1_11 ?k1_11 | refine' rl_Tn rfl hA ?o1_11 ?k1_11
    case o1_11 => intro hg w hA; first | (refine ow_move_v opr ?_; exact ⟨pe, hA⟩)
    case' k1_11 => clear hA; intro w hA; refine rn ?_
    first | refine' rl_F rfl hA ?o1_12 ?k1_12 | refine' rl_Fn rfl hA ?o1_12 ?k1_12
    case o1_12 => intro hg w hA; first | (refine ow_move_v opr ?_; exact ⟨pe, hA⟩)
    case' k1_12 => clear hA; intro w hA; refine rn ?_
    first | refine' rl_F rfl hA ?o1_13 ?k1_13 | refine' rl_Fn rfl hA ?o1_13 ?k1_13
    case o1_13 => intro hg w hA; first | (refine ow_gtr opr opr ?_; exact ⟨pe, hA⟩)
    case' k1_13 => clear hA; intro w hA; refine rn ?_
    first | refine' rl_T rfl hA ?o1_14 ?k1_14 | refine' rl_Tn rfl hA ?o1_14 ?k1_14
    case o1_14 => intro hg w hA; first | (refine ow_or opr rfl (by first | rfl | exact sel_in rfl hg) ?_; exact ⟨pe, hA⟩) | (refine ow_pick opr opr opr ?_; exact ⟨pe, hA⟩)
    case' k1_14 => clear hA; intro w hA; refine rn ?_
    first | refine' rl_F rfl hA ?o1_15 ?k1_15 | refine' rl_Fn rfl hA ?o1_15 ?k1_15
    case o1_15 => intro hg w hA; first | (refine ow_and opr (by first | rfl | exact sel_in rfl hg) rfl ?_; exact ⟨pe, hA⟩) | (refine ow_pick opr opr opr ?_; exact ⟨pe, hA⟩)
    case' k1_15 => clear hA; intro w hA; refine rn ?_
    refine' rl_v hA ?o1_16 ?k1_16
    case o1_16 => intro w hA; first | (refine ow_or rfl rfl (by first | rfl) ?_; exact ⟨pe, hA⟩) | (refine ow_pick rfl rfl rfl ?_; exact ⟨pe, hA⟩)
    case' k1_16 => clear hA; intro w hA; refine rn ?_
    refine rl_nil ?_
    refine tq_normal ?_
    refine wc_bb rfl (fun h => ?_) (fun h => ?_)
    · repeat' (first | refine st ?_ | (refine wc_region ?_) | (refine su ?_; refine rn ?_) | (refine g_conv ?_; refine p_c hA ?_; refine rn ?_) | (refine g_load ?_; (first | refine t_loadx rfl hA ?_ | refine t_loada rfl hA ?_); refine rn ?_) | (refine g_call ?_; refine t_appx rfl rfl hA rfl ?_; clear hA; (try clear w); intro v w hA hone hnil; refine h_n hA ?_; clear hA; intro hA; refine rn ?_) | (refine g_store ?_; (first | refine t_storex rfl rfl hA ?_ | refine t_storea rfl rfl hA ?_); clear hA; (try clear w); intro w hA; refine h_m hA ?_; clear hA; intro hA; refine rn ?_) | (refine g_ow ?_; (first | refine t_alloc hA ?_ | refine ow_box rfl rfl hA ?_ | refine t_buildSlice rfl (by decide) rfl hA ?_); clear hA; (try clear w); intro b w hA; refine h_n hA ?_; clear hA; intro hA; refine rn ?_) | (refine g_ow ?_; refine t_make rfl rfl (by omega) (by omega) hA ?_; clear hA; (try clear w); intro v w hA hone hnil; refine rn ?_) | refine wc_pp rfl (fun h => ?_) (fun h => ?_) | refine wc_nn rfl (fun h => ?_) (fun h => ?_) | refine rl_pp rfl (fun h => o_n ?_) (fun h => rn ?_) | refine rl_qq rfl (fun h => o_n ?_) (fun h => rn ?_) | refine rl_nn rfl (fun h => o_n ?_) (fun h => rn ?_) | refine rl_mm rfl (fun h => o_n ?_) (fun h => rn ?_))
      exact fp_ret (resThree rfl (one_cell 0 rfl rfl hA rfl rfl) (one_tmp rfl) (one_tmp rfl)) ⟨E, nilV, nilV, nilV, rfl, Env.Le.refl _, zE_L, hA.tail⟩
    · have h : ((intra && !decide (refs = 0)) || (!intra && (decide (refs < 1) || decide (32 < refs)))) = false := h
      rw [hc] at h
      cases h
set_option maxRecDepth 16000 in
set_option maxHeartbeats 8000000 in
theorem refT_any (hs : s.length ≤ 1000000) (hA : Sat E L w) :
    Calls Tryd.prog 37 ⟨[vs s, .bool intra, vi refs]⟩ w (fun e w' => ∃ E' r v u, e = .returned (.tuple ⟨[.agg ⟨mbC (scrO s intra refs).1 r v u⟩, vi (scrO s intra refs).2.1, vi (scrO s intra refs).2.2]⟩) ∧ E.Le E' ∧ MbL E' (scrO s intra refs).1 r v u ∧ Sat E' L w') := by
  refine enter (fn := Tryd.f37) Tryd.func37 rfl 31 rfl [vs s, .bool intra, vi refs, undef, undef, undef, undef, undef, undef, undef, undef, undef, undef, undef, undef, undef, undef, undef, undef, undef, undef, undef, undef, undef, undef, undef, undef, undef, undef, undef, undef] rfl ?_
  repeat' (first | refine st ?_ | (refine wc_regionS 1 rfl ?_; refine wc_region ?_) | (refine su ?_; refine rn ?_) | (refine g_conv ?_; refine p_c hA ?_; refine rn ?_) | (refine g_load ?_; (first | refine t_loadx rfl hA ?_ | refine t_loada rfl hA ?_); refine rn ?_) | (refine g_call ?_; refine t_appx rfl rfl hA rfl ?_; clear hA; (try clear w); intro v w hA hone hnil; refine h_n hA ?_; clear hA; intro hA; refine rn ?_) | (refine g_store ?_; (first | refine t_storex rfl rfl hA ?_ | refine t_storea rfl rfl hA ?_); clear hA; (try clear w); intro w hA; refine h_m hA ?_; clear hA; intro hA; refine rn ?_) | (refine g_ow ?_; (first | refine t_alloc hA ?_ | refine ow_box rfl rfl hA ?_ | refine t_buildSlice rfl (by decide) rfl hA ?_); clear hA; (try clear w); intro b w hA; refine h_n hA ?_; clear hA; intro hA; refine rn ?_) | (refine g_ow ?_; refine t_make rfl rfl (by omega) (by omega) hA ?_; clear hA; (try clear w); intro v w hA hone hnil; refine rn ?_) | refine wc_pp rfl (fun h => ?_) (fun h => ?_) | refine wc_nn rfl (fun h => ?_) (fun h => ?_) | refine rl_pp rfl (fun h => o_n ?_) (fun h => rn ?_) | refine rl_qq rfl (fun h => o_n ?_) (fun h => rn ?_) | refine rl_nn rfl (fun h => o_n ?_) (fun h => rn ?_) | refine rl_mm rfl (fun h => o_n ?_) (fun h => rn ?_))
  generalize hb6 : b = b6 at *
  clear hb6
  unfold scrO
  by_cases hB : refsB intra refs = true
  · rw [if_pos hB]
    obtain ⟨hv, hn⟩ := refs_nat hB
    generalize refs.toNat = n at *
    subst hn
    have hir : intra = true ∨ 1 ≤ n := hv.imp (·.1) (·.2.1)
    have hr2 : n ≤ 1000 := by omega
    repeat' (first | (refine g_callf 60 ?_; refine ow_call Tryd.call60 rfl ((refsErr_calls _ _ _ _ _ hA).mono ?_); clear hA; (try clear w); rintro e w ⟨rfl, hA⟩; refine ⟨_, rfl, ?_⟩; (try rw [if_pos hB]); refine rn ?_) | refine st ?_ | (refine wc_regionS 5 rfl ?_; refine wc_region ?_) | (refine su ?_; refine rn ?_) | (refine g_conv ?_; refine p_c hA ?_; refine rn ?_) | (refine g_load ?_; (first | refine t_loadx rfl hA ?_ | refine t_loada rfl hA ?_); refine rn ?_) | (refine g_call ?_; refine t_appx rfl rfl hA rfl ?_; clear hA; (try clear w); intro v w hA hone hnil; refine h_n hA ?_; clear hA; intro hA; refine rn ?_) | (refine g_store ?_; (first | refine t_storex rfl rfl hA ?_ | refine t_storea rfl rfl hA ?_); clear hA; (try clear w); intro w hA; refine h_m hA ?_; clear hA; intro hA; refine rn ?_) | (refine g_ow ?_; (first | refine t_alloc hA ?_ | refine ow_box rfl rfl hA ?_ | refine t_buildSlice rfl (by decide) rfl hA ?_); clear hA; (try clear w); intro b w hA; refine h_n hA ?_; clear hA; intro hA; refine rn ?_) | (refine g_ow ?_; refine t_make rfl rfl (by omega) (by omega) hA ?_; clear hA; (try clear w); intro v w hA hone hnil; refine rn ?_) | refine wc_pp rfl (fun h => ?_) (fun h => ?_) | refine wc_nn rfl (fun h => ?_) (fun h => ?_) | refine rl_pp rfl (fun h => o_n ?_) (fun h => rn ?_) | refine rl_qq rfl (fun h => o_n ?_) (fun h => rn ?_) | refine rl_nn rfl (fun h => o_n ?_) (fun h => rn ?_) | refine rl_mm rfl (fun h => o_n ?_) (fun h => rn ?_))
    generalize hbx : b = bx at *
    clear hbx
    rw [← srcT_zero] at hA
    repeat' (first | (refine g_callf 61 ?_; refine ow_call Tryd.call61 rfl ((mbT_calls bx s 0 intra n _ _ _ hir hr2 hs hA).mono ?_); clear hA; (try clear w); rintro e w ⟨E1, r, vv, u, rfl, hE1, hm, hA⟩; refine ⟨_, rfl, ?_⟩; (try have o1 := hm.refs.one; have o2 := hm.mvds.one; have o3 := hm.blocks.one); refine rn ?_) | refine st ?_ | (refine wc_regionS 6 rfl ?_; refine wc_region ?_) | (refine su ?_; refine rn ?_) | (refine g_conv ?_; refine p_c hA ?_; refine rn ?_) | (refine g_load ?_; (first | refine t_loadx rfl hA ?_ | refine t_loada rfl hA ?_); refine rn ?_) | (refine g_call ?_; refine t_appx rfl rfl hA rfl ?_; clear hA; (try clear w); intro v w hA hone hnil; refine h_n hA ?_; clear hA; intro hA; refine rn ?_) | (refine g_store ?_; (first | refine t_storex rfl rfl hA ?_ | refine t_storea rfl rfl hA ?_); clear hA; (try clear w); intro w hA; refine h_m hA ?_; clear hA; intro hA; refine rn ?_) | (refine g_ow ?_; (first | refine t_alloc hA ?_ | refine ow_box rfl rfl hA ?_ | refine t_buildSlice rfl (by decide) rfl hA ?_); clear hA; (try clear w); intro b w hA; refine h_n hA ?_; clear hA; intro hA; refine rn ?_) | (refine g_ow ?_; refine t_make rfl rfl (by omega) (by omega) hA ?_; clear hA; (try clear w); intro v w hA hone hnil; refine rn ?_) | refine wc_pp rfl (fun h => ?_) (fun h => ?_) | refine wc_nn rfl (fun h => ?_) (fun h => ?_) | refine rl_pp rfl (fun h => o_n ?_) (fun h => rn ?_) | refine rl_qq rfl (fun h => o_n ?_) (fun h => rn ?_) | refine rl_nn rfl (fun h => o_n ?_) (fun h => rn ?_) | refine rl_mm rfl (fun h => o_n ?_) (fun h => rn ?_))
    generalize mbP intra n (strm s) 0 = R at *
    obtain ⟨m, q⟩ := R
    dsimp only at hm hA o1 o2 o3 ⊢
    have hA := hA.perm (List.Perm.swap _ _ _)
    refine' wc_flow' 3 (fun _ => undef) (fun ix => match ix with | 0 => [9] | 4 => [8] | 5 => [10] | _ => []) (fun ix => match ix with | 5 => [10] | _ => []) (fun ix => match ix with  | _ => []) (mixPhi [_, _, _, _, _, undef, _, _] (fun ix => match ix with | 5 => some (trueV) | _ => none)) (fun ix yy => match ix with | 5 => [cells b6 (mbC m r vv u) 28] | 8 => [srcT bx s q] | 9 => [cells b (mbC m r vv u) 28] | 10 => [cells b6 ([Go.Value.int Go.IntKind.u8 0, Go.Value.int Go.IntKind.u8 0, Go.Value.int Go.IntKind.u8 0, Go.Value.int Go.IntKind.u8 0, Go.Value.int Go.IntKind.u8 0, Go.Value.int Go.IntKind.u8 0, Go.Value.int Go.IntKind.u8 0, Go.Value.int Go.IntKind.u8 0, Go.Value.int Go.IntKind.u8 0, Go.Value.int Go.IntKind.u8 0, Go.Value.int Go.IntKind.u8 0, Go.Value.int Go.IntKind.u8 0, Go.Value.int Go.IntKind.u8 0, Go.Value.int Go.IntKind.u8 0, Go.Value.int Go.IntKind.u8 0, Go.Value.int Go.IntKind.u8 0, Go.Value.int Go.IntKind.u8 0, Go.Value.int Go.IntKind.u8 0, Go.Value.int Go.IntKind.u8 0, Go.Value.int Go.IntKind.u8 0, Go.Value.int Go.IntKind.u8 0, Go.Value.int Go.IntKind.u8 0, Go.Value.int Go.IntKind.u8 0, Go.Value.slice none 0 0, Go.Value.slice none 0 0, Go.Value.int Go.IntKind.u8 0, Go.Value.int Go.IntKind.i64 0, Go.Value.slice none 0 0, Go.Value.string { data := #[] }]) 28] | _ => []) (L) 8 (by kernel_rfl) rfl (by kernel_rfl) [(0, 26), (1, 27), (2, 28), (3, 29), (4, 30), (6, 7), (7, 8)] (by kernel_rfl) [0, 1, 2, 3, 4, 5, 6, 7, 8, 9] (by kernel_rfl) [8, 9, 10] (by kernel_rfl) hA ?itd6 ?phi6 ?ops6 ?k6
    case itd6 => (intro i y y' h; first | rfl | ((try dsimp only at h ⊢); split <;> first | rfl | (simp only [List.mem_cons, List.not_mem_nil, or_false, forall_eq_or_imp, forall_eq] at h; simp only [h]; done)))
    case phi6 => (refine mix_mono fun i p hp E1 E2 v hE h => ?_; split at hp <;> first | (cases hp; done) | (obtain rfl := Option.some.inj hp; first | exact ListE.mono h hE | exact ListE.mono h (Env.sub_left _ hE) | exact PMono.mono hE h | exact PMono.mono (Env.sub_left _ hE) h | exact h))
    case ops6 =>
      refine' FlowOps.c rfl [] (by decide) [] (by decide) [9] rfl [9] rfl ?o6_0 ?r6_0
      case o6_0 => intro yy E' Lx w lf hE hph hyp hl hA; simp only [setAll, List.map_cons, List.map_nil, List.set_cons_succ, List.set_cons_zero] at hl; subst hl; (try simp only [List.flatMap_cons, List.flatMap_nil, List.nil_append, List.append_nil, List.cons_append] at hA ⊢); (try clear hph hyp); first | (refine t_loadx rfl hA ?_; exact ⟨_, E', pe, Env.Le.refl _, mix_mk rfl rfl, hA⟩) | (refine t_loada rfl hA ?_; exact ⟨_, E', pe, Env.Le.refl _, mix_mk rfl rfl, hA⟩)
      case r6_0 =>
        refine' FlowOps.c rfl [] (by decide) [] (by decide) [] rfl [] rfl ?o6_1 ?r6_1
        case o6_1 => intro yy E' Lx w lf hE hph hyp hl hA; simp only [setAll, List.map_cons, List.map_nil, List.set_cons_succ, List.set_cons_zero] at hl; subst hl; (try simp only [List.flatMap_cons, List.flatMap_nil, List.nil_append, List.append_nil, List.cons_append] at hA ⊢); (try clear hph hyp); first | (refine ow_move_v rfl ?_; exact ⟨_, E', pe, Env.Le.refl _, mix_mk rfl rfl, hA⟩)
        case r6_1 =>
          refine' FlowOps.c rfl [(1, 27)] (by decide) [1] (by decide) [] rfl [] rfl ?o6_2 ?r6_2
          case o6_2 => intro yy E' Lx w lf hE hph hyp hl hA; have e1 := mix_known (hph 1 (by decide)) rfl rfl; simp only [setAll, List.map_cons, List.map_nil, List.set_cons_succ, List.set_cons_zero, ← e1] at hl; subst hl; (try simp only [← e1] at hA ⊢); (try simp only [List.flatMap_cons, List.flatMap_nil, List.nil_append, List.append_nil, List.cons_append] at hA ⊢); (try clear hph hyp); first | (refine ow_nilCheck rfl ?_; exact ⟨_, E', pe, Env.Le.refl _, mix_mk rfl rfl, hA⟩)
          case r6_2 =>
            refine' FlowOps.c rfl [(2, 28)] (by decide) [1, 2] (by decide) [] rfl [] rfl ?o6_3 ?r6_3
            case o6_3 => intro yy E' Lx w lf hE hph hyp hl hA; have e1 := mix_known (hph 1 (by decide)) rfl rfl; have e2 := mix_known (hph 2 (by decide)) rfl rfl; simp only [setAll, List.map_cons, List.map_nil, List.set_cons_succ, List.set_cons_zero, ← e1, ← e2] at hl; subst hl; (try simp only [← e1, ← e2] at hA ⊢); (try simp only [List.flatMap_cons, List.flatMap_nil, List.nil_append, List.append_nil, List.cons_append] at hA ⊢); (try clear hph hyp); first | (refine t_fieldAddr rfl ?_; exact ⟨_, E', pe, Env.Le.refl _, mix_mk rfl rfl, hA⟩)
            case r6_3 =>
              refine' FlowOps.c rfl [(3, 29)] (by decide) [1, 2, 3] (by decide) [8] rfl [8] rfl ?o6_4 ?r6_4
              case o6_4 => intro yy E' Lx w lf hE hph hyp hl hA; have e1 := mix_known (hph 1 (by decide)) rfl rfl; have e2 := mix_known (hph 2 (by decide)) rfl rfl; have e3 := mix_known (hph 3 (by decide)) rfl rfl; simp only [setAll, List.map_cons, List.map_nil, List.set_cons_succ, List.set_cons_zero, ← e1, ← e2, ← e3] at hl; subst hl; (try simp only [← e1, ← e2, ← e3] at hA ⊢); (try simp only [List.flatMap_cons, List.flatMap_nil, List.nil_append, List.append_nil, List.cons_append] at hA ⊢); (try clear hph hyp); first | (refine t_loadx rfl hA ?_; exact ⟨_, E', pe, Env.Le.refl _, mix_mk rfl rfl, hA⟩) | (refine t_loada rfl hA ?_; exact ⟨_, E', pe, Env.Le.refl _, mix_mk rfl rfl, hA⟩)
              case r6_4 =>
                refine' FlowOps.c rfl [(0, 26)] (by decide) [0] (by decide) [10] rfl [] rfl ?o6_5 ?r6_5
                case o6_5 => intro yy E' Lx w lf hE hph hyp hl hA; have e0 := mix_known (hph 0 (by decide)) rfl rfl; simp only [setAll, List.map_cons, List.map_nil, List.set_cons_succ, List.set_cons_zero, ← e0] at hl; subst hl; (try simp only [← e0] at hA ⊢); (try simp only [List.flatMap_cons, List.flatMap_nil, List.nil_append, List.append_nil, List.cons_append] at hA ⊢); (try clear hph hyp); refine t_store_agg 0 rfl rfl (by simp only [List.mem_cons, List.not_mem_nil, or_false, forall_eq_or_imp, forall_eq]; (repeat' apply And.intro) <;> first | rfl | assumption) rfl hA rfl (Nat.le_of_ble_eq_true rfl) ?_; clear hA; intro w hA; (try simp only [List.drop_zero, List.drop_nil, List.drop_succ_cons, List.take_succ_cons, List.take_zero, List.length_cons, List.length_nil, Nat.zero_add, Nat.reduceAdd] at hA); refine h_n hA ?_; clear hA; intro hA; exact ⟨undef, E', rfl, Env.Le.refl _, mix_mkP rfl trivial, hA⟩
                case r6_5 =>
                  refine' FlowOps.c rfl [(4, 30), (0, 26), (1, 27), (2, 28), (3, 29)] (by decide) [4, 5, 0, 1, 2, 3] (by decide) [] rfl [] rfl ?o6_6 ?r6_6
                  case o6_6 => intro yy E' Lx w lf hE hph hyp hl hA; have e4 := mix_known (hph 4 (by decide)) rfl rfl; have e0 := mix_known (hph 0 (by decide)) rfl rfl; have e1 := mix_known (hph 1 (by decide)) rfl rfl; have e2 := mix_known (hph 2 (by decide)) rfl rfl; have e3 := mix_known (hph 3 (by decide)) rfl rfl; simp only [setAll, List.map_cons, List.map_nil, List.set_cons_succ, List.set_cons_zero, ← e4, ← e0, ← e1, ← e2, ← e3] at hl; subst hl; have p5 := mix_pred (hph 5 (by decide)) rfl; (try simp only [← e4, ← e0, ← e1, ← e2, ← e3] at hA ⊢); generalize yy 5 = y5 at *; (try simp only [List.flatMap_cons, List.flatMap_nil, List.nil_append, List.append_nil, List.cons_append] at hA ⊢); (try clear hph hyp); first | (refine ow_assign_v rfl ?_; exact ⟨_, E', pe, Env.Le.refl _, mix_mk rfl rfl, hA⟩)
                  case r6_6 =>
                    refine' FlowOps.c rfl [(6, 7), (0, 26), (1, 27), (2, 28), (3, 29), (4, 30)] (by decide) [6, 0, 1, 2, 3, 4, 5] (by decide) [] rfl [] rfl ?o6_7 ?r6_7
                    case o6_7 => intro yy E' Lx w lf hE hph hyp hl hA; have e6 := mix_known (hph 6 (by decide)) rfl rfl; have e0 := mix_known (hph 0 (by decide)) rfl rfl; have e1 := mix_known (hph 1 (by decide)) rfl rfl; have e2 := mix_known (hph 2 (by decide)) rfl rfl; have e3 := mix_known (hph 3 (by decide)) rfl rfl; have e4 := mix_known (hph 4 (by decide)) rfl rfl; simp only [setAll, List.map_cons, List.map_nil, List.set_cons_succ, List.set_cons_zero, ← e6, ← e0, ← e1, ← e2, ← e3, ← e4] at hl; subst hl; have p5 := mix_pred (hph 5 (by decide)) rfl; (try simp only [← e6, ← e0, ← e1, ← e2, ← e3, ← e4] at hA ⊢); generalize yy 5 = y5 at *; (try simp only [List.flatMap_cons, List.flatMap_nil, List.nil_append, List.append_nil, List.cons_append] at hA ⊢); (try clear hph hyp); first | (refine ow_assign_v rfl ?_; exact ⟨_, E', pe, Env.Le.refl _, mix_mk rfl rfl, hA⟩)
                    case r6_7 =>
                      exact FlowOps.nil
    case' k6 => (try clear hA); intro yy E' w lf hE hph hyp hl hA; have e0 := mix_known (hph 0 (by decide)) rfl rfl; have e1 := mix_known (hph 1 (by decide)) rfl rfl; have e2 := mix_known (hph 2 (by decide)) rfl rfl; have e3 := mix_known (hph 3 (by decide)) rfl rfl; have e4 := mix_known (hph 4 (by decide)) rfl rfl; have e6 := mix_known (hph 6 (by decide)) rfl rfl; have e7 := mix_known (hph 7 (by decide)) rfl rfl; simp only [setAll, List.map_cons, List.map_nil, List.set_cons_succ, List.set_cons_zero, ← e0, ← e1, ← e2, ← e3, ← e4, ← e6, ← e7] at hl; subst hl; have p5 := mix_pred (hph 5 (by decide)) rfl; (try simp only [← e0, ← e1, ← e2, ← e3, ← e4, ← e6, ← e7] at hA); generalize yy 5 = y5 at *; (try simp only [List.flatMap_cons, List.flatMap_nil, List.nil_append, List.append_nil, List.cons_append] at hA); clear hph hyp
    repeat' (first | refine st ?_ | (refine wc_region ?_) | (refine su ?_; refine rn ?_) | (refine g_conv ?_; refine p_c hA ?_; refine rn ?_) | (refine g_load ?_; (first | refine t_loadx rfl hA ?_ | refine t_loada rfl hA ?_); refine rn ?_) | (refine g_call ?_; refine t_appx rfl rfl hA rfl ?_; clear hA; (try clear w); intro v w hA hone hnil; refine h_n hA ?_; clear hA; intro hA; refine rn ?_) | (refine g_store ?_; (first | refine t_storex rfl rfl hA ?_ | refine t_storea rfl rfl hA ?_); clear hA; (try clear w); intro w hA; refine h_m hA ?_; clear hA; intro hA; refine rn ?_) | (refine g_ow ?_; (first | refine t_alloc hA ?_ | refine ow_box rfl rfl hA ?_ | refine t_buildSlice rfl (by decide) rfl hA ?_); clear hA; (try clear w); intro b w hA; refine h_n hA ?_; clear hA; intro hA; refine rn ?_) | (refine g_ow ?_; refine t_make rfl rfl (by omega) (by omega) hA ?_; clear hA; (try clear w); intro v w hA hone hnil; refine rn ?_) | refine wc_pp rfl (fun h => ?_) (fun h => ?_) | refine wc_nn rfl (fun h => ?_) (fun h => ?_) | refine rl_pp rfl (fun h => o_n ?_) (fun h => rn ?_) | refine rl_qq rfl (fun h => o_n ?_) (fun h => rn ?_) | refine rl_nn rfl (fun h => o_n ?_) (fun h => rn ?_) | refine rl_mm rfl (fun h => o_n ?_) (fun h => rn ?_))
    exact fp_ret (resThree rfl (one_cell 0 rfl rfl hA rfl rfl) (one_tmp rfl) (one_tmp rfl)) ⟨E', r, vv, u, rfl, hE1.trans hE, (hm.mono (Env.sub_le _ _)).mono hE, hA.dropN 3⟩
  · rw [if_neg hB]
    repeat' (first | (refine g_callf 60 ?_; refine ow_call Tryd.call60 rfl ((refsErr_calls _ _ _ _ _ hA).mono ?_); clear hA; (try clear w); rintro e w ⟨rfl, hA⟩; refine ⟨_, rfl, ?_⟩; (try rw [if_neg hB]); refine rn ?_) | refine st ?_ | (refine wc_region ?_) | (refine su ?_; refine rn ?_) | (refine g_conv ?_; refine p_c hA ?_; refine rn ?_) | (refine g_load ?_; (first | refine t_loadx rfl hA ?_ | refine t_loada rfl hA ?_); refine rn ?_) | (refine g_call ?_; refine t_appx rfl rfl hA rfl ?_; clear hA; (try clear w); intro v w hA hone hnil; refine h_n hA ?_; clear hA; intro hA; refine rn ?_) | (refine g_store ?_; (first | refine t_storex rfl rfl hA ?_ | refine t_storea rfl rfl hA ?_); clear hA; (try clear w); intro w hA; refine h_m hA ?_; clear hA; intro hA; refine rn ?_) | (refine g_ow ?_; (first | refine t_alloc hA ?_ | refine ow_box rfl rfl hA ?_ | refine t_buildSlice rfl (by decide) rfl hA ?_); clear hA; (try clear w); intro b w hA; refine h_n hA ?_; clear hA; intro hA; refine rn ?_) | (refine g_ow ?_; refine t_make rfl rfl (by omega) (by omega) hA ?_; clear hA; (try clear w); intro v w hA hone hnil; refine rn ?_) | refine wc_pp rfl (fun h => ?_) (fun h => ?_) | refine wc_nn rfl (fun h => ?_) (fun h => ?_) | refine rl_pp rfl (fun h => o_n ?_) (fun h => rn ?_) | refine rl_qq rfl (fun h => o_n ?_) (fun h => rn ?_) | refine rl_nn rfl (fun h => o_n ?_) (fun h => rn ?_) | refine rl_mm rfl (fun h => o_n ?_) (fun h => rn ?_))
    exact fp_ret (resThree rfl (one_cell 0 rfl rfl hA rfl rfl) (one_tmp rfl) (one_tmp rfl)) ⟨E, nilV, nilV, nilV, rfl, Env.Le.refl _, zE_L, hA.tail⟩
set_option maxRecDepth 16000 in
set_option maxHeartbeats 8000000 in
theorem scriptMbs_calls (hA : Sat E L w) (hG : SzG E) :
    Calls Tryd.prog 8 ⟨[vs s, .bool intra, vi refs]⟩ w (Ret E L (.bool true)) := by
  refine enter (fn := Tryd.f8) Tryd.func8 rfl 49 rfl [vs s, .bool intra, vi refs, undef, undef, undef, undef, undef, undef, undef, undef, undef, undef, undef, undef, undef, undef, undef, undef, undef, undef, undef, undef, undef, undef, undef, undef, undef, undef, undef, undef, undef, undef, undef, undef, undef, undef, undef, undef, undef, undef, undef, undef, undef, undef, undef, undef, undef, undef] rfl ?_
  by_cases h2000 : 2000 < s.length
  · repeat' (first | (refine g_callf 35 ?_; refine ow_call Tryd.call35 rfl ((known_calls _ _ _ hA hG).mono ?_); clear hA; (try clear w); rintro e w ⟨rfl, hA⟩; refine ⟨_, rfl, ?_⟩; refine rn ?_) | refine st ?_ | (refine wc_region ?_) | (refine su ?_; refine rn ?_) | (refine g_conv ?_; refine p_c hA ?_; refine rn ?_) | (refine g_load ?_; (first | refine t_loadx rfl hA ?_ | refine t_loada rfl hA ?_); refine rn ?_) | (refine g_call ?_; refine t_appx rfl rfl hA rfl ?_; clear hA; (try clear w); intro v w hA hone hnil; refine h_n hA ?_; clear hA; intro hA; refine rn ?_) | (refine g_store ?_; (first | refine t_storex rfl rfl hA ?_ | refine t_storea rfl rfl hA ?_); clear hA; (try clear w); intro w hA; refine h_m hA ?_; clear hA; intro hA; refine rn ?_) | (refine g_ow ?_; (first | refine t_alloc hA ?_ | refine ow_box rfl rfl hA ?_ | refine t_buildSlice rfl (by decide) rfl hA ?_); clear hA; (try clear w); intro b w hA; refine h_n hA ?_; clear hA; intro hA; refine rn ?_) | (refine g_ow ?_; refine t_make rfl rfl (by omega) (by omega) hA ?_; clear hA; (try clear w); intro v w hA hone hnil; refine rn ?_) | refine wc_pp rfl (fun h => ?_) (fun h => ?_) | refine wc_nn rfl (fun h => ?_) (fun h => ?_) | refine rl_pp rfl (fun h => o_n ?_) (fun h => rn ?_) | refine rl_qq rfl (fun h => o_n ?_) (fun h => rn ?_) | refine rl_nn rfl (fun h => o_n ?_) (fun h => rn ?_) | refine rl_mm rfl (fun h => o_n ?_) (fun h => rn ?_))
    exact ret1 hA rfl rfl
  repeat' (first | (refine g_callf 36 ?_; refine ow_call Tryd.call36 rfl ((script_any s intra refs _ _ _ (by omega) hA hG).mono ?_); clear hA; (try clear w); rintro e w ⟨E1, r, vv, u, rfl, hE1, hm, hA⟩; refine ⟨_, rfl, ?_⟩; (try have o1 := hm.refs.one; have o2 := hm.mvds.one; have o3 := hm.blocks.one); refine rn ?_) | refine st ?_ | (refine wc_regionS 4 rfl ?_; refine wc_region ?_) | (refine su ?_; refine rn ?_) | (refine g_conv ?_; refine p_c hA ?_; refine rn ?_) | (refine g_load ?_; (first | refine t_loadx rfl hA ?_ | refine t_loada rfl hA ?_); refine rn ?_) | (refine g_call ?_; refine t_appx rfl rfl hA rfl ?_; clear hA; (try clear w); intro v w hA hone hnil; refine h_n hA ?_; clear hA; intro hA; refine rn ?_) | (refine g_store ?_; (first | refine t_storex rfl rfl hA ?_ | refine t_storea rfl rfl hA ?_); clear hA; (try clear w); intro w hA; refine h_m hA ?_; clear hA; intro hA; refine rn ?_) | (refine g_ow ?_; (first | refine t_alloc hA ?_ | refine ow_box rfl rfl hA ?_ | refine t_buildSlice rfl (by decide) rfl hA ?_); clear hA; (try clear w); intro b w hA; refine h_n hA ?_; clear hA; intro hA; refine rn ?_) | (refine g_ow ?_; refine t_make rfl rfl (by omega) (by omega) hA ?_; clear hA; (try clear w); intro v w hA hone hnil; refine rn ?_) | refine wc_pp rfl (fun h => ?_) (fun h => ?_) | refine wc_nn rfl (fun h => ?_) (fun h => ?_) | refine rl_pp rfl (fun h => o_n ?_) (fun h => rn ?_) | refine rl_qq rfl (fun h => o_n ?_) (fun h => rn ?_) | refine rl_nn rfl (fun h => o_n ?_) (fun h => rn ?_) | refine rl_mm rfl (fun h => o_n ?_) (fun h => rn ?_))
  generalize hb1 : b = b1 at *
  clear hb1
  repeat' (first | (refine g_callf 37 ?_; refine ow_call Tryd.call37 rfl ((refT_any s intra refs _ _ _ (by omega) hA).mono ?_); clear hA; (try clear w); rintro e w ⟨E2, r2, vv2, u2, rfl, hE2, hm2, hA⟩; refine ⟨_, rfl, ?_⟩; (try have o4 := hm2.refs.one; have o5 := hm2.mvds.one; have o6 := hm2.blocks.one); refine rn ?_) | refine st ?_ | (refine wc_regionS 5 rfl ?_; refine wc_region ?_) | (refine su ?_; refine rn ?_) | (refine g_conv ?_; refine p_c hA ?_; refine rn ?_) | (refine g_load ?_; (first | refine t_loadx rfl hA ?_ | refine t_loada rfl hA ?_); refine rn ?_) | (refine g_call ?_; refine t_appx rfl rfl hA rfl ?_; clear hA; (try clear w); intro v w hA hone hnil; refine h_n hA ?_; clear hA; intro hA; refine rn ?_) | (refine g_store ?_; (first | refine t_storex rfl rfl hA ?_ | refine t_storea rfl rfl hA ?_); clear hA; (try clear w); intro w hA; refine h_m hA ?_; clear hA; intro hA; refine rn ?_) | (refine g_ow ?_; (first | refine t_alloc hA ?_ | refine ow_box rfl rfl hA ?_ | refine t_buildSlice rfl (by decide) rfl hA ?_); clear hA; (try clear w); intro b w hA; refine h_n hA ?_; clear hA; intro hA; refine rn ?_) | (refine g_ow ?_; refine t_make rfl rfl (by omega) (by omega) hA ?_; clear hA; (try clear w); intro v w hA hone hnil; refine rn ?_) | refine wc_pp rfl (fun h => ?_) (fun h => ?_) | refine wc_nn rfl (fun h => ?_) (fun h => ?_) | refine rl_pp rfl (fun h => o_n ?_) (fun h => rn ?_) | refine rl_qq rfl (fun h => o_n ?_) (fun h => rn ?_) | refine rl_nn rfl (fun h => o_n ?_) (fun h => rn ?_) | refine rl_mm rfl (fun h => o_n ?_) (fun h => rn ?_))
  generalize scrO s intra refs = R at *
  obtain ⟨m, k, c⟩ := R
  dsimp only at hm hm2 hA
  have hG2 := hG.mono (hE1.trans hE2)
  refine wc_region ?_
  refine' rl_v hA ?o5_0 ?k5_0
  case o5_0 => intro w hA; first | (refine t_loadx rfl hA ?_; exact ⟨pe, hA⟩) | (refine t_loada rfl hA ?_; exact ⟨pe, hA⟩)
  case' k5_0 => clear hA; intro w hA; refine rn ?_
  refine' rl_v hA ?o5_1 ?k5_1
  case o5_1 => intro w hA; first | (refine t_loadx rfl hA ?_; exact ⟨pe, hA⟩) | (refine t_loada rfl hA ?_; exact ⟨pe, hA⟩)
  case' k5_1 => clear hA; intro w hA; refine rn ?_
  refine' rl_v hA ?o5_2 ?k5_2
  case o5_2 => intro w hA; first | (refine ow_call Tryd.call23 rfl ((equalMb_calls m m r vv u r2 vv2 u2 _ _ _ hA (hm.mono hE2) hm2).mono ?_); clear hA; rintro e w ⟨rfl, hA⟩; refine ⟨_, rfl, ?_⟩; exact ⟨put_eq (by rfl), hA⟩)
  case' k5_2 => clear hA; intro w hA; refine rn ?_
  refine' rl_v hA ?o5_3 ?k5_3
  case o5_3 => intro w hA; first | (refine ow_move_v rfl ?_; exact ⟨pe, hA⟩)
  case' k5_3 => clear hA; intro w hA; refine rn ?_
  first | refine' rl_T rfl hA ?o5_4 ?k5_4 | refine' rl_Tn rfl hA ?o5_4 ?k5_4
  case o5_4 => intro hg w hA; first | (refine ow_move_v opr ?_; exact ⟨pe, hA⟩)
  case' k5_4 => clear hA; intro w hA; refine rn ?_
  first | refine' rl_T rfl hA ?o5_5 ?k5_5 | refine' rl_Tn rfl hA ?o5_5 ?k5_5
  case o5_5 => intro hg w hA; first | (refine ow_move_v opr ?_; exact ⟨pe, hA⟩)
  case' k5_5 => clear hA; intro w hA; refine rn ?_
  first | refine' rl_T rfl hA ?o5_6 ?k5_6 | refine' rl_Tn rfl hA ?o5_6 ?k5_6
  case o5_6 => intro hg w hA; first | (refine ow_eql opr opr ?_; exact ⟨pe, hA⟩) | (refine ow_eqs opr opr ?_; exact ⟨pe, hA⟩) | (refine t_eqlb opr opr ?_; exact ⟨pe, hA⟩)
  case' k5_6 => clear hA; intro w hA; refine rn ?_
  refine' rl_v hA ?o5_7 ?k5_7
  case o5_7 => intro w hA; first | (refine ow_and rfl (by first | rfl) rfl ?_; exact ⟨pe, hA⟩) | (refine ow_pick rfl rfl rfl ?_; exact ⟨pe, hA⟩)
  case' k5_7 => clear hA; intro w hA; refine rn ?_
  refine' rl_v hA ?o5_8 ?k5_8
  case o5_8 => intro w hA; first | (refine ow_move_v rfl ?_; exact ⟨pe, hA⟩)
  case' k5_8 => clear hA; intro w hA; refine rn ?_
  first | refine' rl_T rfl hA ?o5_9 ?k5_9 | refine' rl_Tn rfl hA ?o5_9 ?k5_9
  case o5_9 => intro hg w hA; first | (refine ow_move_v opr ?_; exact ⟨pe, hA⟩)
  case' k5_9 => clear hA; intro w hA; refine rn ?_
  first | refine' rl_T rfl hA ?o5_10 ?k5_10 | refine' rl_Tn rfl hA ?o5_10 ?k5_10
  case o5_10 => intro hg w hA; first | (refine ow_move_v opr ?_; exact ⟨pe, hA⟩)
  case' k5_10 => clear hA; intro w hA; refine rn ?_
  first | refine' rl_T rfl hA ?o5_11 ?k5_11 | refine' rl_Tn rfl hA ?o5_11 ?k5_11
  case o5_11 => intro hg w hA; first | (refine ow_eql opr opr ?_; exact ⟨pe, hA⟩) | (refine ow_eqs opr opr ?_; exact ⟨pe, hA⟩) | (refine t_eqlb opr opr ?_; exact ⟨pe, hA⟩)
  case' k5_11 => clear hA; intro w hA; refine rn ?_
  refine' rl_v hA ?o5_12 ?k5_12
  case o5_12 => intro w hA; first | (refine ow_and rfl (by first | rfl) rfl ?_; exact ⟨pe, hA⟩) | (refine ow_pick rfl rfl rfl ?_; exact ⟨pe, hA⟩)
  case' k5_12 => clear hA; intro w hA; refine rn ?_
  refine' rl_v hA ?o5_13 ?k5_13
  case o5_13 => intro w hA; first | (refine ow_move_v rfl ?_; exact ⟨pe, hA⟩)
  case' k5_13 => clear hA; intro w hA; refine rn ?_
  first | refine' rl_T rfl hA ?o5_14 ?k5_14 | refine' rl_Tn rfl hA ?o5_14 ?k5_14
  case o5_14 => intro hg w hA; first | (refine ow_call Tryd.call35 rfl ((known_calls _ _ _ hA hG2).mono ?_); clear hA; rintro e w ⟨rfl, hA⟩; refine ⟨_, rfl, ?_⟩; exact ⟨put_eq (by rfl), hA⟩)
  case' k5_14 => clear hA; intro w hA; refine rn ?_
  refine' rl_v hA ?o5_15 ?k5_15
  case o5_15 => intro w hA; first | (refine ow_and rfl (by first | rfl) rfl ?_; exact ⟨pe, hA⟩) | (refine ow_pick rfl rfl rfl ?_; exact ⟨pe, hA⟩)
  case' k5_15 => clear hA; intro w hA; refine rn ?_
  refine' rl_v hA ?o5_16 ?k5_16
  case o5_16 => intro w hA; first | (refine ow_assign_v rfl ?_; exact ⟨pe, hA⟩)
  case' k5_16 => clear hA; intro w hA; refine rn ?_
  refine rl_nil ?_
  repeat' (first | refine st ?_ | (refine wc_region ?_) | (refine su ?_; refine rn ?_) | (refine g_conv ?_; refine p_c hA ?_; refine rn ?_) | (refine g_load ?_; (first | refine t_loadx rfl hA ?_ | refine t_loada rfl hA ?_); refine rn ?_) | (refine g_call ?_; refine t_appx rfl rfl hA rfl ?_; clear hA; (try clear w); intro v w hA hone hnil; refine h_n hA ?_; clear hA; intro hA; refine rn ?_) | (refine g_store ?_; (first | refine t_storex rfl rfl hA ?_ | refine t_storea rfl rfl hA ?_); clear hA; (try clear w); intro w hA; refine h_m hA ?_; clear hA; intro hA; refine rn ?_) | (refine g_ow ?_; (first | refine t_alloc hA ?_ | refine ow_box rfl rfl hA ?_ | refine t_buildSlice rfl (by decide) rfl hA ?_); clear hA; (try clear w); intro b w hA; refine h_n hA ?_; clear hA; intro hA; refine rn ?_) | (refine g_ow ?_; refine t_make rfl rfl (by omega) (by omega) hA ?_; clear hA; (try clear w); intro v w hA hone hnil; refine rn ?_) | refine wc_pp rfl (fun h => ?_) (fun h => ?_) | refine wc_nn rfl (fun h => ?_) (fun h => ?_) | refine rl_pp rfl (fun h => o_n ?_) (fun h => rn ?_) | refine rl_qq rfl (fun h => o_n ?_) (fun h => rn ?_) | refine rl_nn rfl (fun h => o_n ?_) (fun h => rn ?_) | refine rl_mm rfl (fun h => o_n ?_) (fun h => rn ?_))
  exact ret1 ((hA.le (hE1.trans hE2)).dropN 2) rfl (by show Value.bool _ = Value.bool true; simp)
end
end Go.Proofs.YtomfoaaaeidpnaaDoor
