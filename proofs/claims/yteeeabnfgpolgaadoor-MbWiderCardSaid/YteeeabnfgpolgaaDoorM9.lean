/-
  spindlelaw13.MbWider, walked.
-/
import Derived.Test.YteeeabnfgpolgaaDoorM8
import Derived.Test.YteeeabnfgpolgaaDoorN1
set_option linter.unusedVariables false
set_option linter.unusedSimpArgs false
namespace Go.Proofs.YteeeabnfgpolgaaDoor
open Go Go.RowKit
attribute [local irreducible] WC RL OW bodyPostM ThenQ BlockQ LoopQ ScopeQ
/-- n modulo m, not negative. -/
def modI (n m : Int) : Int := if m < 1 then 0 else (n.tmod m + m).tmod m
theorem modI_range (n m : Int) (h : 1 ≤ m) : 0 ≤ modI n m ∧ modI n m < m := by
  unfold modI
  rw [if_neg (by omega)]
  have h1 : -m < n.tmod m := by
    have := Int.lt_tmod_of_pos n (show 0 < m by omega); omega
  rw [Int.tmod_eq_emod_of_nonneg (by omega)]
  exact ⟨Int.emod_nonneg _ (by omega), Int.emod_lt_of_pos _ (by omega)⟩
theorem mod_calls (n m : Int) (E : Env) (L : List Item) (w : World) (hA : Sat E L w) (h64 : m ≤ 1000000) :
    Calls Tryd.prog 25 ⟨[vi n, vi m]⟩ w (Ret E L (vi (modI n m))) := by
  refine enter (fn := Tryd.f25) Tryd.func25 rfl 14 rfl [vi n, vi m, undef, undef, undef, undef, undef, undef, undef, undef, undef, undef, undef, undef] rfl ?_
  by_cases h : m < 1
  · rw [modI, if_pos h]
    repeat' (first | ((refine g_wc ?_; first | (refine wc_seq ?_) | (refine wc_region ?_) | (refine wc_block ?_) | (refine wc_true rfl ?_) | (refine wc_false rfl ?_) | (refine wc_pt rfl (by omega) ?_) | (refine wc_pf rfl (by omega) ?_) | (refine wc_nt rfl (by omega) ?_) | (refine wc_nf rfl (by omega) ?_) | (refine wc_pp rfl (fun h => ?_) (fun h => ?_)) | (refine wc_nn rfl (fun h => ?_) (fun h => ?_)) | (refine wc_skip ?_) | (refine wc_exit ?_) | (refine wc_ret ?_))) | (refine g_rl ?_; first | (first | (refine rl_op ?_) | (refine rl_nil ?_) | (refine rl_on rfl ?_) | (refine rl_pt rfl (by omega) ?_) | (refine rl_qt rfl (by omega) ?_) | (refine rl_nt rfl (by omega) ?_) | (refine rl_mt rfl (by omega) ?_)) | ((first | (refine rl_off rfl rfl ?_) | (refine rl_undef rfl ?_) | (refine rl_pf rfl (by omega) ?_) | (refine rl_qf rfl (by omega) ?_) | (refine rl_nf rfl (by omega) ?_) | (refine rl_mf rfl (by omega) ?_)); refine rn ?_) | (first | (refine rl_pp rfl (fun h => o_n ?_) (fun h => rn ?_)) | (refine rl_qq rfl (fun h => o_n ?_) (fun h => rn ?_)) | (refine rl_nn rfl (fun h => o_n ?_) (fun h => rn ?_)) | (refine rl_mm rfl (fun h => o_n ?_) (fun h => rn ?_)))) | ((refine g_bin ?_; refine p_b ?_); refine rn ?_) | (refine g_call ?_; first | ((first | (refine p_l ?_)); refine rn ?_) | ((first | (refine t_appx rfl rfl hA rfl ?_)); clear hA; (try clear w); intro v w hA hone hnil; refine h_n hA ?_; clear hA; intro hA; refine rn ?_)) | ((refine g_conv ?_; first | (refine p_c hA ?_)); refine rn ?_) | ((refine g_load ?_; first | (refine t_loadx rfl hA ?_) | (refine t_loada rfl hA ?_)); refine rn ?_) | (refine g_store ?_; first | ((first | (refine t_storex rfl rfl hA ?_)); clear hA; (try clear w); intro w hA; refine h_n hA ?_; clear hA; intro hA; refine rn ?_) | ((first | (refine t_storea rfl rfl hA ?_)); clear hA; (try clear w); intro w hA; (try simp only [List.drop_zero, List.drop_nil, List.drop_succ_cons, List.take_succ_cons, List.take_zero, List.length_cons, List.length_nil, Nat.zero_add, Nat.reduceAdd] at hA); refine h_n hA ?_; clear hA; intro hA; refine rn ?_)) | (refine g_ow ?_; first | ((first | (refine p_o ?_)); refine rn ?_) | ((first | (refine t_alloc hA ?_) | (refine ow_box rfl rfl hA ?_) | (refine t_buildSlice rfl (by decide) rfl hA ?_)); clear hA; (try clear w); intro b w hA; refine h_n hA ?_; clear hA; intro hA; refine rn ?_) | ((first | (refine t_make rfl rfl (by omega) (by omega) hA ?_)); clear hA; (try clear w); intro v w hA hone hnil; refine rn ?_)) | (refine tq_normal ?_) | (refine bq_normal ?_) | (refine bq_hit ?_) | (refine bq_miss (by decide) ?_) | (refine tq_exit ?_) | (refine lq_exit ?_) | (refine tq_ret ?_) | (refine bq_ret ?_) | (refine lq_ret ?_))
    exact ret1 hA rfl rfl
  · rw [modI, if_neg h]
    have h1 : -m < n.tmod m := by
      have := Int.lt_tmod_of_pos n (show 0 < m by omega); omega
    have h2 : n.tmod m < m := Int.tmod_lt_of_pos n (by omega)
    repeat' (first | (refine g_bin ?_; refine ow_rem rfl rfl (by omega) ?_; refine rn ?_) | ((refine g_wc ?_; first | (refine wc_seq ?_) | (refine wc_region ?_) | (refine wc_block ?_) | (refine wc_true rfl ?_) | (refine wc_false rfl ?_) | (refine wc_pt rfl (by omega) ?_) | (refine wc_pf rfl (by omega) ?_) | (refine wc_nt rfl (by omega) ?_) | (refine wc_nf rfl (by omega) ?_) | (refine wc_pp rfl (fun h => ?_) (fun h => ?_)) | (refine wc_nn rfl (fun h => ?_) (fun h => ?_)) | (refine wc_skip ?_) | (refine wc_exit ?_) | (refine wc_ret ?_))) | (refine g_rl ?_; first | (first | (refine rl_op ?_) | (refine rl_nil ?_) | (refine rl_on rfl ?_) | (refine rl_pt rfl (by omega) ?_) | (refine rl_qt rfl (by omega) ?_) | (refine rl_nt rfl (by omega) ?_) | (refine rl_mt rfl (by omega) ?_)) | ((first | (refine rl_off rfl rfl ?_) | (refine rl_undef rfl ?_) | (refine rl_pf rfl (by omega) ?_) | (refine rl_qf rfl (by omega) ?_) | (refine rl_nf rfl (by omega) ?_) | (refine rl_mf rfl (by omega) ?_)); refine rn ?_) | (first | (refine rl_pp rfl (fun h => o_n ?_) (fun h => rn ?_)) | (refine rl_qq rfl (fun h => o_n ?_) (fun h => rn ?_)) | (refine rl_nn rfl (fun h => o_n ?_) (fun h => rn ?_)) | (refine rl_mm rfl (fun h => o_n ?_) (fun h => rn ?_)))) | ((refine g_bin ?_; refine p_b ?_); refine rn ?_) | (refine g_call ?_; first | ((first | (refine p_l ?_)); refine rn ?_) | ((first | (refine t_appx rfl rfl hA rfl ?_)); clear hA; (try clear w); intro v w hA hone hnil; refine h_n hA ?_; clear hA; intro hA; refine rn ?_)) | ((refine g_conv ?_; first | (refine p_c hA ?_)); refine rn ?_) | ((refine g_load ?_; first | (refine t_loadx rfl hA ?_) | (refine t_loada rfl hA ?_)); refine rn ?_) | (refine g_store ?_; first | ((first | (refine t_storex rfl rfl hA ?_)); clear hA; (try clear w); intro w hA; refine h_n hA ?_; clear hA; intro hA; refine rn ?_) | ((first | (refine t_storea rfl rfl hA ?_)); clear hA; (try clear w); intro w hA; (try simp only [List.drop_zero, List.drop_nil, List.drop_succ_cons, List.take_succ_cons, List.take_zero, List.length_cons, List.length_nil, Nat.zero_add, Nat.reduceAdd] at hA); refine h_n hA ?_; clear hA; intro hA; refine rn ?_)) | (refine g_ow ?_; first | ((first | (refine p_o ?_)); refine rn ?_) | ((first | (refine t_alloc hA ?_) | (refine ow_box rfl rfl hA ?_) | (refine t_buildSlice rfl (by decide) rfl hA ?_)); clear hA; (try clear w); intro b w hA; refine h_n hA ?_; clear hA; intro hA; refine rn ?_) | ((first | (refine t_make rfl rfl (by omega) (by omega) hA ?_)); clear hA; (try clear w); intro v w hA hone hnil; refine rn ?_)) | (refine tq_normal ?_) | (refine bq_normal ?_) | (refine bq_hit ?_) | (refine bq_miss (by decide) ?_) | (refine tq_exit ?_) | (refine lq_exit ?_) | (refine tq_ret ?_) | (refine bq_ret ?_) | (refine lq_ret ?_))
    exact ret1 hA rfl rfl
theorem firstE_zero {F : List Fld} : firstE F = 0 ↔ ∀ x ∈ F, fldErr x = 0 := by
  induction F with
  | nil => exact ⟨fun _ x hx => (List.not_mem_nil hx).elim, fun _ => rfl⟩
  | cons a r ih =>
    rw [firstE]
    by_cases h : fldErr a = 0
    · rw [if_neg (by omega), ih]
      exact ⟨fun hr x hx => by rcases List.mem_cons.1 hx with rfl | hx; exact h; exact hr x hx, fun hr x hx => hr x (List.mem_cons_of_mem _ hx)⟩
    · rw [if_pos h]
      exact ⟨fun h0 => absurd h0 h, fun hr => hr a (List.mem_cons_self ..)⟩
theorem fields_zero {m : Mb} {refs : Int} : firstE (fieldsL m refs) = 0 ↔ ∀ i < 10, ∀ x, (fieldsL m refs)[i]? = some x → fldErr x = 0 := by
  rw [firstE_zero]
  constructor
  · intro h i _ x hx; exact h x (List.mem_of_getElem? hx)
  · intro h x hx
    obtain ⟨i, hi⟩ := List.getElem?_of_mem hx
    have : i < (fieldsL m refs).length := (List.getElem?_eq_some_iff.1 hi).1
    exact h i (by have e : (fieldsL m refs).length = 10 := rfl; omega) x hi
/-- The one field that speaks of reference indices. -/
theorem fields_refs {m : Mb} {a b : Int} (h : firstE (fieldsL m a) = 0) (h4 : fldErr (decide ((0 : Int) < (partsN m.kind : Int)), decide ((m.refs.length : Int) = 0), rangedL m.refs (partsN m.kind) 0 (a - 1)) = 0 →
    fldErr (decide ((0 : Int) < (partsN m.kind : Int)), decide ((m.refs.length : Int) = 0), rangedL m.refs (partsN m.kind) 0 (b - 1)) = 0) : firstE (fieldsL m b) = 0 := by
  rw [fields_zero] at h ⊢
  intro i hi x hx
  have : i = 0 ∨ i = 1 ∨ i = 2 ∨ i = 3 ∨ i = 4 ∨ i = 5 ∨ i = 6 ∨ i = 7 ∨ i = 8 ∨ i = 9 := by omega
  rcases this with rfl | rfl | rfl | rfl | rfl | rfl | rfl | rfl | rfl | rfl
  · exact h 0 hi x hx
  · exact h 1 hi x hx
  · exact h 2 hi x hx
  · exact h 3 hi x hx
  · have hx := (Option.some.inj hx)
    subst hx
    exact h4 (h 4 hi _ rfl)
  · exact h 5 hi x hx
  · exact h 6 hi x hx
  · exact h 7 hi x hx
  · exact h 8 hi x hx
  · exact h 9 hi x hx
theorem checkE_inter {m : Mb} {a : Int} (h1 : 1 ≤ a) (h2 : a ≤ 32) : checkE m false a = if decide ((7 : Int) < (m.kind.toNat : Int)) = true then 9 else firstE (fieldsL m a) := by
  unfold checkE
  rw [if_neg (by simp; omega)]
  simp only [Bool.false_and, Bool.or_false]
/-- What is valid for some reference indices is valid for more. -/
theorem check_more (m : Mb) (a b : Int) (h1 : 1 ≤ a) (h2 : a ≤ b) (h3 : b ≤ 32) (h : checkE m false a = 0) : checkE m false b = 0 := by
  rw [checkE_inter (by omega) (by omega)] at h ⊢
  split at h
  · omega
  · rename_i hk
    rw [if_neg hk]
    refine fields_refs h ?_
    unfold fldErr
    cases decide ((0 : Int) < (partsN m.kind : Int)) with
    | false => exact id
    | true =>
      simp only [if_true]
      unfold rangedL
      intro h
      split at h
      · omega
      · rename_i hn
        rw [if_neg hn]
        split at h
        · rename_i ha
          rw [if_pos (List.all_eq_true.2 fun x hx => ?_)]
          have := of_decide_eq_true (List.all_eq_true.1 ha x hx)
          exact decide_eq_true (by omega)
        · omega
theorem partsN_intra {k : UInt8} (h : k.toNat ≤ 2) : partsN k = 0 := by unfold partsN; rw [if_neg (by omega), if_neg (by omega), if_neg (by omega), if_neg (by omega)]
/-- What is valid in a slice of kind I is valid in one of kind P. -/
theorem check_intra (m : Mb) (a : Int) (h1 : 1 ≤ a) (h2 : a ≤ 32) (h : checkE m true 0 = 0) : checkE m false a = 0 := by
  rw [checkE_inter (by omega) (by omega)]
  unfold checkE at h
  rw [if_neg (by decide)] at h
  split at h
  · omega
  · rename_i hk
    simp only [Bool.true_and, Bool.or_eq_true, decide_eq_true_eq, Bool.not_eq_true', decide_eq_false_iff_not, not_or, Classical.not_not] at hk
    rw [if_neg (by simp only [decide_eq_true_eq]; omega)]
    refine fields_refs h ?_
    rw [partsN_intra hk.2]
    exact id
theorem check_none (m : Mb) : checkE m false 0 = 2 := by unfold checkE; rfl
theorem check_many (m : Mb) : checkE m false 33 = 2 := by unfold checkE; rfl
theorem fits_few {m : Mb} : Fits (fewMb m) := by
  refine ⟨by show (m.refs.take 6).length ≤ _; rw [List.length_take]; omega, by show (m.mvds.take 20).length ≤ _; rw [List.length_take]; omega, by show ((m.blocks.take 30).map (·.take 20)).length ≤ _; rw [List.length_map, List.length_take]; omega, fun b hb => ?_⟩
  obtain ⟨x, _, rfl⟩ := List.mem_map.1 hb
  rw [List.length_take]; omega
/-- A copy, where it is made at all. -/
def cpV (c : Bool) (m : Mb) : Env → Value → Prop := fun E v => c = true → mbV m E v
instance {c : Bool} {m : Mb} : PMono (cpV c m) := ⟨fun hE h hc => PMono.mono hE (h hc)⟩
set_option maxRecDepth 16000 in
set_option maxHeartbeats 8000000 in
theorem mbWider_calls (m : Mb) (r v u : Value) (refs more : Int) (E : Env) (L : List Item) (w : World) (hA : Sat E L w) (hG : MbG E) (hm : MbL E m r v u) (hf : Short m.blocks) :
    Calls Tryd.prog 5 ⟨[.agg ⟨mbC m r v u⟩, vi refs, vi more]⟩ w (Ret E L (.bool true)) := by
  refine enter (fn := Tryd.f5) Tryd.func5 rfl 60 rfl [.agg ⟨mbC m r v u⟩, vi refs, vi more, undef, undef, undef, undef, undef, undef, undef, undef, undef, undef, undef, undef, undef, undef, undef, undef, undef, undef, undef, undef, undef, undef, undef, undef, undef, undef, undef, undef, undef, undef, undef, undef, undef, undef, undef, undef, undef, undef, undef, undef, undef, undef, undef, undef, undef, undef, undef, undef, undef, undef, undef, undef, undef, undef, undef, undef, undef] rfl ?_
  have m1 := modI_range refs 32 (by omega)
  have m2 := modI_range more (33 - (1 + modI refs 32)) (by omega)
  repeat' (first | (refine g_callf 15 ?_; refine ow_call Tryd.call15 rfl ((fewMb_calls m r v u _ _ _ hA hm hf).mono ?_); clear hA; (try clear w); rintro e w ⟨E1, z, rfl, hE1, ⟨r1, v1, u1, rfl, hm1⟩, hA⟩; refine ⟨_, rfl, ?_⟩; (try have o1 := hm1.refs.one; have o2 := hm1.mvds.one; have o3 := hm1.blocks.one); refine rn ?_) | (refine g_callf 25 ?_; refine ow_call Tryd.call25 rfl ((mod_calls _ _ _ _ _ hA (by omega)).mono ?_); clear hA; (try clear w); rintro e w ⟨rfl, hA⟩; refine ⟨_, rfl, ?_⟩; refine rn ?_) | ((refine g_wc ?_; first | (refine wc_seq ?_) | (refine wc_regionS 4 rfl ?_; refine wc_region ?_) | (refine wc_block ?_) | (refine wc_true rfl ?_) | (refine wc_false rfl ?_) | (refine wc_pt rfl (by omega) ?_) | (refine wc_pf rfl (by omega) ?_) | (refine wc_nt rfl (by omega) ?_) | (refine wc_nf rfl (by omega) ?_) | (refine wc_pp rfl (fun h => ?_) (fun h => ?_)) | (refine wc_nn rfl (fun h => ?_) (fun h => ?_)) | (refine wc_skip ?_) | (refine wc_exit ?_) | (refine wc_ret ?_))) | (refine g_rl ?_; first | (first | (refine rl_op ?_) | (refine rl_nil ?_) | (refine rl_on rfl ?_) | (refine rl_pt rfl (by omega) ?_) | (refine rl_qt rfl (by omega) ?_) | (refine rl_nt rfl (by omega) ?_) | (refine rl_mt rfl (by omega) ?_)) | ((first | (refine rl_off rfl rfl ?_) | (refine rl_undef rfl ?_) | (refine rl_pf rfl (by omega) ?_) | (refine rl_qf rfl (by omega) ?_) | (refine rl_nf rfl (by omega) ?_) | (refine rl_mf rfl (by omega) ?_)); refine rn ?_) | (first | (refine rl_pp rfl (fun h => o_n ?_) (fun h => rn ?_)) | (refine rl_qq rfl (fun h => o_n ?_) (fun h => rn ?_)) | (refine rl_nn rfl (fun h => o_n ?_) (fun h => rn ?_)) | (refine rl_mm rfl (fun h => o_n ?_) (fun h => rn ?_)))) | ((refine g_bin ?_; refine p_b ?_); refine rn ?_) | (refine g_call ?_; first | ((first | (refine p_l ?_)); refine rn ?_) | ((first | (refine t_appx rfl rfl hA rfl ?_)); clear hA; (try clear w); intro v w hA hone hnil; refine h_n hA ?_; clear hA; intro hA; refine rn ?_)) | ((refine g_conv ?_; first | (refine p_c hA ?_)); refine rn ?_) | ((refine g_load ?_; first | (refine t_loadx rfl hA ?_) | (refine t_loada rfl hA ?_)); refine rn ?_) | (refine g_store ?_; first | ((first | (refine t_storex rfl rfl hA ?_)); clear hA; (try clear w); intro w hA; refine h_n hA ?_; clear hA; intro hA; refine rn ?_) | ((first | (refine t_storea rfl rfl hA ?_)); clear hA; (try clear w); intro w hA; (try simp only [List.drop_zero, List.drop_nil, List.drop_succ_cons, List.take_succ_cons, List.take_zero, List.length_cons, List.length_nil, Nat.zero_add, Nat.reduceAdd] at hA); refine h_n hA ?_; clear hA; intro hA; refine rn ?_)) | (refine g_ow ?_; first | ((first | (refine p_o ?_)); refine rn ?_) | ((first | (refine t_alloc hA ?_) | (refine ow_box rfl rfl hA ?_) | (refine t_buildSlice rfl (by decide) rfl hA ?_)); clear hA; (try clear w); intro b w hA; refine h_n hA ?_; clear hA; intro hA; refine rn ?_) | ((first | (refine t_make rfl rfl (by omega) (by omega) hA ?_)); clear hA; (try clear w); intro v w hA hone hnil; refine rn ?_)) | (refine tq_normal ?_) | (refine bq_normal ?_) | (refine bq_hit ?_) | (refine bq_miss (by decide) ?_) | (refine tq_exit ?_) | (refine lq_exit ?_) | (refine tq_ret ?_) | (refine bq_ret ?_) | (refine lq_ret ?_))
  have hG1 := hG.mono hE1
  obtain ⟨c1, c2⟩ := m1
  obtain ⟨d1, d2⟩ := m2
  generalize modI refs 32 = k1 at *
  have e1 : 1 ≤ 1 + k1 ∧ 1 + k1 ≤ 32 := by omega
  have e2 : 1 + k1 ≤ 1 + k1 + modI more (33 - (1 + k1)) ∧ 1 + k1 + modI more (33 - (1 + k1)) ≤ 32 := by omega
  generalize 1 + k1 = n1 at *
  generalize n1 + modI more (33 - n1) = n2 at *
  refine' wc_vals 6 [20, 21, 22, 23, 24, 25] [_, _, _, _, _, _] rfl (by kernel_rfl) (by kernel_rfl) (by kernel_rfl) hA ?ops4 ?k4
  case ops4 =>
    refine' VOps.c0 rfl [] (by decide) [] (by decide) rfl ?o4_0 ?r4_0
    case o4_0 => intro E' Lx w lf hE hl hA; simp only [setAll, List.zip_cons_cons, List.zip_nil_right, List.map_cons, List.map_nil, List.getD_cons_succ, List.getD_cons_zero, List.set_cons_succ, List.set_cons_zero] at hl; subst hl; first | (refine t_loadx rfl hA ?_; exact ⟨pe, hA⟩) | (refine t_loada rfl hA ?_; exact ⟨pe, hA⟩)
    case r4_0 =>
      refine' VOps.c0 rfl [] (by decide) [] (by decide) rfl ?o4_1 ?r4_1
      case o4_1 => intro E' Lx w lf hE hl hA; simp only [setAll, List.zip_cons_cons, List.zip_nil_right, List.map_cons, List.map_nil, List.getD_cons_succ, List.getD_cons_zero, List.set_cons_succ, List.set_cons_zero] at hl; subst hl; first | (refine ow_move_v rfl ?_; exact ⟨pe, hA⟩)
      case r4_1 =>
        refine' VOps.c0 rfl [0, 1] (by decide) [20, 21] (by decide) rfl ?o4_2 ?r4_2
        case o4_2 => intro E' Lx w lf hE hl hA; simp only [setAll, List.zip_cons_cons, List.zip_nil_right, List.map_cons, List.map_nil, List.getD_cons_succ, List.getD_cons_zero, List.set_cons_succ, List.set_cons_zero] at hl; subst hl; first | (refine ow_call Tryd.call17 rfl ((mbCheck_ret (fewMb m) r1 v1 u1 false _ _ _ _ _ hA (hm1.mono hE) (hG1.mono hE) rfl).mono ?_); clear hA; rintro e w ⟨rfl, hA⟩; refine ⟨_, rfl, ?_⟩; exact ⟨put_eq (by rfl), hA⟩)
        case r4_2 =>
          refine' VOps.c0 rfl [] (by decide) [] (by decide) rfl ?o4_3 ?r4_3
          case o4_3 => intro E' Lx w lf hE hl hA; simp only [setAll, List.zip_cons_cons, List.zip_nil_right, List.map_cons, List.map_nil, List.getD_cons_succ, List.getD_cons_zero, List.set_cons_succ, List.set_cons_zero] at hl; subst hl; first | (refine t_loadx rfl hA ?_; exact ⟨pe, hA⟩) | (refine t_loada rfl hA ?_; exact ⟨pe, hA⟩)
          case r4_3 =>
            refine' VOps.c0 rfl [] (by decide) [] (by decide) rfl ?o4_4 ?r4_4
            case o4_4 => intro E' Lx w lf hE hl hA; simp only [setAll, List.zip_cons_cons, List.zip_nil_right, List.map_cons, List.map_nil, List.getD_cons_succ, List.getD_cons_zero, List.set_cons_succ, List.set_cons_zero] at hl; subst hl; first | (refine ow_move_v rfl ?_; exact ⟨pe, hA⟩)
            case r4_4 =>
              refine' VOps.c0 rfl [3, 4, 2] (by decide) [23, 24, 22] (by decide) rfl ?o4_5 ?r4_5
              case o4_5 => intro E' Lx w lf hE hl hA; simp only [setAll, List.zip_cons_cons, List.zip_nil_right, List.map_cons, List.map_nil, List.getD_cons_succ, List.getD_cons_zero, List.set_cons_succ, List.set_cons_zero] at hl; subst hl; first | (refine ow_call Tryd.call17 rfl ((mbCheck_ret (fewMb m) r1 v1 u1 false _ _ _ _ _ hA (hm1.mono hE) (hG1.mono hE) rfl).mono ?_); clear hA; rintro e w ⟨rfl, hA⟩; refine ⟨_, rfl, ?_⟩; exact ⟨put_eq (by rfl), hA⟩)
              case r4_5 =>
                exact TameOps.nil
  case' k4 => (try clear hA); intro w hA; refine rn ?_
  repeat' (first | ((refine g_wc ?_; first | (refine wc_seq ?_) | (refine wc_regionS 5 rfl ?_; refine wc_region ?_) | (refine wc_block ?_) | (refine wc_true rfl ?_) | (refine wc_false rfl ?_) | (refine wc_pt rfl (by omega) ?_) | (refine wc_pf rfl (by omega) ?_) | (refine wc_nt rfl (by omega) ?_) | (refine wc_nf rfl (by omega) ?_) | (refine wc_pp rfl (fun h => ?_) (fun h => ?_)) | (refine wc_nn rfl (fun h => ?_) (fun h => ?_)) | (refine wc_skip ?_) | (refine wc_exit ?_) | (refine wc_ret ?_))) | (refine g_rl ?_; first | (first | (refine rl_op ?_) | (refine rl_nil ?_) | (refine rl_on rfl ?_) | (refine rl_pt rfl (by omega) ?_) | (refine rl_qt rfl (by omega) ?_) | (refine rl_nt rfl (by omega) ?_) | (refine rl_mt rfl (by omega) ?_)) | ((first | (refine rl_off rfl rfl ?_) | (refine rl_undef rfl ?_) | (refine rl_pf rfl (by omega) ?_) | (refine rl_qf rfl (by omega) ?_) | (refine rl_nf rfl (by omega) ?_) | (refine rl_mf rfl (by omega) ?_)); refine rn ?_) | (first | (refine rl_pp rfl (fun h => o_n ?_) (fun h => rn ?_)) | (refine rl_qq rfl (fun h => o_n ?_) (fun h => rn ?_)) | (refine rl_nn rfl (fun h => o_n ?_) (fun h => rn ?_)) | (refine rl_mm rfl (fun h => o_n ?_) (fun h => rn ?_)))) | ((refine g_bin ?_; refine p_b ?_); refine rn ?_) | (refine g_call ?_; first | ((first | (refine p_l ?_)); refine rn ?_) | ((first | (refine t_appx rfl rfl hA rfl ?_)); clear hA; (try clear w); intro v w hA hone hnil; refine h_n hA ?_; clear hA; intro hA; refine rn ?_)) | ((refine g_conv ?_; first | (refine p_c hA ?_)); refine rn ?_) | ((refine g_load ?_; first | (refine t_loadx rfl hA ?_) | (refine t_loada rfl hA ?_)); refine rn ?_) | (refine g_store ?_; first | ((first | (refine t_storex rfl rfl hA ?_)); clear hA; (try clear w); intro w hA; refine h_n hA ?_; clear hA; intro hA; refine rn ?_) | ((first | (refine t_storea rfl rfl hA ?_)); clear hA; (try clear w); intro w hA; (try simp only [List.drop_zero, List.drop_nil, List.drop_succ_cons, List.take_succ_cons, List.take_zero, List.length_cons, List.length_nil, Nat.zero_add, Nat.reduceAdd] at hA); refine h_n hA ?_; clear hA; intro hA; refine rn ?_)) | (refine g_ow ?_; first | ((first | (refine p_o ?_)); refine rn ?_) | ((first | (refine t_alloc hA ?_) | (refine ow_box rfl rfl hA ?_) | (refine t_buildSlice rfl (by decide) rfl hA ?_)); clear hA; (try clear w); intro b w hA; refine h_n hA ?_; clear hA; intro hA; refine rn ?_) | ((first | (refine t_make rfl rfl (by omega) (by omega) hA ?_)); clear hA; (try clear w); intro v w hA hone hnil; refine rn ?_)) | (refine tq_normal ?_) | (refine bq_normal ?_) | (refine bq_hit ?_) | (refine bq_miss (by decide) ?_) | (refine tq_exit ?_) | (refine lq_exit ?_) | (refine tq_ret ?_) | (refine bq_ret ?_) | (refine lq_ret ?_))
  have w1 := check_more (fewMb m) n1 n2 e1.1 e2.1 e2.2
  have w2 := check_intra (fewMb m) n1 e1.1 e1.2
  refine wc_region ?_
  refine' rl_v hA ?o5xto16_0 ?k5xto16_0
  case o5xto16_0 => intro w hA; first | (refine ow_move_v rfl ?_; exact ⟨pe, hA⟩)
  case' k5xto16_0 => clear hA; intro w hA; refine rn ?_
  refine' rl_v hA ?o5xto16_1 ?k5xto16_1
  case o5xto16_1 => intro w hA; first | (refine ow_eql rfl rfl ?_; exact ⟨pe, hA⟩) | (refine ow_eqs rfl rfl ?_; exact ⟨pe, hA⟩) | (refine t_eqlb rfl rfl ?_; exact ⟨pe, hA⟩)
  case' k5xto16_1 => clear hA; intro w hA; refine rn ?_
  refine' rl_v hA ?o5xto16_2 ?k5xto16_2
  case o5xto16_2 => intro w hA; first | (refine ow_move_v rfl ?_; exact ⟨pe, hA⟩)
  case' k5xto16_2 => clear hA; intro w hA; refine rn ?_
  first | refine' rl_T rfl hA ?o5xto16_3 ?k5xto16_3 | refine' rl_Tn rfl hA ?o5xto16_3 ?k5xto16_3
  case o5xto16_3 => intro hg w hA; first | (refine ow_move_v opr ?_; exact ⟨pe, hA⟩)
  case' k5xto16_3 => clear hA; intro w hA; refine rn ?_
  first | refine' rl_T rfl hA ?o5xto16_4 ?k5xto16_4 | refine' rl_Tn rfl hA ?o5xto16_4 ?k5xto16_4
  case o5xto16_4 => intro hg w hA; first | (refine ow_neq opr opr ?_; exact ⟨pe, hA⟩) | (refine ow_neqs opr opr ?_; exact ⟨pe, hA⟩) | (refine t_neqb opr opr ?_; exact ⟨pe, hA⟩)
  case' k5xto16_4 => clear hA; intro w hA; refine rn ?_
  refine' rl_v hA ?o5xto16_5 ?k5xto16_5
  case o5xto16_5 => intro w hA; first | (refine ow_and rfl (by first | rfl) rfl ?_; exact ⟨pe, hA⟩) | (refine ow_pick rfl rfl rfl ?_; exact ⟨pe, hA⟩)
  case' k5xto16_5 => clear hA; intro w hA; refine rn ?_
  refine' rl_v hA ?o5xto16_6 ?k5xto16_6
  case o5xto16_6 => intro w hA; first | (refine ow_move_v rfl ?_; exact ⟨pe, hA⟩)
  case' k5xto16_6 => clear hA; intro w hA; refine rn ?_
  first | refine' rl_F rfl hA ?o5xto16_7 ?k5xto16_7 | refine' rl_Fn rfl hA ?o5xto16_7 ?k5xto16_7
  case o5xto16_7 => intro hg w hA; first | (refine t_loadx opr hA ?_; exact ⟨pe, hA⟩) | (refine t_loada opr hA ?_; exact ⟨pe, hA⟩)
  case' k5xto16_7 => clear hA; intro w hA; refine rn ?_
  first | refine' rl_F rfl hA ?o5xto16_8 ?k5xto16_8 | refine' rl_Fn rfl hA ?o5xto16_8 ?k5xto16_8
  case o5xto16_8 => intro hg w hA; first | (refine ow_call Tryd.call17 (evs3 opr opr opr) ((mbCheck_ret (fewMb m) r1 v1 u1 true 0 _ _ _ _ hA hm1 hG1 rfl).mono ?_); clear hA; rintro e w ⟨rfl, hA⟩; refine ⟨_, rfl, ?_⟩; exact ⟨put_eq (by rfl), hA⟩)
  case' k5xto16_8 => clear hA; intro w hA; refine rn ?_
  first | refine' rl_F rfl hA ?o5xto16_9 ?k5xto16_9 | refine' rl_Fn rfl hA ?o5xto16_9 ?k5xto16_9
  case o5xto16_9 => intro hg w hA; first | (refine ow_eql opr opr ?_; exact ⟨pe, hA⟩) | (refine ow_eqs opr opr ?_; exact ⟨pe, hA⟩) | (refine t_eqlb opr opr ?_; exact ⟨pe, hA⟩)
  case' k5xto16_9 => clear hA; intro w hA; refine rn ?_
  first | refine' rl_F rfl hA ?o5xto16_10 ?k5xto16_10 | refine' rl_Fn rfl hA ?o5xto16_10 ?k5xto16_10
  case o5xto16_10 => intro hg w hA; first | (refine ow_move_v opr ?_; exact ⟨pe, hA⟩)
  case' k5xto16_10 => clear hA; intro w hA; refine rn ?_
  first | refine' rl_T rfl hA ?o5xto16_11 ?k5xto16_11 | refine' rl_Tn rfl hA ?o5xto16_11 ?k5xto16_11
  case o5xto16_11 => intro hg w hA; first | (refine ow_move_v opr ?_; exact ⟨pe, hA⟩)
  case' k5xto16_11 => clear hA; intro w hA; refine rn ?_
  first | refine' rl_T rfl hA ?o5xto16_12 ?k5xto16_12 | refine' rl_Tn rfl hA ?o5xto16_12 ?k5xto16_12
  case o5xto16_12 => intro hg w hA; first | (refine ow_neq opr opr ?_; exact ⟨pe, hA⟩) | (refine ow_neqs opr opr ?_; exact ⟨pe, hA⟩) | (refine t_neqb opr opr ?_; exact ⟨pe, hA⟩)
  case' k5xto16_12 => clear hA; intro w hA; refine rn ?_
  first | refine' rl_F rfl hA ?o5xto16_13 ?k5xto16_13 | refine' rl_Fn rfl hA ?o5xto16_13 ?k5xto16_13
  case o5xto16_13 => intro hg w hA; first | (refine ow_and opr (by first | rfl | exact sel_in rfl hg) rfl ?_; exact ⟨pe, hA⟩) | (refine ow_pick opr opr opr ?_; exact ⟨pe, hA⟩)
  case' k5xto16_13 => clear hA; intro w hA; refine rn ?_
  refine' rl_v hA ?o5xto16_14 ?k5xto16_14
  case o5xto16_14 => intro w hA; first | (refine ow_or rfl rfl (by first | rfl) ?_; exact ⟨pe, hA⟩) | (refine ow_pick rfl rfl rfl ?_; exact ⟨pe, hA⟩)
  case' k5xto16_14 => clear hA; intro w hA; refine rn ?_
  refine' rl_v hA ?o5xto16_15 ?k5xto16_15
  case o5xto16_15 => intro w hA; first | (refine ow_move_v rfl ?_; exact ⟨pe, hA⟩)
  case' k5xto16_15 => clear hA; intro w hA; refine rn ?_
  have eg : ((decide (checkE (fewMb m) false n1 = 0) && !decide (checkE (fewMb m) false n2 = 0)) || (decide (checkE (fewMb m) true 0 = 0) && !decide (checkE (fewMb m) false n1 = 0))) = false := by
    rw [Bool.or_eq_false_iff]
    refine ⟨?_, ?_⟩
    · by_cases h : checkE (fewMb m) false n1 = 0
      · rw [decide_eq_true (w1 h)]; simp
      · rw [decide_eq_false h]; rfl
    · by_cases h : checkE (fewMb m) true 0 = 0
      · rw [decide_eq_true (w2 h)]; simp
      · rw [decide_eq_false h]; rfl
  rw [eg]
  repeat' (first | (refine g_callf 26 ?_; refine ow_call Tryd.call26 rfl ((mbCopy_calls (fewMb m) r1 v1 u1 E1 _ _ hA hm1 fits_few).mono ?_); clear hA; (try clear w); rintro e w ⟨E2, z2, rfl, hE2, ⟨r2, v2, u2, rfl, hm2⟩, hA⟩; refine ⟨_, rfl, ?_⟩; (try have hm2 := hm2.mono (Env.sub_le _ _)); refine rn ?_) | (refine g_callf 17 ?_; refine ow_call Tryd.call17 rfl ((mbCheck_ret (fewMb m) r2 v2 u2 false n1 _ _ _ _ hA hm2 (hG1.mono hE2) rfl).mono ?_); clear hA; (try clear w); rintro e w ⟨rfl, hA⟩; refine ⟨_, rfl, ?_⟩; refine rn ?_) | ((refine g_wc ?_; first | (refine wc_seq ?_) | (refine wc_regionS 7 rfl ?_; refine wc_region ?_) | (refine wc_block ?_) | (refine wc_true rfl ?_) | (refine wc_false rfl ?_) | (refine wc_pt rfl (by omega) ?_) | (refine wc_pf rfl (by omega) ?_) | (refine wc_nt rfl (by omega) ?_) | (refine wc_nf rfl (by omega) ?_) | (refine wc_pp rfl (fun h => ?_) (fun h => ?_)) | (refine wc_nn rfl (fun h => ?_) (fun h => ?_)) | (refine wc_skip ?_) | (refine wc_exit ?_) | (refine wc_ret ?_))) | (refine g_rl ?_; first | (first | (refine rl_op ?_) | (refine rl_nil ?_) | (refine rl_on rfl ?_) | (refine rl_pt rfl (by omega) ?_) | (refine rl_qt rfl (by omega) ?_) | (refine rl_nt rfl (by omega) ?_) | (refine rl_mt rfl (by omega) ?_)) | ((first | (refine rl_off rfl rfl ?_) | (refine rl_undef rfl ?_) | (refine rl_pf rfl (by omega) ?_) | (refine rl_qf rfl (by omega) ?_) | (refine rl_nf rfl (by omega) ?_) | (refine rl_mf rfl (by omega) ?_)); refine rn ?_) | (first | (refine rl_pp rfl (fun h => o_n ?_) (fun h => rn ?_)) | (refine rl_qq rfl (fun h => o_n ?_) (fun h => rn ?_)) | (refine rl_nn rfl (fun h => o_n ?_) (fun h => rn ?_)) | (refine rl_mm rfl (fun h => o_n ?_) (fun h => rn ?_)))) | ((refine g_bin ?_; refine p_b ?_); refine rn ?_) | (refine g_call ?_; first | ((first | (refine p_l ?_)); refine rn ?_) | ((first | (refine t_appx rfl rfl hA rfl ?_)); clear hA; (try clear w); intro v w hA hone hnil; refine h_n hA ?_; clear hA; intro hA; refine rn ?_)) | ((refine g_conv ?_; first | (refine p_c hA ?_)); refine rn ?_) | ((refine g_load ?_; first | (refine t_loadx rfl hA ?_) | (refine t_loada rfl hA ?_)); refine rn ?_) | (refine g_store ?_; first | ((first | (refine t_storex rfl rfl hA ?_)); clear hA; (try clear w); intro w hA; refine h_n hA ?_; clear hA; intro hA; refine rn ?_) | ((first | (refine t_storea rfl rfl hA ?_)); clear hA; (try clear w); intro w hA; (try simp only [List.drop_zero, List.drop_nil, List.drop_succ_cons, List.take_succ_cons, List.take_zero, List.length_cons, List.length_nil, Nat.zero_add, Nat.reduceAdd] at hA); refine h_n hA ?_; clear hA; intro hA; refine rn ?_)) | (refine g_ow ?_; first | ((first | (refine p_o ?_)); refine rn ?_) | ((first | (refine t_alloc hA ?_) | (refine ow_box rfl rfl hA ?_) | (refine t_buildSlice rfl (by decide) rfl hA ?_)); clear hA; (try clear w); intro b w hA; refine h_n hA ?_; clear hA; intro hA; refine rn ?_) | ((first | (refine t_make rfl rfl (by omega) (by omega) hA ?_)); clear hA; (try clear w); intro v w hA hone hnil; refine rn ?_)) | (refine tq_normal ?_) | (refine bq_normal ?_) | (refine bq_hit ?_) | (refine bq_miss (by decide) ?_) | (refine tq_exit ?_) | (refine lq_exit ?_) | (refine tq_ret ?_) | (refine bq_ret ?_) | (refine lq_ret ?_))
  refine wc_region ?_
  refine' rl_v hA ?o7_0 ?k7_0
  case o7_0 => intro w hA; first | (refine t_loadx rfl hA ?_; exact ⟨pe, hA⟩) | (refine t_loada rfl hA ?_; exact ⟨pe, hA⟩)
  case' k7_0 => clear hA; intro w hA; refine rn ?_
  refine' rl_v hA ?o7_1 ?k7_1
  case o7_1 => intro w hA; first | (refine ow_call Tryd.call17 rfl ((mbCheck_ret (fewMb m) r1 v1 u1 false 0 2 _ _ _ hA (hm1.mono hE2) (hG1.mono hE2) (check_none _)).mono ?_); clear hA; rintro e w ⟨rfl, hA⟩; refine ⟨_, rfl, ?_⟩; exact ⟨put_eq (by rfl), hA⟩)
  case' k7_1 => clear hA; intro w hA; refine rn ?_
  refine' rl_v hA ?o7_2 ?k7_2
  case o7_2 => intro w hA; first | (refine ow_eql rfl rfl ?_; exact ⟨pe, hA⟩) | (refine ow_eqs rfl rfl ?_; exact ⟨pe, hA⟩) | (refine t_eqlb rfl rfl ?_; exact ⟨pe, hA⟩)
  case' k7_2 => clear hA; intro w hA; refine rn ?_
  refine' rl_v hA ?o7_3 ?k7_3
  case o7_3 => intro w hA; first | (refine ow_move_v rfl ?_; exact ⟨pe, hA⟩)
  case' k7_3 => clear hA; intro w hA; refine rn ?_
  first | refine' rl_T rfl hA ?o7_4 ?k7_4 | refine' rl_Tn rfl hA ?o7_4 ?k7_4
  case o7_4 => intro hg w hA; first | (refine t_loadx opr hA ?_; exact ⟨pe, hA⟩) | (refine t_loada opr hA ?_; exact ⟨pe, hA⟩)
  case' k7_4 => clear hA; intro w hA; refine rn ?_
  first | refine' rl_T rfl hA ?o7_5 ?k7_5 | refine' rl_Tn rfl hA ?o7_5 ?k7_5
  case o7_5 => intro hg w hA; first | (refine ow_call Tryd.call17 (evs3 opr opr opr) ((mbCheck_ret (fewMb m) r1 v1 u1 false 33 2 _ _ _ hA (hm1.mono hE2) (hG1.mono hE2) (check_many _)).mono ?_); clear hA; rintro e w ⟨rfl, hA⟩; refine ⟨_, rfl, ?_⟩; exact ⟨put_eq (by rfl), hA⟩)
  case' k7_5 => clear hA; intro w hA; refine rn ?_
  first | refine' rl_T rfl hA ?o7_6 ?k7_6 | refine' rl_Tn rfl hA ?o7_6 ?k7_6
  case o7_6 => intro hg w hA; first | (refine ow_eql opr opr ?_; exact ⟨pe, hA⟩) | (refine ow_eqs opr opr ?_; exact ⟨pe, hA⟩) | (refine t_eqlb opr opr ?_; exact ⟨pe, hA⟩)
  case' k7_6 => clear hA; intro w hA; refine rn ?_
  refine' rl_v hA ?o7_7 ?k7_7
  case o7_7 => intro w hA; first | (refine ow_and rfl (by first | rfl) rfl ?_; exact ⟨pe, hA⟩) | (refine ow_pick rfl rfl rfl ?_; exact ⟨pe, hA⟩)
  case' k7_7 => clear hA; intro w hA; refine rn ?_
  refine' rl_v hA ?o7_8 ?k7_8
  case o7_8 => intro w hA; first | (refine ow_move_v rfl ?_; exact ⟨pe, hA⟩)
  case' k7_8 => clear hA; intro w hA; refine rn ?_
  first | refine' rl_T rfl hA ?o7_9 ?k7_9 | refine' rl_Tn rfl hA ?o7_9 ?k7_9
  case o7_9 => intro hg w hA; first | (refine ow_call Tryd.call20 rfl ((awake13_calls _ _ _ hA (hG1.mono hE2)).mono ?_); clear hA; rintro e w ⟨rfl, hA⟩; refine ⟨_, rfl, ?_⟩; exact ⟨put_eq (by rfl), hA⟩)
  case' k7_9 => clear hA; intro w hA; refine rn ?_
  refine' rl_v hA ?o7_10 ?k7_10
  case o7_10 => intro w hA; first | (refine ow_and rfl (by first | rfl) rfl ?_; exact ⟨pe, hA⟩) | (refine ow_pick rfl rfl rfl ?_; exact ⟨pe, hA⟩)
  case' k7_10 => clear hA; intro w hA; refine rn ?_
  refine' rl_v hA ?o7_11 ?k7_11
  case o7_11 => intro w hA; first | (refine ow_assign_v rfl ?_; exact ⟨pe, hA⟩)
  case' k7_11 => clear hA; intro w hA; refine rn ?_
  refine rl_nil ?_
  refine tq_normal ?_
  refine wc_ret ?_
  exact ret1 ((hA.le (hE1.trans hE2)).tail) rfl rfl
end Go.Proofs.YteeeabnfgpolgaaDoor
