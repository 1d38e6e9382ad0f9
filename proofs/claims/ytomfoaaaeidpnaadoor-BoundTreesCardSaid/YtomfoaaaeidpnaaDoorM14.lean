/-
  The reference's lists of errors, walked: motion.
-/
import Derived.Test.YtomfoaaaeidpnaaDoorM13
set_option linter.unusedVariables false
set_option linter.unusedSimpArgs false
namespace Go.Proofs.YtomfoaaaeidpnaaDoor
open Go Go.RowKit
attribute [local irreducible] WC RL OW bodyPostM ThenQ BlockQ LoopQ ScopeQ
theorem Sat.litRow {E : Env} {L : List Item} {w : World} {b n sz : Nat} {cs : List Value} {T : TypeId} (h : Sat E (cells b cs T :: L) w) (hl : cs.length = n * sz) (hn : n ≤ maxLen) : Sat E (row T sz (.slice (some ⟨b, 0, none⟩) n n) n cs :: L) w :=
  h.change rfl rfl rfl (Nat.le_refl _) (fun _ _ _ => rfl) ⟨hl, .inr ⟨b, n, ⟨cs⟩, rfl, Nat.zero_le _, h.at_ (i := 0) rfl, Nat.le_refl _, hn, hl, by rw [← hl]; exact List.take_length⟩⟩ (by simp [row, Value.ownBlock, cells, obj]) (by simp [row, Value.ownBlock])
theorem Sat.row_n {E : Env} {L : List Item} {w : World} {n : Nat} {v : Value} {xs : List Int} {T : TypeId} (h : Sat E (row T 1 v n (xs.map vi) :: L) w) : n = xs.length := by
  have hown : w.ownsRow 0 T 1 v n (xs.map vi) := h.at_ (i := 0) rfl
  have := hown.1
  rw [List.length_map] at this
  omega
theorem absE_I (b : Bool) : I64 (absE b) := by cases b <;> decide
theorem rngE_I (b : Bool) : I64 (rngE b) := by cases b <;> decide
theorem cse_vi {E : Env} {xs : List Int} (h : ∀ x ∈ xs, I64 x) : CsE intR 1 E (xs.map vi) xs := by
  induction xs with
  | nil => exact CsE.nil
  | cons x r ih => exact CsE.cons1 (cs := [vi x]) rfl ⟨rfl, h x (List.mem_cons_self ..)⟩ (ih fun y hy => h y (List.mem_cons_of_mem _ hy))
def motR (refs x : Int) : Int := rngE (decide (0 ≤ x) && decide (x ≤ refs - 1))
def motV (v : Vec) : Int := rngE ((decide (-8192 ≤ v.x) && decide (v.x ≤ 8192)) && (decide (-8192 ≤ v.y) && decide (v.y ≤ 8192)))
def motA (m : Mb) : Int := absE (decide ((m.refs.length : Int) = (partsN m.kind : Int)))
def motB (m : Mb) : Int := absE (decide ((m.mvds.length : Int) = ((piecesP m.kind m.sub).1 : Int)))
def motionL (m : Mb) (refs : Int) : List Int :=
  if (decide (3 ≤ m.kind.toNat) && decide (m.kind.toNat ≤ 6)) = true then [motA m] ++ m.refs.map (motR refs) ++ [motB m] ++ m.mvds.map motV
  else [absE (decide ((m.refs.length : Int) = 0)), absE (decide ((m.mvds.length : Int) = 0))]
theorem motionL_I (m : Mb) (refs : Int) : ∀ x ∈ motionL m refs, I64 x := by
  intro x hx
  unfold motionL at hx
  split at hx
  · simp only [List.mem_append, List.mem_singleton, List.mem_map] at hx
    rcases hx with ((rfl | ⟨y, _, rfl⟩) | rfl) | ⟨y, _, rfl⟩
    · exact absE_I _
    · exact rngE_I _
    · exact absE_I _
    · exact rngE_I _
  · simp only [List.mem_cons, List.not_mem_nil, or_false] at hx
    rcases hx with rfl | rfl <;> exact absE_I _
theorem motion_len (m : Mb) (refs : Int) : (motionL m refs).length ≤ m.refs.length + m.mvds.length + 2 := by
  unfold motionL
  split
  · simp only [List.length_append, List.length_map, List.length_singleton]; omega
  · simp only [List.length_cons, List.length_nil]; omega
set_option maxRecDepth 8000 in
set_option maxHeartbeats 8000000 in
theorem motion_calls (m : Mb) (r vv u : Value) (refs : Int) (E : Env) (L : List Item) (w : World) (hA : Sat E L w) (hm : MbL E m r vv u) (h0 : 0 ≤ refs ∧ refs ≤ 32) (hf : Fits m) :
    Calls Tryd.prog 136 ⟨[.agg ⟨mbC m r vv u⟩, vi refs]⟩ w (fun e w' => ∃ E' q, e = .returned q ∧ E.Le E' ∧ ListE intR 1 E' q (motionL m refs) ∧ Sat E' L w') := by
  have hf1 := hf.refs
  have hf2 := hf.mvds
  refine enter (fn := Tryd.f136) Tryd.func136 rfl 98 rfl [.agg ⟨mbC m r vv u⟩, vi refs, undef, undef, undef, undef, undef, undef, undef, undef, undef, undef, undef, undef, undef, undef, undef, undef, undef, undef, undef, undef, undef, undef, undef, undef, undef, undef, undef, undef, undef, undef, undef, undef, undef, undef, undef, undef, undef, undef, undef, undef, undef, undef, undef, undef, undef, undef, undef, undef, undef, undef, undef, undef, undef, undef, undef, undef, undef, undef, undef, undef, undef, undef, undef, undef, undef, undef, undef, undef, undef, undef, undef, undef, undef, undef, undef, undef, undef, undef, undef, undef, undef, undef, undef, undef, undef, undef, undef, undef, undef, undef, undef, undef, undef, undef, undef, undef] rfl ?_
  repeat' (first | refine st ?_ | refine sr ?_ | refine sl hA ?_ | (refine s_w hA ?_; clear hA; (try clear w); intro w hA) | (refine s_v hA ?_; clear hA; (try clear w); intro v w hA hone hnil) | (refine s_b hA ?_; clear hA; (try clear w); intro b w hA) | refine sp (fun h => ?_) (fun h => ?_) | (refine wc_regionS 1 rfl ?_; refine wc_region ?_))
  generalize hb0 : b = b0 at *
  clear hb0
  obtain ⟨E1, hE1, hA1, g1⟩ := hA.freezeCells
  have hmA : MbAt E1 b0 m r vv u := g1
  replace hm := hm.mono hE1
  have c0 : E1.cell? ⟨b0, 0, none⟩ = some (u8 m.kind) := hmA 0 _ rfl
  have c5 : E1.cell? ⟨b0, 23, none⟩ = some r := hmA 23 _ rfl
  have c6 : E1.cell? ⟨b0, 24, none⟩ = some vv := hmA 24 _ rfl
  have c4 := arr4_at hmA
  obtain ⟨x1, hs1⟩ := hm.refs.sl
  obtain ⟨x2, hs2⟩ := hm.mvds.sl
  have hA := hA1
  clear hA1 g1
  have hI := motionL_I m refs
  cases hk : (decide (3 ≤ m.kind.toNat) && decide (m.kind.toNat ≤ 6)) with
  | false =>
    rw [show motionL m refs = [absE (decide ((m.refs.length : Int) = 0)), absE (decide ((m.mvds.length : Int) = 0))] by unfold motionL; rw [hk]; rfl]
    repeat' (first | (refine g_ow ?_; refine t_load_env rfl rfl hA c0 ?_; refine rn ?_) | (refine g_callf 111 ?_; refine ow_call Tryd.call111 rfl ((inter_calls _ _ _ _ hA).mono ?_); clear hA; (try clear w); rintro e w ⟨rfl, hA⟩; refine ⟨_, rfl, ?_⟩; (try rw [hk]); refine rn ?_) | refine st ?_ | refine sr ?_ | refine sl hA ?_ | (refine s_w hA ?_; clear hA; (try clear w); intro w hA) | (refine s_v hA ?_; clear hA; (try clear w); intro v w hA hone hnil) | (refine s_b hA ?_; clear hA; (try clear w); intro b w hA) | refine sp (fun h => ?_) (fun h => ?_) | (refine wc_regionS 2 rfl ?_; refine wc_region ?_))
    refine' wc_mix 11 [14, 15, 16, 17, 18, 19, 20, 21, 22, 23, 24] [0, 1, 2, 3, 4, 5, 6, 7, 8, 9, 10] (mixPhi [_, _, _, _, _, _, _, _, _, _, undef] (fun ix => match ix with | 10 => some (fun E v => ListE intR 1 E v [absE (decide ((m.refs.length : Int) = 0)), absE (decide ((m.mvds.length : Int) = 0))]) | _ => none)) rfl (by kernel_rfl) (by kernel_rfl) (by decide) hA ?phi2 ?ops2 ?k2
    case ops2 =>
      refine' TameOps.m rfl [] (by decide) [] (by decide) ?o2_0 ?r2_0
      case o2_0 => intro yy E' Lx w lf hE hph hl hA; replace hl := hz hl; subst hl; clear hph; first | (refine oq ?_; exact ⟨_, E', pe, Env.Le.refl _, mix_mk rfl rfl, hA⟩)
      refine' TameOps.m rfl [0] (by decide) [14] (by decide) ?o2_1 ?r2_1
      case o2_1 => intro yy E' Lx w lf hE hph hl hA; have e0 := mn hph 0; simp only [List.map_cons, List.map_nil, ← e0] at hl; replace hl := hz hl; subst hl; clear hph; first | (refine t_load_env rfl rfl hA (hE.cell c5) ?_; exact ⟨_, E', pe, Env.Le.refl _, mix_mk rfl rfl, hA⟩) | (refine oq ?_; exact ⟨_, E', pe, Env.Le.refl _, mix_mk rfl rfl, hA⟩)
      refine' TameOps.m rfl [1] (by decide) [15] (by decide) ?o2_2 ?r2_2
      case o2_2 => intro yy E' Lx w lf hE hph hl hA; have e1 := mn hph 1; simp only [List.map_cons, List.map_nil, ← e1] at hl; replace hl := hz hl; subst hl; clear hph; first | (refine t_lenS rfl (hs1.mono hE) ?_; exact ⟨_, E', pe, Env.Le.refl _, mix_mk rfl rfl, hA⟩) | (refine oq ?_; exact ⟨_, E', pe, Env.Le.refl _, mix_mk rfl rfl, hA⟩) | (refine t_lenS rfl (by assumption) ?_; exact ⟨_, E', pe, Env.Le.refl _, mix_mk rfl rfl, hA⟩)
      refine' TameOps.m rfl [2] (by decide) [16] (by decide) ?o2_3 ?r2_3
      case o2_3 => intro yy E' Lx w lf hE hph hl hA; have e2 := mn hph 2; simp only [List.map_cons, List.map_nil, ← e2] at hl; replace hl := hz hl; subst hl; clear hph; first | (refine oq ?_; exact ⟨_, E', pe, Env.Le.refl _, mix_mk rfl rfl, hA⟩)
      refine' TameOps.m rfl [3] (by decide) [17] (by decide) ?o2_4 ?r2_4
      case o2_4 => intro yy E' Lx w lf hE hph hl hA; have e3 := mn hph 3; simp only [List.map_cons, List.map_nil, ← e3] at hl; replace hl := hz hl; subst hl; clear hph; first | (refine ow_call Tryd.call153 rfl ((abs_calls _ _ _ _ hA).mono ?_); clear hA; rintro e w ⟨rfl, hA⟩; refine ⟨_, rfl, ?_⟩; exact ⟨_, E', put_eq (by rfl), Env.Le.refl _, mix_mk rfl rfl, hA⟩)
      refine' TameOps.m rfl [] (by decide) [] (by decide) ?o2_5 ?r2_5
      case o2_5 => intro yy E' Lx w lf hE hph hl hA; replace hl := hz hl; subst hl; clear hph; first | (refine oq ?_; exact ⟨_, E', pe, Env.Le.refl _, mix_mk rfl rfl, hA⟩)
      refine' TameOps.m rfl [5] (by decide) [19] (by decide) ?o2_6 ?r2_6
      case o2_6 => intro yy E' Lx w lf hE hph hl hA; have e5 := mn hph 5; simp only [List.map_cons, List.map_nil, ← e5] at hl; replace hl := hz hl; subst hl; clear hph; first | (refine t_load_env rfl rfl hA (hE.cell c6) ?_; exact ⟨_, E', pe, Env.Le.refl _, mix_mk rfl rfl, hA⟩) | (refine oq ?_; exact ⟨_, E', pe, Env.Le.refl _, mix_mk rfl rfl, hA⟩)
      refine' TameOps.m rfl [6] (by decide) [20] (by decide) ?o2_7 ?r2_7
      case o2_7 => intro yy E' Lx w lf hE hph hl hA; have e6 := mn hph 6; simp only [List.map_cons, List.map_nil, ← e6] at hl; replace hl := hz hl; subst hl; clear hph; first | (refine t_lenS rfl (hs2.mono hE) ?_; exact ⟨_, E', pe, Env.Le.refl _, mix_mk rfl rfl, hA⟩) | (refine oq ?_; exact ⟨_, E', pe, Env.Le.refl _, mix_mk rfl rfl, hA⟩) | (refine t_lenS rfl (by assumption) ?_; exact ⟨_, E', pe, Env.Le.refl _, mix_mk rfl rfl, hA⟩)
      refine' TameOps.m rfl [7] (by decide) [21] (by decide) ?o2_8 ?r2_8
      case o2_8 => intro yy E' Lx w lf hE hph hl hA; have e7 := mn hph 7; simp only [List.map_cons, List.map_nil, ← e7] at hl; replace hl := hz hl; subst hl; clear hph; first | (refine oq ?_; exact ⟨_, E', pe, Env.Le.refl _, mix_mk rfl rfl, hA⟩)
      refine' TameOps.m rfl [8, 4] (by decide) [22, 18] (by decide) ?o2_9 ?r2_9
      case o2_9 => intro yy E' Lx w lf hE hph hl hA; have e8 := mn hph 8; have e4 := mn hph 4; simp only [List.map_cons, List.map_nil, ← e8, ← e4] at hl; replace hl := hz hl; subst hl; clear hph; first | (refine ow_call Tryd.call153 rfl ((abs_calls _ _ _ _ hA).mono ?_); clear hA; rintro e w ⟨rfl, hA⟩; refine ⟨_, rfl, ?_⟩; exact ⟨_, E', put_eq (by rfl), Env.Le.refl _, mix_mk rfl rfl, hA⟩)
      refine' TameOps.m rfl [4, 9] (by decide) [18, 23] (by decide) ?o2_10 ?r2_10
      case o2_10 => intro yy E' Lx w lf hE hph hl hA; have e4 := mn hph 4; have e9 := mn hph 9; simp only [List.map_cons, List.map_nil, ← e4, ← e9] at hl; replace hl := hz hl; subst hl; clear hph; refine t_buildSlice rfl (by decide) rfl hA ?_; clear hA; intro bb w hA; obtain ⟨E3, hE3, hA, hl⟩ := hA.freezeLitE (R := intR) (xs := [absE (decide ((m.refs.length : Int) = 0)), absE (decide ((m.mvds.length : Int) = 0))]) 0 rfl (CsE.cons1 (cs := [vi (absE (decide ((m.refs.length : Int) = 0)))]) rfl ⟨rfl, absE_I _⟩ (CsE.cons1 (cs := [vi (absE (decide ((m.mvds.length : Int) = 0)))]) rfl ⟨rfl, absE_I _⟩ (CsE.nil (R := intR) (sz := 1) (E := E')))) (Nat.le_of_ble_eq_true rfl); exact ⟨_, E3, rfl, hE3, mix_mkP rfl hl, hA⟩
      exact TameOps.nil
    case phi2 => (refine mix_mono fun i p hp E1 E2 v hE h => ?_; split at hp <;> first | (cases hp; done) | (obtain rfl := Option.some.inj hp; first | exact ListE.mono h hE | exact ListE.mono h (Env.sub_left _ hE) | exact PMono.mono hE h | exact PMono.mono (Env.sub_left _ hE) h | exact h))
    case' k2 => (try clear hA); intro yy E' w lf hE hph hl hA; have e0 := mn hph 0; have e1 := mn hph 1; have e2 := mn hph 2; have e3 := mn hph 3; have e4 := mn hph 4; have e5 := mn hph 5; have e6 := mn hph 6; have e7 := mn hph 7; have e8 := mn hph 8; have e9 := mn hph 9; simp only [List.map_cons, List.map_nil, ← e0, ← e1, ← e2, ← e3, ← e4, ← e5, ← e6, ← e7, ← e8, ← e9] at hl; replace hl := hz hl; subst hl; have p10 := mp hph 10; generalize yy 10 = y10 at *; clear hph
    repeat' (first | refine st ?_ | refine sr ?_ | refine sl hA ?_ | (refine s_w hA ?_; clear hA; (try clear w); intro w hA) | (refine s_v hA ?_; clear hA; (try clear w); intro v w hA hone hnil) | (refine s_b hA ?_; clear hA; (try clear w); intro b w hA) | refine sp (fun h => ?_) (fun h => ?_) | (refine wc_region ?_))
    exact fp_ret (res1 rfl rfl) ⟨E', _, rfl, hE1.trans hE, p10, hA⟩
  | true =>
    rw [show motionL m refs = [motA m] ++ m.refs.map (motR refs) ++ [motB m] ++ m.mvds.map motV by unfold motionL; rw [hk]; rfl] at hI ⊢
    repeat' (first | (refine g_ow ?_; refine t_load_env rfl rfl hA c0 ?_; refine rn ?_) | (refine g_callf 111 ?_; refine ow_call Tryd.call111 rfl ((inter_calls _ _ _ _ hA).mono ?_); clear hA; (try clear w); rintro e w ⟨rfl, hA⟩; refine ⟨_, rfl, ?_⟩; (try rw [hk]); refine rn ?_) | refine st ?_ | refine sr ?_ | refine sl hA ?_ | (refine s_w hA ?_; clear hA; (try clear w); intro w hA) | (refine s_v hA ?_; clear hA; (try clear w); intro v w hA hone hnil) | (refine s_b hA ?_; clear hA; (try clear w); intro b w hA) | refine sp (fun h => ?_) (fun h => ?_) | (refine wc_regionS 3 rfl ?_; refine wc_region ?_))
    refine' wc_mixI 9 [25, 26, 27, 28, 29, 30, 31, 32, 33] [0, 1, 2, 3, 4, 5, 6, 7, 8] (mixPhi [_, _, _, _, _, _, _, _, undef] (fun ix => match ix with | 8 => some (litV 1) | _ => none)) (fun ix v => match ix with | 8 => (fun v => [cells (sB v) [vi (motA m)] 65]) v | _ => []) rfl (by kernel_rfl) (by kernel_rfl) (by decide) hA ?phi3 ?ops3 ?k3
    case ops3 =>
      refine' TameOps.mi rfl [] (by decide) [] (by decide) ?o3_0 ?r3_0
      case o3_0 => intro yy E' Lx w lf hE hph hl hA; replace hl := hz hl; subst hl; (try simp only [List.flatMap_cons, List.flatMap_nil, List.nil_append, List.append_nil, List.cons_append] at hA ⊢); clear hph; first | (refine oq ?_; exact ⟨_, E', pe, Env.Le.refl _, mix_mk rfl rfl, hA⟩)
      refine' TameOps.mi rfl [0] (by decide) [25] (by decide) ?o3_1 ?r3_1
      case o3_1 => intro yy E' Lx w lf hE hph hl hA; have e0 := mn hph 0; simp only [List.map_cons, List.map_nil, ← e0] at hl; replace hl := hz hl; subst hl; (try simp only [List.flatMap_cons, List.flatMap_nil, List.nil_append, List.append_nil, List.cons_append] at hA ⊢); clear hph; first | (refine t_load_env rfl rfl hA (hE.cell c5) ?_; exact ⟨_, E', pe, Env.Le.refl _, mix_mk rfl rfl, hA⟩) | (refine oq ?_; exact ⟨_, E', pe, Env.Le.refl _, mix_mk rfl rfl, hA⟩)
      refine' TameOps.mi rfl [1] (by decide) [26] (by decide) ?o3_2 ?r3_2
      case o3_2 => intro yy E' Lx w lf hE hph hl hA; have e1 := mn hph 1; simp only [List.map_cons, List.map_nil, ← e1] at hl; replace hl := hz hl; subst hl; (try simp only [List.flatMap_cons, List.flatMap_nil, List.nil_append, List.append_nil, List.cons_append] at hA ⊢); clear hph; first | (refine t_lenS rfl (hs1.mono hE) ?_; exact ⟨_, E', pe, Env.Le.refl _, mix_mk rfl rfl, hA⟩) | (refine oq ?_; exact ⟨_, E', pe, Env.Le.refl _, mix_mk rfl rfl, hA⟩) | (refine t_lenS rfl (by assumption) ?_; exact ⟨_, E', pe, Env.Le.refl _, mix_mk rfl rfl, hA⟩)
      refine' TameOps.mi rfl [] (by decide) [] (by decide) ?o3_3 ?r3_3
      case o3_3 => intro yy E' Lx w lf hE hph hl hA; replace hl := hz hl; subst hl; (try simp only [List.flatMap_cons, List.flatMap_nil, List.nil_append, List.append_nil, List.cons_append] at hA ⊢); clear hph; first | (refine oq ?_; exact ⟨_, E', pe, Env.Le.refl _, mix_mk rfl rfl, hA⟩)
      refine' TameOps.mi rfl [3] (by decide) [28] (by decide) ?o3_4 ?r3_4
      case o3_4 => intro yy E' Lx w lf hE hph hl hA; have e3 := mn hph 3; simp only [List.map_cons, List.map_nil, ← e3] at hl; replace hl := hz hl; subst hl; (try simp only [List.flatMap_cons, List.flatMap_nil, List.nil_append, List.append_nil, List.cons_append] at hA ⊢); clear hph; first | (refine t_load_env rfl rfl hA (hE.cell c0) ?_; exact ⟨_, E', pe, Env.Le.refl _, mix_mk rfl rfl, hA⟩) | (refine oq ?_; exact ⟨_, E', pe, Env.Le.refl _, mix_mk rfl rfl, hA⟩)
      refine' TameOps.mi rfl [4] (by decide) [29] (by decide) ?o3_5 ?r3_5
      case o3_5 => intro yy E' Lx w lf hE hph hl hA; have e4 := mn hph 4; simp only [List.map_cons, List.map_nil, ← e4] at hl; replace hl := hz hl; subst hl; (try simp only [List.flatMap_cons, List.flatMap_nil, List.nil_append, List.append_nil, List.cons_append] at hA ⊢); clear hph; first | (refine ow_call Tryd.call110 rfl ((refParts_calls _ _ _ _ hA).mono ?_); clear hA; rintro e w ⟨rfl, hA⟩; refine ⟨_, rfl, ?_⟩; exact ⟨_, E', put_eq (by rfl), Env.Le.refl _, mix_mk rfl rfl, hA⟩)
      refine' TameOps.mi rfl [2, 5] (by decide) [27, 30] (by decide) ?o3_6 ?r3_6
      case o3_6 => intro yy E' Lx w lf hE hph hl hA; have e2 := mn hph 2; have e5 := mn hph 5; simp only [List.map_cons, List.map_nil, ← e2, ← e5] at hl; replace hl := hz hl; subst hl; (try simp only [List.flatMap_cons, List.flatMap_nil, List.nil_append, List.append_nil, List.cons_append] at hA ⊢); clear hph; first | (refine oq ?_; exact ⟨_, E', pe, Env.Le.refl _, mix_mk rfl rfl, hA⟩)
      refine' TameOps.mi rfl [6, 5] (by decide) [31, 30] (by decide) ?o3_7 ?r3_7
      case o3_7 => intro yy E' Lx w lf hE hph hl hA; have e6 := mn hph 6; have e5 := mn hph 5; simp only [List.map_cons, List.map_nil, ← e6, ← e5] at hl; replace hl := hz hl; subst hl; (try simp only [List.flatMap_cons, List.flatMap_nil, List.nil_append, List.append_nil, List.cons_append] at hA ⊢); clear hph; first | (refine ow_call Tryd.call153 rfl ((abs_calls _ _ _ _ hA).mono ?_); clear hA; rintro e w ⟨rfl, hA⟩; refine ⟨_, rfl, ?_⟩; exact ⟨_, E', put_eq (by rfl), Env.Le.refl _, mix_mk rfl rfl, hA⟩)
      refine' TameOps.mi rfl [7] (by decide) [32] (by decide) ?o3_8 ?r3_8
      case o3_8 => intro yy E' Lx w lf hE hph hl hA; have e7 := mn hph 7; simp only [List.map_cons, List.map_nil, ← e7] at hl; replace hl := hz hl; subst hl; (try simp only [List.flatMap_cons, List.flatMap_nil, List.nil_append, List.append_nil, List.cons_append] at hA ⊢); clear hph; refine t_buildSlice rfl (by decide) rfl hA ?_; clear hA; intro bb w hA; exact ⟨_, E', rfl, Env.Le.refl _, mix_mkP rfl ⟨bb, rfl⟩, hA⟩
      exact TameOps.nil
    case phi3 => (refine mix_mono fun i p hp E1 E2 v hE h => ?_; split at hp <;> first | (cases hp; done) | (obtain rfl := Option.some.inj hp; first | exact ListE.mono h hE | exact ListE.mono h (Env.sub_left _ hE) | exact PMono.mono hE h | exact PMono.mono (Env.sub_left _ hE) h | exact h))
    case' k3 => (try clear hA); intro yy E' w lf hE hph hl hA; have e0 := mn hph 0; have e1 := mn hph 1; have e2 := mn hph 2; have e3 := mn hph 3; have e4 := mn hph 4; have e5 := mn hph 5; have e6 := mn hph 6; have e7 := mn hph 7; simp only [List.map_cons, List.map_nil, ← e0, ← e1, ← e2, ← e3, ← e4, ← e5, ← e6, ← e7] at hl; replace hl := hz hl; subst hl; (try simp only [List.flatMap_cons, List.flatMap_nil, List.nil_append, List.append_nil, List.cons_append] at hA); have p8 := mp hph 8; generalize yy 8 = y8 at *; clear hph
    clear e0 e1 e2 e3 e4 e5 e6 e7
    obtain ⟨bq, rfl⟩ := p8
    have hA := hA.litRow (n := 1) (sz := 1) rfl (by decide)
    have hE2 := hE1.trans hE
    replace hm := hm.mono hE
    replace c0 := hE.cell c0
    replace c5 := hE.cell c5
    replace c6 := hE.cell c6
    replace hs1 := hs1.mono hE
    replace hs2 := hs2.mono hE
    have c4' : ∀ j z, (arr4 m.sub)[j]? = some z → E'.cell? ⟨b0, 19 + j, none⟩ = some z := fun j z hz => hE.cell (c4 j z hz)
    clear hE c4 hmA
    repeat' (first | refine st ?_ | refine sr ?_ | refine sl hA ?_ | (refine s_w hA ?_; clear hA; (try clear w); intro w hA) | (refine s_v hA ?_; clear hA; (try clear w); intro v w hA hone hnil) | (refine s_b hA ?_; clear hA; (try clear w); intro b w hA) | refine sp (fun h => ?_) (fun h => ?_) | (refine wc_region ?_))
    refine wc_loopn (fun k l w => ∃ (i n : Nat) (q : Value), (∃ jk : Nat → Value, l = [jk 0, vi refs, .pointer (some ⟨b0, 0, none⟩), jk 3, jk 4, q, .int .i64 (i : Int), jk 7, jk 8, jk 9, jk 10, jk 11, jk 12, jk 13, jk 14, jk 15, jk 16, jk 17, jk 18, jk 19, jk 20, jk 21, jk 22, jk 23, jk 24, jk 25, jk 26, jk 27, jk 28, jk 29, jk 30, jk 31, jk 32, jk 33, jk 34, jk 35, jk 36, jk 37, jk 38, jk 39, jk 40, jk 41, jk 42, jk 43, jk 44, jk 45, jk 46, jk 47, jk 48, jk 49, jk 50, jk 51, jk 52, jk 53, jk 54, jk 55, jk 56, jk 57, jk 58, jk 59, jk 60, jk 61, jk 62, jk 63, jk 64, jk 65, jk 66, jk 67, jk 68, jk 69, jk 70, jk 71, jk 72, jk 73, jk 74, jk 75, jk 76, jk 77, jk 78, jk 79, jk 80, jk 81, jk 82, jk 83, jk 84, jk 85, jk 86, jk 87, jk 88, jk 89, jk 90, jk 91, jk 92, jk 93, jk 94, jk 95, jk 96, jk 97]) ∧ i + k = m.refs.length ∧ n = 1 + i ∧ q.oneCell' = true ∧ Sat E' (row 65 1 q n (([motA m] ++ (m.refs.take i).map (motR refs)).map vi) :: L) w) m.refs.length ⟨0, 1, _, (ex_getD rfl), by omega, rfl, rfl, hA⟩ ?_
    clear hA
    rintro k l w ⟨i, n, q, ⟨jk, rfl⟩, hi, hn, hone, hA⟩
    by_cases hlt : i < m.refs.length
    · obtain ⟨x, hxi⟩ : ∃ x, m.refs[i]? = some x := ⟨_, List.getElem?_eq_getElem hlt⟩
      obtain ⟨cs, hcsl, ⟨rfl, h64⟩, hg⟩ := hm.refs.get hxi
      have px : E'.cell? ⟨sB r, sO r + (i : Int).toNat * 1, none⟩ = some (vi x) := by rw [Int.toNat_natCast]; exact hg 0 _ rfl
      have hts : m.refs.take (i + 1) = m.refs.take i ++ [x] := by rw [List.take_add_one, hxi]; rfl
      repeat' (first | (refine g_ow ?_; refine t_load_env rfl rfl hA c5 ?_; refine rn ?_) | (refine g_call ?_; refine t_lenS rfl hs1 ?_; refine rn ?_) | (refine g_ow ?_; refine t_indexAddrS rfl hs1 rfl (by omega) ?_; refine rn ?_) | (refine g_ow ?_; refine t_load_env rfl rfl hA px ?_; refine rn ?_) | (refine g_callf 133 ?_; refine ow_call Tryd.call133 rfl ((within_calls _ _ _ _ _ _ hA).mono ?_); clear hA; (try clear w); rintro e w ⟨rfl, hA⟩; refine ⟨_, rfl, ?_⟩; refine rn ?_) | (refine g_callf 152 ?_; refine ow_call Tryd.call152 rfl ((rng_calls _ _ _ _ hA).mono ?_); clear hA; (try clear w); rintro e w ⟨rfl, hA⟩; refine ⟨_, rfl, ?_⟩; refine rn ?_) | refine st ?_ | refine sr ?_ | refine sl hA ?_ | (refine s_w hA ?_; clear hA; (try clear w); intro w hA) | (refine s_v hA ?_; clear hA; (try clear w); intro v w hA hone hnil) | (refine s_b hA ?_; clear hA; (try clear w); intro b w hA) | refine sp (fun h => ?_) (fun h => ?_) | (refine wc_region ?_))
      refine lq_next (k - 1) (by omega) ⟨i + 1, n + 1, _, (ex_getD rfl), by omega, by omega, by assumption, ?_⟩
      simp only [hts, List.map_append, List.map_cons, List.map_nil, motR, List.cons_append, List.nil_append, List.append_assoc] at hA ⊢
      exact hA
    have hii : i = m.refs.length := by omega
    subst hii
    rw [List.take_of_length_le (Nat.le_refl _)] at hA
    repeat' (first | (refine g_ow ?_; refine t_load_env rfl rfl hA c5 ?_; refine rn ?_) | (refine g_call ?_; refine t_lenS rfl hs1 ?_; refine rn ?_) | refine st ?_ | refine sr ?_ | refine sl hA ?_ | (refine s_w hA ?_; clear hA; (try clear w); intro w hA) | (refine s_v hA ?_; clear hA; (try clear w); intro v w hA hone hnil) | (refine s_b hA ?_; clear hA; (try clear w); intro b w hA) | refine sp (fun h => ?_) (fun h => ?_) | (refine wc_regionS 8 rfl ?_; refine wc_region ?_))
    obtain ⟨pl, hpl⟩ : ∃ pl, [motA m] ++ m.refs.map (motR refs) = pl := ⟨_, rfl⟩
    rw [hpl] at hA hI ⊢
    repeat' (first | (refine g_ow ?_; refine t_load_env rfl rfl hA c0 ?_; refine rn ?_) | (refine g_ow ?_; refine t_load_agg_env rfl rfl hA c4' rfl ?_; refine rn ?_) | (refine g_callf 112 ?_; refine ow_call Tryd.call112 rfl ((refPieces_calls _ _ _ m.kind m.sub hA).mono ?_); clear hA; (try clear w); rintro e w ⟨rfl, hA⟩; refine ⟨_, rfl, ?_⟩; refine rn ?_) | (refine g_ow ?_; refine t_load_env rfl rfl hA c6 ?_; refine rn ?_) | (refine g_call ?_; refine t_lenS rfl hs2 ?_; refine rn ?_) | (refine g_callf 153 ?_; refine ow_call Tryd.call153 rfl ((abs_calls _ _ _ _ hA).mono ?_); clear hA; (try clear w); rintro e w ⟨rfl, hA⟩; refine ⟨_, rfl, ?_⟩; refine rn ?_) | refine st ?_ | refine sr ?_ | refine sl hA ?_ | (refine s_w hA ?_; clear hA; (try clear w); intro w hA) | (refine s_v hA ?_; clear hA; (try clear w); intro v w hA hone hnil) | (refine s_b hA ?_; clear hA; (try clear w); intro b w hA) | refine sp (fun h => ?_) (fun h => ?_) | (refine wc_region ?_))
    have hA : Sat E' (row 65 1 v (n + 1) ((pl ++ [motB m]).map vi) :: L) w := by
      rw [List.map_append]; exact hA
    obtain ⟨pl2, hpl2⟩ : ∃ pl2, pl ++ [motB m] = pl2 := ⟨_, rfl⟩
    rw [hpl2] at hA hI ⊢
    clear hi hlt hpl hpl2
    refine wc_loopn (fun k l w => ∃ (i n : Nat) (q : Value), (∃ jk : Nat → Value, l = [jk 0, vi refs, .pointer (some ⟨b0, 0, none⟩), jk 3, jk 4, q, jk 6, jk 7, jk 8, .int .i64 (i : Int), jk 10, jk 11, jk 12, jk 13, jk 14, jk 15, jk 16, jk 17, jk 18, jk 19, jk 20, jk 21, jk 22, jk 23, jk 24, jk 25, jk 26, jk 27, jk 28, jk 29, jk 30, jk 31, jk 32, jk 33, jk 34, jk 35, jk 36, jk 37, jk 38, jk 39, jk 40, jk 41, jk 42, jk 43, jk 44, jk 45, jk 46, jk 47, jk 48, jk 49, jk 50, jk 51, jk 52, jk 53, jk 54, jk 55, jk 56, jk 57, jk 58, jk 59, jk 60, jk 61, jk 62, jk 63, jk 64, jk 65, jk 66, jk 67, jk 68, jk 69, jk 70, jk 71, jk 72, jk 73, jk 74, jk 75, jk 76, jk 77, jk 78, jk 79, jk 80, jk 81, jk 82, jk 83, jk 84, jk 85, jk 86, jk 87, jk 88, jk 89, jk 90, jk 91, jk 92, jk 93, jk 94, jk 95, jk 96, jk 97]) ∧ i + k = m.mvds.length ∧ n = 2 + m.refs.length + i ∧ q.oneCell' = true ∧ Sat E' (row 65 1 q n ((pl2 ++ (m.mvds.take i).map motV).map vi) :: L) w) m.mvds.length ⟨0, n + 1, v, (ex_getD rfl), by omega, by omega, by assumption, by rw [show (m.mvds.take 0).map motV = [] from rfl, List.append_nil]; exact hA⟩ ?_
    clear hA hn hone
    rintro k l w ⟨i, n, q, ⟨jk, rfl⟩, hi, hn, hone, hA⟩
    by_cases hlt : i < m.mvds.length
    · obtain ⟨x, hxi⟩ : ∃ x, m.mvds[i]? = some x := ⟨_, List.getElem?_eq_getElem hlt⟩
      obtain ⟨cs, hcsl, ⟨rfl, h64⟩, hg⟩ := hm.mvds.get hxi
      have px : E'.cell? ⟨sB vv, sO vv + (i : Int).toNat * 2, none⟩ = some (vi x.x) := by rw [Int.toNat_natCast]; exact hg 0 _ rfl
      have py : E'.cell? ⟨sB vv, sO vv + (i : Int).toNat * 2 + 1, none⟩ = some (vi x.y) := by rw [Int.toNat_natCast]; exact hg 1 _ rfl
      have hts : m.mvds.take (i + 1) = m.mvds.take i ++ [x] := by rw [List.take_add_one, hxi]; rfl
      repeat' (first | (refine g_ow ?_; refine t_load_env rfl rfl hA c6 ?_; refine rn ?_) | (refine g_call ?_; refine t_lenS rfl hs2 ?_; refine rn ?_) | refine st ?_ | refine sr ?_ | refine sl hA ?_ | (refine s_w hA ?_; clear hA; (try clear w); intro w hA) | (refine s_v hA ?_; clear hA; (try clear w); intro v w hA hone hnil) | (refine s_b hA ?_; clear hA; (try clear w); intro b w hA) | refine sp (fun h => ?_) (fun h => ?_) | (refine wc_regionS 13 rfl ?_; refine wc_region ?_))
      refine wc_region ?_
      refine rv hA ?_; clear hA; intro w hA
      refine rv hA ?_; clear hA; intro w hA
      refine' rl_v hA ?o13xto18_2 ?k13xto18_2
      case o13xto18_2 => intro w hA; first | (refine t_load_env rfl rfl hA c6 ?_; exact ⟨pe, hA⟩) | (refine t_load_env rfl rfl hA px ?_; exact ⟨pe, hA⟩) | (refine t_load_env rfl rfl hA py ?_; exact ⟨pe, hA⟩) | (refine oq ?_; exact ⟨pe, hA⟩)
      clear hA; intro w hA; refine rn ?_
      refine rv hA ?_; clear hA; intro w hA
      refine' rl_v hA ?o13xto18_4 ?k13xto18_4
      case o13xto18_4 => intro w hA; first | (refine t_indexAddrS rfl hs2 rfl (by omega) ?_; exact ⟨pe, hA⟩) | (refine oq ?_; exact ⟨pe, hA⟩) | (refine t_indexAddrS rfl rfl (by omega) ?_; exact ⟨pe, hA⟩)
      clear hA; intro w hA; refine rn ?_
      refine rv hA ?_; clear hA; intro w hA
      refine' rl_v hA ?o13xto18_6 ?k13xto18_6
      case o13xto18_6 => intro w hA; first | (refine t_load_env rfl rfl hA c6 ?_; exact ⟨pe, hA⟩) | (refine t_load_env rfl rfl hA px ?_; exact ⟨pe, hA⟩) | (refine t_load_env rfl rfl hA py ?_; exact ⟨pe, hA⟩) | (refine oq ?_; exact ⟨pe, hA⟩)
      clear hA; intro w hA; refine rn ?_
      refine' rl_v hA ?o13xto18_7 ?k13xto18_7
      case o13xto18_7 => intro w hA; first | (refine ow_call Tryd.call133 rfl ((within_calls _ _ _ _ _ _ hA).mono ?_); clear hA; rintro e w ⟨rfl, hA⟩; refine ⟨_, rfl, ?_⟩; exact ⟨put_eq (by rfl), hA⟩)
      clear hA; intro w hA; refine rn ?_
      refine rv hA ?_; clear hA; intro w hA
      refine rt hA ?_; clear hA; intro w hA
      first | refine' rl_T rfl hA ?o13xto18_10 ?k13xto18_10 | refine' rl_Tn rfl hA ?o13xto18_10 ?k13xto18_10
      case o13xto18_10 => intro hg w hA; first | (refine t_load_env rfl opr hA c6 ?_; exact ⟨pe, hA⟩) | (refine t_load_env rfl opr hA px ?_; exact ⟨pe, hA⟩) | (refine t_load_env rfl opr hA py ?_; exact ⟨pe, hA⟩) | (refine oqg ?_; exact ⟨pe, hA⟩)
      clear hA; intro w hA; refine rn ?_
      refine rt hA ?_; clear hA; intro w hA
      first | refine' rl_T rfl hA ?o13xto18_12 ?k13xto18_12 | refine' rl_Tn rfl hA ?o13xto18_12 ?k13xto18_12
      case o13xto18_12 => intro hg w hA; first | (refine t_indexAddrS opr hs2 opr (by omega) ?_; exact ⟨pe, hA⟩) | (refine oqg ?_; exact ⟨pe, hA⟩) | (refine t_indexAddrS opr opr (by omega) ?_; exact ⟨pe, hA⟩)
      clear hA; intro w hA; refine rn ?_
      refine rt hA ?_; clear hA; intro w hA
      first | refine' rl_T rfl hA ?o13xto18_14 ?k13xto18_14 | refine' rl_Tn rfl hA ?o13xto18_14 ?k13xto18_14
      case o13xto18_14 => intro hg w hA; first | (refine t_load_env rfl opr hA c6 ?_; exact ⟨pe, hA⟩) | (refine t_load_env rfl opr hA px ?_; exact ⟨pe, hA⟩) | (refine t_load_env rfl opr hA py ?_; exact ⟨pe, hA⟩) | (refine oqg ?_; exact ⟨pe, hA⟩)
      clear hA; intro w hA; refine rn ?_
      first | refine' rl_T rfl hA ?o13xto18_15 ?k13xto18_15 | refine' rl_Tn rfl hA ?o13xto18_15 ?k13xto18_15
      case o13xto18_15 => intro hg w hA; first | (refine ow_call Tryd.call133 (evs3 opr opr opr) ((within_calls _ _ _ _ _ _ hA).mono ?_); clear hA; rintro e w ⟨rfl, hA⟩; refine ⟨_, rfl, ?_⟩; exact ⟨put_eq (by rfl), hA⟩)
      clear hA; intro w hA; refine rn ?_
      refine rv hA ?_; clear hA; intro w hA
      refine' rl_v hA ?o13xto18_17 ?k13xto18_17
      case o13xto18_17 => intro w hA; first | (refine ow_call Tryd.call152 rfl ((rng_calls _ _ _ _ hA).mono ?_); clear hA; rintro e w ⟨rfl, hA⟩; refine ⟨_, rfl, ?_⟩; exact ⟨put_eq (by rfl), hA⟩)
      clear hA; intro w hA; refine rn ?_
      repeat' (first | refine st ?_ | refine sr ?_ | refine sl hA ?_ | (refine s_w hA ?_; clear hA; (try clear w); intro w hA) | (refine s_v hA ?_; clear hA; (try clear w); intro v w hA hone hnil) | (refine s_b hA ?_; clear hA; (try clear w); intro b w hA) | refine sp (fun h => ?_) (fun h => ?_) | (refine wc_region ?_))
      refine lq_next (k - 1) (by omega) ⟨i + 1, n + 1, _, (ex_getD rfl), by omega, by omega, by assumption, ?_⟩
      simp only [hts, List.map_append, List.map_cons, List.map_nil, motV, List.cons_append, List.nil_append, List.append_assoc] at hA ⊢
      exact hA
    have hii : i = m.mvds.length := by omega
    subst hii
    rw [List.take_of_length_le (Nat.le_refl _)] at hA
    repeat' (first | (refine g_ow ?_; refine t_load_env rfl rfl hA c6 ?_; refine rn ?_) | (refine g_call ?_; refine t_lenS rfl hs2 ?_; refine rn ?_) | refine st ?_ | refine sr ?_ | refine sl hA ?_ | (refine s_w hA ?_; clear hA; (try clear w); intro w hA) | (refine s_v hA ?_; clear hA; (try clear w); intro v w hA hone hnil) | (refine s_b hA ?_; clear hA; (try clear w); intro b w hA) | refine sp (fun h => ?_) (fun h => ?_) | (refine wc_region ?_))
    obtain ⟨E3, hE3, hA, hl⟩ := (show Sat E' (row 65 1 q (pl2 ++ m.mvds.map motV).length ((pl2 ++ m.mvds.map motV).map vi) :: L) w from by
      have := hA.row_n
      rw [← this]; exact hA).freezeList (cse_vi hI)
    exact fp_ret (res1 rfl rfl) ⟨E3, _, rfl, hE2.trans hE3, hl, hA⟩
end Go.Proofs.YtomfoaaaeidpnaaDoor
