/-
  spindlekit.CopyMb, walked: its lists share no memory.
-/
import Derived.Test.YtomfoaaaeidpnaaDoorK4
import Derived.Test.YtomfoaaaeidpnaaDoorSlD
set_option linter.unusedVariables false
set_option linter.unusedSimpArgs false
namespace Go.Proofs.YtomfoaaaeidpnaaDoor
open Go Go.RowKit
attribute [local irreducible] WC RL OW bodyPostM ThenQ BlockQ LoopQ
theorem flat_map {α : Type} (f : α → List Value) : ∀ (css : List (List Value)) (xs : List α), css.length = xs.length → (∀ (i : Nat) c x, css[i]? = some c → xs[i]? = some x → c = f x) → css.flatten = xs.flatMap f := by
  intro css
  induction css with
  | nil => intro xs h _; rw [List.eq_nil_of_length_eq_zero h.symm]; rfl
  | cons c r ih =>
    intro xs h hh
    cases xs with
    | nil => cases h
    | cons x s =>
      rw [List.flatten_cons, List.flatMap_cons, hh 0 c x rfl rfl, ih s (Nat.succ.inj h) fun i c x hc hx => hh (i + 1) c x hc hx]
theorem CsE.vec_cells {E : Env} {cells : List Value} {xs : List Vec} (h : CsE vecR 2 E cells xs) : cells = xs.flatMap vecC := by
  obtain ⟨css, rfl, h2, h3, h4⟩ := h
  exact flat_map _ _ _ h2 fun i c x hc hx => (h4 i c x hc hx).1
theorem CsE.int_cells {E : Env} {cells : List Value} {xs : List Int} (h : CsE intR 1 E cells xs) : cells = xs.flatMap fun x => [vi x] := by
  obtain ⟨css, rfl, h2, h3, h4⟩ := h
  exact flat_map _ _ _ h2 fun i c x hc hx => (h4 i c x hc hx).1
def oneW : Env → Value → Prop := fun _ v => v.oneCell' = true
instance : PMono oneW := ⟨fun _ h => h⟩
set_option maxHeartbeats 4000000 in
theorem copyMb_apart (m : Mb) (r v b : Value) (E : Env) (L : List Item) (w : World) (hA : Sat E L w) (hm : MbL E m r v b) (hf : Fits m) :
    Calls Tryd.prog 18 ⟨[.agg ⟨mbC m r v b⟩]⟩ w (fun e w' => ∃ D D1 r' v' b', e = .returned (.agg ⟨mbC m r' v' b'⟩) ∧ E.Le D ∧ D.Le D1 ∧ ListE (listR intR 1) 1 (D.sub E) b' m.blocks ∧ ListE intR 1 (D1.sub D) r' m.refs ∧ v'.oneCell' = true ∧ Sat D1 (row 37 2 v' m.mvds.length (m.mvds.flatMap vecC) :: L) w') := by
  obtain ⟨cv, hcv, hsv⟩ := hm.mvds.cs
  have ecv := hcv.vec_cells
  have hf1 := hf.refs
  have hf2 := hf.mvds
  refine enter (fn := Tryd.f18) Tryd.func18 rfl 16 rfl [.agg ⟨mbC m r v b⟩, undef, undef, undef, undef, undef, undef, undef, undef, undef, undef, undef, undef, undef, undef, undef] rfl ?_
  repeat' (first | refine st ?_ | refine sr ?_ | refine sl hA ?_ | (refine s_w hA ?_; clear hA; (try clear w); intro w hA) | (refine s_v hA ?_; clear hA; (try clear w); intro v w hA hone hnil) | (refine s_b hA ?_; clear hA; (try clear w); intro b w hA) | refine sp (fun h => ?_) (fun h => ?_) | (refine wc_region ?_))
  refine' wc_mixI 10 [3, 4, 5, 6, 7, 8, 9, 10, 11, 12] [0, 1, 2, 3, 4, 5, 6, 7, 8, 9] (mixPhi [_, _, undef, _, _, undef, _, _, undef, _] (fun ix => match ix with | 2 => some (oneW) | 5 => some (oneW) | 8 => some (fun E1 v => ListE (listR intR 1) 1 (E1.sub E) v m.blocks) | _ => none)) (fun ix v => match ix with | 2 => (fun v => [row 3 1 v m.refs.length (m.refs.flatMap fun x => [vi x])]) v | 5 => (fun v => [row 37 2 v m.mvds.length (m.mvds.flatMap vecC)]) v | _ => []) rfl (by kernel_rfl) (by kernel_rfl) (by decide) hA ?phi1 ?ops1 ?k1
  case ops1 =>
    refine' TameOps.mi rfl [] (by decide) [] (by decide) ?o1_0 ?r1_0
    case o1_0 => intro yy E' Lx w lf hE hph hl hA; replace hl := hz hl; subst hl; (try simp only [List.flatMap_cons, List.flatMap_nil, List.nil_append, List.append_nil, List.cons_append] at hA ⊢); clear hph; first | (refine oq ?_; exact ⟨_, E', pe, Env.Le.refl _, mix_mk rfl rfl, hA⟩)
    refine' TameOps.mi rfl [0] (by decide) [3] (by decide) ?o1_1 ?r1_1
    case o1_1 => intro yy E' Lx w lf hE hph hl hA; have e0 := mn hph 0; simp only [List.map_cons, List.map_nil, ← e0] at hl; replace hl := hz hl; subst hl; (try simp only [List.flatMap_cons, List.flatMap_nil, List.nil_append, List.append_nil, List.cons_append] at hA ⊢); clear hph; first | (refine oq ?_; exact ⟨_, E', pe, Env.Le.refl _, mix_mk rfl rfl, hA⟩)
    refine' TameOps.mi rfl [1] (by decide) [4] (by decide) ?o1_2 ?r1_2
    case o1_2 => intro yy E' Lx w lf hE hph hl hA; have e1 := mn hph 1; simp only [List.map_cons, List.map_nil, ← e1] at hl; replace hl := hz hl; subst hl; (try simp only [List.flatMap_cons, List.flatMap_nil, List.nil_append, List.append_nil, List.cons_append] at hA ⊢); clear hph; refine ow_call Tryd.call43 rfl ((copyInts_own _ _ _ _ _ hA (hm.refs.mono hE) (by omega)).mono ?_); clear hA; rintro e w ⟨q, cl, rfl, hq, hc, hA⟩; rw [hc.int_cells] at hA; exact ⟨_, rfl, q, E', rfl, Env.Le.refl _, mix_mkP rfl hq, hA⟩
    refine' TameOps.mi rfl [] (by decide) [] (by decide) ?o1_3 ?r1_3
    case o1_3 => intro yy E' Lx w lf hE hph hl hA; replace hl := hz hl; subst hl; (try simp only [List.flatMap_cons, List.flatMap_nil, List.nil_append, List.append_nil, List.cons_append] at hA ⊢); clear hph; first | (refine oq ?_; exact ⟨_, E', pe, Env.Le.refl _, mix_mk rfl rfl, hA⟩)
    refine' TameOps.mi rfl [3] (by decide) [6] (by decide) ?o1_4 ?r1_4
    case o1_4 => intro yy E' Lx w lf hE hph hl hA; have e3 := mn hph 3; simp only [List.map_cons, List.map_nil, ← e3] at hl; replace hl := hz hl; subst hl; (try simp only [List.flatMap_cons, List.flatMap_nil, List.nil_append, List.append_nil, List.cons_append] at hA ⊢); clear hph; first | (refine oq ?_; exact ⟨_, E', pe, Env.Le.refl _, mix_mk rfl rfl, hA⟩)
    refine' TameOps.mi rfl [4, 2] (by decide) [7, 5] (by decide) ?o1_5 ?r1_5
    case o1_5 => intro yy E' Lx w lf hE hph hl hA; have e4 := mn hph 4; simp only [List.map_cons, List.map_nil, ← e4] at hl; replace hl := hz hl; subst hl; (try simp only [List.flatMap_cons, List.flatMap_nil, List.nil_append, List.append_nil, List.cons_append] at hA ⊢); have p2 := mp hph 2; generalize yy 2 = y2 at *; clear hph; refine t_append_nil (by decide) (by rfl) rfl rfl hA (hsv.mono hE) hcv.one (by unfold maxLen; omega) (by omega) ?_; clear hA; intro v' w hA h1; rw [ecv] at hA; exact ⟨v', E', rfl, Env.Le.refl _, mix_mkP rfl h1, hA⟩
    refine' TameOps.mi rfl [] (by decide) [] (by decide) ?o1_6 ?r1_6
    case o1_6 => intro yy E' Lx w lf hE hph hl hA; replace hl := hz hl; subst hl; (try simp only [List.flatMap_cons, List.flatMap_nil, List.nil_append, List.append_nil, List.cons_append] at hA ⊢); clear hph; first | (refine oq ?_; exact ⟨_, E', pe, Env.Le.refl _, mix_mk rfl rfl, hA⟩)
    refine' TameOps.mi rfl [6] (by decide) [9] (by decide) ?o1_7 ?r1_7
    case o1_7 => intro yy E' Lx w lf hE hph hl hA; have e6 := mn hph 6; simp only [List.map_cons, List.map_nil, ← e6] at hl; replace hl := hz hl; subst hl; (try simp only [List.flatMap_cons, List.flatMap_nil, List.nil_append, List.append_nil, List.cons_append] at hA ⊢); clear hph; first | (refine oq ?_; exact ⟨_, E', pe, Env.Le.refl _, mix_mk rfl rfl, hA⟩)
    refine' TameOps.mi rfl [7, 5] (by decide) [10, 8] (by decide) ?o1_8 ?r1_8
    case o1_8 => intro yy E' Lx w lf hE hph hl hA; have e7 := mn hph 7; simp only [List.map_cons, List.map_nil, ← e7] at hl; replace hl := hz hl; subst hl; (try simp only [List.flatMap_cons, List.flatMap_nil, List.nil_append, List.append_nil, List.cons_append] at hA ⊢); have p5 := mp hph 5; generalize yy 5 = y5 at *; clear hph; refine ow_call Tryd.call44 rfl ((copyBlocks_calls _ _ _ _ _ hA (hm.blocks.mono hE) hf.short hf.blocks).mono ?_); clear hA; rintro e w ⟨E2, q, rfl, hE2, hq, hA⟩; exact ⟨_, rfl, q, E2, rfl, hE2, mix_mkP rfl (hq.mono (Env.sub_right _ hE)), hA⟩
    refine' TameOps.mi rfl [0, 1, 2, 3, 4, 6, 7] (by decide) [3, 4, 5, 6, 7, 9, 10] (by decide) ?o1_9 ?r1_9
    case o1_9 => intro yy E' Lx w lf hE hph hl hA; have e0 := mn hph 0; have e1 := mn hph 1; have e3 := mn hph 3; have e4 := mn hph 4; have e6 := mn hph 6; have e7 := mn hph 7; simp only [List.map_cons, List.map_nil, ← e0, ← e1, ← e3, ← e4, ← e6, ← e7] at hl; replace hl := hz hl; subst hl; (try simp only [List.flatMap_cons, List.flatMap_nil, List.nil_append, List.append_nil, List.cons_append] at hA ⊢); have p2 := mp hph 2; generalize yy 2 = y2 at *; clear hph; first | (refine oq ?_; exact ⟨_, E', pe, Env.Le.refl _, mix_mk rfl rfl, hA⟩)
    exact TameOps.nil
  case phi1 => (refine mix_mono fun i p hp E1 E2 v hE h => ?_; split at hp <;> first | (cases hp; done) | (obtain rfl := Option.some.inj hp; first | exact ListE.mono h hE | exact ListE.mono h (Env.sub_left _ hE) | exact PMono.mono hE h | exact PMono.mono (Env.sub_left _ hE) h | exact h))
  case' k1 => (try clear hA); intro yy E' w lf hE hph hl hA; have e0 := mn hph 0; have e1 := mn hph 1; have e3 := mn hph 3; have e4 := mn hph 4; have e6 := mn hph 6; have e7 := mn hph 7; have e9 := mn hph 9; simp only [List.map_cons, List.map_nil, ← e0, ← e1, ← e3, ← e4, ← e6, ← e7, ← e9] at hl; replace hl := hz hl; subst hl; (try simp only [List.flatMap_cons, List.flatMap_nil, List.nil_append, List.append_nil, List.cons_append] at hA); have p2 := mp hph 2; generalize yy 2 = y2 at *; have p5 := mp hph 5; generalize yy 5 = y5 at *; have p8 := mp hph 8; generalize yy 8 = y8 at *; clear hph
  have o2 : y2.oneCell' = true := p2
  have o5 : y5.oneCell' = true := p5
  have o8 := p8.one
  repeat' (first | refine st ?_ | refine sr ?_ | refine sl hA ?_ | (refine s_w hA ?_; clear hA; (try clear w); intro w hA) | (refine s_v hA ?_; clear hA; (try clear w); intro v w hA hone hnil) | (refine s_b hA ?_; clear hA; (try clear w); intro b w hA) | refine sp (fun h => ?_) (fun h => ?_) | (refine wc_region ?_))
  obtain ⟨cr, hcr, hsr⟩ := hm.refs.cs
  have hcr2 : CsE intR 1 (E'.sub E') (m.refs.flatMap fun x => [vi x]) m.refs := by
    have := hcr.ints (E'.sub E')
    rwa [hcr.int_cells] at this
  obtain ⟨D1, hD1, hA1, hr⟩ := hA.freezeListS E' (Env.Le.refl _) hcr2
  exact fp_ret (resSole rfl (one_cell 1 rfl rfl hA1 rfl rfl)) ⟨E', D1, y2, y5, y8, rfl, hE, hD1, p8, hr, o5, hA1.sub (.cons_cons _ (.cons _ (.cons _ (List.Sublist.refl _))))⟩
/-- A copy, and the environments in which its parts were made. -/
structure Cp (E0 A D D1 : Env) (m : Mb) (y r q b : Value) : Prop where
  eq : y = .agg ⟨mbC m r q b⟩
  le0 : E0.Le A
  le1 : A.Le D
  le2 : D.Le D1
  blocks : ListE (listR intR 1) 1 (D.sub A) b m.blocks
  refs : ListE intR 1 (D1.sub D) r m.refs
  mvds : q.oneCell' = true
def mvOf (y : Value) : Value := match y with | .agg ⟨cs⟩ => cs.getD 24 undef | _ => undef
def cp1 (E0 : Env) (m : Mb) : Env → Value → Prop := fun E y => ∃ A D D1 r q b, Cp E0 A D D1 m y r q b ∧ D1.Le E
def cp2 (E0 : Env) (m : Mb) (y1 : Value) : Env → Value → Prop := fun E y => ∃ A D D1 r q b A' D' D1' r' q' b', Cp E0 A D D1 m y1 r q b ∧ D1.Le A' ∧ Cp E0 A' D' D1' m y r' q' b' ∧ D1'.Le E
instance {E0 m} : PMono (cp1 E0 m) := ⟨fun hE ⟨A, D, D1, r, q, b, h1, h2⟩ => ⟨A, D, D1, r, q, b, h1, h2.trans hE⟩⟩
instance {E0 m y} : PMono (cp2 E0 m y) := ⟨fun hE ⟨A, D, D1, r, q, b, A', D', D1', r', q', b', h1, h2, h3, h4⟩ => ⟨A, D, D1, r, q, b, A', D', D1', r', q', b', h1, h2, h3, h4.trans hE⟩⟩
end Go.Proofs.YtomfoaaaeidpnaaDoor
