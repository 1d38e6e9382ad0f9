/-
  spindlekit's copies: CopyInts, CopyBlocks, CopyMb, walked.
-/
import Derived.Test.YtomfoaaaeidpnaaDoorK3
import Derived.Test.YtomfoaaaeidpnaaDoorSlH
set_option linter.unusedVariables false
set_option linter.unusedSimpArgs false
namespace Go.Proofs.YtomfoaaaeidpnaaDoor
open Go Go.RowKit
attribute [local irreducible] WC RL OW bodyPostM ThenQ BlockQ LoopQ
/-- What a copy is: a row of the call's own. -/
abbrev OwnR {α : Type} (R : Rd α) (sz T : Nat) (F E : Env) (L : List Item) (xs : List α) : Ending → World → Prop :=
  fun e w' => ∃ v cells, e = .returned v ∧ v.oneCell' = true ∧ CsE R sz F cells xs ∧ Sat E (row T sz v xs.length cells :: L) w'
theorem CsE.vecs {E E' : Env} {cells : List Value} {xs : List Vec} (h : CsE vecR 2 E cells xs) : CsE vecR 2 E' cells xs := h.env fun _ _ h => h
theorem copyInts_own (v : Value) (xs : List Int) (E : Env) (L : List Item) (w : World) (hA : Sat E L w) (hx : ListE intR 1 E v xs) (hb : xs.length ≤ 17592186044416) :
    Calls Tryd.prog 43 ⟨[v]⟩ w (OwnR intR 1 3 (E.sub E) E L xs) := by
  obtain ⟨cells, hc, hs⟩ := hx.cs
  refine enter (fn := Tryd.f43) Tryd.func43 rfl 5 rfl [v, undef, undef, undef, undef] rfl ?_
  repeat' (first | (refine g_call ?_; refine t_append_nil (by decide) (by rfl) rfl rfl hA hs hc.one (by unfold maxLen; omega) (by omega) ?_; clear hA; intro v' w hA h1; refine rn ?_) | refine st ?_ | refine sr ?_ | refine sl hA ?_ | (refine s_w hA ?_; clear hA; (try clear w); intro w hA) | (refine s_v hA ?_; clear hA; (try clear w); intro v w hA hone hnil) | (refine s_b hA ?_; clear hA; (try clear w); intro b w hA) | refine sp (fun h => ?_) (fun h => ?_) | (refine wc_region ?_))
  exact fp_ret (res1 rfl rfl) ⟨v', cells, rfl, h1, hc.ints _, hA⟩
theorem copyInts_calls (v : Value) (xs : List Int) (E : Env) (L : List Item) (w : World) (hA : Sat E L w) (hx : ListE intR 1 E v xs) (hb : xs.length ≤ 17592186044416) :
    Calls Tryd.prog 43 ⟨[v]⟩ w (fun e w' => ∃ E' v', e = .returned v' ∧ E.Le E' ∧ ListE intR 1 (E'.sub E) v' xs ∧ Sat E' L w') :=
  (copyInts_own v xs E L w hA hx hb).mono fun e w' ⟨v', cells, he, h1, hc, hS⟩ => by
    obtain ⟨E', h2, h3, h4⟩ := hS.freezeListS E (Env.Le.refl _) hc
    exact ⟨E', v', he, h2, h4, h3⟩
/-- The blocks of a list are short enough to be copied. -/
abbrev Short (bs : List (List Int)) : Prop := ∀ b ∈ bs, b.length ≤ 17592186044416
set_option maxHeartbeats 2000000 in
theorem copyBlocks_own (v : Value) (bs : List (List Int)) (E : Env) (L : List Item) (w : World) (hA : Sat E L w) (hx : ListE (listR intR 1) 1 E v bs) (hb : Short bs) (hn : bs.length ≤ 1000000) :
    Calls Tryd.prog 44 ⟨[v]⟩ w (fun e w' => ∃ E', E.Le E' ∧ OwnR (listR intR 1) 1 24 (E'.sub E) E' L bs e w') := by
  obtain ⟨cx, hcx⟩ := hx.sl
  refine enter (fn := Tryd.f44) Tryd.func44 rfl 20 rfl [v, undef, undef, undef, undef, undef, undef, undef, undef, undef, undef, undef, undef, undef, undef, undef, undef, undef, undef, undef] rfl ?_
  repeat' (first | refine st ?_ | refine sr ?_ | refine sl hA ?_ | (refine s_w hA ?_; clear hA; (try clear w); intro w hA) | (refine s_v hA ?_; clear hA; (try clear w); intro v w hA hone hnil) | (refine s_b hA ?_; clear hA; (try clear w); intro b w hA) | refine sp (fun h => ?_) (fun h => ?_) | (refine wc_region ?_))
  have hA' := hA.nilRow 24 1
  clear hA; rename _ => hA
  refine wc_loopn (fun m l w => ∃ (i : Nat) (u : Value) (E1 : Env) (cells : List Value), (∃ jk : Nat → Value, l = [v, jk 1, .slice none 0 0, u, .int .i64 (i : Int), jk 5, jk 6, jk 7, jk 8, jk 9, jk 10, jk 11, jk 12, jk 13, jk 14, jk 15, jk 16, jk 17, jk 18, jk 19]) ∧ i + m = bs.length ∧ E.Le E1 ∧ CsE (listR intR 1) 1 (E1.sub E) cells (bs.take i) ∧ u.oneCell' = true ∧ Sat E1 (row 24 1 u i cells :: L) w) bs.length ⟨0, _, E, [], (ex_getD rfl), by omega, Env.Le.refl E, CsE.nil, rfl, hA⟩ ?_
  clear hA
  rintro m l w ⟨i, u, E1, cells, ⟨jk, rfl⟩, hi, hE, hc, hu, hA⟩
  by_cases hlt : i < bs.length
  · obtain ⟨x, hxi⟩ : ∃ x, bs[i]? = some x := ⟨_, List.getElem?_eq_getElem hlt⟩
    obtain ⟨cs, hcsl, ⟨q, rfl, hq⟩, hcx1⟩ := hx.get hxi
    have hx0 : E1.cell? ⟨sB v, sO v + (i : Int).toNat * 1, none⟩ = some q := hE.cell (hcx1 0 _ rfl)
    have hxl := hb x (List.mem_of_getElem? hxi)
    repeat' (first | (refine g_call ?_; refine t_lenS rfl hcx ?_; refine rn ?_) | (refine g_ow ?_; refine t_indexAddrS rfl hcx rfl (by omega) ?_; refine rn ?_) | (refine g_ow ?_; refine t_load_env rfl rfl hA hx0 ?_; refine rn ?_) | (refine g_callf 43 ?_; refine ow_call Tryd.call43 rfl ((copyInts_calls _ _ _ _ _ hA (hq.mono hE) hxl).mono ?_); clear hA; (try clear w); rintro e w ⟨E2, q', rfl, hE2, hq', hA⟩; refine ⟨_, rfl, ?_⟩; refine rn ?_) | (refine g_ow ?_; refine t_lay1 rfl rfl hq'.one hA ?_; clear hA; intro bl w hA; refine rn ?_) | (refine g_call ?_; refine t_append1 1 0 (by decide) (by rfl) rfl rfl hA rfl rfl rfl (by intro u hu; simp at hu; subst hu; exact hq'.one) (by unfold maxLen; omega) (by omega) ?_; clear hA; intro v' w hA h1 h2; refine h_n hA ?_; clear hA; intro hA; refine rn ?_) | refine st ?_ | refine sr ?_ | refine sl hA ?_ | (refine s_w hA ?_; clear hA; (try clear w); intro w hA) | (refine s_v hA ?_; clear hA; (try clear w); intro v w hA hone hnil) | (refine s_b hA ?_; clear hA; (try clear w); intro b w hA) | refine sp (fun h => ?_) (fun h => ?_) | (refine wc_region ?_))
    refine lq_next (m - 1) (by omega) ⟨i + 1, v', E2, cells ++ [q'], (ex_getD rfl), by omega, hE.trans hE2, ?_, h1, hA⟩
    rw [List.take_add_one, hxi]
    exact (hc.mono (Env.sub_left E hE2)).snoc rfl ⟨q', rfl, hq'.mono (Env.sub_right _ hE)⟩
  · repeat' (first | (refine g_call ?_; refine t_lenS rfl hcx ?_; refine rn ?_) | refine st ?_ | refine sr ?_ | refine sl hA ?_ | (refine s_w hA ?_; clear hA; (try clear w); intro w hA) | (refine s_v hA ?_; clear hA; (try clear w); intro v w hA hone hnil) | (refine s_b hA ?_; clear hA; (try clear w); intro b w hA) | refine sp (fun h => ?_) (fun h => ?_) | (refine wc_region ?_))
    have e : bs.take i = bs := List.take_of_length_le (by omega)
    rw [e] at hc
    obtain rfl : i = bs.length := by omega
    exact fp_ret (res1 rfl rfl) ⟨E1, hE, u, cells, rfl, hu, hc, hA⟩
theorem copyBlocks_calls (v : Value) (bs : List (List Int)) (E : Env) (L : List Item) (w : World) (hA : Sat E L w) (hx : ListE (listR intR 1) 1 E v bs) (hb : Short bs) (hn : bs.length ≤ 1000000) :
    Calls Tryd.prog 44 ⟨[v]⟩ w (fun e w' => ∃ E' v', e = .returned v' ∧ E.Le E' ∧ ListE (listR intR 1) 1 (E'.sub E) v' bs ∧ Sat E' L w') :=
  (copyBlocks_own v bs E L w hA hx hb hn).mono fun e w' ⟨E1, hE1, v', cells, he, h1, hc, hS⟩ => by
    obtain ⟨E', h2, h3, h4⟩ := hS.freezeListS E hE1 hc
    exact ⟨E', v', he, hE1.trans h2, h4, h3⟩
/-- A macroblock that may be copied. -/
structure Fits (m : Mb) : Prop where
  refs : m.refs.length ≤ 1000000
  mvds : m.mvds.length ≤ 1000000
  blocks : m.blocks.length ≤ 1000000
  short : Short m.blocks
set_option maxHeartbeats 4000000 in
theorem copyMb_calls (m : Mb) (r v b : Value) (E : Env) (L : List Item) (w : World) (hA : Sat E L w) (hm : MbL E m r v b) (hf : Fits m) :
    Calls Tryd.prog 18 ⟨[.agg ⟨mbC m r v b⟩]⟩ w (fun e w' => ∃ E' r' v' b', e = .returned (.agg ⟨mbC m r' v' b'⟩) ∧ E.Le E' ∧ MbL (E'.sub E) m r' v' b' ∧ Sat E' L w') := by
  obtain ⟨cv, hcv, hsv⟩ := hm.mvds.cs
  have hf1 := hf.refs
  have hf2 := hf.mvds
  refine enter (fn := Tryd.f18) Tryd.func18 rfl 16 rfl [.agg ⟨mbC m r v b⟩, undef, undef, undef, undef, undef, undef, undef, undef, undef, undef, undef, undef, undef, undef, undef] rfl ?_
  repeat' (first | refine st ?_ | refine sr ?_ | refine sl hA ?_ | (refine s_w hA ?_; clear hA; (try clear w); intro w hA) | (refine s_v hA ?_; clear hA; (try clear w); intro v w hA hone hnil) | (refine s_b hA ?_; clear hA; (try clear w); intro b w hA) | refine sp (fun h => ?_) (fun h => ?_) | (refine wc_region ?_))
  refine' wc_mix 10 [3, 4, 5, 6, 7, 8, 9, 10, 11, 12] [0, 1, 2, 3, 4, 5, 6, 7, 8, 9] (mixPhi [_, _, undef, _, _, undef, _, _, undef, _] (fun ix => match ix with | 2 => some (fun E1 v => ListE intR 1 (E1.sub E) v m.refs) | 5 => some (fun E1 v => ListE vecR 2 (E1.sub E) v m.mvds) | 8 => some (fun E1 v => ListE (listR intR 1) 1 (E1.sub E) v m.blocks) | _ => none)) rfl (by kernel_rfl) (by kernel_rfl) (by decide) hA ?phi1 ?ops1 ?k1
  case ops1 =>
    refine' TameOps.m rfl [] (by decide) [] (by decide) ?o1_0 ?r1_0
    case o1_0 => intro yy E' Lx w lf hE hph hl hA; replace hl := hz hl; subst hl; clear hph; first | (refine oq ?_; exact ⟨_, E', pe, Env.Le.refl _, mix_mk rfl rfl, hA⟩)
    refine' TameOps.m rfl [0] (by decide) [3] (by decide) ?o1_1 ?r1_1
    case o1_1 => intro yy E' Lx w lf hE hph hl hA; have e0 := mn hph 0; simp only [List.map_cons, List.map_nil, ← e0] at hl; replace hl := hz hl; subst hl; clear hph; first | (refine oq ?_; exact ⟨_, E', pe, Env.Le.refl _, mix_mk rfl rfl, hA⟩)
    refine' TameOps.m rfl [1] (by decide) [4] (by decide) ?o1_2 ?r1_2
    case o1_2 => intro yy E' Lx w lf hE hph hl hA; have e1 := mn hph 1; simp only [List.map_cons, List.map_nil, ← e1] at hl; replace hl := hz hl; subst hl; clear hph; refine ow_call Tryd.call43 rfl ((copyInts_calls _ _ _ _ _ hA (hm.refs.mono hE) (by omega)).mono ?_); clear hA; rintro e w ⟨E2, q, rfl, hE2, hq, hA⟩; exact ⟨_, rfl, q, E2, rfl, hE2, mix_mkP rfl (hq.mono (Env.sub_right _ hE)), hA⟩
    refine' TameOps.m rfl [] (by decide) [] (by decide) ?o1_3 ?r1_3
    case o1_3 => intro yy E' Lx w lf hE hph hl hA; replace hl := hz hl; subst hl; clear hph; first | (refine oq ?_; exact ⟨_, E', pe, Env.Le.refl _, mix_mk rfl rfl, hA⟩)
    refine' TameOps.m rfl [3] (by decide) [6] (by decide) ?o1_4 ?r1_4
    case o1_4 => intro yy E' Lx w lf hE hph hl hA; have e3 := mn hph 3; simp only [List.map_cons, List.map_nil, ← e3] at hl; replace hl := hz hl; subst hl; clear hph; first | (refine oq ?_; exact ⟨_, E', pe, Env.Le.refl _, mix_mk rfl rfl, hA⟩)
    refine' TameOps.m rfl [4, 2] (by decide) [7, 5] (by decide) ?o1_5 ?r1_5
    case o1_5 => intro yy E' Lx w lf hE hph hl hA; have e4 := mn hph 4; simp only [List.map_cons, List.map_nil, ← e4] at hl; replace hl := hz hl; subst hl; have p2 := mp hph 2; generalize yy 2 = y2 at *; clear hph; refine t_append_nil (by decide) (by rfl) rfl rfl hA (hsv.mono hE) hcv.one (by unfold maxLen; omega) (by omega) ?_; clear hA; intro v' w hA h1; obtain ⟨E2, hE2, hA, hl⟩ := hA.freezeListS E hE hcv.vecs; exact ⟨v', E2, rfl, hE2, mix_mkP rfl hl, hA⟩
    refine' TameOps.m rfl [] (by decide) [] (by decide) ?o1_6 ?r1_6
    case o1_6 => intro yy E' Lx w lf hE hph hl hA; replace hl := hz hl; subst hl; clear hph; first | (refine oq ?_; exact ⟨_, E', pe, Env.Le.refl _, mix_mk rfl rfl, hA⟩)
    refine' TameOps.m rfl [6] (by decide) [9] (by decide) ?o1_7 ?r1_7
    case o1_7 => intro yy E' Lx w lf hE hph hl hA; have e6 := mn hph 6; simp only [List.map_cons, List.map_nil, ← e6] at hl; replace hl := hz hl; subst hl; clear hph; first | (refine oq ?_; exact ⟨_, E', pe, Env.Le.refl _, mix_mk rfl rfl, hA⟩)
    refine' TameOps.m rfl [7, 5] (by decide) [10, 8] (by decide) ?o1_8 ?r1_8
    case o1_8 => intro yy E' Lx w lf hE hph hl hA; have e7 := mn hph 7; simp only [List.map_cons, List.map_nil, ← e7] at hl; replace hl := hz hl; subst hl; have p5 := mp hph 5; generalize yy 5 = y5 at *; clear hph; refine ow_call Tryd.call44 rfl ((copyBlocks_calls _ _ _ _ _ hA (hm.blocks.mono hE) hf.short hf.blocks).mono ?_); clear hA; rintro e w ⟨E2, q, rfl, hE2, hq, hA⟩; exact ⟨_, rfl, q, E2, rfl, hE2, mix_mkP rfl (hq.mono (Env.sub_right _ hE)), hA⟩
    refine' TameOps.m rfl [0, 1, 2, 3, 4, 6, 7] (by decide) [3, 4, 5, 6, 7, 9, 10] (by decide) ?o1_9 ?r1_9
    case o1_9 => intro yy E' Lx w lf hE hph hl hA; have e0 := mn hph 0; have e1 := mn hph 1; have e3 := mn hph 3; have e4 := mn hph 4; have e6 := mn hph 6; have e7 := mn hph 7; simp only [List.map_cons, List.map_nil, ← e0, ← e1, ← e3, ← e4, ← e6, ← e7] at hl; replace hl := hz hl; subst hl; have p2 := mp hph 2; generalize yy 2 = y2 at *; clear hph; first | (refine oq ?_; exact ⟨_, E', pe, Env.Le.refl _, mix_mk rfl rfl, hA⟩)
    exact TameOps.nil
  case phi1 => (refine mix_mono fun i p hp E1 E2 v hE h => ?_; split at hp <;> first | (cases hp; done) | (obtain rfl := Option.some.inj hp; first | exact ListE.mono h hE | exact ListE.mono h (Env.sub_left _ hE) | exact PMono.mono hE h | exact PMono.mono (Env.sub_left _ hE) h | exact h))
  case' k1 => (try clear hA); intro yy E' w lf hE hph hl hA; have e0 := mn hph 0; have e1 := mn hph 1; have e3 := mn hph 3; have e4 := mn hph 4; have e6 := mn hph 6; have e7 := mn hph 7; have e9 := mn hph 9; simp only [List.map_cons, List.map_nil, ← e0, ← e1, ← e3, ← e4, ← e6, ← e7, ← e9] at hl; replace hl := hz hl; subst hl; have p2 := mp hph 2; generalize yy 2 = y2 at *; have p5 := mp hph 5; generalize yy 5 = y5 at *; have p8 := mp hph 8; generalize yy 8 = y8 at *; clear hph
  have o2 := p2.one
  have o5 := p5.one
  have o8 := p8.one
  repeat' (first | refine st ?_ | refine sr ?_ | refine sl hA ?_ | (refine s_w hA ?_; clear hA; (try clear w); intro w hA) | (refine s_v hA ?_; clear hA; (try clear w); intro v w hA hone hnil) | (refine s_b hA ?_; clear hA; (try clear w); intro b w hA) | refine sp (fun h => ?_) (fun h => ?_) | (refine wc_region ?_))
  refine fp_ret (resSole rfl (one_cell 0 rfl rfl hA rfl rfl)) ⟨E', y2, y5, y8, rfl, hE, ⟨p2, p5, p8, hm.qp, hm.pcm⟩, hA.dropN 2⟩
end Go.Proofs.YtomfoaaaeidpnaaDoor
