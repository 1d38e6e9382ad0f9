/-
  spindlekit's copies of headers, slices and nodes, walked.
-/
import Derived.Test.YtomfoaaaeidpnaaDoorK5
set_option linter.unusedVariables false
set_option linter.unusedSimpArgs false
namespace Go.Proofs.YtomfoaaaeidpnaaDoor
open Go Go.RowKit
attribute [local irreducible] WC RL OW bodyPostM ThenQ BlockQ LoopQ
theorem copyMods_own (v : Value) (xs : List Cmd) (E : Env) (L : List Item) (w : World) (hA : Sat E L w) (hx : ListE cmdR 3 E v xs) (hb : xs.length ≤ 1000000) :
    Calls Tryd.prog 138 ⟨[v]⟩ w (OwnR cmdR 3 188 (E.sub E) E L xs) := by
  obtain ⟨cells, hc, hs⟩ := hx.cs
  refine enter (fn := Tryd.f138) Tryd.func138 rfl 5 rfl [v, undef, undef, undef, undef] rfl ?_
  repeat' (first | (refine g_call ?_; refine t_append_nil (by decide) (by rfl) rfl rfl hA hs hc.one (by unfold maxLen; omega) (by omega) ?_; clear hA; intro v' w hA h1; refine rn ?_) | refine st ?_ | refine sr ?_ | refine sl hA ?_ | (refine s_w hA ?_; clear hA; (try clear w); intro w hA) | (refine s_v hA ?_; clear hA; (try clear w); intro v w hA hone hnil) | (refine s_b hA ?_; clear hA; (try clear w); intro b w hA) | refine sp (fun h => ?_) (fun h => ?_) | (refine wc_region ?_))
  exact fp_ret (res1 rfl rfl) ⟨v', cells, rfl, h1, hc.env fun _ _ h => h, hA⟩
theorem copyMods_calls (v : Value) (xs : List Cmd) (E : Env) (L : List Item) (w : World) (hA : Sat E L w) (hx : ListE cmdR 3 E v xs) (hb : xs.length ≤ 1000000) :
    Calls Tryd.prog 138 ⟨[v]⟩ w (fun e w' => ∃ E' v', e = .returned v' ∧ E.Le E' ∧ ListE cmdR 3 (E'.sub E) v' xs ∧ Sat E' L w') :=
  (copyMods_own v xs E L w hA hx hb).mono fun e w' ⟨v', cells, he, h1, hc, hS⟩ => by
    obtain ⟨E', h2, h3, h4⟩ := hS.freezeListS E (Env.Le.refl _) hc
    exact ⟨E', v', he, h2, h4, h3⟩
structure HeadF (x : Header) : Prop where
  mods : x.mods.length ≤ 1000000
  marks : x.marks.length ≤ 1000000
structure SliceF (x : Slc) : Prop where
  head : HeadF x.head
  mbs : x.mbs.length ≤ 1000000
  all : ∀ m ∈ x.mbs, Fits m
def headV (x : Header) : Env → Value → Prop := fun E v => ∃ m k, v = .agg ⟨headC x m k⟩ ∧ HeadL E x m k
instance (x : Header) : PMono (headV x) := ⟨fun hE ⟨m, k, h1, h2⟩ => ⟨m, k, h1, h2.mono hE⟩⟩
set_option maxHeartbeats 4000000 in
theorem copyHeader_calls (x : Header) (m k : Value) (E : Env) (L : List Item) (w : World) (hA : Sat E L w) (hx : HeadL E x m k) (hf : HeadF x) :
    Calls Tryd.prog 103 ⟨[.agg ⟨headC x m k⟩]⟩ w (fun e w' => ∃ E' v, e = .returned v ∧ E.Le E' ∧ headV x (E'.sub E) v ∧ Sat E' L w') := by
  refine enter (fn := Tryd.f103) Tryd.func103 rfl 12 rfl [.agg ⟨headC x m k⟩, undef, undef, undef, undef, undef, undef, undef, undef, undef, undef, undef] rfl ?_
  repeat' (first | refine st ?_ | refine sr ?_ | refine sl hA ?_ | (refine s_w hA ?_; clear hA; (try clear w); intro w hA) | (refine s_v hA ?_; clear hA; (try clear w); intro v w hA hone hnil) | (refine s_b hA ?_; clear hA; (try clear w); intro b w hA) | refine sp (fun h => ?_) (fun h => ?_) | (refine wc_region ?_))
  refine' wc_mix 7 [3, 4, 5, 6, 7, 8, 9] [0, 1, 2, 3, 4, 5, 6] (mixPhi [_, _, undef, _, _, undef, _] (fun ix => match ix with | 2 => some (fun E1 v => ListE cmdR 3 (E1.sub E) v x.mods) | 5 => some (fun E1 v => ListE cmdR 3 (E1.sub E) v x.marks) | _ => none)) rfl (by kernel_rfl) (by kernel_rfl) (by decide) hA ?phi1 ?ops1 ?k1
  case ops1 =>
    refine' TameOps.m rfl [] (by decide) [] (by decide) ?o1_0 ?r1_0
    case o1_0 => intro yy E' Lx w lf hE hph hl hA; replace hl := hz hl; subst hl; clear hph; first | (refine oq ?_; exact ⟨_, E', pe, Env.Le.refl _, mix_mk rfl rfl, hA⟩)
    refine' TameOps.m rfl [0] (by decide) [3] (by decide) ?o1_1 ?r1_1
    case o1_1 => intro yy E' Lx w lf hE hph hl hA; have e0 := mn hph 0; simp only [List.map_cons, List.map_nil, ← e0] at hl; replace hl := hz hl; subst hl; clear hph; first | (refine oq ?_; exact ⟨_, E', pe, Env.Le.refl _, mix_mk rfl rfl, hA⟩)
    refine' TameOps.m rfl [1] (by decide) [4] (by decide) ?o1_2 ?r1_2
    case o1_2 => intro yy E' Lx w lf hE hph hl hA; have e1 := mn hph 1; simp only [List.map_cons, List.map_nil, ← e1] at hl; replace hl := hz hl; subst hl; clear hph; refine ow_call Tryd.call138 rfl ((copyMods_calls _ _ _ _ _ hA (hx.mods.mono hE) hf.mods).mono ?_); clear hA; rintro e w ⟨E2, q, rfl, hE2, hq, hA⟩; exact ⟨_, rfl, q, E2, rfl, hE2, mix_mkP rfl (hq.mono (Env.sub_right _ hE)), hA⟩
    refine' TameOps.m rfl [] (by decide) [] (by decide) ?o1_3 ?r1_3
    case o1_3 => intro yy E' Lx w lf hE hph hl hA; replace hl := hz hl; subst hl; clear hph; first | (refine oq ?_; exact ⟨_, E', pe, Env.Le.refl _, mix_mk rfl rfl, hA⟩)
    refine' TameOps.m rfl [3] (by decide) [6] (by decide) ?o1_4 ?r1_4
    case o1_4 => intro yy E' Lx w lf hE hph hl hA; have e3 := mn hph 3; simp only [List.map_cons, List.map_nil, ← e3] at hl; replace hl := hz hl; subst hl; clear hph; first | (refine oq ?_; exact ⟨_, E', pe, Env.Le.refl _, mix_mk rfl rfl, hA⟩)
    refine' TameOps.m rfl [4, 2] (by decide) [7, 5] (by decide) ?o1_5 ?r1_5
    case o1_5 => intro yy E' Lx w lf hE hph hl hA; have e4 := mn hph 4; simp only [List.map_cons, List.map_nil, ← e4] at hl; replace hl := hz hl; subst hl; have p2 := mp hph 2; generalize yy 2 = y2 at *; clear hph; refine ow_call Tryd.call138 rfl ((copyMods_calls _ _ _ _ _ hA (hx.marks.mono hE) hf.marks).mono ?_); clear hA; rintro e w ⟨E2, q, rfl, hE2, hq, hA⟩; exact ⟨_, rfl, q, E2, rfl, hE2, mix_mkP rfl (hq.mono (Env.sub_right _ hE)), hA⟩
    refine' TameOps.m rfl [0, 1, 2, 3, 4] (by decide) [3, 4, 5, 6, 7] (by decide) ?o1_6 ?r1_6
    case o1_6 => intro yy E' Lx w lf hE hph hl hA; have e0 := mn hph 0; have e1 := mn hph 1; have e3 := mn hph 3; have e4 := mn hph 4; simp only [List.map_cons, List.map_nil, ← e0, ← e1, ← e3, ← e4] at hl; replace hl := hz hl; subst hl; have p2 := mp hph 2; generalize yy 2 = y2 at *; clear hph; first | (refine oq ?_; exact ⟨_, E', pe, Env.Le.refl _, mix_mk rfl rfl, hA⟩)
    exact TameOps.nil
  case phi1 => (refine mix_mono fun i p hp E1 E2 v hE h => ?_; split at hp <;> first | (cases hp; done) | (obtain rfl := Option.some.inj hp; first | exact ListE.mono h hE | exact ListE.mono h (Env.sub_left _ hE) | exact PMono.mono hE h | exact PMono.mono (Env.sub_left _ hE) h | exact h))
  case' k1 => (try clear hA); intro yy E' w lf hE hph hl hA; have e0 := mn hph 0; have e1 := mn hph 1; have e3 := mn hph 3; have e4 := mn hph 4; have e6 := mn hph 6; simp only [List.map_cons, List.map_nil, ← e0, ← e1, ← e3, ← e4, ← e6] at hl; replace hl := hz hl; subst hl; have p2 := mp hph 2; generalize yy 2 = y2 at *; have p5 := mp hph 5; generalize yy 5 = y5 at *; clear hph
  have o2 := p2.one
  have o5 := p5.one
  repeat' (first | refine st ?_ | refine sr ?_ | refine sl hA ?_ | (refine s_w hA ?_; clear hA; (try clear w); intro w hA) | (refine s_v hA ?_; clear hA; (try clear w); intro v w hA hone hnil) | (refine s_b hA ?_; clear hA; (try clear w); intro b w hA) | refine sp (fun h => ?_) (fun h => ?_) | (refine wc_region ?_))
  exact fp_ret (resSole rfl (one_cell 0 rfl rfl hA rfl rfl)) ⟨E', _, rfl, hE, ⟨y2, y5, rfl, p2, p5, hx.ints⟩, hA.dropN 2⟩
def mbV (x : Mb) : Env → Value → Prop := fun E v => ∃ r q b, v = .agg ⟨mbC x r q b⟩ ∧ MbL E x r q b
instance (x : Mb) : PMono (mbV x) := ⟨fun hE ⟨r, q, b, h1, h2⟩ => ⟨r, q, b, h1, h2.mono hE⟩⟩
set_option maxHeartbeats 2000000 in
theorem copyMbs_own (v : Value) (xs : List Mb) (E : Env) (L : List Item) (w : World) (hA : Sat E L w) (hx : ListE mbR 29 E v xs) (hb : ∀ m ∈ xs, Fits m) (hn : xs.length ≤ 1000000) :
    Calls Tryd.prog 104 ⟨[v]⟩ w (fun e w' => ∃ E', E.Le E' ∧ OwnR mbR 29 28 (E'.sub E) E' L xs e w') := by
  obtain ⟨cx, hcx⟩ := hx.sl
  refine enter (fn := Tryd.f104) Tryd.func104 rfl 20 rfl [v, undef, undef, undef, undef, undef, undef, undef, undef, undef, undef, undef, undef, undef, undef, undef, undef, undef, undef, undef] rfl ?_
  repeat' (first | refine st ?_ | refine sr ?_ | refine sl hA ?_ | (refine s_w hA ?_; clear hA; (try clear w); intro w hA) | (refine s_v hA ?_; clear hA; (try clear w); intro v w hA hone hnil) | (refine s_b hA ?_; clear hA; (try clear w); intro b w hA) | refine sp (fun h => ?_) (fun h => ?_) | (refine wc_region ?_))
  have hA' := hA.nilRow 28 29
  clear hA; rename _ => hA
  refine wc_loopn (fun m l w => ∃ (i : Nat) (u : Value) (E1 : Env) (cells : List Value), (∃ jk : Nat → Value, l = [v, jk 1, .slice none 0 0, u, .int .i64 (i : Int), jk 5, jk 6, jk 7, jk 8, jk 9, jk 10, jk 11, jk 12, jk 13, jk 14, jk 15, jk 16, jk 17, jk 18, jk 19]) ∧ i + m = xs.length ∧ E.Le E1 ∧ CsE mbR 29 (E1.sub E) cells (xs.take i) ∧ u.oneCell' = true ∧ Sat E1 (row 28 29 u i cells :: L) w) xs.length ⟨0, _, E, [], (ex_getD rfl), by omega, Env.Le.refl E, CsE.nil, rfl, hA⟩ ?_
  clear hA
  rintro m l w ⟨i, u, E1, cells, ⟨jk, rfl⟩, hi, hE, hc, hu, hA⟩
  by_cases hlt : i < xs.length
  · obtain ⟨x, hxi⟩ : ∃ x, xs[i]? = some x := ⟨_, List.getElem?_eq_getElem hlt⟩
    obtain ⟨cs, hcsl, ⟨r, q, b, rfl, hq⟩, hcx1⟩ := hx.get hxi
    have hxl := hb x (List.mem_of_getElem? hxi)
    repeat' (first | (refine g_call ?_; refine t_lenS rfl hcx ?_; refine rn ?_) | (refine g_ow ?_; refine t_indexAddrS rfl hcx rfl (by omega) ?_; refine rn ?_) | (refine g_ow ?_; refine t_load_agg_env rfl rfl hA (fun j u hj => hE.cell (hcx1 j u hj)) rfl ?_; refine rn ?_) | (refine g_callf 18 ?_; refine ow_call Tryd.call18 rfl ((copyMb_calls x r q b _ _ _ hA (hq.mono hE) hxl).mono ?_); clear hA; (try clear w); rintro e w ⟨E2, r', q', b', rfl, hE2, hq', hA⟩; refine ⟨_, rfl, ?_⟩; refine rn ?_) | (refine g_call ?_; refine t_append1 1 0 (by decide) (by rfl) rfl rfl hA rfl rfl rfl (mbC_one hq') (by unfold maxLen; omega) (by omega) ?_; clear hA; intro v' w hA h1 h2; refine h_n hA ?_; clear hA; intro hA; refine rn ?_) | refine st ?_ | refine sr ?_ | refine sl hA ?_ | (refine s_w hA ?_; clear hA; (try clear w); intro w hA) | (refine s_v hA ?_; clear hA; (try clear w); intro v w hA hone hnil) | (refine s_b hA ?_; clear hA; (try clear w); intro b w hA) | refine sp (fun h => ?_) (fun h => ?_) | (refine wc_region ?_))
    refine lq_next (m - 1) (by omega) ⟨i + 1, v', E2, cells ++ mbC x r' q' b', (ex_getD rfl), by omega, hE.trans hE2, ?_, h1, hA⟩
    rw [List.take_add_one, hxi]
    exact (hc.mono (Env.sub_left E hE2)).snoc rfl ⟨r', q', b', rfl, hq'.mono (Env.sub_right _ hE)⟩
  · repeat' (first | (refine g_call ?_; refine t_lenS rfl hcx ?_; refine rn ?_) | refine st ?_ | refine sr ?_ | refine sl hA ?_ | (refine s_w hA ?_; clear hA; (try clear w); intro w hA) | (refine s_v hA ?_; clear hA; (try clear w); intro v w hA hone hnil) | (refine s_b hA ?_; clear hA; (try clear w); intro b w hA) | refine sp (fun h => ?_) (fun h => ?_) | (refine wc_region ?_))
    have e : xs.take i = xs := List.take_of_length_le (by omega)
    rw [e] at hc
    obtain rfl : i = xs.length := by omega
    exact fp_ret (res1 rfl rfl) ⟨E1, hE, u, cells, rfl, hu, hc, hA⟩
end Go.Proofs.YtomfoaaaeidpnaaDoor
