/-
  spindlekit.CopySlice, CopyNode, CopyNodes, walked.
-/
import Derived.Test.YtomfoaaaeidpnaaDoorK8
set_option linter.unusedVariables false
set_option linter.unusedSimpArgs false
namespace Go.Proofs.YtomfoaaaeidpnaaDoor
open Go Go.RowKit
attribute [local irreducible] WC RL OW bodyPostM ThenQ BlockQ LoopQ
theorem copyMbs_calls (v : Value) (xs : List Mb) (E : Env) (L : List Item) (w : World) (hA : Sat E L w) (hx : ListE mbR 29 E v xs) (hb : ∀ m ∈ xs, Fits m) (hn : xs.length ≤ 1000000) :
    Calls Tryd.prog 104 ⟨[v]⟩ w (fun e w' => ∃ E' v', e = .returned v' ∧ E.Le E' ∧ ListE mbR 29 (E'.sub E) v' xs ∧ Sat E' L w') :=
  (copyMbs_own v xs E L w hA hx hb hn).mono fun e w' ⟨E1, hE1, v', cells, he, h1, hc, hS⟩ => by
    obtain ⟨E', h2, h3, h4⟩ := hS.freezeListS E hE1 hc
    exact ⟨E', v', he, hE1.trans h2, h4, h3⟩
def sliceV (x : Slc) : Env → Value → Prop := fun E v => ∃ m k b, v = .agg ⟨sliceC x m k b⟩ ∧ SliceL E x m k b
instance (x : Slc) : PMono (sliceV x) := ⟨fun hE ⟨m, k, b, h1, h2⟩ => ⟨m, k, b, h1, h2.mono hE⟩⟩
def nodeV (x : Node) : Env → Value → Prop := fun E v => ∃ m k b, v = .agg ⟨nodeC x m k b⟩ ∧ NodeL E x m k b
instance (x : Node) : PMono (nodeV x) := ⟨fun hE ⟨m, k, b, h1, h2⟩ => ⟨m, k, b, h1, h2.mono hE⟩⟩
theorem headC_one {E : Env} {x : Header} {m k : Value} (h : HeadL E x m k) : ∀ u ∈ headC x m k, u.oneCell' = true := by
  have h1 := h.mods.one
  have h2 := h.marks.one
  intro u hu
  simp only [headC, List.mem_cons, List.not_mem_nil, or_false] at hu
  rcases hu with rfl|rfl|rfl|rfl|rfl|rfl|rfl|rfl|rfl|rfl|rfl|rfl|rfl|rfl|rfl|rfl|rfl|rfl|rfl|rfl
  all_goals first | rfl | assumption
set_option maxHeartbeats 4000000 in
theorem copySlice_calls (x : Slc) (m k u : Value) (E : Env) (L : List Item) (w : World) (hA : Sat E L w) (hx : SliceL E x m k u) (hf : SliceF x) :
    Calls Tryd.prog 55 ⟨[.agg ⟨sliceC x m k u⟩]⟩ w (fun e w' => ∃ E' v, e = .returned v ∧ E.Le E' ∧ sliceV x (E'.sub E) v ∧ Sat E' L w') := by
  refine enter (fn := Tryd.f55) Tryd.func55 rfl 12 rfl [.agg ⟨sliceC x m k u⟩, undef, undef, undef, undef, undef, undef, undef, undef, undef, undef, undef] rfl ?_
  repeat' (first | refine st ?_ | refine sr ?_ | refine sl hA ?_ | (refine s_w hA ?_; clear hA; (try clear w); intro w hA) | (refine s_v hA ?_; clear hA; (try clear w); intro v w hA hone hnil) | (refine s_b hA ?_; clear hA; (try clear w); intro b w hA) | refine sp (fun h => ?_) (fun h => ?_) | (refine wc_region ?_))
  refine' wc_mix 7 [3, 4, 5, 6, 7, 8, 9] [0, 1, 2, 3, 4, 5, 6] (mixPhi [_, _, undef, _, _, undef, _] (fun ix => match ix with | 2 => some (fun E1 v => headV x.head (E1.sub E) v) | 5 => some (fun E1 v => ListE mbR 29 (E1.sub E) v x.mbs) | _ => none)) rfl (by kernel_rfl) (by kernel_rfl) (by decide) hA ?phi1 ?ops1 ?k1
  case ops1 =>
    refine' TameOps.m rfl [] (by decide) [] (by decide) ?o1_0 ?r1_0
    case o1_0 => intro yy E' Lx w lf hE hph hl hA; replace hl := hz hl; subst hl; clear hph; first | (refine oq ?_; exact ⟨_, E', pe, Env.Le.refl _, mix_mk rfl rfl, hA⟩)
    refine' TameOps.m rfl [0] (by decide) [3] (by decide) ?o1_1 ?r1_1
    case o1_1 => intro yy E' Lx w lf hE hph hl hA; have e0 := mn hph 0; simp only [List.map_cons, List.map_nil, ← e0] at hl; replace hl := hz hl; subst hl; clear hph; first | (refine oq ?_; exact ⟨_, E', pe, Env.Le.refl _, mix_mk rfl rfl, hA⟩)
    refine' TameOps.m rfl [1] (by decide) [4] (by decide) ?o1_2 ?r1_2
    case o1_2 => intro yy E' Lx w lf hE hph hl hA; have e1 := mn hph 1; simp only [List.map_cons, List.map_nil, ← e1] at hl; replace hl := hz hl; subst hl; clear hph; refine ow_call Tryd.call103 rfl ((copyHeader_calls x.head m k _ _ _ hA (hx.head.mono hE) hf.head).mono ?_); clear hA; rintro e w ⟨E2, q, rfl, hE2, hq, hA⟩; exact ⟨_, rfl, q, E2, rfl, hE2, mix_mkP rfl (PMono.mono (Env.sub_right _ hE) hq), hA⟩
    refine' TameOps.m rfl [] (by decide) [] (by decide) ?o1_3 ?r1_3
    case o1_3 => intro yy E' Lx w lf hE hph hl hA; replace hl := hz hl; subst hl; clear hph; first | (refine oq ?_; exact ⟨_, E', pe, Env.Le.refl _, mix_mk rfl rfl, hA⟩)
    refine' TameOps.m rfl [3] (by decide) [6] (by decide) ?o1_4 ?r1_4
    case o1_4 => intro yy E' Lx w lf hE hph hl hA; have e3 := mn hph 3; simp only [List.map_cons, List.map_nil, ← e3] at hl; replace hl := hz hl; subst hl; clear hph; first | (refine oq ?_; exact ⟨_, E', pe, Env.Le.refl _, mix_mk rfl rfl, hA⟩)
    refine' TameOps.m rfl [4, 2] (by decide) [7, 5] (by decide) ?o1_5 ?r1_5
    case o1_5 => intro yy E' Lx w lf hE hph hl hA; have e4 := mn hph 4; simp only [List.map_cons, List.map_nil, ← e4] at hl; replace hl := hz hl; subst hl; have p2 := mp hph 2; generalize yy 2 = y2 at *; clear hph; refine ow_call Tryd.call104 rfl ((copyMbs_calls _ _ _ _ _ hA (hx.mbs.mono hE) hf.all hf.mbs).mono ?_); clear hA; rintro e w ⟨E2, q, rfl, hE2, hq, hA⟩; exact ⟨_, rfl, q, E2, rfl, hE2, mix_mkP rfl (hq.mono (Env.sub_right _ hE)), hA⟩
    refine' TameOps.m rfl [0, 1, 2, 3, 4] (by decide) [3, 4, 5, 6, 7] (by decide) ?o1_6 ?r1_6
    case o1_6 => intro yy E' Lx w lf hE hph hl hA; have e0 := mn hph 0; have e1 := mn hph 1; have e3 := mn hph 3; have e4 := mn hph 4; simp only [List.map_cons, List.map_nil, ← e0, ← e1, ← e3, ← e4] at hl; replace hl := hz hl; subst hl; have p2 := mp hph 2; generalize yy 2 = y2 at *; clear hph; first | (refine oq ?_; exact ⟨_, E', pe, Env.Le.refl _, mix_mk rfl rfl, hA⟩)
    exact TameOps.nil
  case phi1 => (refine mix_mono fun i p hp E1 E2 v hE h => ?_; split at hp <;> first | (cases hp; done) | (obtain rfl := Option.some.inj hp; first | exact ListE.mono h hE | exact ListE.mono h (Env.sub_left _ hE) | exact PMono.mono hE h | exact PMono.mono (Env.sub_left _ hE) h | exact h))
  case' k1 => (try clear hA); intro yy E' w lf hE hph hl hA; have e0 := mn hph 0; have e1 := mn hph 1; have e3 := mn hph 3; have e4 := mn hph 4; have e6 := mn hph 6; simp only [List.map_cons, List.map_nil, ← e0, ← e1, ← e3, ← e4, ← e6] at hl; replace hl := hz hl; subst hl; have p2 := mp hph 2; generalize yy 2 = y2 at *; have p5 := mp hph 5; generalize yy 5 = y5 at *; clear hph
  obtain ⟨m', k', rfl, p2⟩ := p2
  have o1 := p2.mods.one
  have o2 := p2.marks.one
  have o5 := p5.one
  repeat' (first | refine st ?_ | refine sr ?_ | refine sl hA ?_ | (refine s_w hA ?_; clear hA; (try clear w); intro w hA) | (refine s_v hA ?_; clear hA; (try clear w); intro v w hA hone hnil) | (refine s_b hA ?_; clear hA; (try clear w); intro b w hA) | refine sp (fun h => ?_) (fun h => ?_) | (refine wc_region ?_))
  exact fp_ret (resSole rfl (one_cell 0 rfl rfl hA rfl rfl)) ⟨E', _, rfl, hE, ⟨m', k', y5, rfl, p2, p5⟩, hA.dropN 2⟩
structure NodeF (x : Node) : Prop where
  slice : SliceF x.slice
set_option maxHeartbeats 4000000 in
theorem copyNode_calls (x : Node) (m k u : Value) (E : Env) (L : List Item) (w : World) (hA : Sat E L w) (hx : NodeL E x m k u) (hf : NodeF x) :
    Calls Tryd.prog 28 ⟨[.agg ⟨nodeC x m k u⟩]⟩ w (fun e w' => ∃ E' v, e = .returned v ∧ E.Le E' ∧ nodeV x (E'.sub E) v ∧ Sat E' L w') := by
  refine enter (fn := Tryd.f28) Tryd.func28 rfl 8 rfl [.agg ⟨nodeC x m k u⟩, undef, undef, undef, undef, undef, undef, undef] rfl ?_
  repeat' (first | (refine g_callf 55 ?_; refine ow_call Tryd.call55 rfl ((copySlice_calls x.slice m k u _ _ _ hA hx.slice hf.slice).mono ?_); clear hA; (try clear w); rintro e w ⟨E', v, rfl, hE, ⟨m', k', u', rfl, hs⟩, hA⟩; refine ⟨_, rfl, ?_⟩; (try have o1 := hs.head.mods.one; have o2 := hs.head.marks.one; have o3 := hs.mbs.one); refine rn ?_) | refine st ?_ | refine sr ?_ | refine sl hA ?_ | (refine s_w hA ?_; clear hA; (try clear w); intro w hA) | (refine s_v hA ?_; clear hA; (try clear w); intro v w hA hone hnil) | (refine s_b hA ?_; clear hA; (try clear w); intro b w hA) | refine sp (fun h => ?_) (fun h => ?_) | (refine wc_region ?_))
  exact fp_ret (resSole rfl (one_cell 0 rfl rfl hA rfl rfl)) ⟨E', _, rfl, hE, ⟨m', k', u', rfl, hs, hx.sps, hx.pps, hx.other⟩, hA.dropN 2⟩
set_option maxHeartbeats 2000000 in
theorem copyNodes_own (v : Value) (xs : List Node) (E : Env) (L : List Item) (w : World) (hA : Sat E L w) (hx : ListE nodeR 47 E v xs) (hb : ∀ m ∈ xs, NodeF m) (hn : xs.length ≤ 1000000) :
    Calls Tryd.prog 31 ⟨[v]⟩ w (fun e w' => ∃ E', E.Le E' ∧ OwnR nodeR 47 57 (E'.sub E) E' L xs e w') := by
  obtain ⟨cx, hcx⟩ := hx.sl
  refine enter (fn := Tryd.f31) Tryd.func31 rfl 20 rfl [v, undef, undef, undef, undef, undef, undef, undef, undef, undef, undef, undef, undef, undef, undef, undef, undef, undef, undef, undef] rfl ?_
  repeat' (first | refine st ?_ | refine sr ?_ | refine sl hA ?_ | (refine s_w hA ?_; clear hA; (try clear w); intro w hA) | (refine s_v hA ?_; clear hA; (try clear w); intro v w hA hone hnil) | (refine s_b hA ?_; clear hA; (try clear w); intro b w hA) | refine sp (fun h => ?_) (fun h => ?_) | (refine wc_region ?_))
  have hA' := hA.nilRow 57 47
  clear hA; rename _ => hA
  refine wc_loopn (fun m l w => ∃ (i : Nat) (u : Value) (E1 : Env) (cells : List Value), (∃ jk : Nat → Value, l = [v, jk 1, .slice none 0 0, u, .int .i64 (i : Int), jk 5, jk 6, jk 7, jk 8, jk 9, jk 10, jk 11, jk 12, jk 13, jk 14, jk 15, jk 16, jk 17, jk 18, jk 19]) ∧ i + m = xs.length ∧ E.Le E1 ∧ CsE nodeR 47 (E1.sub E) cells (xs.take i) ∧ u.oneCell' = true ∧ Sat E1 (row 57 47 u i cells :: L) w) xs.length ⟨0, _, E, [], (ex_getD rfl), by omega, Env.Le.refl E, CsE.nil, rfl, hA⟩ ?_
  clear hA
  rintro m l w ⟨i, u, E1, cells, ⟨jk, rfl⟩, hi, hE, hc, hu, hA⟩
  by_cases hlt : i < xs.length
  · obtain ⟨x, hxi⟩ : ∃ x, xs[i]? = some x := ⟨_, List.getElem?_eq_getElem hlt⟩
    obtain ⟨cs, hcsl, ⟨r, q, b, rfl, hq⟩, hcx1⟩ := hx.get hxi
    have hxl := hb x (List.mem_of_getElem? hxi)
    repeat' (first | (refine g_call ?_; refine t_lenS rfl hcx ?_; refine rn ?_) | (refine g_ow ?_; refine t_indexAddrS rfl hcx rfl (by omega) ?_; refine rn ?_) | (refine g_ow ?_; refine t_load_agg_env rfl rfl hA (fun j u hj => hE.cell (hcx1 j u hj)) rfl ?_; refine rn ?_) | (refine g_callf 28 ?_; refine ow_call Tryd.call28 rfl ((copyNode_calls x r q b _ _ _ hA (hq.mono hE) hxl).mono ?_); clear hA; (try clear w); rintro e w ⟨E2, v2, rfl, hE2, ⟨r', q', b', rfl, hq'⟩, hA⟩; refine ⟨_, rfl, ?_⟩; refine rn ?_) | (refine g_call ?_; refine t_append1 1 0 (by decide) (by rfl) rfl rfl hA rfl rfl rfl (nodeC_one hq') (by unfold maxLen; omega) (by omega) ?_; clear hA; intro v' w hA h1 h2; refine h_n hA ?_; clear hA; intro hA; refine rn ?_) | refine st ?_ | refine sr ?_ | refine sl hA ?_ | (refine s_w hA ?_; clear hA; (try clear w); intro w hA) | (refine s_v hA ?_; clear hA; (try clear w); intro v w hA hone hnil) | (refine s_b hA ?_; clear hA; (try clear w); intro b w hA) | refine sp (fun h => ?_) (fun h => ?_) | (refine wc_region ?_))
    refine lq_next (m - 1) (by omega) ⟨i + 1, v', E2, cells ++ nodeC x r' q' b', (ex_getD rfl), by omega, hE.trans hE2, ?_, h1, hA⟩
    rw [List.take_add_one, hxi]
    exact (hc.mono (Env.sub_left E hE2)).snoc rfl ⟨r', q', b', rfl, hq'.mono (Env.sub_right _ hE)⟩
  · repeat' (first | (refine g_call ?_; refine t_lenS rfl hcx ?_; refine rn ?_) | refine st ?_ | refine sr ?_ | refine sl hA ?_ | (refine s_w hA ?_; clear hA; (try clear w); intro w hA) | (refine s_v hA ?_; clear hA; (try clear w); intro v w hA hone hnil) | (refine s_b hA ?_; clear hA; (try clear w); intro b w hA) | refine sp (fun h => ?_) (fun h => ?_) | (refine wc_region ?_))
    have e : xs.take i = xs := List.take_of_length_le (by omega)
    rw [e] at hc
    obtain rfl : i = xs.length := by omega
    exact fp_ret (res1 rfl rfl) ⟨E1, hE, u, cells, rfl, hu, hc, hA⟩
theorem copyNodes_calls (v : Value) (xs : List Node) (E : Env) (L : List Item) (w : World) (hA : Sat E L w) (hx : ListE nodeR 47 E v xs) (hb : ∀ m ∈ xs, NodeF m) (hn : xs.length ≤ 1000000) :
    Calls Tryd.prog 31 ⟨[v]⟩ w (fun e w' => ∃ E' v', e = .returned v' ∧ E.Le E' ∧ ListE nodeR 47 (E'.sub E) v' xs ∧ Sat E' L w') :=
  (copyNodes_own v xs E L w hA hx hb hn).mono fun e w' ⟨E1, hE1, v', cells, he, h1, hc, hS⟩ => by
    obtain ⟨E', h2, h3, h4⟩ := hS.freezeListS E hE1 hc
    exact ⟨E', v', he, hE1.trans h2, h4, h3⟩
end Go.Proofs.YtomfoaaaeidpnaaDoor
