/-
  spindlelaw38.BoundTrees, walked.
-/
import Derived.Test.YtomfoaaaeidpnaaDoorD9
import Derived.Test.YtomfoaaaeidpnaaDoorK9
set_option linter.unusedVariables false
set_option linter.unusedSimpArgs false
namespace Go.Proofs.YtomfoaaaeidpnaaDoor
open Go Go.RowKit
attribute [local irreducible] WC RL OW bodyPostM ThenQ BlockQ LoopQ ScopeQ
theorem NodeB.fits {n : Node} (h : NodeB n) : NodeF n :=
  ⟨⟨⟨by have := h.mods; omega, by have := h.marks; omega⟩, by have := h.mbs; omega, fun m hm => fewM_fits (h.few m hm)⟩⟩
theorem bNodeV_calls (n : Node) (v : Value) (E : Env) (L : List Item) (w : World) (hA : Sat E L w) (hG : MbG E) (hv : nodeV n E v) (hb : NodeB n) :
    Calls Tryd.prog 27 ⟨[v]⟩ w (Ret E L (vi ((nodeN n : Nat) : Int))) := by
  obtain ⟨m, k, u, rfl, hn⟩ := hv
  exact bNode_calls n m k u E L w hA hG hn hb
set_option maxRecDepth 16000 in
set_option maxHeartbeats 8000000 in
theorem boundTrees_calls (v : Value) (xs : List Node) (E : Env) (L : List Item) (w : World) (hA : Sat E L w) (hG : MbG E) (hx : ListE nodeR 47 E v xs) (hsh : ∀ n ∈ xs, ∀ m ∈ n.slice.mbs, Short m.blocks) :
    Calls Tryd.prog 5 ⟨[v]⟩ w (Ret E L (.bool true)) := by
  obtain ⟨cx, hcx⟩ := hx.sl
  have ov := hx.one
  have hlen := hcx.le
  have hlc : ∀ (L : List Item) (w : World), Sat E L w → Calls Tryd.prog 26 ⟨[v, vi 6]⟩ w (Ret E L (.bool (lightB xs 6))) := fun L w hA => light_calls v xs 6 E L w hA hx
  refine enter (fn := Tryd.f5) Tryd.func5 rfl 34 rfl [v, undef, undef, undef, undef, undef, undef, undef, undef, undef, undef, undef, undef, undef, undef, undef, undef, undef, undef, undef, undef, undef, undef, undef, undef, undef, undef, undef, undef, undef, undef, undef, undef, undef] rfl ?_
  cases hlt : lightB xs 6 with
  | false =>
    rw [hlt] at hlc
    repeat' (first | (refine g_callf 26 ?_; refine ow_call Tryd.call26 rfl ((hlc _ _ hA).mono ?_); clear hA; (try clear w); rintro e w ⟨rfl, hA⟩; refine ⟨_, rfl, ?_⟩; refine rn ?_) | refine st ?_ | refine sr ?_ | refine sl hA ?_ | (refine s_w hA ?_; clear hA; (try clear w); intro w hA) | (refine s_v hA ?_; clear hA; (try clear w); intro v w hA hone hnil) | (refine s_b hA ?_; clear hA; (try clear w); intro b w hA) | refine sp (fun h => ?_) (fun h => ?_) | (refine wc_region ?_))
    exact ret1 hA rfl rfl
  | true =>
    rw [hlt] at hlc
    obtain ⟨h12, hall⟩ := light_all hlt
    repeat' (first | (refine g_callf 26 ?_; refine ow_call Tryd.call26 rfl ((hlc _ _ hA).mono ?_); clear hA; (try clear w); rintro e w ⟨rfl, hA⟩; refine ⟨_, rfl, ?_⟩; refine rn ?_) | refine st ?_ | refine sr ?_ | refine sl hA ?_ | (refine s_w hA ?_; clear hA; (try clear w); intro w hA) | (refine s_v hA ?_; clear hA; (try clear w); intro v w hA hone hnil) | (refine s_b hA ?_; clear hA; (try clear w); intro b w hA) | refine sp (fun h => ?_) (fun h => ?_) | (refine wc_region ?_))
    refine wc_loopn (fun t l w => ∃ (i : Nat) (E1 : Env), (∃ jk : Nat → Value, l = [v, jk 1, .bool false, vi (i : Int), jk 4, jk 5, jk 6, jk 7, jk 8, jk 9, jk 10, jk 11, jk 12, jk 13, jk 14, jk 15, jk 16, jk 17, jk 18, jk 19, jk 20, jk 21, jk 22, jk 23, jk 24, jk 25, jk 26, jk 27, jk 28, jk 29, jk 30, jk 31, jk 32, jk 33]) ∧ i + t = xs.length ∧ E.Le E1 ∧ Sat E1 L w) xs.length ⟨0, E, (ex_getD rfl), by omega, Env.Le.refl _, hA⟩ ?_
    clear hA
    rintro t l w ⟨i, E1, ⟨jk, rfl⟩, hi, hE1, hA⟩
    have hG1 := hG.mono hE1
    have hcx1 := hcx.mono hE1
    by_cases hl : i < xs.length
    · obtain ⟨x, hxi⟩ : ∃ x, xs[i]? = some x := ⟨_, List.getElem?_eq_getElem (by omega)⟩
      have hbx := hall x (List.mem_of_getElem? hxi)
      obtain ⟨cs, hcsl, ⟨r, q, u, rfl, hm0⟩, hg⟩ := hx.get hxi
      have hm := hm0.mono hE1
      have hx0 : ∀ t z, (nodeC x r q u)[t]? = some z → E1.cell? ⟨sB v, sO v + (i : Int).toNat * 47 + t, none⟩ = some z := fun t z hz => hE1.cell (hg t z hz)
      repeat' (first | (refine g_call ?_; refine t_lenS rfl hcx1 ?_; refine rn ?_) | refine st ?_ | refine sr ?_ | refine sl hA ?_ | (refine s_w hA ?_; clear hA; (try clear w); intro w hA) | (refine s_v hA ?_; clear hA; (try clear w); intro v w hA hone hnil) | (refine s_b hA ?_; clear hA; (try clear w); intro b w hA) | refine sp (fun h => ?_) (fun h => ?_) | (refine wc_regionS 6 rfl ?_; refine wc_region ?_))
      refine' wc_mix 12 [13, 14, 15, 16, 17, 18, 19, 20, 21, 22, 23, 24] [0, 1, 2, 3, 4, 5, 6, 7, 8, 9, 10, 11] (mixPhi [_, _, _, _, undef, _, _, _, _, _, _, _] (fun ix => match ix with | 4 => some (nodeV x) | _ => none)) rfl (by kernel_rfl) (by kernel_rfl) (by decide) hA ?phi6 ?ops6 ?k6
      case ops6 =>
        refine' TameOps.m rfl [] (by decide) [] (by decide) ?o6_0 ?r6_0
        case o6_0 => intro yy E' Lx w lf hE hph hl hA; replace hl := hz hl; subst hl; clear hph; first | (refine oq ?_; exact ⟨_, E', pe, Env.Le.refl _, mix_mk rfl rfl, hA⟩)
        refine' TameOps.m rfl [] (by decide) [] (by decide) ?o6_1 ?r6_1
        case o6_1 => intro yy E' Lx w lf hE hph hl hA; replace hl := hz hl; subst hl; clear hph; first | (refine oq ?_; exact ⟨_, E', pe, Env.Le.refl _, mix_mk rfl rfl, hA⟩)
        refine' TameOps.m rfl [0, 1] (by decide) [13, 14] (by decide) ?o6_2 ?r6_2
        case o6_2 => intro yy E' Lx w lf hE hph hl hA; have e0 := mn hph 0; have e1 := mn hph 1; simp only [List.map_cons, List.map_nil, ← e0, ← e1] at hl; replace hl := hz hl; subst hl; clear hph; first | (refine t_indexAddrS rfl (hcx1.mono hE) rfl (by omega) ?_; exact ⟨_, E', pe, Env.Le.refl _, mix_mk rfl rfl, hA⟩) | (refine oq ?_; exact ⟨_, E', pe, Env.Le.refl _, mix_mk rfl rfl, hA⟩) | (refine t_indexAddrS rfl rfl (by omega) ?_; exact ⟨_, E', pe, Env.Le.refl _, mix_mk rfl rfl, hA⟩)
        refine' TameOps.m rfl [2] (by decide) [15] (by decide) ?o6_3 ?r6_3
        case o6_3 => intro yy E' Lx w lf hE hph hl hA; have e2 := mn hph 2; simp only [List.map_cons, List.map_nil, ← e2] at hl; replace hl := hz hl; subst hl; clear hph; first | (refine t_load_agg_env rfl rfl hA (fun j z hz => hE.cell (hx0 j z hz)) rfl ?_; exact ⟨_, E', pe, Env.Le.refl _, mix_mk rfl rfl, hA⟩) | (refine oq ?_; exact ⟨_, E', pe, Env.Le.refl _, mix_mk rfl rfl, hA⟩)
        refine' TameOps.m rfl [3] (by decide) [16] (by decide) ?o6_4 ?r6_4
        case o6_4 => intro yy E' Lx w lf hE hph hl hA; have e3 := mn hph 3; simp only [List.map_cons, List.map_nil, ← e3] at hl; replace hl := hz hl; subst hl; clear hph; refine ow_call Tryd.call28 rfl ((copyNode_calls x r q u _ _ _ hA (hm.mono hE) hbx.fits).mono ?_); clear hA; rintro e w ⟨E2, q, rfl, hE2, hq, hA⟩; exact ⟨_, rfl, q, E2, rfl, hE2, mix_mkP rfl (PMono.mono (Env.sub_le _ _) hq), hA⟩
        refine' TameOps.m rfl [4] (by decide) [17] (by decide) ?o6_5 ?r6_5
        case o6_5 => intro yy E' Lx w lf hE hph hl hA; replace hl := hz hl; subst hl; have p4 := mp hph 4; generalize yy 4 = y4 at *; clear hph; first | (refine ow_call Tryd.call27 rfl ((bNodeV_calls x _ _ _ _ hA (hG1.mono hE) p4 hbx).mono ?_); clear hA; rintro e w ⟨rfl, hA⟩; refine ⟨_, rfl, ?_⟩; exact ⟨_, E', put_eq (by rfl), Env.Le.refl _, mix_mk rfl rfl, hA⟩)
        refine' TameOps.m rfl [] (by decide) [] (by decide) ?o6_6 ?r6_6
        case o6_6 => intro yy E' Lx w lf hE hph hl hA; replace hl := hz hl; subst hl; clear hph; first | (refine oq ?_; exact ⟨_, E', pe, Env.Le.refl _, mix_mk rfl rfl, hA⟩)
        refine' TameOps.m rfl [] (by decide) [] (by decide) ?o6_7 ?r6_7
        case o6_7 => intro yy E' Lx w lf hE hph hl hA; replace hl := hz hl; subst hl; clear hph; first | (refine oq ?_; exact ⟨_, E', pe, Env.Le.refl _, mix_mk rfl rfl, hA⟩)
        refine' TameOps.m rfl [6, 7] (by decide) [19, 20] (by decide) ?o6_8 ?r6_8
        case o6_8 => intro yy E' Lx w lf hE hph hl hA; have e6 := mn hph 6; have e7 := mn hph 7; simp only [List.map_cons, List.map_nil, ← e6, ← e7] at hl; replace hl := hz hl; subst hl; clear hph; first | (refine t_indexAddrS rfl (hcx1.mono hE) rfl (by omega) ?_; exact ⟨_, E', pe, Env.Le.refl _, mix_mk rfl rfl, hA⟩) | (refine oq ?_; exact ⟨_, E', pe, Env.Le.refl _, mix_mk rfl rfl, hA⟩) | (refine t_indexAddrS rfl rfl (by omega) ?_; exact ⟨_, E', pe, Env.Le.refl _, mix_mk rfl rfl, hA⟩)
        refine' TameOps.m rfl [8] (by decide) [21] (by decide) ?o6_9 ?r6_9
        case o6_9 => intro yy E' Lx w lf hE hph hl hA; have e8 := mn hph 8; simp only [List.map_cons, List.map_nil, ← e8] at hl; replace hl := hz hl; subst hl; clear hph; first | (refine t_load_agg_env rfl rfl hA (fun j z hz => hE.cell (hx0 j z hz)) rfl ?_; exact ⟨_, E', pe, Env.Le.refl _, mix_mk rfl rfl, hA⟩) | (refine oq ?_; exact ⟨_, E', pe, Env.Le.refl _, mix_mk rfl rfl, hA⟩)
        refine' TameOps.m rfl [9, 5] (by decide) [22, 18] (by decide) ?o6_10 ?r6_10
        case o6_10 => intro yy E' Lx w lf hE hph hl hA; have e9 := mn hph 9; have e5 := mn hph 5; simp only [List.map_cons, List.map_nil, ← e9, ← e5] at hl; replace hl := hz hl; subst hl; clear hph; first | (refine ow_call Tryd.call29 rfl ((rNode_calls x r q u _ _ _ hA (hm.mono hE) hbx).mono ?_); clear hA; rintro e w ⟨rfl, hA⟩; refine ⟨_, rfl, ?_⟩; exact ⟨_, E', put_eq (by rfl), Env.Le.refl _, mix_mk rfl rfl, hA⟩)
        refine' TameOps.m rfl [5, 10] (by decide) [18, 23] (by decide) ?o6_11 ?r6_11
        case o6_11 => intro yy E' Lx w lf hE hph hl hA; have e5 := mn hph 5; have e10 := mn hph 10; simp only [List.map_cons, List.map_nil, ← e5, ← e10] at hl; replace hl := hz hl; subst hl; clear hph; first | (refine oq ?_; exact ⟨_, E', pe, Env.Le.refl _, mix_mk rfl rfl, hA⟩)
        exact TameOps.nil
      case phi6 => (refine mix_mono fun i p hp E1 E2 v hE h => ?_; split at hp <;> first | (cases hp; done) | (obtain rfl := Option.some.inj hp; first | exact ListE.mono h hE | exact ListE.mono h (Env.sub_left _ hE) | exact PMono.mono hE h | exact PMono.mono (Env.sub_left _ hE) h | exact h))
      case' k6 => (try clear hA); intro yy E' w lf hE hph hl hA; have e0 := mn hph 0; have e1 := mn hph 1; have e2 := mn hph 2; have e3 := mn hph 3; have e5 := mn hph 5; have e6 := mn hph 6; have e7 := mn hph 7; have e8 := mn hph 8; have e9 := mn hph 9; have e10 := mn hph 10; have e11 := mn hph 11; simp only [List.map_cons, List.map_nil, ← e0, ← e1, ← e2, ← e3, ← e5, ← e6, ← e7, ← e8, ← e9, ← e10, ← e11] at hl; replace hl := hz hl; subst hl; have p4 := mp hph 4; generalize yy 4 = y4 at *; clear hph
      repeat' (first | refine st ?_ | refine sr ?_ | refine sl hA ?_ | (refine s_w hA ?_; clear hA; (try clear w); intro w hA) | (refine s_v hA ?_; clear hA; (try clear w); intro v w hA hone hnil) | (refine s_b hA ?_; clear hA; (try clear w); intro b w hA) | refine sp (fun h => ?_) (fun h => ?_) | (refine wc_region ?_))
      exact lq_next (t - 1) (by omega) ⟨i + 1, E', (ex_getD rfl), by omega, hE1.trans hE, hA⟩
    · have hx1 := hx.mono hE1
      have hfits : ∀ n ∈ xs, NodeF n := fun n hn => (hall n hn).fits
      repeat' (first | (refine g_call ?_; refine t_lenS rfl hcx1 ?_; refine rn ?_) | refine st ?_ | refine sr ?_ | refine sl hA ?_ | (refine s_w hA ?_; clear hA; (try clear w); intro w hA) | (refine s_v hA ?_; clear hA; (try clear w); intro v w hA hone hnil) | (refine s_b hA ?_; clear hA; (try clear w); intro b w hA) | refine sp (fun h => ?_) (fun h => ?_) | (refine wc_regionS 8 rfl ?_; refine wc_region ?_))
      repeat' (first | (refine g_callf 31 ?_; refine ow_call Tryd.call31 rfl ((copyNodes_calls v xs _ _ _ hA hx1 hfits (by omega)).mono ?_); clear hA; (try clear w); rintro e w ⟨E2, v2, rfl, hE2, hl2, hA⟩; refine ⟨_, rfl, ?_⟩; (try have hl3 := hl2.mono (Env.sub_le _ _); have o2 := hl3.one); refine rn ?_) | (refine g_callf 30 ?_; refine ow_call Tryd.call30 rfl ((bTree_calls v2 xs E2 _ _ hA (hG1.mono hE2) hl3 hall (by omega)).mono ?_); clear hA; (try clear w); rintro e w ⟨rfl, hA⟩; refine ⟨_, rfl, ?_⟩; refine rn ?_) | (refine g_callf 32 ?_; refine ow_call Tryd.call32 rfl ((rTree_calls v xs E2 _ _ hA (hx1.mono hE2) hall (by omega)).mono ?_); clear hA; (try clear w); rintro e w ⟨rfl, hA⟩; refine ⟨_, rfl, ?_⟩; refine rn ?_) | (refine g_callf 24 ?_; refine ow_call Tryd.call24 rfl ((awake38_calls _ _ _ hA (hG1.mono hE2)).mono ?_); clear hA; (try clear w); rintro e w ⟨rfl, hA⟩; refine ⟨_, rfl, ?_⟩; refine rn ?_) | refine st ?_ | refine sr ?_ | refine sl hA ?_ | (refine s_w hA ?_; clear hA; (try clear w); intro w hA) | (refine s_v hA ?_; clear hA; (try clear w); intro v w hA hone hnil) | (refine s_b hA ?_; clear hA; (try clear w); intro b w hA) | refine sp (fun h => ?_) (fun h => ?_) | (refine wc_region ?_))
      exact ret1 (hA.le (hE1.trans hE2)) rfl (by simp)
end Go.Proofs.YtomfoaaaeidpnaaDoor
