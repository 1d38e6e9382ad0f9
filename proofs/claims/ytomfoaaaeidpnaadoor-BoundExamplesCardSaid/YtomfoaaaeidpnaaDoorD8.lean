/-
  bound.sum of macroblocks and nodes, Node and Tree, and the guard spindlelaw32.Light, walked.
-/
import Derived.Test.YtomfoaaaeidpnaaDoorD3
import Derived.Test.YtomfoaaaeidpnaaDoorK5
set_option linter.unusedVariables false
set_option linter.unusedSimpArgs false
namespace Go.Proofs.YtomfoaaaeidpnaaDoor
open Go Go.RowKit
attribute [local irreducible] WC RL OW bodyPostM ThenQ BlockQ LoopQ ScopeQ
set_option maxHeartbeats 4000000 in
theorem sumM_calls (k : Nat) (hk : Enters Tryd.prog k) (g : Mb → Nat) (v : Value) (xs : List Mb) (E : Env) (L : List Item) (w : World) (hA : Sat E L w) (hx : ListE mbR 29 E v xs) (hn : sumN g xs ≤ 1000000000000000)
    (hof : ∀ x ∈ xs, ∀ (r q u : Value) (E' : Env) (L : List Item) (w : World), E.Le E' → MbL E' x r q u → Sat E' L w → Calls Tryd.prog k ⟨[.agg ⟨mbC x r q u⟩]⟩ w (Ret E' L (vi ((g x : Nat) : Int)))) :
    Calls Tryd.prog 54 ⟨[.func (.func k) ⟨[]⟩ ⟨[]⟩, v]⟩ w (Ret E L (vi ((sumN g xs : Nat) : Int))) := by
  obtain ⟨cx, hcx⟩ := hx.sl
  have ov := hx.one
  have hlen := hcx.le
  refine enter (fn := Tryd.f54) Tryd.func54 rfl 21 rfl [.func (.func k) ⟨[]⟩ ⟨[]⟩, v, undef, undef, undef, undef, undef, undef, undef, undef, undef, undef, undef, undef, undef, undef, undef, undef, undef, undef, undef] rfl ?_
  repeat' (first | (refine g_call ?_; refine t_lenS rfl hcx ?_; refine rn ?_) | refine st ?_ | refine sr ?_ | refine sl hA ?_ | (refine s_w hA ?_; clear hA; (try clear w); intro w hA) | (refine s_v hA ?_; clear hA; (try clear w); intro v w hA hone hnil) | (refine s_b hA ?_; clear hA; (try clear w); intro b w hA) | refine sp (fun h => ?_) (fun h => ?_) | (refine wc_region ?_))
  refine wc_loopn (fun m l w => ∃ (i : Nat), (∃ jk : Nat → Value, l = [.func (.func k) ⟨[]⟩ ⟨[]⟩, v, jk 2, jk 3, vi 0, vi ((sumN g (xs.take i) : Nat) : Int), jk 6, jk 7, v, vi (xs.length : Int), vi (i : Int), jk 11, jk 12, jk 13, jk 14, jk 15, jk 16, jk 17, jk 18, jk 19, jk 20]) ∧ i + m = xs.length ∧ Sat E L w) xs.length ⟨0, (ex_getD rfl), by omega, hA⟩ ?_
  clear hA
  rintro m l w ⟨i, ⟨jk, rfl⟩, hi, hA⟩
  by_cases hlt : i < xs.length
  · obtain ⟨x, hxi⟩ : ∃ x, xs[i]? = some x := ⟨_, List.getElem?_eq_getElem (by omega)⟩
    have hmem := List.mem_of_getElem? hxi
    obtain ⟨cs, hcsl, ⟨r, q, u, rfl, hm⟩, hg⟩ := hx.get hxi
    have hx0 : ∀ t z, (mbC x r q u)[t]? = some z → E.cell? ⟨sB v, sO v + (i : Int).toNat * 29 + t, none⟩ = some z := hg
    have o1 := hm.refs.one
    have o2 := hm.mvds.one
    have o3 := hm.blocks.one
    have hst := sumN_take g xs i x hxi
    have hmo := sumN_mono g xs (i + 1)
    repeat' (first | (refine g_ow ?_; refine t_indexAddrS rfl hcx rfl (by omega) ?_; refine rn ?_) | (refine g_ow ?_; refine t_load_agg_env rfl rfl hA hx0 rfl ?_; refine rn ?_) | (refine g_callt ?_; refine ow_callv rfl hk rfl ((hof x hmem r q u E _ w (Env.Le.refl _) hm hA).mono ?_); clear hA; rintro e w ⟨rfl, hA⟩; refine ⟨_, rfl, ?_⟩; refine rn ?_) | refine st ?_ | refine sr ?_ | refine sl hA ?_ | (refine s_w hA ?_; clear hA; (try clear w); intro w hA) | (refine s_v hA ?_; clear hA; (try clear w); intro v w hA hone hnil) | (refine s_b hA ?_; clear hA; (try clear w); intro b w hA) | refine sp (fun h => ?_) (fun h => ?_) | (refine wc_region ?_))
    have e5 : ((sumN g (xs.take i) : Nat) : Int) + ((g x : Nat) : Int) = ((sumN g (xs.take (i + 1)) : Nat) : Int) := by omega
    rw [e5]
    exact lq_next (m - 1) (by omega) ⟨i + 1, (ex_getD rfl), by omega, hA.tail⟩
  · have ei : i = xs.length := by omega
    have e1 : xs.take i = xs := by rw [ei, List.take_length]
    rw [e1]
    repeat' (first | refine st ?_ | refine sr ?_ | refine sl hA ?_ | (refine s_w hA ?_; clear hA; (try clear w); intro w hA) | (refine s_v hA ?_; clear hA; (try clear w); intro v w hA hone hnil) | (refine s_b hA ?_; clear hA; (try clear w); intro b w hA) | refine sp (fun h => ?_) (fun h => ?_) | (refine wc_region ?_))
    exact ret1 hA rfl rfl
set_option maxHeartbeats 4000000 in
theorem sumN_calls (k : Nat) (hk : Enters Tryd.prog k) (g : Node → Nat) (v : Value) (xs : List Node) (E : Env) (L : List Item) (w : World) (hA : Sat E L w) (hx : ListE nodeR 47 E v xs) (hn : sumN g xs ≤ 1000000000000000)
    (hof : ∀ x ∈ xs, ∀ (r q u : Value) (E' : Env) (L : List Item) (w : World), E.Le E' → NodeL E' x r q u → Sat E' L w → Calls Tryd.prog k ⟨[.agg ⟨nodeC x r q u⟩]⟩ w (Ret E' L (vi ((g x : Nat) : Int)))) :
    Calls Tryd.prog 56 ⟨[.func (.func k) ⟨[]⟩ ⟨[]⟩, v]⟩ w (Ret E L (vi ((sumN g xs : Nat) : Int))) := by
  obtain ⟨cx, hcx⟩ := hx.sl
  have ov := hx.one
  have hlen := hcx.le
  refine enter (fn := Tryd.f56) Tryd.func56 rfl 21 rfl [.func (.func k) ⟨[]⟩ ⟨[]⟩, v, undef, undef, undef, undef, undef, undef, undef, undef, undef, undef, undef, undef, undef, undef, undef, undef, undef, undef, undef] rfl ?_
  repeat' (first | (refine g_call ?_; refine t_lenS rfl hcx ?_; refine rn ?_) | refine st ?_ | refine sr ?_ | refine sl hA ?_ | (refine s_w hA ?_; clear hA; (try clear w); intro w hA) | (refine s_v hA ?_; clear hA; (try clear w); intro v w hA hone hnil) | (refine s_b hA ?_; clear hA; (try clear w); intro b w hA) | refine sp (fun h => ?_) (fun h => ?_) | (refine wc_region ?_))
  refine wc_loopn (fun m l w => ∃ (i : Nat), (∃ jk : Nat → Value, l = [.func (.func k) ⟨[]⟩ ⟨[]⟩, v, jk 2, jk 3, vi 0, vi ((sumN g (xs.take i) : Nat) : Int), jk 6, jk 7, v, vi (xs.length : Int), vi (i : Int), jk 11, jk 12, jk 13, jk 14, jk 15, jk 16, jk 17, jk 18, jk 19, jk 20]) ∧ i + m = xs.length ∧ Sat E L w) xs.length ⟨0, (ex_getD rfl), by omega, hA⟩ ?_
  clear hA
  rintro m l w ⟨i, ⟨jk, rfl⟩, hi, hA⟩
  by_cases hlt : i < xs.length
  · obtain ⟨x, hxi⟩ : ∃ x, xs[i]? = some x := ⟨_, List.getElem?_eq_getElem (by omega)⟩
    have hmem := List.mem_of_getElem? hxi
    obtain ⟨cs, hcsl, ⟨r, q, u, rfl, hm⟩, hg⟩ := hx.get hxi
    have hx0 : ∀ t z, (nodeC x r q u)[t]? = some z → E.cell? ⟨sB v, sO v + (i : Int).toNat * 47 + t, none⟩ = some z := hg
    have o1 := hm.slice.head.mods.one
    have o2 := hm.slice.head.marks.one
    have o3 := hm.slice.mbs.one
    have hst := sumN_take g xs i x hxi
    have hmo := sumN_mono g xs (i + 1)
    repeat' (first | (refine g_ow ?_; refine t_indexAddrS rfl hcx rfl (by omega) ?_; refine rn ?_) | (refine g_ow ?_; refine t_load_agg_env rfl rfl hA hx0 rfl ?_; refine rn ?_) | (refine g_callt ?_; refine ow_callv rfl hk rfl ((hof x hmem r q u E _ w (Env.Le.refl _) hm hA).mono ?_); clear hA; rintro e w ⟨rfl, hA⟩; refine ⟨_, rfl, ?_⟩; refine rn ?_) | refine st ?_ | refine sr ?_ | refine sl hA ?_ | (refine s_w hA ?_; clear hA; (try clear w); intro w hA) | (refine s_v hA ?_; clear hA; (try clear w); intro v w hA hone hnil) | (refine s_b hA ?_; clear hA; (try clear w); intro b w hA) | refine sp (fun h => ?_) (fun h => ?_) | (refine wc_region ?_))
    have e5 : ((sumN g (xs.take i) : Nat) : Int) + ((g x : Nat) : Int) = ((sumN g (xs.take (i + 1)) : Nat) : Int) := by omega
    rw [e5]
    exact lq_next (m - 1) (by omega) ⟨i + 1, (ex_getD rfl), by omega, hA.tail⟩
  · have ei : i = xs.length := by omega
    have e1 : xs.take i = xs := by rw [ei, List.take_length]
    rw [e1]
    repeat' (first | refine st ?_ | refine sr ?_ | refine sl hA ?_ | (refine s_w hA ?_; clear hA; (try clear w); intro w hA) | (refine s_v hA ?_; clear hA; (try clear w); intro v w hA hone hnil) | (refine s_b hA ?_; clear hA; (try clear w); intro b w hA) | refine sp (fun h => ?_) (fun h => ?_) | (refine wc_region ?_))
    exact ret1 hA rfl rfl
/-- How many bytes a unit has at most. -/
def sliceN (mods marks bits : Nat) : Nat := 16 + 3 * ((64 + 63 * (16 + 2 * mods + 3 * marks) + bits + 7) / 8) / 2
def nodeN (n : Node) : Nat :=
  if n.kind.toNat = 0 ∨ n.kind.toNat = 1 then 256 else if n.kind.toNat = 3 then 8 + 3 * n.other.rbsp.length / 2 else if n.kind.toNat = 2 then sliceN n.slice.head.mods.length n.slice.head.marks.length (sumN bitsV n.slice.mbs) else 0
/-- What the guard says of a node. -/
structure NodeB (n : Node) : Prop where
  mods : n.slice.head.mods.length ≤ 70
  marks : n.slice.head.marks.length ≤ 70
  mbs : n.slice.mbs.length ≤ 6
  few : ∀ m ∈ n.slice.mbs, fewM m = true
  rbsp : n.other.rbsp.length ≤ 2000
theorem nodeN_le {n : Node} (h : NodeB n) : nodeN n ≤ 2000000 := by
  have h1 := h.mods
  have h2 := h.marks
  have h3 := h.rbsp
  have h4 := h.mbs
  have h5 := sumN_le bitsV n.slice.mbs 1000000 fun m _ => bitsV_le m
  unfold nodeN sliceN
  (repeat' split) <;> omega
def NdAt (E : Env) (b : Nat) (n : Node) (m k u : Value) : Prop := ∀ j z, (nodeC n m k u)[j]? = some z → E.cell? ⟨b, j, none⟩ = some z
theorem head_at {E : Env} {b : Nat} {n : Node} {m k u : Value} (h : NdAt E b n m k u) : ∀ j z, (headC n.slice.head m k)[j]? = some z → E.cell? ⟨b, 23 + j, none⟩ = some z := by
  intro j z hz
  refine h (23 + j) z ?_
  have hj : j < 20 := (List.getElem?_eq_some_iff.1 hz).1
  have : j = 0 ∨ j = 1 ∨ j = 2 ∨ j = 3 ∨ j = 4 ∨ j = 5 ∨ j = 6 ∨ j = 7 ∨ j = 8 ∨ j = 9 ∨ j = 10 ∨ j = 11 ∨ j = 12 ∨ j = 13 ∨ j = 14 ∨ j = 15 ∨ j = 16 ∨ j = 17 ∨ j = 18 ∨ j = 19 := by omega
  rcases this with rfl | rfl | rfl | rfl | rfl | rfl | rfl | rfl | rfl | rfl | rfl | rfl | rfl | rfl | rfl | rfl | rfl | rfl | rfl | rfl <;> exact hz
set_option maxRecDepth 16000 in
set_option maxHeartbeats 8000000 in
theorem bNode_calls (n : Node) (m k u : Value) (E : Env) (L : List Item) (w : World) (hA : Sat E L w) (hG : MbG E) (hn : NodeL E n m k u) (hb : NodeB n) :
    Calls Tryd.prog 27 ⟨[.agg ⟨nodeC n m k u⟩]⟩ w (Ret E L (vi ((nodeN n : Nat) : Int))) := by
  have o1 := hn.slice.head.mods.one
  have o2 := hn.slice.head.marks.one
  have o3 := hn.slice.mbs.one
  have b1 := hb.mods
  have b2 := hb.marks
  have b3 := hb.mbs
  have b4 := hb.rbsp
  refine enter (fn := Tryd.f27) Tryd.func27 rfl 47 rfl [.agg ⟨nodeC n m k u⟩, undef, undef, undef, undef, undef, undef, undef, undef, undef, undef, undef, undef, undef, undef, undef, undef, undef, undef, undef, undef, undef, undef, undef, undef, undef, undef, undef, undef, undef, undef, undef, undef, undef, undef, undef, undef, undef, undef, undef, undef, undef, undef, undef, undef, undef, undef] rfl ?_
  repeat' (first | refine st ?_ | refine sr ?_ | refine sl hA ?_ | (refine s_w hA ?_; clear hA; (try clear w); intro w hA) | (refine s_v hA ?_; clear hA; (try clear w); intro v w hA hone hnil) | (refine s_b hA ?_; clear hA; (try clear w); intro b w hA) | refine sp (fun h => ?_) (fun h => ?_) | (refine wc_regionS 1 rfl ?_; refine wc_region ?_))
  obtain ⟨E1, hE1, hA1, hfz⟩ := hA.freezeCells
  have hN : NdAt E1 b n m k u := hfz
  clear hfz hA
  have hA := hA1
  clear hA1
  have hG1 := hG.mono hE1
  have hn1 := hn.mono hE1
  have c0 : E1.cell? ⟨b, 0, none⟩ = some (u8 n.kind) := hN 0 _ rfl
  have c43 : E1.cell? ⟨b, 43, none⟩ = some u := hN 43 _ rfl
  have c46 : E1.cell? ⟨b, 46, none⟩ = some (vs n.other.rbsp) := hN 46 _ rfl
  have ch := head_at hN
  obtain ⟨x1, hs1⟩ := hn1.slice.head.mods.sl
  obtain ⟨x2, hs2⟩ := hn1.slice.head.marks.sl
  unfold nodeN
  by_cases k0 : n.kind.toNat = 0
  · rw [if_pos (.inl k0)]
    repeat' (first | (refine g_ow ?_; refine t_load_env rfl rfl hA c0 ?_; refine rn ?_) | refine st ?_ | refine sr ?_ | refine sl hA ?_ | (refine s_w hA ?_; clear hA; (try clear w); intro w hA) | (refine s_v hA ?_; clear hA; (try clear w); intro v w hA hone hnil) | (refine s_b hA ?_; clear hA; (try clear w); intro b w hA) | refine sp (fun h => ?_) (fun h => ?_) | (refine wc_region ?_))
    exact ret1 (hA.le hE1) rfl rfl
  by_cases k1 : n.kind.toNat = 1
  · rw [if_pos (.inr k1)]
    repeat' (first | (refine g_ow ?_; refine t_load_env rfl rfl hA c0 ?_; refine rn ?_) | refine st ?_ | refine sr ?_ | refine sl hA ?_ | (refine s_w hA ?_; clear hA; (try clear w); intro w hA) | (refine s_v hA ?_; clear hA; (try clear w); intro v w hA hone hnil) | (refine s_b hA ?_; clear hA; (try clear w); intro b w hA) | refine sp (fun h => ?_) (fun h => ?_) | (refine wc_region ?_))
    exact ret1 (hA.le hE1) rfl rfl
  rw [if_neg (by omega)]
  by_cases k3 : n.kind.toNat = 3
  · rw [if_pos k3]
    repeat' (first | (refine g_ow ?_; refine t_load_env rfl rfl hA c0 ?_; refine rn ?_) | (refine g_ow ?_; refine t_load_env rfl rfl hA c46 ?_; refine rn ?_) | refine st ?_ | refine sr ?_ | refine sl hA ?_ | (refine s_w hA ?_; clear hA; (try clear w); intro w hA) | (refine s_v hA ?_; clear hA; (try clear w); intro v w hA hone hnil) | (refine s_b hA ?_; clear hA; (try clear w); intro b w hA) | refine sp (fun h => ?_) (fun h => ?_) | (refine wc_region ?_))
    exact ret1 (hA.le hE1) rfl (by show vi _ = vi _; congr 1 <;> omega)
  rw [if_neg k3]
  by_cases k2 : n.kind.toNat = 2
  · rw [if_pos k2]
    have h5 := sumN_le bitsV n.slice.mbs 1000000 fun m _ => bitsV_le m
    repeat' (first | (refine g_ow ?_; refine t_load_env rfl rfl hA c0 ?_; refine rn ?_) | (refine g_ow ?_; refine t_load_agg_env rfl rfl hA ch rfl ?_; refine rn ?_) | refine st ?_ | refine sr ?_ | refine sl hA ?_ | (refine s_w hA ?_; clear hA; (try clear w); intro w hA) | (refine s_v hA ?_; clear hA; (try clear w); intro v w hA hone hnil) | (refine s_b hA ?_; clear hA; (try clear w); intro b w hA) | refine sp (fun h => ?_) (fun h => ?_) | (refine wc_regionS 9 rfl ?_; refine wc_region ?_))
    have hof : ∀ (E2 : Env), E1.Le E2 → ∀ x ∈ n.slice.mbs, ∀ (r q u : Value) (E' : Env) (L : List Item) (w : World), E2.Le E' → MbL E' x r q u → Sat E' L w → Calls Tryd.prog 21 ⟨[.agg ⟨mbC x r q u⟩]⟩ w (Ret E' L (vi ((bitsV x : Nat) : Int))) := fun E2 h12 x _ r q u E' L w hE hm hA => bBits_calls x r q u E' L w hA hm (hG1.mono (h12.trans hE))
    refine' wc_vals 17 [24, 25, 26, 27, 28, 29, 30, 31, 32, 33, 34, 35, 36, 37, 38, 39, 40] [_, _, _, _, _, _, _, _, _, _, _, _, _, _, _, _, _] rfl (by kernel_rfl) (by kernel_rfl) (by kernel_rfl) hA ?ops9 ?k9
    case ops9 =>
      refine' VOps.c0 rfl [] (by decide) [] (by decide) rfl ?o9_0 ?r9_0
      case o9_0 => intro E' Lx w lf hE hl hA; replace hl := hz hl; subst hl; first | (refine oq ?_; exact ⟨pe, hA⟩)
      refine' VOps.c0 rfl [0] (by decide) [24] (by decide) rfl ?o9_1 ?r9_1
      case o9_1 => intro E' Lx w lf hE hl hA; replace hl := hz hl; subst hl; first | (refine t_load_env rfl rfl hA (hE.cell c43) ?_; exact ⟨pe, hA⟩) | (refine oq ?_; exact ⟨pe, hA⟩)
      refine' VOps.c0 rfl [1] (by decide) [25] (by decide) rfl ?o9_2 ?r9_2
      case o9_2 => intro E' Lx w lf hE hl hA; replace hl := hz hl; subst hl; first | (refine t_lenS rfl (hs1.mono hE) ?_; exact ⟨pe, hA⟩) | (refine t_lenS rfl (hs2.mono hE) ?_; exact ⟨pe, hA⟩) | (refine oq ?_; exact ⟨pe, hA⟩) | (refine t_lenS rfl (by assumption) ?_; exact ⟨pe, hA⟩)
      refine' VOps.c0 rfl [2] (by decide) [26] (by decide) rfl ?o9_3 ?r9_3
      case o9_3 => intro E' Lx w lf hE hl hA; replace hl := hz hl; subst hl; first | (refine oq ?_; exact ⟨pe, hA⟩)
      refine' VOps.c0 rfl [3] (by decide) [27] (by decide) rfl ?o9_4 ?r9_4
      case o9_4 => intro E' Lx w lf hE hl hA; replace hl := hz hl; subst hl; first | (refine oq ?_; exact ⟨pe, hA⟩)
      refine' VOps.c0 rfl [] (by decide) [] (by decide) rfl ?o9_5 ?r9_5
      case o9_5 => intro E' Lx w lf hE hl hA; replace hl := hz hl; subst hl; first | (refine oq ?_; exact ⟨pe, hA⟩)
      refine' VOps.c0 rfl [5] (by decide) [29] (by decide) rfl ?o9_6 ?r9_6
      case o9_6 => intro E' Lx w lf hE hl hA; replace hl := hz hl; subst hl; first | (refine t_load_env rfl rfl hA (hE.cell c43) ?_; exact ⟨pe, hA⟩) | (refine oq ?_; exact ⟨pe, hA⟩)
      refine' VOps.c0 rfl [6] (by decide) [30] (by decide) rfl ?o9_7 ?r9_7
      case o9_7 => intro E' Lx w lf hE hl hA; replace hl := hz hl; subst hl; first | (refine t_lenS rfl (hs1.mono hE) ?_; exact ⟨pe, hA⟩) | (refine t_lenS rfl (hs2.mono hE) ?_; exact ⟨pe, hA⟩) | (refine oq ?_; exact ⟨pe, hA⟩) | (refine t_lenS rfl (by assumption) ?_; exact ⟨pe, hA⟩)
      refine' VOps.c0 rfl [7] (by decide) [31] (by decide) rfl ?o9_8 ?r9_8
      case o9_8 => intro E' Lx w lf hE hl hA; replace hl := hz hl; subst hl; first | (refine oq ?_; exact ⟨pe, hA⟩)
      refine' VOps.c0 rfl [4, 8] (by decide) [28, 32] (by decide) rfl ?o9_9 ?r9_9
      case o9_9 => intro E' Lx w lf hE hl hA; replace hl := hz hl; subst hl; first | (refine oq ?_; exact ⟨pe, hA⟩)
      refine' VOps.c0 rfl [9] (by decide) [33] (by decide) rfl ?o9_10 ?r9_10
      case o9_10 => intro E' Lx w lf hE hl hA; replace hl := hz hl; subst hl; first | (refine oq ?_; exact ⟨pe, hA⟩)
      refine' VOps.c0 rfl [10] (by decide) [34] (by decide) rfl ?o9_11 ?r9_11
      case o9_11 => intro E' Lx w lf hE hl hA; replace hl := hz hl; subst hl; first | (refine oq ?_; exact ⟨pe, hA⟩)
      refine' VOps.c0 rfl [] (by decide) [] (by decide) rfl ?o9_12 ?r9_12
      case o9_12 => intro E' Lx w lf hE hl hA; replace hl := hz hl; subst hl; first | (refine oq ?_; exact ⟨pe, hA⟩)
      refine' VOps.c0 rfl [12] (by decide) [36] (by decide) rfl ?o9_13 ?r9_13
      case o9_13 => intro E' Lx w lf hE hl hA; replace hl := hz hl; subst hl; first | (refine oq ?_; exact ⟨pe, hA⟩)
      refine' VOps.c0 rfl [13] (by decide) [37] (by decide) rfl ?o9_14 ?r9_14
      case o9_14 => intro E' Lx w lf hE hl hA; replace hl := hz hl; subst hl; first | (refine t_load_env rfl rfl hA (hE.cell c43) ?_; exact ⟨pe, hA⟩) | (refine oq ?_; exact ⟨pe, hA⟩)
      refine' VOps.c0 rfl [14] (by decide) [38] (by decide) rfl ?o9_15 ?r9_15
      case o9_15 => intro E' Lx w lf hE hl hA; replace hl := hz hl; subst hl; first | (refine t_lenS rfl (hs1.mono hE) ?_; exact ⟨pe, hA⟩) | (refine t_lenS rfl (hs2.mono hE) ?_; exact ⟨pe, hA⟩) | (refine ow_call Tryd.call54 rfl ((sumM_calls 21 Tryd.call21 bitsV _ _ _ _ _ hA (hn1.slice.mbs.mono hE) (by omega) (hof _ hE)).mono ?_); clear hA; rintro e w ⟨rfl, hA⟩; refine ⟨_, rfl, ?_⟩; exact ⟨put_eq (by rfl), hA⟩)
      refine' VOps.c0 rfl [11, 15] (by decide) [35, 39] (by decide) rfl ?o9_16 ?r9_16
      case o9_16 => intro E' Lx w lf hE hl hA; replace hl := hz hl; subst hl; first | (refine oq ?_; exact ⟨pe, hA⟩)
      exact TameOps.nil
    case' k9 => (try clear hA); intro w hA; refine rn ?_
    unfold sliceN
    repeat' (first | refine st ?_ | refine sr ?_ | refine sl hA ?_ | (refine s_w hA ?_; clear hA; (try clear w); intro w hA) | (refine s_v hA ?_; clear hA; (try clear w); intro v w hA hone hnil) | (refine s_b hA ?_; clear hA; (try clear w); intro b w hA) | refine sp (fun h => ?_) (fun h => ?_) | (refine wc_region ?_))
    exact ret1 (hA.le hE1).tail rfl (by show vi _ = vi _; congr 1 <;> omega)
  rw [if_neg k2]
  repeat' (first | (refine g_ow ?_; refine t_load_env rfl rfl hA c0 ?_; refine rn ?_) | refine st ?_ | refine sr ?_ | refine sl hA ?_ | (refine s_w hA ?_; clear hA; (try clear w); intro w hA) | (refine s_v hA ?_; clear hA; (try clear w); intro v w hA hone hnil) | (refine s_b hA ?_; clear hA; (try clear w); intro b w hA) | refine sp (fun h => ?_) (fun h => ?_) | (refine wc_region ?_))
  exact ret1 (hA.le hE1) rfl rfl
theorem bTree_calls (v : Value) (xs : List Node) (E : Env) (L : List Item) (w : World) (hA : Sat E L w) (hG : MbG E) (hx : ListE nodeR 47 E v xs) (hb : ∀ n ∈ xs, NodeB n) (hl : xs.length ≤ 1000) :
    Calls Tryd.prog 30 ⟨[v]⟩ w (Ret E L (vi ((sumN nodeN xs : Nat) : Int))) := by
  have ov := hx.one
  have hs := sumN_le nodeN xs 2000000 fun n hn => nodeN_le (hb n hn)
  have hof : ∀ x ∈ xs, ∀ (r q u : Value) (E' : Env) (L : List Item) (w : World), E.Le E' → NodeL E' x r q u → Sat E' L w → Calls Tryd.prog 27 ⟨[.agg ⟨nodeC x r q u⟩]⟩ w (Ret E' L (vi ((nodeN x : Nat) : Int))) := fun x hx r q u E' L w hE hm hA => bNode_calls x r q u E' L w hA (hG.mono hE) hm (hb x hx)
  refine enter (fn := Tryd.f30) Tryd.func30 rfl 5 rfl [v, undef, undef, undef, undef] rfl ?_
  repeat' (first | (refine g_callf 56 ?_; refine ow_call Tryd.call56 rfl ((sumN_calls 27 Tryd.call27 nodeN _ _ _ _ _ hA hx (by omega) hof).mono ?_); clear hA; (try clear w); rintro e w ⟨rfl, hA⟩; refine ⟨_, rfl, ?_⟩; refine rn ?_) | refine st ?_ | refine sr ?_ | refine sl hA ?_ | (refine s_w hA ?_; clear hA; (try clear w); intro w hA) | (refine s_v hA ?_; clear hA; (try clear w); intro v w hA hone hnil) | (refine s_b hA ?_; clear hA; (try clear w); intro b w hA) | refine sp (fun h => ?_) (fun h => ?_) | (refine wc_region ?_))
  exact ret1 hA rfl rfl
/-- The guards. -/
def smallV (x : Slc) (p : Sps) (most : Nat) : Bool := (((fewB x.mbs most && decide ((x.head.mods.length : Int) ≤ 70)) && decide ((x.head.marks.length : Int) ≤ 70)) && decide (p.width ≤ 12)) && decide (p.height ≤ 12)
def lightH (n : Node) (most : Nat) : Bool := !smallV n.slice n.sps most || decide ((2000 : Int) < (n.other.rbsp.length : Int))
def lightB (xs : List Node) (most : Nat) : Bool := decide (xs.length ≤ 12) && xs.all fun n => !lightH n most
theorem light_node {n : Node} (h : lightH n 6 = false) : NodeB n := by
  unfold lightH smallV fewB at h
  simp only [Bool.or_eq_false_iff, Bool.not_eq_false', Bool.and_eq_true, decide_eq_true_eq, decide_eq_false_iff_not, List.all_eq_true] at h
  obtain ⟨⟨⟨⟨⟨⟨h1, h2⟩, h3⟩, h4⟩, h5⟩, h6⟩, h7⟩ := h
  exact ⟨by omega, by omega, h1, h2, by omega⟩
theorem light_all {xs : List Node} (h : lightB xs 6 = true) : xs.length ≤ 12 ∧ ∀ n ∈ xs, NodeB n := by
  unfold lightB at h
  rw [Bool.and_eq_true, List.all_eq_true] at h
  exact ⟨of_decide_eq_true h.1, fun n hn => light_node (by simpa using h.2 n hn)⟩
theorem lightB_out {xs : List Node} {most i : Nat} {n : Node} (hm : xs[i]? = some n) (h : lightH n most = true) : lightB xs most = false := by
  unfold lightB
  rw [Bool.and_eq_false_iff]
  right
  rw [List.all_eq_false]
  exact ⟨n, List.mem_of_getElem? hm, by rw [h]; decide⟩
theorem lightB_in {xs : List Node} {most : Nat} (hl : xs.length ≤ 12) (h : ∀ (j : Nat) n, xs[j]? = some n → lightH n most = false) : lightB xs most = true := by
  unfold lightB
  rw [Bool.and_eq_true]
  refine ⟨decide_eq_true hl, List.all_eq_true.2 fun n hn => ?_⟩
  obtain ⟨j, hj⟩ := List.getElem?_of_mem hn
  rw [h j n hj]; rfl
set_option maxRecDepth 16000 in
set_option maxHeartbeats 8000000 in
theorem small31_calls (x : Slc) (p : Sps) (most : Nat) (m k u : Value) (E : Env) (L : List Item) (w : World) (hA : Sat E L w) (hx : SliceL E x m k u) :
    Calls Tryd.prog 53 ⟨[.agg ⟨sliceC x m k u⟩, .agg ⟨spsC p⟩, vi (most : Int)]⟩ w (Ret E L (.bool (smallV x p most))) := by
  have o1 := hx.head.mods.one
  have o2 := hx.head.marks.one
  have o3 := hx.mbs.one
  obtain ⟨x1, hs1⟩ := hx.head.mods.sl
  obtain ⟨x2, hs2⟩ := hx.head.marks.sl
  refine enter (fn := Tryd.f53) Tryd.func53 rfl 35 rfl [.agg ⟨sliceC x m k u⟩, .agg ⟨spsC p⟩, vi (most : Int), undef, undef, undef, undef, undef, undef, undef, undef, undef, undef, undef, undef, undef, undef, undef, undef, undef, undef, undef, undef, undef, undef, undef, undef, undef, undef, undef, undef, undef, undef, undef, undef] rfl ?_
  repeat' (first | refine st ?_ | refine sr ?_ | refine sl hA ?_ | (refine s_w hA ?_; clear hA; (try clear w); intro w hA) | (refine s_v hA ?_; clear hA; (try clear w); intro v w hA hone hnil) | (refine s_b hA ?_; clear hA; (try clear w); intro b w hA) | refine sp (fun h => ?_) (fun h => ?_) | (refine wc_regionS 1 rfl ?_; refine wc_region ?_))
  refine wc_region ?_
  refine rv hA ?_; clear hA; intro w hA
  refine rv hA ?_; clear hA; intro w hA
  refine rv hA ?_; clear hA; intro w hA
  refine' rl_v hA ?o1_3 ?k1_3
  case o1_3 => intro w hA; first | (refine t_lenS rfl hs1 ?_; exact ⟨pe, hA⟩) | (refine t_lenS rfl hs2 ?_; exact ⟨pe, hA⟩) | (refine ow_call Tryd.call17 rfl ((few14_calls _ x.mbs most _ _ _ hA hx.mbs).mono ?_); clear hA; rintro e w ⟨rfl, hA⟩; refine ⟨_, rfl, ?_⟩; exact ⟨put_eq (by rfl), hA⟩)
  clear hA; intro w hA; refine rn ?_
  refine rv hA ?_; clear hA; intro w hA
  refine rt hA ?_; clear hA; intro w hA
  refine rt hA ?_; clear hA; intro w hA
  refine rt hA ?_; clear hA; intro w hA
  first | refine' rl_T rfl hA ?o1_8 ?k1_8 | refine' rl_Tn rfl hA ?o1_8 ?k1_8
  case o1_8 => intro hg w hA; first | (refine t_lenS opr hs1 ?_; exact ⟨pe, hA⟩) | (refine t_lenS opr hs2 ?_; exact ⟨pe, hA⟩) | (refine oqg ?_; exact ⟨pe, hA⟩) | (refine t_lenS opr (by assumption) ?_; exact ⟨pe, hA⟩)
  clear hA; intro w hA; refine rn ?_
  refine rt hA ?_; clear hA; intro w hA
  refine rv hA ?_; clear hA; intro w hA
  refine rv hA ?_; clear hA; intro w hA
  refine rt hA ?_; clear hA; intro w hA
  refine rt hA ?_; clear hA; intro w hA
  refine rt hA ?_; clear hA; intro w hA
  first | refine' rl_T rfl hA ?o1_15 ?k1_15 | refine' rl_Tn rfl hA ?o1_15 ?k1_15
  case o1_15 => intro hg w hA; first | (refine t_lenS opr hs1 ?_; exact ⟨pe, hA⟩) | (refine t_lenS opr hs2 ?_; exact ⟨pe, hA⟩) | (refine oqg ?_; exact ⟨pe, hA⟩) | (refine t_lenS opr (by assumption) ?_; exact ⟨pe, hA⟩)
  clear hA; intro w hA; refine rn ?_
  refine rt hA ?_; clear hA; intro w hA
  refine rv hA ?_; clear hA; intro w hA
  refine rv hA ?_; clear hA; intro w hA
  refine rt hA ?_; clear hA; intro w hA
  refine rt hA ?_; clear hA; intro w hA
  refine rt hA ?_; clear hA; intro w hA
  refine rv hA ?_; clear hA; intro w hA
  refine rv hA ?_; clear hA; intro w hA
  refine rt hA ?_; clear hA; intro w hA
  refine rt hA ?_; clear hA; intro w hA
  refine rt hA ?_; clear hA; intro w hA
  refine rv hA ?_; clear hA; intro w hA
  refine rv hA ?_; clear hA; intro w hA
  refine rl_nil ?_
  repeat' (first | refine st ?_ | refine sr ?_ | refine sl hA ?_ | (refine s_w hA ?_; clear hA; (try clear w); intro w hA) | (refine s_v hA ?_; clear hA; (try clear w); intro v w hA hone hnil) | (refine s_b hA ?_; clear hA; (try clear w); intro b w hA) | refine sp (fun h => ?_) (fun h => ?_) | (refine wc_region ?_))
  exact ret1 (hA.dropN 2) rfl rfl
set_option maxRecDepth 16000 in
set_option maxHeartbeats 8000000 in
theorem light_calls (v : Value) (xs : List Node) (most : Nat) (E : Env) (L : List Item) (w : World) (hA : Sat E L w) (hx : ListE nodeR 47 E v xs) :
    Calls Tryd.prog 26 ⟨[v, vi (most : Int)]⟩ w (Ret E L (.bool (lightB xs most))) := by
  obtain ⟨cx, hcx⟩ := hx.sl
  have ov := hx.one
  have hlen := hcx.le
  refine enter (fn := Tryd.f26) Tryd.func26 rfl 38 rfl [v, vi (most : Int), undef, undef, undef, undef, undef, undef, undef, undef, undef, undef, undef, undef, undef, undef, undef, undef, undef, undef, undef, undef, undef, undef, undef, undef, undef, undef, undef, undef, undef, undef, undef, undef, undef, undef, undef, undef] rfl ?_
  by_cases hn : xs.length ≤ 12
  · repeat' (first | (refine g_call ?_; refine t_lenS rfl hcx ?_; refine rn ?_) | refine st ?_ | refine sr ?_ | refine sl hA ?_ | (refine s_w hA ?_; clear hA; (try clear w); intro w hA) | (refine s_v hA ?_; clear hA; (try clear w); intro v w hA hone hnil) | (refine s_b hA ?_; clear hA; (try clear w); intro b w hA) | refine sp (fun h => ?_) (fun h => ?_) | (refine wc_region ?_))
    refine wc_loopn (fun m l w => ∃ (i : Nat), (∃ jk : Nat → Value, l = [v, vi (most : Int), jk 2, jk 3, .bool false, vi (i : Int), jk 6, jk 7, jk 8, jk 9, jk 10, jk 11, jk 12, jk 13, jk 14, jk 15, jk 16, jk 17, jk 18, jk 19, jk 20, jk 21, jk 22, jk 23, jk 24, jk 25, jk 26, jk 27, jk 28, jk 29, jk 30, jk 31, jk 32, jk 33, jk 34, jk 35, jk 36, jk 37]) ∧ i + m = xs.length ∧ (∀ (j : Nat) x, j < i → xs[j]? = some x → lightH x most = false) ∧ Sat E L w) xs.length ⟨0, (ex_getD rfl), by omega, fun j x hj => absurd hj (by omega), hA⟩ ?_
    clear hA
    rintro m l w ⟨i, ⟨jk, rfl⟩, hi, hall, hA⟩
    by_cases hlt : i < xs.length
    · obtain ⟨x, hxi⟩ : ∃ x, xs[i]? = some x := ⟨_, List.getElem?_eq_getElem (by omega)⟩
      obtain ⟨cs, hcsl, ⟨r, q, u, rfl, hm⟩, hg⟩ := hx.get hxi
      have c2 : ∀ j z, (spsC x.sps)[j]? = some z → E.cell? ⟨sB v, sO v + (i : Int).toNat * 47 + 2 + j, none⟩ = some z := fun j z hz => by
        have hj : j < 9 := (List.getElem?_eq_some_iff.1 hz).1
        have := hg (2 + j) z (by
          have : j = 0 ∨ j = 1 ∨ j = 2 ∨ j = 3 ∨ j = 4 ∨ j = 5 ∨ j = 6 ∨ j = 7 ∨ j = 8 := by omega
          rcases this with rfl | rfl | rfl | rfl | rfl | rfl | rfl | rfl | rfl <;> exact hz)
        rw [Nat.add_assoc]; exact this
      have c21 : ∀ j z, (sliceC x.slice r q u)[j]? = some z → E.cell? ⟨sB v, sO v + (i : Int).toNat * 47 + 21 + j, none⟩ = some z := fun j z hz => by
        have hj : j < 23 := (List.getElem?_eq_some_iff.1 hz).1
        have := hg (21 + j) z (by
          have : j = 0 ∨ j = 1 ∨ j = 2 ∨ j = 3 ∨ j = 4 ∨ j = 5 ∨ j = 6 ∨ j = 7 ∨ j = 8 ∨ j = 9 ∨ j = 10 ∨ j = 11 ∨ j = 12 ∨ j = 13 ∨ j = 14 ∨ j = 15 ∨ j = 16 ∨ j = 17 ∨ j = 18 ∨ j = 19 ∨ j = 20 ∨ j = 21 ∨ j = 22 := by omega
          rcases this with rfl | rfl | rfl | rfl | rfl | rfl | rfl | rfl | rfl | rfl | rfl | rfl | rfl | rfl | rfl | rfl | rfl | rfl | rfl | rfl | rfl | rfl | rfl <;> exact hz)
        rw [Nat.add_assoc]; exact this
      have c46 : E.cell? ⟨sB v, sO v + (i : Int).toNat * 47 + 44 + 2, none⟩ = some (vs x.other.rbsp) := hg 46 _ rfl
      repeat' (first | (refine g_call ?_; refine t_lenS rfl hcx ?_; refine rn ?_) | refine st ?_ | refine sr ?_ | refine sl hA ?_ | (refine s_w hA ?_; clear hA; (try clear w); intro w hA) | (refine s_v hA ?_; clear hA; (try clear w); intro v w hA hone hnil) | (refine s_b hA ?_; clear hA; (try clear w); intro b w hA) | refine sp (fun h => ?_) (fun h => ?_) | (refine wc_regionS 6 rfl ?_; refine wc_region ?_))
      refine' wc_vals 23 [15, 16, 17, 18, 19, 20, 21, 22, 23, 24, 25, 26, 27, 28, 29, 30, 31, 32, 33, 34, 35, 36, 37] [_, _, _, _, _, _, _, _, _, _, _, _, _, _, _, _, _, _, _, _, _, _, _] rfl (by kernel_rfl) (by kernel_rfl) (by kernel_rfl) hA ?ops6 ?k6
      case ops6 =>
        refine' VOps.c0 rfl [] (by decide) [] (by decide) rfl ?o6_0 ?r6_0
        case o6_0 => intro E' Lx w lf hE hl hA; replace hl := hz hl; subst hl; first | (refine oq ?_; exact ⟨pe, hA⟩)
        refine' VOps.c0 rfl [] (by decide) [] (by decide) rfl ?o6_1 ?r6_1
        case o6_1 => intro E' Lx w lf hE hl hA; replace hl := hz hl; subst hl; first | (refine oq ?_; exact ⟨pe, hA⟩)
        refine' VOps.c0 rfl [0, 1] (by decide) [15, 16] (by decide) rfl ?o6_2 ?r6_2
        case o6_2 => intro E' Lx w lf hE hl hA; replace hl := hz hl; subst hl; first | (refine t_indexAddrS rfl (hcx.mono hE) rfl (by omega) ?_; exact ⟨pe, hA⟩) | (refine oq ?_; exact ⟨pe, hA⟩) | (refine t_indexAddrS rfl rfl (by omega) ?_; exact ⟨pe, hA⟩)
        refine' VOps.c0 rfl [2] (by decide) [17] (by decide) rfl ?o6_3 ?r6_3
        case o6_3 => intro E' Lx w lf hE hl hA; replace hl := hz hl; subst hl; first | (refine oq ?_; exact ⟨pe, hA⟩)
        refine' VOps.c0 rfl [3] (by decide) [18] (by decide) rfl ?o6_4 ?r6_4
        case o6_4 => intro E' Lx w lf hE hl hA; replace hl := hz hl; subst hl; first | (refine t_load_agg_env rfl rfl hA (fun j z hz => hE.cell (c21 j z hz)) rfl ?_; exact ⟨pe, hA⟩) | (refine t_load_agg_env rfl rfl hA (fun j z hz => hE.cell (c2 j z hz)) rfl ?_; exact ⟨pe, hA⟩) | (refine t_load_env rfl rfl hA (hE.cell c46) ?_; exact ⟨pe, hA⟩) | (refine oq ?_; exact ⟨pe, hA⟩)
        refine' VOps.c0 rfl [] (by decide) [] (by decide) rfl ?o6_5 ?r6_5
        case o6_5 => intro E' Lx w lf hE hl hA; replace hl := hz hl; subst hl; first | (refine oq ?_; exact ⟨pe, hA⟩)
        refine' VOps.c0 rfl [] (by decide) [] (by decide) rfl ?o6_6 ?r6_6
        case o6_6 => intro E' Lx w lf hE hl hA; replace hl := hz hl; subst hl; first | (refine oq ?_; exact ⟨pe, hA⟩)
        refine' VOps.c0 rfl [5, 6] (by decide) [20, 21] (by decide) rfl ?o6_7 ?r6_7
        case o6_7 => intro E' Lx w lf hE hl hA; replace hl := hz hl; subst hl; first | (refine t_indexAddrS rfl (hcx.mono hE) rfl (by omega) ?_; exact ⟨pe, hA⟩) | (refine oq ?_; exact ⟨pe, hA⟩) | (refine t_indexAddrS rfl rfl (by omega) ?_; exact ⟨pe, hA⟩)
        refine' VOps.c0 rfl [7] (by decide) [22] (by decide) rfl ?o6_8 ?r6_8
        case o6_8 => intro E' Lx w lf hE hl hA; replace hl := hz hl; subst hl; first | (refine oq ?_; exact ⟨pe, hA⟩)
        refine' VOps.c0 rfl [8] (by decide) [23] (by decide) rfl ?o6_9 ?r6_9
        case o6_9 => intro E' Lx w lf hE hl hA; replace hl := hz hl; subst hl; first | (refine t_load_agg_env rfl rfl hA (fun j z hz => hE.cell (c21 j z hz)) rfl ?_; exact ⟨pe, hA⟩) | (refine t_load_agg_env rfl rfl hA (fun j z hz => hE.cell (c2 j z hz)) rfl ?_; exact ⟨pe, hA⟩) | (refine t_load_env rfl rfl hA (hE.cell c46) ?_; exact ⟨pe, hA⟩) | (refine oq ?_; exact ⟨pe, hA⟩)
        refine' VOps.c0 rfl [] (by decide) [] (by decide) rfl ?o6_10 ?r6_10
        case o6_10 => intro E' Lx w lf hE hl hA; replace hl := hz hl; subst hl; first | (refine oq ?_; exact ⟨pe, hA⟩)
        refine' VOps.c0 rfl [4, 9, 10] (by decide) [19, 24, 25] (by decide) rfl ?o6_11 ?r6_11
        case o6_11 => intro E' Lx w lf hE hl hA; replace hl := hz hl; subst hl; first | (refine ow_call Tryd.call53 rfl ((small31_calls x.slice x.sps most r q u _ _ _ hA (hm.slice.mono hE)).mono ?_); clear hA; rintro e w ⟨rfl, hA⟩; refine ⟨_, rfl, ?_⟩; exact ⟨put_eq (by rfl), hA⟩)
        refine' VOps.c0 rfl [11] (by decide) [26] (by decide) rfl ?o6_12 ?r6_12
        case o6_12 => intro E' Lx w lf hE hl hA; replace hl := hz hl; subst hl; first | (refine oq ?_; exact ⟨pe, hA⟩)
        refine' VOps.c0 rfl [12, 11] (by decide) [27, 26] (by decide) rfl ?o6_13 ?r6_13
        case o6_13 => intro E' Lx w lf hE hl hA; replace hl := hz hl; subst hl; first | (refine oq ?_; exact ⟨pe, hA⟩)
        first | refine' VOps.cF rfl [13] (by decide) [28] (by decide) rfl rfl ?o6_14 ?r6_14 | refine' VOps.cFn rfl [13] (by decide) [28] (by decide) rfl rfl ?o6_14 ?r6_14
        case o6_14 => intro hg E' Lx w lf hE hl hA; replace hl := hz hl; subst hl; first | (refine oqg ?_; exact ⟨pe, hA⟩)
        first | refine' VOps.cF rfl [13] (by decide) [28] (by decide) rfl rfl ?o6_15 ?r6_15 | refine' VOps.cFn rfl [13] (by decide) [28] (by decide) rfl rfl ?o6_15 ?r6_15
        case o6_15 => intro hg E' Lx w lf hE hl hA; replace hl := hz hl; subst hl; first | (refine oqg ?_; exact ⟨pe, hA⟩)
        first | refine' VOps.cF rfl [14, 15, 13] (by decide) [29, 30, 28] (by decide) rfl rfl ?o6_16 ?r6_16 | refine' VOps.cFn rfl [14, 15, 13] (by decide) [29, 30, 28] (by decide) rfl rfl ?o6_16 ?r6_16
        case o6_16 => intro hg E' Lx w lf hE hl hA; replace hl := hz hl; subst hl; first | (refine t_indexAddrS opr (hcx.mono hE) opr (by omega) ?_; exact ⟨pe, hA⟩) | (refine oqg ?_; exact ⟨pe, hA⟩) | (refine t_indexAddrS opr opr (by omega) ?_; exact ⟨pe, hA⟩)
        first | refine' VOps.cF rfl [16, 13] (by decide) [31, 28] (by decide) rfl rfl ?o6_17 ?r6_17 | refine' VOps.cFn rfl [16, 13] (by decide) [31, 28] (by decide) rfl rfl ?o6_17 ?r6_17
        case o6_17 => intro hg E' Lx w lf hE hl hA; replace hl := hz hl; subst hl; first | (refine oqg ?_; exact ⟨pe, hA⟩)
        first | refine' VOps.cF rfl [17, 13] (by decide) [32, 28] (by decide) rfl rfl ?o6_18 ?r6_18 | refine' VOps.cFn rfl [17, 13] (by decide) [32, 28] (by decide) rfl rfl ?o6_18 ?r6_18
        case o6_18 => intro hg E' Lx w lf hE hl hA; replace hl := hz hl; subst hl; first | (refine oqg ?_; exact ⟨pe, hA⟩)
        first | refine' VOps.cF rfl [18, 13] (by decide) [33, 28] (by decide) rfl rfl ?o6_19 ?r6_19 | refine' VOps.cFn rfl [18, 13] (by decide) [33, 28] (by decide) rfl rfl ?o6_19 ?r6_19
        case o6_19 => intro hg E' Lx w lf hE hl hA; replace hl := hz hl; subst hl; first | (refine t_load_agg_env rfl opr hA (fun j z hz => hE.cell (c21 j z hz)) rfl ?_; exact ⟨pe, hA⟩) | (refine t_load_agg_env rfl opr hA (fun j z hz => hE.cell (c2 j z hz)) rfl ?_; exact ⟨pe, hA⟩) | (refine t_load_env rfl opr hA (hE.cell c46) ?_; exact ⟨pe, hA⟩) | (refine oqg ?_; exact ⟨pe, hA⟩)
        first | refine' VOps.cF rfl [19, 13] (by decide) [34, 28] (by decide) rfl rfl ?o6_20 ?r6_20 | refine' VOps.cFn rfl [19, 13] (by decide) [34, 28] (by decide) rfl rfl ?o6_20 ?r6_20
        case o6_20 => intro hg E' Lx w lf hE hl hA; replace hl := hz hl; subst hl; first | (refine oqg ?_; exact ⟨pe, hA⟩) | (refine t_lenS opr (by assumption) ?_; exact ⟨pe, hA⟩)
        first | refine' VOps.cF rfl [20, 13] (by decide) [35, 28] (by decide) rfl rfl ?o6_21 ?r6_21 | refine' VOps.cFn rfl [20, 13] (by decide) [35, 28] (by decide) rfl rfl ?o6_21 ?r6_21
        case o6_21 => intro hg E' Lx w lf hE hl hA; replace hl := hz hl; subst hl; first | (refine oqg ?_; exact ⟨pe, hA⟩)
        refine' VOps.c0 rfl [13, 21] (by decide) [28, 36] (by decide) rfl ?o6_22 ?r6_22
        case o6_22 => intro E' Lx w lf hE hl hA; replace hl := hz hl; subst hl; first | (refine oq ?_; exact ⟨pe, hA⟩)
        exact TameOps.nil
      case' k6 => (try clear hA); intro w hA; refine rn ?_
      refine rl_nil ?_
      refine tq_normal ?_
      cases hH : lightH x most with
      | true =>
        rw [lightB_out hxi hH]
        refine wc_true (by rw [← hH]; rfl) ?_
        repeat' (first | refine st ?_ | refine sr ?_ | refine sl hA ?_ | (refine s_w hA ?_; clear hA; (try clear w); intro w hA) | (refine s_v hA ?_; clear hA; (try clear w); intro v w hA hone hnil) | (refine s_b hA ?_; clear hA; (try clear w); intro b w hA) | refine sp (fun h => ?_) (fun h => ?_) | (refine wc_region ?_))
        exact ret1 hA rfl rfl
      | false =>
        refine wc_false (by rw [← hH]; rfl) ?_
        repeat' (first | refine st ?_ | refine sr ?_ | refine sl hA ?_ | (refine s_w hA ?_; clear hA; (try clear w); intro w hA) | (refine s_v hA ?_; clear hA; (try clear w); intro v w hA hone hnil) | (refine s_b hA ?_; clear hA; (try clear w); intro b w hA) | refine sp (fun h => ?_) (fun h => ?_) | (refine wc_region ?_))
        refine lq_next (m - 1) (by omega) ⟨i + 1, (ex_getD rfl), by omega, fun k y hk hy => ?_, hA⟩
        by_cases e : k = i
        · subst e; rw [hxi] at hy; cases hy; exact hH
        · exact hall k y (by omega) hy
    · rw [lightB_in hn fun j m hj => hall j m (by have := (List.getElem?_eq_some_iff.1 hj).1; omega) hj]
      repeat' (first | (refine g_call ?_; refine t_lenS rfl hcx ?_; refine rn ?_) | refine st ?_ | refine sr ?_ | refine sl hA ?_ | (refine s_w hA ?_; clear hA; (try clear w); intro w hA) | (refine s_v hA ?_; clear hA; (try clear w); intro v w hA hone hnil) | (refine s_b hA ?_; clear hA; (try clear w); intro b w hA) | refine sp (fun h => ?_) (fun h => ?_) | (refine wc_region ?_))
      exact ret1 hA rfl rfl
  · have e : lightB xs most = false := by unfold lightB; rw [decide_eq_false hn]; rfl
    rw [e]
    repeat' (first | (refine g_call ?_; refine t_lenS rfl hcx ?_; refine rn ?_) | refine st ?_ | refine sr ?_ | refine sl hA ?_ | (refine s_w hA ?_; clear hA; (try clear w); intro w hA) | (refine s_v hA ?_; clear hA; (try clear w); intro v w hA hone hnil) | (refine s_b hA ?_; clear hA; (try clear w); intro b w hA) | refine sp (fun h => ?_) (fun h => ?_) | (refine wc_region ?_))
    exact ret1 hA rfl rfl
end Go.Proofs.YtomfoaaaeidpnaaDoor
