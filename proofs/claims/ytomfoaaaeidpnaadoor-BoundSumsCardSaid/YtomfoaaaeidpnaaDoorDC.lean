/-
  spindlelaw38.BoundSums, walked.
-/
import Derived.Test.YtomfoaaaeidpnaaDoorD8
import Derived.Test.YtomfoaaaeidpnaaDoorK9
set_option linter.unusedVariables false
set_option linter.unusedSimpArgs false
namespace Go.Proofs.YtomfoaaaeidpnaaDoor
open Go Go.RowKit
attribute [local irreducible] WC RL OW bodyPostM ThenQ BlockQ LoopQ ScopeQ
theorem NodeB.fits {n : Node} (h : NodeB n) : NodeF n :=
  ⟨⟨⟨by have := h.mods; omega, by have := h.marks; omega⟩, by have := h.mbs; omega, fun m hm => fewM_fits (h.few m hm)⟩⟩
theorem sumN_reverse {α : Type} (f : α → Nat) (l : List α) : sumN f l.reverse = sumN f l := by
  induction l with
  | nil => rfl
  | cons a r ih => rw [List.reverse_cons, sumN_append, sumN_cons, sumN_cons, sumN_nil, ih]; omega
set_option maxRecDepth 16000 in
set_option maxHeartbeats 8000000 in
theorem boundSums_calls (v : Value) (xs : List Node) (E : Env) (L : List Item) (w : World) (hA : Sat E L w) (hG : MbG E) (hx : ListE nodeR 47 E v xs) (hsh : ∀ n ∈ xs, ∀ m ∈ n.slice.mbs, Short m.blocks) :
    Calls Tryd.prog 7 ⟨[v]⟩ w (Ret E L (.bool true)) := by
  obtain ⟨cx, hcx⟩ := hx.sl
  have ov := hx.one
  have hlen := hcx.le
  have hlc : ∀ (L : List Item) (w : World), Sat E L w → Calls Tryd.prog 26 ⟨[v, vi 6]⟩ w (Ret E L (.bool (lightB xs 6))) := fun L w hA => light_calls v xs 6 E L w hA hx
  refine enter (fn := Tryd.f7) Tryd.func7 rfl 44 rfl [v, undef, undef, undef, undef, undef, undef, undef, undef, undef, undef, undef, undef, undef, undef, undef, undef, undef, undef, undef, undef, undef, undef, undef, undef, undef, undef, undef, undef, undef, undef, undef, undef, undef, undef, undef, undef, undef, undef, undef, undef, undef, undef, undef] rfl ?_
  cases hlt : lightB xs 6 with
  | false =>
    rw [hlt] at hlc
    repeat' (first | (refine g_callf 26 ?_; refine ow_call Tryd.call26 rfl ((hlc _ _ hA).mono ?_); clear hA; (try clear w); rintro e w ⟨rfl, hA⟩; refine ⟨_, rfl, ?_⟩; refine rn ?_) | refine st ?_ | refine sr ?_ | refine sl hA ?_ | (refine s_w hA ?_; clear hA; (try clear w); intro w hA) | (refine s_v hA ?_; clear hA; (try clear w); intro v w hA hone hnil) | (refine s_b hA ?_; clear hA; (try clear w); intro b w hA) | refine sp (fun h => ?_) (fun h => ?_) | (refine wc_region ?_))
    exact ret1 hA rfl rfl
  | true =>
    rw [hlt] at hlc
    obtain ⟨h12, hall⟩ := light_all hlt
    have hsl := sumN_le nodeN xs 2000000 fun n hn => nodeN_le (hall n hn)
    repeat' (first | (refine g_callf 26 ?_; refine ow_call Tryd.call26 rfl ((hlc _ _ hA).mono ?_); clear hA; (try clear w); rintro e w ⟨rfl, hA⟩; refine ⟨_, rfl, ?_⟩; refine rn ?_) | (refine g_call ?_; refine t_lenS rfl hcx ?_; refine rn ?_) | refine st ?_ | refine sr ?_ | refine sl hA ?_ | (refine s_w hA ?_; clear hA; (try clear w); intro w hA) | (refine s_v hA ?_; clear hA; (try clear w); intro v w hA hone hnil) | (refine s_b hA ?_; clear hA; (try clear w); intro b w hA) | refine sp (fun h => ?_) (fun h => ?_) | (refine wc_region ?_))
    have hA' := hA.nilRow 57 47
    clear hA; rename _ => hA
    refine wc_loopn (fun t l w => ∃ (j S n : Nat) (u : Value) (E1 : Env) (cells : List Value), (∃ jk : Nat → Value, l = [v, jk 1, .bool false, vi ((S : Nat) : Int), u, vi ((j : Int) - 1), jk 6, jk 7, jk 8, jk 9, jk 10, jk 11, jk 12, jk 13, jk 14, jk 15, jk 16, jk 17, jk 18, jk 19, jk 20, jk 21, jk 22, jk 23, jk 24, jk 25, jk 26, jk 27, jk 28, jk 29, jk 30, jk 31, jk 32, jk 33, jk 34, jk 35, jk 36, jk 37, jk 38, jk 39, jk 40, jk 41, jk 42, jk 43]) ∧ t = j ∧ n + j = xs.length ∧ S = sumN nodeN (xs.drop j) ∧ E.Le E1 ∧ CsE nodeR 47 E1 cells (xs.drop j).reverse ∧ u.oneCell' = true ∧ Sat E1 (row 57 47 u n cells :: L) w) xs.length ⟨xs.length, 0, 0, _, E, [], (ex_getD rfl), rfl, by omega, by rw [List.drop_length]; rfl, Env.Le.refl _, by rw [List.drop_length]; exact CsE.nil, rfl, hA⟩ ?_
    clear hA
    rintro t l w ⟨j, S, n, u, E1, cells, ⟨jk, rfl⟩, ht, hn, hS, hE1, hc, hu, hA⟩
    have hG1 := hG.mono hE1
    have hcx1 := hcx.mono hE1
    cases j with
    | succ i =>
      obtain ⟨x, hxi⟩ : ∃ x, xs[i]? = some x := ⟨_, List.getElem?_eq_getElem (by omega)⟩
      have hbx := hall x (List.mem_of_getElem? hxi)
      have hxl := nodeN_le hbx
      obtain ⟨cs, hcsl, ⟨r, q, b, rfl, hm0⟩, hg⟩ := hx.get hxi
      have hm := hm0.mono hE1
      have hx0 : ∀ t z, (nodeC x r q b)[t]? = some z → E1.cell? ⟨sB v, sO v + (i : Int).toNat * 47 + t, none⟩ = some z := fun t z hz => hE1.cell (hg t z hz)
      have hdr : xs.drop i = x :: xs.drop (i + 1) := by
        obtain ⟨hil, rfl⟩ := List.getElem?_eq_some_iff.1 hxi
        exact List.drop_eq_getElem_cons hil
      have hSle : S ≤ sumN nodeN xs := by
        rw [hS]
        conv => rhs; rw [← List.take_append_drop (i + 1) xs, sumN_append]
        omega
      have e7 : (((i + 1 : Nat) : Int) - 1) = (i : Int) := by omega
      rw [e7]
      have q1 := hm.slice.head.mods.one
      have q2 := hm.slice.head.marks.one
      have q3 := hm.slice.mbs.one
      repeat' (first | (refine g_ow ?_; refine t_indexAddrS rfl hcx1 rfl (by omega) ?_; refine rn ?_) | (refine g_ow ?_; refine t_load_agg_env rfl rfl hA hx0 rfl ?_; refine rn ?_) | (refine g_callf 27 ?_; refine ow_call Tryd.call27 rfl ((bNode_calls x r q b _ _ _ hA hG1 hm hbx).mono ?_); clear hA; (try clear w); rintro e w ⟨rfl, hA⟩; refine ⟨_, rfl, ?_⟩; refine rn ?_) | (refine g_callf 28 ?_; refine ow_call Tryd.call28 rfl ((copyNode_calls x r q b _ _ _ hA hm hbx.fits).mono ?_); clear hA; (try clear w); rintro e w ⟨E2, v2, rfl, hE2, ⟨r', q', b', rfl, hq0⟩, hA⟩; refine ⟨_, rfl, ?_⟩; (try have hq' := hq0.mono (Env.sub_le _ _); have z1 := hq'.slice.head.mods.one; have z2 := hq'.slice.head.marks.one; have z3 := hq'.slice.mbs.one); refine rn ?_) | (refine g_call ?_; refine t_append1 1 0 (by decide) (by rfl) rfl rfl hA rfl rfl rfl (nodeC_one hq') (by unfold maxLen; omega) (by omega) ?_; clear hA; intro v' w hA h1 h2; refine h_n hA ?_; clear hA; intro hA; refine rn ?_) | refine st ?_ | refine sr ?_ | refine sl hA ?_ | (refine s_w hA ?_; clear hA; (try clear w); intro w hA) | (refine s_v hA ?_; clear hA; (try clear w); intro v w hA hone hnil) | (refine s_b hA ?_; clear hA; (try clear w); intro b w hA) | refine sp (fun h => ?_) (fun h => ?_) | (refine wc_region ?_))
      have e5 : ((S : Nat) : Int) + ((nodeN x : Nat) : Int) = ((S + nodeN x : Nat) : Int) := by omega
      rw [e5]
      refine lq_next (t - 1) (by omega) ⟨i, S + nodeN x, n + 1, v', E2, cells ++ nodeC x r' q' b', (ex_getD rfl), by omega, by omega, by rw [hdr, sumN_cons, hS]; omega, hE1.trans hE2, ?_, h1, hA⟩
      rw [hdr, List.reverse_cons]
      exact (hc.mono hE2).snoc rfl ⟨r', q', b', rfl, hq'⟩
    | zero =>
      have e7 : (((0 : Nat) : Int) - 1) = -1 := by omega
      rw [e7]
      rw [List.drop_zero] at hS hc
      obtain rfl : n = xs.length := by omega
      have hrl : xs.length = xs.reverse.length := by simp
      rw [hrl] at hA
      obtain ⟨E2, hE2, hA, hl⟩ := hA.freezeList hc
      have ol := hl.one
      have hall' : ∀ n ∈ xs.reverse, NodeB n := fun n hn => hall n (List.mem_reverse.1 hn)
      have t1 : ∀ (L : List Item) (w : World), Sat E2 L w → Calls Tryd.prog 30 ⟨[v]⟩ w (Ret E2 L (vi ((S : Nat) : Int))) := fun L w hA => by
        rw [hS]
        exact bTree_calls v xs E2 L w hA (hG1.mono hE2) ((hx.mono hE1).mono hE2) hall (by omega)
      have t2 : ∀ (L : List Item) (w : World), Sat E2 L w → Calls Tryd.prog 30 ⟨[u]⟩ w (Ret E2 L (vi ((S : Nat) : Int))) := fun L w hA => by
        have := bTree_calls u xs.reverse E2 L w hA (hG1.mono hE2) hl hall' (by rw [← hrl]; omega)
        rw [sumN_reverse, ← hS] at this
        exact this
      repeat' (first | refine st ?_ | refine sr ?_ | refine sl hA ?_ | (refine s_w hA ?_; clear hA; (try clear w); intro w hA) | (refine s_v hA ?_; clear hA; (try clear w); intro v w hA hone hnil) | (refine s_b hA ?_; clear hA; (try clear w); intro b w hA) | refine sp (fun h => ?_) (fun h => ?_) | (refine wc_regionS 10 rfl ?_; refine wc_region ?_))
      refine wc_region ?_
      refine rv hA ?_; clear hA; intro w hA
      refine' rl_v hA ?o10_1 ?k10_1
      case o10_1 => intro w hA; first | (refine ow_call Tryd.call30 rfl ((t1 _ _ hA).mono ?_); clear hA; rintro e w ⟨rfl, hA⟩; refine ⟨_, rfl, ?_⟩; exact ⟨put_eq (by rfl), hA⟩)
      clear hA; intro w hA; refine rn ?_
      refine rv hA ?_; clear hA; intro w hA
      refine rv hA ?_; clear hA; intro w hA
      refine rv hA ?_; clear hA; intro w hA
      refine rt hA ?_; clear hA; intro w hA
      first | refine' rl_T rfl hA ?o10_6 ?k10_6 | refine' rl_Tn rfl hA ?o10_6 ?k10_6
      case o10_6 => intro hg w hA; first | (refine ow_call Tryd.call30 (evs1 opr) ((t2 _ _ hA).mono ?_); clear hA; rintro e w ⟨rfl, hA⟩; refine ⟨_, rfl, ?_⟩; exact ⟨put_eq (by rfl), hA⟩)
      clear hA; intro w hA; refine rn ?_
      refine rt hA ?_; clear hA; intro w hA
      refine rt hA ?_; clear hA; intro w hA
      refine rv hA ?_; clear hA; intro w hA
      refine rv hA ?_; clear hA; intro w hA
      first | refine' rl_T rfl hA ?o10_11 ?k10_11 | refine' rl_Tn rfl hA ?o10_11 ?k10_11
      case o10_11 => intro hg w hA; first | (refine ow_call Tryd.call24 rfl ((awake38_calls _ _ _ hA (hG1.mono hE2)).mono ?_); clear hA; rintro e w ⟨rfl, hA⟩; refine ⟨_, rfl, ?_⟩; exact ⟨put_eq (by rfl), hA⟩)
      clear hA; intro w hA; refine rn ?_
      refine rv hA ?_; clear hA; intro w hA
      refine rv hA ?_; clear hA; intro w hA
      refine rl_nil ?_
      repeat' (first | refine st ?_ | refine sr ?_ | refine sl hA ?_ | (refine s_w hA ?_; clear hA; (try clear w); intro w hA) | (refine s_v hA ?_; clear hA; (try clear w); intro v w hA hone hnil) | (refine s_b hA ?_; clear hA; (try clear w); intro b w hA) | refine sp (fun h => ?_) (fun h => ?_) | (refine wc_region ?_))
      exact ret1 (hA.le (hE1.trans hE2)) rfl (by simp)
end Go.Proofs.YtomfoaaaeidpnaaDoor
