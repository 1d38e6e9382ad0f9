/-
  The reference's Node and Tree, walked.
-/
import Derived.Test.YtomfoaaaeidpnaaDoorD8
import Derived.Test.YtomfoaaaeidpnaaDoorD6
set_option linter.unusedVariables false
set_option linter.unusedSimpArgs false
namespace Go.Proofs.YtomfoaaaeidpnaaDoor
open Go Go.RowKit
attribute [local irreducible] WC RL OW bodyPostM ThenQ BlockQ LoopQ ScopeQ
set_option maxRecDepth 16000 in
set_option maxHeartbeats 8000000 in
theorem rNode_calls (n : Node) (m k u : Value) (E : Env) (L : List Item) (w : World) (hA : Sat E L w) (hn : NodeL E n m k u) (hb : NodeB n) :
    Calls Tryd.prog 29 ⟨[.agg ⟨nodeC n m k u⟩]⟩ w (Ret E L (vi ((nodeN n : Nat) : Int))) := by
  have o1 := hn.slice.head.mods.one
  have o2 := hn.slice.head.marks.one
  have o3 := hn.slice.mbs.one
  have b1 := hb.mods
  have b2 := hb.marks
  have b3 := hb.mbs
  have b4 := hb.rbsp
  refine enter (fn := Tryd.f29) Tryd.func29 rfl 60 rfl [.agg ⟨nodeC n m k u⟩, undef, undef, undef, undef, undef, undef, undef, undef, undef, undef, undef, undef, undef, undef, undef, undef, undef, undef, undef, undef, undef, undef, undef, undef, undef, undef, undef, undef, undef, undef, undef, undef, undef, undef, undef, undef, undef, undef, undef, undef, undef, undef, undef, undef, undef, undef, undef, undef, undef, undef, undef, undef, undef, undef, undef, undef, undef, undef, undef] rfl ?_
  repeat' (first | refine st ?_ | refine sr ?_ | refine sl hA ?_ | (refine s_w hA ?_; clear hA; (try clear w); intro w hA) | (refine s_v hA ?_; clear hA; (try clear w); intro v w hA hone hnil) | (refine s_b hA ?_; clear hA; (try clear w); intro b w hA) | refine sp (fun h => ?_) (fun h => ?_) | (refine wc_regionS 1 rfl ?_; refine wc_region ?_))
  obtain ⟨E1, hE1, hA1, hfz⟩ := hA.freezeCells
  have hN : NdAt E1 b n m k u := hfz
  clear hfz hA
  have hA := hA1
  clear hA1
  have hn1 := hn.mono hE1
  have c0 : E1.cell? ⟨b, 0, none⟩ = some (u8 n.kind) := hN 0 _ rfl
  have c33 : E1.cell? ⟨b, 33, none⟩ = some m := hN 33 _ rfl
  have c37 : E1.cell? ⟨b, 37, none⟩ = some k := hN 37 _ rfl
  have c43 : E1.cell? ⟨b, 43, none⟩ = some u := hN 43 _ rfl
  have c46 : E1.cell? ⟨b, 46, none⟩ = some (vs n.other.rbsp) := hN 46 _ rfl
  obtain ⟨x1, hs1⟩ := hn1.slice.head.mods.sl
  obtain ⟨x2, hs2⟩ := hn1.slice.head.marks.sl
  obtain ⟨x3, hs3⟩ := hn1.slice.mbs.sl
  unfold nodeN
  by_cases k0 : n.kind.toNat = 0
  · rw [if_pos (.inl k0)]
    repeat' (first | (refine g_ow ?_; refine t_load_env rfl rfl hA c0 ?_; refine rn ?_) | refine st ?_ | refine sr ?_ | refine sl hA ?_ | (refine s_w hA ?_; clear hA; (try clear w); intro w hA) | (refine s_v hA ?_; clear hA; (try clear w); intro v w hA hone hnil) | (refine s_b hA ?_; clear hA; (try clear w); intro b w hA) | refine sp (fun h => ?_) (fun h => ?_) | (refine wc_region ?_))
    exact ret1 (hA.le hE1) rfl rfl
  by_cases k1 : n.kind.toNat = 1
  · rw [if_pos (.inr k1)]
    repeat' (first | (refine g_ow ?_; refine t_load_env rfl rfl hA c0 ?_; refine rn ?_) | refine st ?_ | refine sr ?_ | refine sl hA ?_ | (refine s_w hA ?_; clear hA; (try clear w); intro w hA) | (refine s_v hA ?_; clear hA; (try clear w); intro v w hA hone hnil) | (refine s_b hA ?_; clear hA; (try clear w); intro b w hA) | refine sp (fun h => ?_) (fun h => ?_) | (refine wc_region ?_))
    exact ret1 (hA.le hE1) rfl rfl
  rw [if_neg (by omega)]
  by_cases k3 : n.kind.toNat = 3
  · rw [if_pos k3]
    repeat' (first | (refine g_ow ?_; refine t_load_env rfl rfl hA c0 ?_; refine rn ?_) | (refine g_ow ?_; refine t_load_env rfl rfl hA c46 ?_; refine rn ?_) | refine st ?_ | refine sr ?_ | refine sl hA ?_ | (refine s_w hA ?_; clear hA; (try clear w); intro w hA) | (refine s_v hA ?_; clear hA; (try clear w); intro v w hA hone hnil) | (refine s_b hA ?_; clear hA; (try clear w); intro b w hA) | refine sp (fun h => ?_) (fun h => ?_) | (refine wc_region ?_))
    exact ret1 (hA.le hE1) rfl (by show vi _ = vi _; congr 1 <;> omega)
  rw [if_neg k3]
  by_cases k2 : n.kind.toNat = 2
  · rw [if_pos k2]
    have h5 := sumN_le bitsV n.slice.mbs 1000000 fun m _ => bitsV_le m
    generalize hM : n.slice.head.mods.length = mo at *
    generalize hK : n.slice.head.marks.length = mk at *
    repeat' (first | (refine g_ow ?_; refine t_load_env rfl rfl hA c0 ?_; refine rn ?_) | (refine g_ow ?_; refine t_load_env rfl rfl hA c33 ?_; refine rn ?_) | (refine g_ow ?_; refine t_load_env rfl rfl hA c37 ?_; refine rn ?_) | (refine g_call ?_; refine t_lenS rfl hs1 ?_; refine rn ?_) | (refine g_call ?_; refine t_lenS rfl hs2 ?_; refine rn ?_) | refine st ?_ | refine sr ?_ | refine sl hA ?_ | (refine s_w hA ?_; clear hA; (try clear w); intro w hA) | (refine s_v hA ?_; clear hA; (try clear w); intro v w hA hone hnil) | (refine s_b hA ?_; clear hA; (try clear w); intro b w hA) | refine sp (fun h => ?_) (fun h => ?_) | (refine wc_region ?_))
    have e0 : (64 : Int) + 63 * (16 + 2 * (mo : Int) + 3 * (mk : Int)) = ((64 + 63 * (16 + 2 * mo + 3 * mk) + 0 : Nat) : Int) := by omega
    rw [e0]
    refine wc_loopn (fun t l w => ∃ (i p : Nat), (∃ jk : Nat → Value, l = [jk 0, .pointer (some ⟨b, 0, none⟩), vi 0, vi ((p : Nat) : Int), vi (i : Int), jk 5, jk 6, jk 7, jk 8, jk 9, jk 10, jk 11, jk 12, jk 13, jk 14, jk 15, jk 16, jk 17, jk 18, jk 19, jk 20, jk 21, jk 22, jk 23, jk 24, jk 25, jk 26, jk 27, jk 28, jk 29, jk 30, jk 31, jk 32, jk 33, jk 34, jk 35, jk 36, jk 37, jk 38, jk 39, jk 40, jk 41, jk 42, jk 43, jk 44, jk 45, jk 46, jk 47, jk 48, jk 49, jk 50, jk 51, jk 52, jk 53, jk 54, jk 55, jk 56, jk 57, jk 58, jk 59]) ∧ i + t = n.slice.mbs.length ∧ p = 64 + 63 * (16 + 2 * mo + 3 * mk) + sumN bitsV (n.slice.mbs.take i) ∧ Sat E1 L w) n.slice.mbs.length ⟨0, _, (ex_getD rfl), by omega, rfl, hA⟩ ?_
    clear hA
    rintro t l w ⟨i, p, ⟨jk, rfl⟩, hi, hp, hA⟩
    by_cases hlt : i < n.slice.mbs.length
    · obtain ⟨x, hxi⟩ : ∃ x, n.slice.mbs[i]? = some x := ⟨_, List.getElem?_eq_getElem (by omega)⟩
      have hfw := hb.few x (List.mem_of_getElem? hxi)
      have hfit := fewM_fits hfw
      have hsh := fewM_short hfw
      obtain ⟨cs, hcsl, ⟨r, q, s, rfl, hm⟩, hg⟩ := hn1.slice.mbs.get hxi
      have hx0 : ∀ t z, (mbC x r q s)[t]? = some z → E1.cell? ⟨sB u, sO u + (i : Int).toNat * 29 + t, none⟩ = some z := hg
      have hst := sumN_take bitsV n.slice.mbs i x hxi
      have hmo := sumN_mono bitsV n.slice.mbs (i + 1)
      have q1 := hm.refs.one
      have q2 := hm.mvds.one
      have q3 := hm.blocks.one
      repeat' (first | (refine g_ow ?_; refine t_load_env rfl rfl hA c43 ?_; refine rn ?_) | (refine g_call ?_; refine t_lenS rfl hs3 ?_; refine rn ?_) | (refine g_ow ?_; refine t_indexAddrS rfl hs3 rfl (by omega) ?_; refine rn ?_) | (refine g_ow ?_; refine t_load_agg_env rfl rfl hA hx0 rfl ?_; refine rn ?_) | (refine g_callf 22 ?_; refine ow_call Tryd.call22 rfl ((rBits_calls x r q s _ _ _ hA hm hfit hsh).mono ?_); clear hA; (try clear w); rintro e w ⟨rfl, hA⟩; refine ⟨_, rfl, ?_⟩; refine rn ?_) | refine st ?_ | refine sr ?_ | refine sl hA ?_ | (refine s_w hA ?_; clear hA; (try clear w); intro w hA) | (refine s_v hA ?_; clear hA; (try clear w); intro v w hA hone hnil) | (refine s_b hA ?_; clear hA; (try clear w); intro b w hA) | refine sp (fun h => ?_) (fun h => ?_) | (refine wc_region ?_))
      have e5 : ((p : Nat) : Int) + ((bitsV x : Nat) : Int) = ((p + bitsV x : Nat) : Int) := by omega
      rw [e5]
      exact lq_next (t - 1) (by omega) ⟨i + 1, _, (ex_getD rfl), by omega, by omega, hA⟩
    · have ei : i = n.slice.mbs.length := by omega
      rw [ei, List.take_length] at hp
      repeat' (first | (refine g_ow ?_; refine t_load_env rfl rfl hA c43 ?_; refine rn ?_) | (refine g_call ?_; refine t_lenS rfl hs3 ?_; refine rn ?_) | refine st ?_ | refine sr ?_ | refine sl hA ?_ | (refine s_w hA ?_; clear hA; (try clear w); intro w hA) | (refine s_v hA ?_; clear hA; (try clear w); intro v w hA hone hnil) | (refine s_b hA ?_; clear hA; (try clear w); intro b w hA) | refine sp (fun h => ?_) (fun h => ?_) | (refine wc_region ?_))
      unfold sliceN
      exact ret1 (hA.le hE1) rfl (by show vi _ = vi _; congr 1 <;> omega)
  rw [if_neg k2]
  repeat' (first | (refine g_ow ?_; refine t_load_env rfl rfl hA c0 ?_; refine rn ?_) | refine st ?_ | refine sr ?_ | refine sl hA ?_ | (refine s_w hA ?_; clear hA; (try clear w); intro w hA) | (refine s_v hA ?_; clear hA; (try clear w); intro v w hA hone hnil) | (refine s_b hA ?_; clear hA; (try clear w); intro b w hA) | refine sp (fun h => ?_) (fun h => ?_) | (refine wc_region ?_))
  exact ret1 (hA.le hE1) rfl rfl
set_option maxHeartbeats 4000000 in
theorem rTree_calls (v : Value) (xs : List Node) (E : Env) (L : List Item) (w : World) (hA : Sat E L w) (hx : ListE nodeR 47 E v xs) (hb : ∀ n ∈ xs, NodeB n) (hl : xs.length ≤ 1000) :
    Calls Tryd.prog 32 ⟨[v]⟩ w (Ret E L (vi ((sumN nodeN xs : Nat) : Int))) := by
  obtain ⟨cx, hcx⟩ := hx.sl
  have ov := hx.one
  have hs := sumN_le nodeN xs 2000000 fun n hn => nodeN_le (hb n hn)
  refine enter (fn := Tryd.f32) Tryd.func32 rfl 19 rfl [v, undef, undef, undef, undef, undef, undef, undef, undef, undef, undef, undef, undef, undef, undef, undef, undef, undef, undef] rfl ?_
  repeat' (first | refine st ?_ | refine sr ?_ | refine sl hA ?_ | (refine s_w hA ?_; clear hA; (try clear w); intro w hA) | (refine s_v hA ?_; clear hA; (try clear w); intro v w hA hone hnil) | (refine s_b hA ?_; clear hA; (try clear w); intro b w hA) | refine sp (fun h => ?_) (fun h => ?_) | (refine wc_region ?_))
  refine wc_loopn (fun m l w => ∃ (i : Nat), (∃ jk : Nat → Value, l = [v, jk 1, vi 0, vi ((sumN nodeN (xs.take i) : Nat) : Int), vi (i : Int), jk 5, jk 6, jk 7, jk 8, jk 9, jk 10, jk 11, jk 12, jk 13, jk 14, jk 15, jk 16, jk 17, jk 18]) ∧ i + m = xs.length ∧ Sat E L w) xs.length ⟨0, (ex_getD rfl), by omega, hA⟩ ?_
  clear hA
  rintro m l w ⟨i, ⟨jk, rfl⟩, hi, hA⟩
  by_cases hlt : i < xs.length
  · obtain ⟨x, hxi⟩ : ∃ x, xs[i]? = some x := ⟨_, List.getElem?_eq_getElem (by omega)⟩
    have hbx := hb x (List.mem_of_getElem? hxi)
    obtain ⟨cs, hcsl, ⟨r, q, u, rfl, hm⟩, hg⟩ := hx.get hxi
    have hx0 : ∀ t z, (nodeC x r q u)[t]? = some z → E.cell? ⟨sB v, sO v + (i : Int).toNat * 47 + t, none⟩ = some z := hg
    have o1 := hm.slice.head.mods.one
    have o2 := hm.slice.head.marks.one
    have o3 := hm.slice.mbs.one
    have hst := sumN_take nodeN xs i x hxi
    have hmo := sumN_mono nodeN xs (i + 1)
    repeat' (first | (refine g_call ?_; refine t_lenS rfl hcx ?_; refine rn ?_) | (refine g_ow ?_; refine t_indexAddrS rfl hcx rfl (by omega) ?_; refine rn ?_) | (refine g_ow ?_; refine t_load_agg_env rfl rfl hA hx0 rfl ?_; refine rn ?_) | (refine g_callf 29 ?_; refine ow_call Tryd.call29 rfl ((rNode_calls x r q u _ _ _ hA hm hbx).mono ?_); clear hA; (try clear w); rintro e w ⟨rfl, hA⟩; refine ⟨_, rfl, ?_⟩; refine rn ?_) | refine st ?_ | refine sr ?_ | refine sl hA ?_ | (refine s_w hA ?_; clear hA; (try clear w); intro w hA) | (refine s_v hA ?_; clear hA; (try clear w); intro v w hA hone hnil) | (refine s_b hA ?_; clear hA; (try clear w); intro b w hA) | refine sp (fun h => ?_) (fun h => ?_) | (refine wc_region ?_))
    have e5 : ((sumN nodeN (xs.take i) : Nat) : Int) + ((nodeN x : Nat) : Int) = ((sumN nodeN (xs.take (i + 1)) : Nat) : Int) := by omega
    rw [e5]
    exact lq_next (m - 1) (by omega) ⟨i + 1, (ex_getD rfl), by omega, hA⟩
  · have ei : i = xs.length := by omega
    have e1 : xs.take i = xs := by rw [ei, List.take_length]
    rw [e1]
    repeat' (first | (refine g_call ?_; refine t_lenS rfl hcx ?_; refine rn ?_) | refine st ?_ | refine sr ?_ | refine sl hA ?_ | (refine s_w hA ?_; clear hA; (try clear w); intro w hA) | (refine s_v hA ?_; clear hA; (try clear w); intro v w hA hone hnil) | (refine s_b hA ?_; clear hA; (try clear w); intro b w hA) | refine sp (fun h => ?_) (fun h => ?_) | (refine wc_region ?_))
    exact ret1 hA rfl rfl
end Go.Proofs.YtomfoaaaeidpnaaDoor
