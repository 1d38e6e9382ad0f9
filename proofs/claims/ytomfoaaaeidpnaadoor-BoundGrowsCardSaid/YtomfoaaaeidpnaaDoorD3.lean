/-
  bound.block, bins, valid, Bins and Bits, and spindlelaw14.Few, walked.
-/
import Derived.Test.YtomfoaaaeidpnaaDoorD1
import Derived.Test.YtomfoaaaeidpnaaDoorK4
set_option linter.unusedVariables false
set_option linter.unusedSimpArgs false
namespace Go.Proofs.YtomfoaaaeidpnaaDoor
open Go Go.RowKit
attribute [local irreducible] WC RL OW bodyPostM ThenQ BlockQ LoopQ ScopeQ
theorem bblock_calls (v : Value) (xs : List Int) (E : Env) (L : List Item) (w : World) (hA : Sat E L w) (hx : ListE intR 1 E v xs) (hs : ∀ x ∈ xs, x.natAbs ≤ 100000) (hl : xs.length ≤ 100000) :
    Calls Tryd.prog 99 ⟨[v]⟩ w (Ret E L (vi ((blockN xs : Nat) : Int))) := by
  obtain ⟨cx, hcx⟩ := hx.sl
  have ov := hx.one
  have hn := sumN_le levelN xs 66 fun x hx => levelN_le x (hs x hx)
  have hof : ∀ x ∈ xs, ∀ (E' : Env) (L : List Item) (w : World), E.Le E' → Sat E' L w → Calls Tryd.prog 132 ⟨[vi x]⟩ w (Ret E' L (vi ((levelN x : Nat) : Int))) := fun x hm E' L w _ hA => blevel_calls E' L w x (hs x hm) hA
  refine enter (fn := Tryd.f99) Tryd.func99 rfl 15 rfl [v, undef, undef, undef, undef, undef, undef, undef, undef, undef, undef, undef, undef, undef, undef] rfl ?_
  by_cases h0 : sumN levelN xs = 0
  · rw [blockN, if_pos h0]
    repeat' (first | (refine g_callf 93 ?_; refine ow_call Tryd.call93 rfl ((sumI_calls 132 Tryd.call132 levelN v xs _ _ _ hA hx (by omega) hof).mono ?_); clear hA; (try clear w); rintro e w ⟨rfl, hA⟩; refine ⟨_, rfl, ?_⟩; refine rn ?_) | refine st ?_ | refine sr ?_ | refine sl hA ?_ | (refine s_w hA ?_; clear hA; (try clear w); intro w hA) | (refine s_v hA ?_; clear hA; (try clear w); intro v w hA hone hnil) | (refine s_b hA ?_; clear hA; (try clear w); intro b w hA) | refine sp (fun h => ?_) (fun h => ?_) | (refine wc_region ?_))
    exact ret1 hA rfl rfl
  · have hpos : 0 < xs.length := by
      cases xs with
      | nil => exact absurd rfl h0
      | cons a r => exact Nat.succ_pos _
    rw [blockN, if_neg h0]
    repeat' (first | (refine g_callf 93 ?_; refine ow_call Tryd.call93 rfl ((sumI_calls 132 Tryd.call132 levelN v xs _ _ _ hA hx (by omega) hof).mono ?_); clear hA; (try clear w); rintro e w ⟨rfl, hA⟩; refine ⟨_, rfl, ?_⟩; refine rn ?_) | (refine g_call ?_; refine t_lenS rfl hcx ?_; refine rn ?_) | refine st ?_ | refine sr ?_ | refine sl hA ?_ | (refine s_w hA ?_; clear hA; (try clear w); intro w hA) | (refine s_v hA ?_; clear hA; (try clear w); intro v w hA hone hnil) | (refine s_b hA ?_; clear hA; (try clear w); intro b w hA) | refine sp (fun h => ?_) (fun h => ?_) | (refine wc_region ?_))
    exact ret1 hA rfl (by show vi _ = vi _; congr 1; omega)
set_option maxHeartbeats 4000000 in
theorem bbins_calls (m : Mb) (r v u : Value) (E : Env) (L : List Item) (w : World) (hA : Sat E L w) (hm : MbL E m r v u) (hs : Sm m) :
    Calls Tryd.prog 46 ⟨[.agg ⟨mbC m r v u⟩]⟩ w (Ret E L (vi ((binsN m : Nat) : Int))) := by
  have o1 := hm.refs.one
  have o2 := hm.mvds.one
  have o3 := hm.blocks.one
  have n1 := sumN_le predN m.preds.toList 4 fun x _ => predN_le x
  have n2 := sumN_le refN m.refs 32 fun x hx => by have := hs.refs x hx; unfold refN; omega
  have n3 := sumN_le vecN m.mvds 122 fun v hv => by
    have := hs.mvds v hv
    have := compN_le v.x (by omega)
    have := compN_le v.y (by omega)
    unfold vecN; omega
  have n4 := sumN_le blockN m.blocks 1089 hs.block
  have l1 : m.preds.toList.length = 16 := by simp
  have l2 := hs.nrefs
  have l3 := hs.nmvds
  have l4 := hs.nblocks
  refine enter (fn := Tryd.f46) Tryd.func46 rfl 50 rfl [.agg ⟨mbC m r v u⟩, undef, undef, undef, undef, undef, undef, undef, undef, undef, undef, undef, undef, undef, undef, undef, undef, undef, undef, undef, undef, undef, undef, undef, undef, undef, undef, undef, undef, undef, undef, undef, undef, undef, undef, undef, undef, undef, undef, undef, undef, undef, undef, undef, undef, undef, undef, undef, undef, undef] rfl ?_
  repeat' (first | refine st ?_ | refine sr ?_ | refine sl hA ?_ | (refine s_w hA ?_; clear hA; (try clear w); intro w hA) | (refine s_v hA ?_; clear hA; (try clear w); intro v w hA hone hnil) | (refine s_b hA ?_; clear hA; (try clear w); intro b w hA) | refine sp (fun h => ?_) (fun h => ?_) | (refine wc_regionS 2 rfl ?_; refine wc_region ?_))
  obtain ⟨E1, hE1, hA1, hf⟩ := hA.freezeCells
  have hmA : MbAt E1 b m r v u := hf
  clear hf hA
  have hA := hA1
  clear hA1
  have c0 : E1.cell? ⟨b, 0, none⟩ = some (u8 m.kind) := hmA 0 _ rfl
  have c5 : E1.cell? ⟨b, 23, none⟩ = some r := hmA 23 _ rfl
  have c6 : E1.cell? ⟨b, 24, none⟩ = some v := hmA 24 _ rfl
  have c9 : E1.cell? ⟨b, 27, none⟩ = some u := hmA 27 _ rfl
  by_cases k7 : m.kind.toNat = 7
  · rw [binsN, if_pos k7]
    repeat' (first | (refine g_ow ?_; refine t_load_env rfl rfl hA c0 ?_; refine rn ?_) | refine st ?_ | refine sr ?_ | refine sl hA ?_ | (refine s_w hA ?_; clear hA; (try clear w); intro w hA) | (refine s_v hA ?_; clear hA; (try clear w); intro v w hA hone hnil) | (refine s_b hA ?_; clear hA; (try clear w); intro b w hA) | refine sp (fun h => ?_) (fun h => ?_) | (refine wc_region ?_))
    exact ret1 (hA.le hE1) rfl rfl
  by_cases k2 : m.kind.toNat = 2
  · rw [binsN, if_neg k7, if_pos k2]
    repeat' (first | (refine g_ow ?_; refine t_load_env rfl rfl hA c0 ?_; refine rn ?_) | refine st ?_ | refine sr ?_ | refine sl hA ?_ | (refine s_w hA ?_; clear hA; (try clear w); intro w hA) | (refine s_v hA ?_; clear hA; (try clear w); intro v w hA hone hnil) | (refine s_b hA ?_; clear hA; (try clear w); intro b w hA) | refine sp (fun h => ?_) (fun h => ?_) | (refine wc_region ?_))
    exact ret1 (hA.le hE1) rfl rfl
  rw [binsN, if_neg k7, if_neg k2]
  have hof0 : ∀ x ∈ m.preds.toList, ∀ (E' : Env) (L : List Item) (w : World), E1.Le E' → Sat E' L w → Calls Tryd.prog 92 ⟨[u8 x]⟩ w (Ret E' L (vi ((predN x : Nat) : Int))) := fun x hm E' L w _ hA => bpred_calls E' L w x hA
  have hof1 : ∀ x ∈ m.refs, ∀ (E' : Env) (L : List Item) (w : World), E1.Le E' → Sat E' L w → Calls Tryd.prog 94 ⟨[vi x]⟩ w (Ret E' L (vi ((refN x : Nat) : Int))) := fun x hm E' L w _ hA => bref_calls E' L w x (hs.refs x hm) hA
  have hof2 : ∀ x ∈ m.mvds, ∀ (E' : Env) (L : List Item) (w : World), E1.Le E' → Sat E' L w → Calls Tryd.prog 96 ⟨[.agg ⟨vecC x⟩]⟩ w (Ret E' L (vi ((vecN x : Nat) : Int))) := fun x hm E' L w _ hA => bvec_calls E' L w x (hs.mvds x hm) hA
  have hof3 : ∀ x ∈ m.blocks, ∀ q, ∀ (E' : Env) (L : List Item) (w : World), E1.Le E' → ListE intR 1 E' q x → Sat E' L w → Calls Tryd.prog 99 ⟨[q]⟩ w (Ret E' L (vi ((blockN x : Nat) : Int))) := fun x hm q E' L w _ hq hA => bblock_calls q x E' L w hA hq (fun z hz => by have := (hs.blocks x hm).2 z hz; omega) (by have := (hs.blocks x hm).1; omega)
  repeat' (first | (refine g_ow ?_; refine t_load_env rfl rfl hA c0 ?_; refine rn ?_) | refine st ?_ | refine sr ?_ | refine sl hA ?_ | (refine s_w hA ?_; clear hA; (try clear w); intro w hA) | (refine s_v hA ?_; clear hA; (try clear w); intro v w hA hone hnil) | (refine s_b hA ?_; clear hA; (try clear w); intro b w hA) | refine sp (fun h => ?_) (fun h => ?_) | (refine wc_regionS 7 rfl ?_; refine wc_region ?_))
  refine wc_region ?_
  refine rv hA ?_; clear hA; intro w hA
  refine' rl_v hA ?o7_1 ?k7_1
  case o7_1 => intro w hA; first | (refine t_load_env rfl rfl hA c0 ?_; exact ⟨pe, hA⟩) | (refine oq ?_; exact ⟨pe, hA⟩)
  clear hA; intro w hA; refine rn ?_
  refine rv hA ?_; clear hA; intro w hA
  refine rl_nil ?_
  refine tq_normal ?_
  refine wc_mid (fun l w => ∃ p : Int, (∃ jk : Nat → Value, l = [jk 0, .pointer (some ⟨b, 0, none⟩), vi 0, vi p, jk 4, jk 5, jk 6, jk 7, jk 8, jk 9, jk 10, jk 11, jk 12, jk 13, jk 14, jk 15, jk 16, jk 17, jk 18, jk 19, jk 20, jk 21, jk 22, jk 23, jk 24, jk 25, jk 26, jk 27, jk 28, jk 29, jk 30, jk 31, jk 32, jk 33, jk 34, jk 35, jk 36, jk 37, jk 38, jk 39, jk 40, jk 41, jk 42, jk 43, jk 44, jk 45, jk 46, jk 47, jk 48, jk 49]) ∧ p = 10 + ((if m.kind.toNat = 0 then sumN predN m.preds.toList else 0 : Nat) : Int) ∧ p ≤ 1000 ∧ Sat E1 L w) ?_ ?_
  · by_cases k0 : m.kind.toNat = 0
    · have hp := preds_at hmA
      rw [if_pos k0]
      repeat' (first | (refine g_ow ?_; refine t_sliceA (by decide) rfl ?_; refine rn ?_) | (refine g_callf 91 ?_; refine ow_call Tryd.call91 rfl ((sumU_calls 92 Tryd.call92 predN _ _ _ _ _ hA hp (by omega) hof0).mono ?_); clear hA; (try clear w); rintro e w ⟨rfl, hA⟩; refine ⟨_, rfl, ?_⟩; refine rn ?_) | refine st ?_ | refine sr ?_ | refine sl hA ?_ | (refine s_w hA ?_; clear hA; (try clear w); intro w hA) | (refine s_v hA ?_; clear hA; (try clear w); intro v w hA hone hnil) | (refine s_b hA ?_; clear hA; (try clear w); intro b w hA) | refine sp (fun h => ?_) (fun h => ?_) | (refine wc_region ?_))
      exact mq_normal ⟨_, (ex_getD rfl), by omega, by omega, hA⟩
    · rw [if_neg k0]
      repeat' (first | refine st ?_ | refine sr ?_ | refine sl hA ?_ | (refine s_w hA ?_; clear hA; (try clear w); intro w hA) | (refine s_v hA ?_; clear hA; (try clear w); intro v w hA hone hnil) | (refine s_b hA ?_; clear hA; (try clear w); intro b w hA) | refine sp (fun h => ?_) (fun h => ?_) | (refine wc_region ?_))
      exact mq_normal ⟨_, (ex_getD rfl), by omega, by omega, hA⟩
  clear hA
  rintro l w ⟨p, ⟨jk, rfl⟩, hp, hple, hA⟩
  have hp0 : 0 ≤ p := by omega
  repeat' (first | refine st ?_ | refine sr ?_ | refine sl hA ?_ | (refine s_w hA ?_; clear hA; (try clear w); intro w hA) | (refine s_v hA ?_; clear hA; (try clear w); intro v w hA hone hnil) | (refine s_b hA ?_; clear hA; (try clear w); intro b w hA) | refine sp (fun h => ?_) (fun h => ?_) | (refine wc_regionS 9 rfl ?_; refine wc_region ?_))
  refine wc_region ?_
  refine rv hA ?_; clear hA; intro w hA
  refine' rl_v hA ?o9_1 ?k9_1
  case o9_1 => intro w hA; first | (refine t_load_env rfl rfl hA c0 ?_; exact ⟨pe, hA⟩) | (refine oq ?_; exact ⟨pe, hA⟩)
  clear hA; intro w hA; refine rn ?_
  refine' rl_v hA ?o9_2 ?k9_2
  case o9_2 => intro w hA; first | (refine ow_call Tryd.call62 rfl ((intra_calls _ _ _ w hA).mono ?_); clear hA; rintro e w ⟨rfl, hA⟩; refine ⟨_, rfl, ?_⟩; exact ⟨put_eq (by rfl), hA⟩)
  clear hA; intro w hA; refine rn ?_
  refine rl_nil ?_
  refine tq_normal ?_
  have hp' := hp
  generalize hq0 : p = p0 at hp'
  refine wc_mid (fun l w => ∃ p : Int, (∃ jk : Nat → Value, l = [jk 0, .pointer (some ⟨b, 0, none⟩), vi 0, vi p, jk 4, jk 5, jk 6, jk 7, jk 8, jk 9, jk 10, jk 11, jk 12, jk 13, jk 14, jk 15, jk 16, jk 17, jk 18, jk 19, jk 20, jk 21, jk 22, jk 23, jk 24, jk 25, jk 26, jk 27, jk 28, jk 29, jk 30, jk 31, jk 32, jk 33, jk 34, jk 35, jk 36, jk 37, jk 38, jk 39, jk 40, jk 41, jk 42, jk 43, jk 44, jk 45, jk 46, jk 47, jk 48, jk 49]) ∧ p = p0 + ((if m.kind.toNat ≤ 1 then 3 else 0 : Nat) : Int) ∧ 0 ≤ p ∧ p ≤ 2000 ∧ Sat E1 L w) ?_ ?_
  · by_cases k0 : m.kind.toNat ≤ 1
    · rw [if_pos k0]
      refine wc_true (by show Value.bool (decide _) = _; rw [decide_eq_true (by omega)]) ?_
      repeat' (first | refine st ?_ | refine sr ?_ | refine sl hA ?_ | (refine s_w hA ?_; clear hA; (try clear w); intro w hA) | (refine s_v hA ?_; clear hA; (try clear w); intro v w hA hone hnil) | (refine s_b hA ?_; clear hA; (try clear w); intro b w hA) | refine sp (fun h => ?_) (fun h => ?_) | (refine wc_region ?_))
      exact mq_normal ⟨_, (ex_getD rfl), by omega, by omega, by omega, hA⟩
    · rw [if_neg k0]
      refine wc_false (by show Value.bool (decide _) = _; rw [decide_eq_false (by omega)]) ?_
      repeat' (first | refine st ?_ | refine sr ?_ | refine sl hA ?_ | (refine s_w hA ?_; clear hA; (try clear w); intro w hA) | (refine s_v hA ?_; clear hA; (try clear w); intro v w hA hone hnil) | (refine s_b hA ?_; clear hA; (try clear w); intro b w hA) | refine sp (fun h => ?_) (fun h => ?_) | (refine wc_region ?_))
      exact mq_normal ⟨_, (ex_getD rfl), by omega, by omega, by omega, hA⟩
  clear hA hp hple hp0 hq0
  rintro l w ⟨p, ⟨jk, rfl⟩, hp, hp0, hple, hA⟩
  rw [hp'] at hp
  clear hp'
  repeat' (first | refine st ?_ | refine sr ?_ | refine sl hA ?_ | (refine s_w hA ?_; clear hA; (try clear w); intro w hA) | (refine s_v hA ?_; clear hA; (try clear w); intro v w hA hone hnil) | (refine s_b hA ?_; clear hA; (try clear w); intro b w hA) | refine sp (fun h => ?_) (fun h => ?_) | (refine wc_regionS 11 rfl ?_; refine wc_region ?_))
  refine wc_region ?_
  refine rv hA ?_; clear hA; intro w hA
  refine' rl_v hA ?o11_1 ?k11_1
  case o11_1 => intro w hA; first | (refine t_load_env rfl rfl hA c0 ?_; exact ⟨pe, hA⟩) | (refine oq ?_; exact ⟨pe, hA⟩)
  clear hA; intro w hA; refine rn ?_
  refine rv hA ?_; clear hA; intro w hA
  refine rl_nil ?_
  refine tq_normal ?_
  have hp' := hp
  generalize hq0 : p = p1 at hp'
  refine wc_mid (fun l w => ∃ p : Int, (∃ jk : Nat → Value, l = [jk 0, .pointer (some ⟨b, 0, none⟩), vi 0, vi p, jk 4, jk 5, jk 6, jk 7, jk 8, jk 9, jk 10, jk 11, jk 12, jk 13, jk 14, jk 15, jk 16, jk 17, jk 18, jk 19, jk 20, jk 21, jk 22, jk 23, jk 24, jk 25, jk 26, jk 27, jk 28, jk 29, jk 30, jk 31, jk 32, jk 33, jk 34, jk 35, jk 36, jk 37, jk 38, jk 39, jk 40, jk 41, jk 42, jk 43, jk 44, jk 45, jk 46, jk 47, jk 48, jk 49]) ∧ p = p1 + ((if m.kind.toNat = 6 then 12 else 0 : Nat) : Int) ∧ 0 ≤ p ∧ p ≤ 3000 ∧ Sat E1 L w) ?_ ?_
  · by_cases k0 : m.kind.toNat = 6
    · rw [if_pos k0]
      repeat' (first | refine st ?_ | refine sr ?_ | refine sl hA ?_ | (refine s_w hA ?_; clear hA; (try clear w); intro w hA) | (refine s_v hA ?_; clear hA; (try clear w); intro v w hA hone hnil) | (refine s_b hA ?_; clear hA; (try clear w); intro b w hA) | refine sp (fun h => ?_) (fun h => ?_) | (refine wc_region ?_))
      exact mq_normal ⟨_, (ex_getD rfl), by omega, by omega, by omega, hA⟩
    · rw [if_neg k0]
      repeat' (first | refine st ?_ | refine sr ?_ | refine sl hA ?_ | (refine s_w hA ?_; clear hA; (try clear w); intro w hA) | (refine s_v hA ?_; clear hA; (try clear w); intro v w hA hone hnil) | (refine s_b hA ?_; clear hA; (try clear w); intro b w hA) | refine sp (fun h => ?_) (fun h => ?_) | (refine wc_region ?_))
      exact mq_normal ⟨_, (ex_getD rfl), by omega, by omega, by omega, hA⟩
  clear hA hp hple hp0 hq0
  rintro l w ⟨p, ⟨jk, rfl⟩, hp, hp0, hple, hA⟩
  rw [hp'] at hp
  clear hp'
  repeat' (first | (refine g_ow ?_; refine t_load_env rfl rfl hA c5 ?_; refine rn ?_) | (refine g_ow ?_; refine t_load_env rfl rfl hA c6 ?_; refine rn ?_) | (refine g_ow ?_; refine t_load_env rfl rfl hA c9 ?_; refine rn ?_) | (refine g_callf 93 ?_; refine ow_call Tryd.call93 rfl ((sumI_calls 94 Tryd.call94 refN _ _ _ _ _ hA (hm.refs.mono hE1) (by omega) hof1).mono ?_); clear hA; (try clear w); rintro e w ⟨rfl, hA⟩; refine ⟨_, rfl, ?_⟩; refine rn ?_) | (refine g_callf 95 ?_; refine ow_call Tryd.call95 rfl ((sumV_calls 96 Tryd.call96 vecN _ _ _ _ _ hA (hm.mvds.mono hE1) (by omega) hof2).mono ?_); clear hA; (try clear w); rintro e w ⟨rfl, hA⟩; refine ⟨_, rfl, ?_⟩; refine rn ?_) | (refine g_callf 98 ?_; refine ow_call Tryd.call98 rfl ((sumL_calls 99 Tryd.call99 blockN _ _ _ _ _ hA (hm.blocks.mono hE1) (by omega) hof3).mono ?_); clear hA; (try clear w); rintro e w ⟨rfl, hA⟩; refine ⟨_, rfl, ?_⟩; refine rn ?_) | refine st ?_ | refine sr ?_ | refine sl hA ?_ | (refine s_w hA ?_; clear hA; (try clear w); intro w hA) | (refine s_v hA ?_; clear hA; (try clear w); intro v w hA hone hnil) | (refine s_b hA ?_; clear hA; (try clear w); intro b w hA) | refine sp (fun h => ?_) (fun h => ?_) | (refine wc_region ?_))
  exact ret1 (hA.le hE1) rfl (by show vi _ = vi _; congr 1; omega)
theorem mbCheck_r (m : Mb) (r v u : Value) (intra : Bool) (refs : Int) (E : Env) (L : List Item) (w : World) (hA : Sat E L w) (hm : MbL E m r v u) (hG : MbG E) :
    Calls Tryd.prog 38 ⟨[.agg ⟨mbC m r v u⟩, .bool intra, vi refs]⟩ w (Ret E L (vi (checkE m intra refs))) :=
  (mbCheck_calls m r v u E L w intra refs hA hm hG).mono fun e w' h => by
    obtain ⟨E', rfl, hE, hA'⟩ := h
    exact ⟨rfl, hA'.le hE⟩
/-- A macroblock of kind MbSkip. -/
def skipM : Mb := ⟨7, 0, 0, zero16, zero4, [], [], 0, 0, [], []⟩
section
variable (m : Mb) (r v u : Value) (E : Env) (L : List Item) (w : World)
theorem bvalid_calls (hA : Sat E L w) (hm : MbL E m r v u) (hG : MbG E) :
    Calls Tryd.prog 45 ⟨[.agg ⟨mbC m r v u⟩]⟩ w (Ret E L (.bool (validB m))) := by
  have o1 := hm.refs.one
  have o2 := hm.mvds.one
  have o3 := hm.blocks.one
  rw [← valid_or]
  refine enter (fn := Tryd.f45) Tryd.func45 rfl 11 rfl [.agg ⟨mbC m r v u⟩, undef, undef, undef, undef, undef, undef, undef, undef, undef, undef] rfl ?_
  repeat' (first | refine st ?_ | refine sr ?_ | refine sl hA ?_ | (refine s_w hA ?_; clear hA; (try clear w); intro w hA) | (refine s_v hA ?_; clear hA; (try clear w); intro v w hA hone hnil) | (refine s_b hA ?_; clear hA; (try clear w); intro b w hA) | refine sp (fun h => ?_) (fun h => ?_) | (refine wc_regionS 1 rfl ?_; refine wc_region ?_))
  refine wc_region ?_
  refine rv hA ?_; clear hA; intro w hA
  refine' rl_v hA ?o1_1 ?k1_1
  case o1_1 => intro w hA; first | (refine ow_call Tryd.call38 rfl ((mbCheck_r m r v u true 0 _ _ _ hA hm hG).mono ?_); clear hA; rintro e w ⟨rfl, hA⟩; refine ⟨_, rfl, ?_⟩; exact ⟨put_eq (by rfl), hA⟩)
  clear hA; intro w hA; refine rn ?_
  refine rv hA ?_; clear hA; intro w hA
  refine rv hA ?_; clear hA; intro w hA
  refine rf hA ?_; clear hA; intro w hA
  first | refine' rl_F rfl hA ?o1_5 ?k1_5 | refine' rl_Fn rfl hA ?o1_5 ?k1_5
  case o1_5 => intro hg w hA; first | (refine ow_call Tryd.call38 (evs3 opr opr opr) ((mbCheck_r m r v u false 32 _ _ _ hA hm hG).mono ?_); clear hA; rintro e w ⟨rfl, hA⟩; refine ⟨_, rfl, ?_⟩; exact ⟨put_eq (by rfl), hA⟩)
  clear hA; intro w hA; refine rn ?_
  refine rf hA ?_; clear hA; intro w hA
  refine rv hA ?_; clear hA; intro w hA
  refine rv hA ?_; clear hA; intro w hA
  refine rl_nil ?_
  repeat' (first | refine st ?_ | refine sr ?_ | refine sl hA ?_ | (refine s_w hA ?_; clear hA; (try clear w); intro w hA) | (refine s_v hA ?_; clear hA; (try clear w); intro v w hA hone hnil) | (refine s_b hA ?_; clear hA; (try clear w); intro b w hA) | refine sp (fun h => ?_) (fun h => ?_) | (refine wc_region ?_))
  exact ret1 hA.tail rfl rfl
theorem bBins_calls (hA : Sat E L w) (hm : MbL E m r v u) (hG : MbG E) :
    Calls Tryd.prog 19 ⟨[.agg ⟨mbC m r v u⟩]⟩ w (Ret E L (vi ((binsV m : Nat) : Int))) := by
  have o1 := hm.refs.one
  have o2 := hm.mvds.one
  have o3 := hm.blocks.one
  unfold binsV
  refine enter (fn := Tryd.f19) Tryd.func19 rfl 8 rfl [.agg ⟨mbC m r v u⟩, undef, undef, undef, undef, undef, undef, undef] rfl ?_
  by_cases h : validB m = true
  · have hs := valid_sm h
    rw [if_pos h]
    repeat' (first | (refine g_callf 45 ?_; refine ow_call Tryd.call45 rfl (((h ▸ bvalid_calls m r v u _ _ _ hA hm hG : Calls Tryd.prog 45 _ w (Ret E _ (.bool true)))).mono ?_); clear hA; (try clear w); rintro e w ⟨rfl, hA⟩; refine ⟨_, rfl, ?_⟩; refine rn ?_) | (refine g_callf 46 ?_; refine ow_call Tryd.call46 rfl ((bbins_calls m r v u _ _ _ hA hm hs).mono ?_); clear hA; (try clear w); rintro e w ⟨rfl, hA⟩; refine ⟨_, rfl, ?_⟩; refine rn ?_) | refine st ?_ | refine sr ?_ | refine sl hA ?_ | (refine s_w hA ?_; clear hA; (try clear w); intro w hA) | (refine s_v hA ?_; clear hA; (try clear w); intro v w hA hone hnil) | (refine s_b hA ?_; clear hA; (try clear w); intro b w hA) | refine sp (fun h => ?_) (fun h => ?_) | (refine wc_region ?_))
    exact ret1 hA.tail rfl rfl
  · have h' : validB m = false := Bool.eq_false_iff.2 h
    rw [if_neg h]
    repeat' (first | (refine g_callf 45 ?_; refine ow_call Tryd.call45 rfl (((h' ▸ bvalid_calls m r v u _ _ _ hA hm hG : Calls Tryd.prog 45 _ w (Ret E _ (.bool false)))).mono ?_); clear hA; (try clear w); rintro e w ⟨rfl, hA⟩; refine ⟨_, rfl, ?_⟩; refine rn ?_) | refine st ?_ | refine sr ?_ | refine sl hA ?_ | (refine s_w hA ?_; clear hA; (try clear w); intro w hA) | (refine s_v hA ?_; clear hA; (try clear w); intro v w hA hone hnil) | (refine s_b hA ?_; clear hA; (try clear w); intro b w hA) | refine sp (fun h => ?_) (fun h => ?_) | (refine wc_region ?_))
    exact ret1 hA.tail rfl rfl
theorem bBits_calls (hA : Sat E L w) (hm : MbL E m r v u) (hG : MbG E) :
    Calls Tryd.prog 21 ⟨[.agg ⟨mbC m r v u⟩]⟩ w (Ret E L (vi ((bitsV m : Nat) : Int))) := by
  have o1 := hm.refs.one
  have o2 := hm.mvds.one
  have o3 := hm.blocks.one
  have hle := binsV_le m
  unfold bitsV
  refine enter (fn := Tryd.f21) Tryd.func21 rfl 17 rfl [.agg ⟨mbC m r v u⟩, undef, undef, undef, undef, undef, undef, undef, undef, undef, undef, undef, undef, undef, undef, undef, undef] rfl ?_
  repeat' (first | (refine g_callf 19 ?_; refine ow_call Tryd.call19 rfl ((bBins_calls m r v u _ _ _ hA hm hG).mono ?_); clear hA; (try clear w); rintro e w ⟨rfl, hA⟩; refine ⟨_, rfl, ?_⟩; refine rn ?_) | refine st ?_ | refine sr ?_ | refine sl hA ?_ | (refine s_w hA ?_; clear hA; (try clear w); intro w hA) | (refine s_v hA ?_; clear hA; (try clear w); intro v w hA hone hnil) | (refine s_b hA ?_; clear hA; (try clear w); intro b w hA) | refine sp (fun h => ?_) (fun h => ?_) | (refine wc_regionS 2 rfl ?_; refine wc_region ?_))
  refine wc_region ?_
  refine rv hA ?_; clear hA; intro w hA
  refine rv hA ?_; clear hA; intro w hA
  refine rv hA ?_; clear hA; intro w hA
  refine rt hA ?_; clear hA; intro w hA
  refine rt hA ?_; clear hA; intro w hA
  refine rt hA ?_; clear hA; intro w hA
  refine rv hA ?_; clear hA; intro w hA
  refine rl_nil ?_
  refine tq_normal ?_
  by_cases h : 0 < binsV m ∧ m.kind.toNat = 2
  · rw [if_pos h]
    refine wc_true (by show Value.bool (_ && _) = _; rw [decide_eq_true (by omega), decide_eq_true (by omega)]; rfl) ?_
    repeat' (first | refine st ?_ | refine sr ?_ | refine sl hA ?_ | (refine s_w hA ?_; clear hA; (try clear w); intro w hA) | (refine s_v hA ?_; clear hA; (try clear w); intro v w hA hone hnil) | (refine s_b hA ?_; clear hA; (try clear w); intro b w hA) | refine sp (fun h => ?_) (fun h => ?_) | (refine wc_region ?_))
    exact ret1 hA.tail rfl (by show vi _ = vi _; congr 1 <;> omega)
  · rw [if_neg h]
    refine wc_false (by show Value.bool (_ && _) = _; rw [← Bool.decide_and, decide_eq_false (by omega)]) ?_
    repeat' (first | refine st ?_ | refine sr ?_ | refine sl hA ?_ | (refine s_w hA ?_; clear hA; (try clear w); intro w hA) | (refine s_v hA ?_; clear hA; (try clear w); intro v w hA hone hnil) | (refine s_b hA ?_; clear hA; (try clear w); intro b w hA) | refine sp (fun h => ?_) (fun h => ?_) | (refine wc_region ?_))
    exact ret1 hA.tail rfl (by show vi _ = vi _; congr 1 <;> omega)
end
set_option maxRecDepth 16000 in
set_option maxHeartbeats 4000000 in
theorem awake38_calls (E : Env) (L : List Item) (w : World) (hA : Sat E L w) (hG : MbG E) : Calls Tryd.prog 24 ⟨[]⟩ w (Ret E L (.bool true)) := by
  have hm : MbL E skipM (.slice none 0 0) (.slice none 0 0) (.slice none 0 0) := ⟨ListE.nil, ListE.nil, ListE.nil, by show I64 0; decide, Nat.zero_le _⟩
  have e1 : binsV skipM = 2 := by decide +kernel
  have e2 : bitsV skipM = 12 := by decide +kernel
  have c1 : ∀ w, Sat E L w → Calls Tryd.prog 19 ⟨[.agg ⟨mbC skipM (.slice none 0 0) (.slice none 0 0) (.slice none 0 0)⟩]⟩ w (Ret E L (vi 2)) := fun w hA => by
    have := bBins_calls _ _ _ _ E L w hA hm hG
    rw [e1] at this
    exact this
  have c2 : ∀ w, Sat E L w → Calls Tryd.prog 21 ⟨[.agg ⟨mbC skipM (.slice none 0 0) (.slice none 0 0) (.slice none 0 0)⟩]⟩ w (Ret E L (vi 12)) := fun w hA => by
    have := bBits_calls _ _ _ _ E L w hA hm hG
    rw [e2] at this
    exact this
  refine enter (fn := Tryd.f24) Tryd.func24 rfl 9 rfl [undef, undef, undef, undef, undef, undef, undef, undef, undef] rfl ?_
  repeat' (first | refine st ?_ | refine sr ?_ | refine sl hA ?_ | (refine s_w hA ?_; clear hA; (try clear w); intro w hA) | (refine s_v hA ?_; clear hA; (try clear w); intro v w hA hone hnil) | (refine s_b hA ?_; clear hA; (try clear w); intro b w hA) | refine sp (fun h => ?_) (fun h => ?_) | (refine wc_regionS 1 rfl ?_; refine wc_region ?_))
  refine wc_region ?_
  refine rv hA ?_; clear hA; intro w hA
  refine' rl_v hA ?o1_1 ?k1_1
  case o1_1 => intro w hA; first | (refine ow_call Tryd.call19 rfl ((c1 _ hA).mono ?_); clear hA; rintro e w ⟨rfl, hA⟩; refine ⟨_, rfl, ?_⟩; exact ⟨put_eq (by rfl), hA⟩)
  clear hA; intro w hA; refine rn ?_
  refine rv hA ?_; clear hA; intro w hA
  refine rv hA ?_; clear hA; intro w hA
  refine rt hA ?_; clear hA; intro w hA
  first | refine' rl_T rfl hA ?o1_5 ?k1_5 | refine' rl_Tn rfl hA ?o1_5 ?k1_5
  case o1_5 => intro hg w hA; first | (refine ow_call Tryd.call21 (evs1 opr) ((c2 _ hA).mono ?_); clear hA; rintro e w ⟨rfl, hA⟩; refine ⟨_, rfl, ?_⟩; exact ⟨put_eq (by rfl), hA⟩)
  clear hA; intro w hA; refine rn ?_
  refine rt hA ?_; clear hA; intro w hA
  refine rv hA ?_; clear hA; intro w hA
  refine rv hA ?_; clear hA; intro w hA
  refine rl_nil ?_
  repeat' (first | refine st ?_ | refine sr ?_ | refine sl hA ?_ | (refine s_w hA ?_; clear hA; (try clear w); intro w hA) | (refine s_v hA ?_; clear hA; (try clear w); intro v w hA hone hnil) | (refine s_b hA ?_; clear hA; (try clear w); intro b w hA) | refine sp (fun h => ?_) (fun h => ?_) | (refine wc_region ?_))
  exact ret1 hA rfl rfl
def fewH (m : Mb) : Bool := ((decide ((40 : Int) < (m.refs.length : Int)) || decide ((40 : Int) < (m.mvds.length : Int))) || decide ((60 : Int) < (m.blocks.length : Int))) || decide ((400 : Int) < (m.pcm.length : Int))
def fewM (m : Mb) : Bool := !fewH m && m.blocks.all fun b => decide (b.length ≤ 40)
def fewB (xs : List Mb) (most : Nat) : Bool := decide (xs.length ≤ most) && xs.all fewM
theorem fewB_out {xs : List Mb} {most i : Nat} {m : Mb} (hm : xs[i]? = some m) (h : fewM m = false) : fewB xs most = false := by
  unfold fewB
  rw [Bool.and_eq_false_iff]
  right
  rw [List.all_eq_false]
  exact ⟨m, List.mem_of_getElem? hm, by rw [h]; decide⟩
theorem fewB_in {xs : List Mb} {most : Nat} (hl : xs.length ≤ most) (h : ∀ (j : Nat) m, xs[j]? = some m → fewM m = true) : fewB xs most = true := by
  unfold fewB
  rw [Bool.and_eq_true]
  refine ⟨decide_eq_true hl, List.all_eq_true.2 fun m hm => ?_⟩
  obtain ⟨j, hj⟩ := List.getElem?_of_mem hm
  exact h j m hj
theorem fewM_fits {m : Mb} (h : fewM m = true) : Fits m := by
  unfold fewM fewH at h
  simp only [Bool.and_eq_true, Bool.not_eq_true', Bool.or_eq_false_iff, decide_eq_false_iff_not, List.all_eq_true, decide_eq_true_eq] at h
  obtain ⟨⟨⟨⟨h1, h2⟩, h3⟩, h4⟩, h5⟩ := h
  exact ⟨by omega, by omega, by omega, fun b hb => by have := h5 b hb; omega⟩
theorem fewM_short {m : Mb} (h : fewM m = true) : ∀ b ∈ m.blocks, b.length ≤ 1000000 := by
  unfold fewM at h
  rw [Bool.and_eq_true, List.all_eq_true] at h
  intro b hb
  have := of_decide_eq_true (h.2 b hb)
  omega
theorem fewB_one {m : Mb} : fewB [m] 1 = fewM m := by simp [fewB]
set_option maxRecDepth 8000 in
set_option maxHeartbeats 8000000 in
theorem few14_calls (v : Value) (xs : List Mb) (most : Nat) (E : Env) (L : List Item) (w : World) (hA : Sat E L w) (hx : ListE mbR 29 E v xs) :
    Calls Tryd.prog 17 ⟨[v, vi (most : Int)]⟩ w (Ret E L (.bool (fewB xs most))) := by
  obtain ⟨cx, hcx⟩ := hx.sl
  have ov := hx.one
  have hlen := hcx.le
  refine enter (fn := Tryd.f17) Tryd.func17 rfl 71 rfl [v, vi (most : Int), undef, undef, undef, undef, undef, undef, undef, undef, undef, undef, undef, undef, undef, undef, undef, undef, undef, undef, undef, undef, undef, undef, undef, undef, undef, undef, undef, undef, undef, undef, undef, undef, undef, undef, undef, undef, undef, undef, undef, undef, undef, undef, undef, undef, undef, undef, undef, undef, undef, undef, undef, undef, undef, undef, undef, undef, undef, undef, undef, undef, undef, undef, undef, undef, undef, undef, undef, undef, undef] rfl ?_
  by_cases hn : xs.length ≤ most
  · repeat' (first | (refine g_call ?_; refine t_lenS rfl hcx ?_; refine rn ?_) | refine st ?_ | refine sr ?_ | refine sl hA ?_ | (refine s_w hA ?_; clear hA; (try clear w); intro w hA) | (refine s_v hA ?_; clear hA; (try clear w); intro v w hA hone hnil) | (refine s_b hA ?_; clear hA; (try clear w); intro b w hA) | refine sp (fun h => ?_) (fun h => ?_) | (refine wc_region ?_))
    refine wc_loopn (fun m l w => ∃ (i : Nat), (∃ jk : Nat → Value, l = [v, vi (most : Int), jk 2, jk 3, .bool false, vi (i : Int), jk 6, jk 7, jk 8, jk 9, jk 10, jk 11, jk 12, jk 13, jk 14, jk 15, jk 16, jk 17, jk 18, jk 19, jk 20, jk 21, jk 22, jk 23, jk 24, jk 25, jk 26, jk 27, jk 28, jk 29, jk 30, jk 31, jk 32, jk 33, jk 34, jk 35, jk 36, jk 37, jk 38, jk 39, jk 40, jk 41, jk 42, jk 43, jk 44, jk 45, jk 46, jk 47, jk 48, jk 49, jk 50, jk 51, jk 52, jk 53, jk 54, jk 55, jk 56, jk 57, jk 58, jk 59, jk 60, jk 61, jk 62, jk 63, jk 64, jk 65, jk 66, jk 67, jk 68, jk 69, jk 70]) ∧ i + m = xs.length ∧ (∀ (j : Nat) x, j < i → xs[j]? = some x → fewM x = true) ∧ Sat E L w) xs.length ⟨0, (ex_getD rfl), by omega, fun j x hj => absurd hj (by omega), hA⟩ ?_
    clear hA
    rintro m l w ⟨i, ⟨jk, rfl⟩, hi, hall, hA⟩
    by_cases hlt : i < xs.length
    · obtain ⟨x, hxi⟩ : ∃ x, xs[i]? = some x := ⟨_, List.getElem?_eq_getElem (by omega)⟩
      obtain ⟨cs, hcsl, ⟨r, q, u, rfl, hm⟩, hg⟩ := hx.get hxi
      have c5 : E.cell? ⟨sB v, sO v + (i : Int).toNat * 29 + 23, none⟩ = some r := hg 23 _ rfl
      have c6 : E.cell? ⟨sB v, sO v + (i : Int).toNat * 29 + 24, none⟩ = some q := hg 24 _ rfl
      have c9 : E.cell? ⟨sB v, sO v + (i : Int).toNat * 29 + 27, none⟩ = some u := hg 27 _ rfl
      have c10 : E.cell? ⟨sB v, sO v + (i : Int).toNat * 29 + 28, none⟩ = some (vs x.pcm) := hg 28 _ rfl
      obtain ⟨z1, h1⟩ := hm.refs.sl
      obtain ⟨z2, h2⟩ := hm.mvds.sl
      obtain ⟨z3, h3⟩ := hm.blocks.sl
      have ou := hm.blocks.one
      have hb3 := h3.le
      repeat' (first | (refine g_call ?_; refine t_lenS rfl hcx ?_; refine rn ?_) | refine st ?_ | refine sr ?_ | refine sl hA ?_ | (refine s_w hA ?_; clear hA; (try clear w); intro w hA) | (refine s_v hA ?_; clear hA; (try clear w); intro v w hA hone hnil) | (refine s_b hA ?_; clear hA; (try clear w); intro b w hA) | refine sp (fun h => ?_) (fun h => ?_) | (refine wc_regionS 6 rfl ?_; refine wc_region ?_))
      refine wc_region ?_
      refine rv hA ?_; clear hA; intro w hA
      refine rv hA ?_; clear hA; intro w hA
      refine' rl_v hA ?o6_2 ?k6_2
      case o6_2 => intro w hA; first | (refine t_indexAddrS rfl hcx rfl (by omega) ?_; exact ⟨pe, hA⟩) | (refine oq ?_; exact ⟨pe, hA⟩) | (refine t_indexAddrS rfl rfl (by omega) ?_; exact ⟨pe, hA⟩)
      clear hA; intro w hA; refine rn ?_
      refine rv hA ?_; clear hA; intro w hA
      refine' rl_v hA ?o6_4 ?k6_4
      case o6_4 => intro w hA; first | (refine t_load_env rfl rfl hA c5 ?_; exact ⟨pe, hA⟩) | (refine t_load_env rfl rfl hA c6 ?_; exact ⟨pe, hA⟩) | (refine t_load_env rfl rfl hA c9 ?_; exact ⟨pe, hA⟩) | (refine t_load_env rfl rfl hA c10 ?_; exact ⟨pe, hA⟩) | (refine oq ?_; exact ⟨pe, hA⟩)
      clear hA; intro w hA; refine rn ?_
      refine' rl_v hA ?o6_5 ?k6_5
      case o6_5 => intro w hA; first | (refine t_lenS rfl h1 ?_; exact ⟨pe, hA⟩) | (refine t_lenS rfl h2 ?_; exact ⟨pe, hA⟩) | (refine t_lenS rfl h3 ?_; exact ⟨pe, hA⟩) | (refine oq ?_; exact ⟨pe, hA⟩) | (refine t_lenS rfl (by assumption) ?_; exact ⟨pe, hA⟩)
      clear hA; intro w hA; refine rn ?_
      refine rv hA ?_; clear hA; intro w hA
      refine rv hA ?_; clear hA; intro w hA
      refine rf hA ?_; clear hA; intro w hA
      refine rf hA ?_; clear hA; intro w hA
      first | refine' rl_F rfl hA ?o6_10 ?k6_10 | refine' rl_Fn rfl hA ?o6_10 ?k6_10
      case o6_10 => intro hg w hA; first | (refine t_indexAddrS opr hcx opr (by omega) ?_; exact ⟨pe, hA⟩) | (refine oqg ?_; exact ⟨pe, hA⟩) | (refine t_indexAddrS opr opr (by omega) ?_; exact ⟨pe, hA⟩)
      clear hA; intro w hA; refine rn ?_
      refine rf hA ?_; clear hA; intro w hA
      first | refine' rl_F rfl hA ?o6_12 ?k6_12 | refine' rl_Fn rfl hA ?o6_12 ?k6_12
      case o6_12 => intro hg w hA; first | (refine t_load_env rfl opr hA c5 ?_; exact ⟨pe, hA⟩) | (refine t_load_env rfl opr hA c6 ?_; exact ⟨pe, hA⟩) | (refine t_load_env rfl opr hA c9 ?_; exact ⟨pe, hA⟩) | (refine t_load_env rfl opr hA c10 ?_; exact ⟨pe, hA⟩) | (refine oqg ?_; exact ⟨pe, hA⟩)
      clear hA; intro w hA; refine rn ?_
      first | refine' rl_F rfl hA ?o6_13 ?k6_13 | refine' rl_Fn rfl hA ?o6_13 ?k6_13
      case o6_13 => intro hg w hA; first | (refine t_lenS opr h1 ?_; exact ⟨pe, hA⟩) | (refine t_lenS opr h2 ?_; exact ⟨pe, hA⟩) | (refine t_lenS opr h3 ?_; exact ⟨pe, hA⟩) | (refine oqg ?_; exact ⟨pe, hA⟩) | (refine t_lenS opr (by assumption) ?_; exact ⟨pe, hA⟩)
      clear hA; intro w hA; refine rn ?_
      refine rf hA ?_; clear hA; intro w hA
      refine rv hA ?_; clear hA; intro w hA
      refine rv hA ?_; clear hA; intro w hA
      refine rf hA ?_; clear hA; intro w hA
      refine rf hA ?_; clear hA; intro w hA
      first | refine' rl_F rfl hA ?o6_19 ?k6_19 | refine' rl_Fn rfl hA ?o6_19 ?k6_19
      case o6_19 => intro hg w hA; first | (refine t_indexAddrS opr hcx opr (by omega) ?_; exact ⟨pe, hA⟩) | (refine oqg ?_; exact ⟨pe, hA⟩) | (refine t_indexAddrS opr opr (by omega) ?_; exact ⟨pe, hA⟩)
      clear hA; intro w hA; refine rn ?_
      refine rf hA ?_; clear hA; intro w hA
      first | refine' rl_F rfl hA ?o6_21 ?k6_21 | refine' rl_Fn rfl hA ?o6_21 ?k6_21
      case o6_21 => intro hg w hA; first | (refine t_load_env rfl opr hA c5 ?_; exact ⟨pe, hA⟩) | (refine t_load_env rfl opr hA c6 ?_; exact ⟨pe, hA⟩) | (refine t_load_env rfl opr hA c9 ?_; exact ⟨pe, hA⟩) | (refine t_load_env rfl opr hA c10 ?_; exact ⟨pe, hA⟩) | (refine oqg ?_; exact ⟨pe, hA⟩)
      clear hA; intro w hA; refine rn ?_
      first | refine' rl_F rfl hA ?o6_22 ?k6_22 | refine' rl_Fn rfl hA ?o6_22 ?k6_22
      case o6_22 => intro hg w hA; first | (refine t_lenS opr h1 ?_; exact ⟨pe, hA⟩) | (refine t_lenS opr h2 ?_; exact ⟨pe, hA⟩) | (refine t_lenS opr h3 ?_; exact ⟨pe, hA⟩) | (refine oqg ?_; exact ⟨pe, hA⟩) | (refine t_lenS opr (by assumption) ?_; exact ⟨pe, hA⟩)
      clear hA; intro w hA; refine rn ?_
      refine rf hA ?_; clear hA; intro w hA
      refine rv hA ?_; clear hA; intro w hA
      refine rv hA ?_; clear hA; intro w hA
      refine rf hA ?_; clear hA; intro w hA
      refine rf hA ?_; clear hA; intro w hA
      first | refine' rl_F rfl hA ?o6_28 ?k6_28 | refine' rl_Fn rfl hA ?o6_28 ?k6_28
      case o6_28 => intro hg w hA; first | (refine t_indexAddrS opr hcx opr (by omega) ?_; exact ⟨pe, hA⟩) | (refine oqg ?_; exact ⟨pe, hA⟩) | (refine t_indexAddrS opr opr (by omega) ?_; exact ⟨pe, hA⟩)
      clear hA; intro w hA; refine rn ?_
      refine rf hA ?_; clear hA; intro w hA
      first | refine' rl_F rfl hA ?o6_30 ?k6_30 | refine' rl_Fn rfl hA ?o6_30 ?k6_30
      case o6_30 => intro hg w hA; first | (refine t_load_env rfl opr hA c5 ?_; exact ⟨pe, hA⟩) | (refine t_load_env rfl opr hA c6 ?_; exact ⟨pe, hA⟩) | (refine t_load_env rfl opr hA c9 ?_; exact ⟨pe, hA⟩) | (refine t_load_env rfl opr hA c10 ?_; exact ⟨pe, hA⟩) | (refine oqg ?_; exact ⟨pe, hA⟩)
      clear hA; intro w hA; refine rn ?_
      first | refine' rl_F rfl hA ?o6_31 ?k6_31 | refine' rl_Fn rfl hA ?o6_31 ?k6_31
      case o6_31 => intro hg w hA; first | (refine t_lenS opr h1 ?_; exact ⟨pe, hA⟩) | (refine t_lenS opr h2 ?_; exact ⟨pe, hA⟩) | (refine t_lenS opr h3 ?_; exact ⟨pe, hA⟩) | (refine oqg ?_; exact ⟨pe, hA⟩) | (refine t_lenS opr (by assumption) ?_; exact ⟨pe, hA⟩)
      clear hA; intro w hA; refine rn ?_
      refine rf hA ?_; clear hA; intro w hA
      refine rv hA ?_; clear hA; intro w hA
      refine rl_nil ?_
      refine tq_normal ?_
      cases hH : fewH x with
      | true =>
        rw [fewB_out hxi (by unfold fewM; rw [hH]; rfl)]
        refine wc_true (by rw [← hH]; rfl) ?_
        repeat' (first | refine st ?_ | refine sr ?_ | refine sl hA ?_ | (refine s_w hA ?_; clear hA; (try clear w); intro w hA) | (refine s_v hA ?_; clear hA; (try clear w); intro v w hA hone hnil) | (refine s_b hA ?_; clear hA; (try clear w); intro b w hA) | refine sp (fun h => ?_) (fun h => ?_) | (refine wc_region ?_))
        exact ret1 hA rfl rfl
      | false =>
        refine wc_false (by rw [← hH]; rfl) ?_
        repeat' (first | refine st ?_ | refine sr ?_ | refine sl hA ?_ | (refine s_w hA ?_; clear hA; (try clear w); intro w hA) | (refine s_v hA ?_; clear hA; (try clear w); intro v w hA hone hnil) | (refine s_b hA ?_; clear hA; (try clear w); intro b w hA) | refine sp (fun h => ?_) (fun h => ?_) | (refine wc_region ?_))
        refine wc_loopn (fun m l w => ∃ (j : Nat), (∃ jk : Nat → Value, l = [v, vi (most : Int), jk 2, jk 3, .bool false, vi (i : Int), vi (j : Int), jk 7, jk 8, jk 9, jk 10, jk 11, jk 12, jk 13, jk 14, jk 15, jk 16, jk 17, jk 18, jk 19, jk 20, jk 21, jk 22, jk 23, jk 24, jk 25, jk 26, jk 27, jk 28, jk 29, jk 30, jk 31, jk 32, jk 33, jk 34, jk 35, jk 36, jk 37, jk 38, jk 39, jk 40, jk 41, jk 42, jk 43, jk 44, jk 45, jk 46, jk 47, jk 48, jk 49, jk 50, jk 51, jk 52, jk 53, jk 54, jk 55, jk 56, jk 57, jk 58, jk 59, jk 60, jk 61, jk 62, jk 63, jk 64, jk 65, jk 66, jk 67, jk 68, jk 69, jk 70]) ∧ j + m = x.blocks.length ∧ (∀ (k : Nat) b, k < j → x.blocks[k]? = some b → b.length ≤ 40) ∧ Sat E L w) x.blocks.length ⟨0, (ex_getD rfl), by omega, fun j x hj => absurd hj (by omega), hA⟩ ?_
        clear hA
        rintro m' l w ⟨j, ⟨jk, rfl⟩, hj, hbl, hA⟩
        by_cases hjl : j < x.blocks.length
        · obtain ⟨b, hbj⟩ : ∃ b, x.blocks[j]? = some b := ⟨_, List.getElem?_eq_getElem (by omega)⟩
          obtain ⟨cs, hcsl, ⟨q', rfl, hq'⟩, hg'⟩ := hm.blocks.get hbj
          have d0 : E.cell? ⟨sB u, sO u + (j : Int).toNat * 1, none⟩ = some q' := hg' 0 _ rfl
          obtain ⟨z4, h4⟩ := hq'.sl
          have oq := hq'.one
          by_cases hb : b.length ≤ 40
          · repeat' (first | (refine g_ow ?_; refine t_indexAddrS rfl hcx rfl (by omega) ?_; refine rn ?_) | (refine g_ow ?_; refine t_indexAddrS rfl h3 rfl (by omega) ?_; refine rn ?_) | (refine g_ow ?_; refine t_load_env rfl rfl hA c9 ?_; refine rn ?_) | (refine g_ow ?_; refine t_load_env rfl rfl hA d0 ?_; refine rn ?_) | (refine g_call ?_; refine t_lenS rfl h3 ?_; refine rn ?_) | (refine g_call ?_; refine t_lenS rfl h4 ?_; refine rn ?_) | refine st ?_ | refine sr ?_ | refine sl hA ?_ | (refine s_w hA ?_; clear hA; (try clear w); intro w hA) | (refine s_v hA ?_; clear hA; (try clear w); intro v w hA hone hnil) | (refine s_b hA ?_; clear hA; (try clear w); intro b w hA) | refine sp (fun h => ?_) (fun h => ?_) | (refine wc_region ?_))
            refine lq_next (m' - 1) (by omega) ⟨j + 1, (ex_getD rfl), by omega, fun k y hk hy => ?_, hA⟩
            by_cases e : k = j
            · subst e; rw [hbj] at hy; cases hy; exact hb
            · exact hbl k y (by omega) hy
          · rw [fewB_out hxi (by
              unfold fewM
              rw [Bool.and_eq_false_iff, List.all_eq_false]
              exact .inr ⟨b, List.mem_of_getElem? hbj, by simpa using hb⟩)]
            repeat' (first | (refine g_ow ?_; refine t_indexAddrS rfl hcx rfl (by omega) ?_; refine rn ?_) | (refine g_ow ?_; refine t_indexAddrS rfl h3 rfl (by omega) ?_; refine rn ?_) | (refine g_ow ?_; refine t_load_env rfl rfl hA c9 ?_; refine rn ?_) | (refine g_ow ?_; refine t_load_env rfl rfl hA d0 ?_; refine rn ?_) | (refine g_call ?_; refine t_lenS rfl h3 ?_; refine rn ?_) | (refine g_call ?_; refine t_lenS rfl h4 ?_; refine rn ?_) | refine st ?_ | refine sr ?_ | refine sl hA ?_ | (refine s_w hA ?_; clear hA; (try clear w); intro w hA) | (refine s_v hA ?_; clear hA; (try clear w); intro v w hA hone hnil) | (refine s_b hA ?_; clear hA; (try clear w); intro b w hA) | refine sp (fun h => ?_) (fun h => ?_) | (refine wc_region ?_))
            exact ret1 hA rfl rfl
        · repeat' (first | (refine g_ow ?_; refine t_indexAddrS rfl hcx rfl (by omega) ?_; refine rn ?_) | (refine g_ow ?_; refine t_load_env rfl rfl hA c9 ?_; refine rn ?_) | (refine g_call ?_; refine t_lenS rfl h3 ?_; refine rn ?_) | refine st ?_ | refine sr ?_ | refine sl hA ?_ | (refine s_w hA ?_; clear hA; (try clear w); intro w hA) | (refine s_v hA ?_; clear hA; (try clear w); intro v w hA hone hnil) | (refine s_b hA ?_; clear hA; (try clear w); intro b w hA) | refine sp (fun h => ?_) (fun h => ?_) | (refine wc_region ?_))
          refine lq_next (m - 1) (by omega) ⟨i + 1, (ex_getD rfl), by omega, fun k y hk hy => ?_, hA⟩
          by_cases e : k = i
          · subst e
            rw [hxi] at hy
            cases hy
            unfold fewM
            rw [hH, Bool.not_false, Bool.true_and, List.all_eq_true]
            intro b hb
            obtain ⟨k', hk'⟩ := List.getElem?_of_mem hb
            exact decide_eq_true (hbl k' b (by have := (List.getElem?_eq_some_iff.1 hk').1; omega) hk')
          · exact hall k y (by omega) hy
    · rw [fewB_in hn fun j m hj => hall j m (by have := (List.getElem?_eq_some_iff.1 hj).1; omega) hj]
      repeat' (first | (refine g_call ?_; refine t_lenS rfl hcx ?_; refine rn ?_) | refine st ?_ | refine sr ?_ | refine sl hA ?_ | (refine s_w hA ?_; clear hA; (try clear w); intro w hA) | (refine s_v hA ?_; clear hA; (try clear w); intro v w hA hone hnil) | (refine s_b hA ?_; clear hA; (try clear w); intro b w hA) | refine sp (fun h => ?_) (fun h => ?_) | (refine wc_region ?_))
      exact ret1 hA rfl rfl
  · have e : fewB xs most = false := by unfold fewB; rw [decide_eq_false hn]; rfl
    rw [e]
    repeat' (first | (refine g_call ?_; refine t_lenS rfl hcx ?_; refine rn ?_) | refine st ?_ | refine sr ?_ | refine sl hA ?_ | (refine s_w hA ?_; clear hA; (try clear w); intro w hA) | (refine s_v hA ?_; clear hA; (try clear w); intro v w hA hone hnil) | (refine s_b hA ?_; clear hA; (try clear w); intro b w hA) | refine sp (fun h => ?_) (fun h => ?_) | (refine wc_region ?_))
    exact ret1 hA rfl rfl
end Go.Proofs.YtomfoaaaeidpnaaDoor
