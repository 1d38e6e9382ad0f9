/-
  The functions that mb.Check makes, walked.
-/
import Derived.Test.YtomfoaaaeidpnaaDoorM5
import Derived.Test.YtomfoaaaeidpnaaDoorSlH
set_option linter.unusedVariables false
set_option linter.unusedSimpArgs false
namespace Go.Proofs.YtomfoaaaeidpnaaDoor
open Go Go.RowKit
attribute [local irreducible] WC RL OW bodyPostM ThenQ BlockQ LoopQ ScopeQ
/-- A function without arguments that returns a number. -/
def FnR (E : Env) (f : Value) (res : Int) : Prop :=
  ∃ k fi ca, f = .func (.func k) ⟨fi⟩ ⟨ca⟩ ∧ Enters Tryd.prog k ∧ ∀ (E' : Env) (L : List Item) (w : World), E.Le E' → Sat E' L w → Calls Tryd.prog k ⟨fi ++ ca⟩ w (fun e w' => ∃ E2, e = .returned (vi res) ∧ E'.Le E2 ∧ Sat E2 L w')
theorem FnR.mono {E E' : Env} {f : Value} {res : Int} (h : FnR E f res) (hE : E.Le E') : FnR E' f res := by
  obtain ⟨k, fi, ca, e, he, hc⟩ := h
  exact ⟨k, fi, ca, e, he, fun E2 L w h2 hA => hc E2 L w (hE.trans h2) hA⟩
theorem FnR.one {E : Env} {f : Value} {res : Int} (h : FnR E f res) : f.oneCell' = true := by obtain ⟨k, fi, ca, rfl, _⟩ := h; rfl
/-- Where a macroblock lies. -/
def MbAt (E : Env) (b : Nat) (m : Mb) (r v u : Value) : Prop := ∀ k z, (mbC m r v u)[k]? = some z → E.cell? ⟨b, k, none⟩ = some z
theorem MbAt.mono {E E' : Env} {b : Nat} {m : Mb} {r v u : Value} (h : MbAt E b m r v u) (hE : E.Le E') : MbAt E' b m r v u := fun k z hz => hE.cell (h k z hz)
theorem u8s_at {E : Env} {b off : Nat} {xs : List UInt8} (h : ∀ (i : Nat) x, xs[i]? = some x → E.cell? ⟨b, off + i, none⟩ = some (u8 x)) (hn : xs.length ≤ 100) (h0 : 0 < xs.length) : ListE u8R 1 E (.slice (some ⟨b, off, none⟩) xs.length xs.length) xs := by
  refine CsE.sl (cells := xs.map u8) ⟨xs.map fun x => [u8 x], ?_, by simp, fun c hc => ?_, fun i c x hc hx => ?_⟩ ⟨.inr ⟨_, rfl⟩, by simp, by omega, fun k u hk => ?_, fun a c e => by injection e with _ _ e3; omega⟩
  · clear h hn h0
    induction xs with
    | nil => rfl
    | cons a r ih => simp only [List.map_cons, List.flatten_cons, List.singleton_append, ← ih]
  · obtain ⟨u, _, rfl⟩ := List.mem_map.1 hc; rfl
  · rw [List.getElem?_map, hx] at hc
    cases hc
    rfl
  · rw [List.getElem?_map] at hk
    cases hx : xs[k]? with
    | none => rw [hx] at hk; cases hk
    | some x => rw [hx] at hk; cases hk; exact h k x hx
theorem preds_at {E : Env} {b : Nat} {m : Mb} {r v u : Value} (h : MbAt E b m r v u) : ListE u8R 1 E (.slice (some ⟨b, 3, none⟩) 16 16) m.preds.toList := by
  have hl : m.preds.toList.length = 16 := by simp
  have := u8s_at (E := E) (b := b) (off := 3) (xs := m.preds.toList) (fun i x hx => by
    have hi : i < 16 := by rw [← hl]; exact (List.getElem?_eq_some_iff.1 hx).1
    refine h (3 + i) _ ?_
    have ex : m.preds.toList[i]? = some m.preds[i] := by simp [hi]
    rw [ex] at hx; cases hx
    have : i = 0 ∨ i = 1 ∨ i = 2 ∨ i = 3 ∨ i = 4 ∨ i = 5 ∨ i = 6 ∨ i = 7 ∨ i = 8 ∨ i = 9 ∨ i = 10 ∨ i = 11 ∨ i = 12 ∨ i = 13 ∨ i = 14 ∨ i = 15 := by omega
    rcases this with rfl | rfl | rfl | rfl | rfl | rfl | rfl | rfl | rfl | rfl | rfl | rfl | rfl | rfl | rfl | rfl <;> rfl) (by omega) (by omega)
  rwa [hl] at this
theorem sub_at4 {E : Env} {b : Nat} {m : Mb} {r v u : Value} (h : MbAt E b m r v u) : ListE u8R 1 E (.slice (some ⟨b, 19, none⟩) 4 4) m.sub.toList := by
  have hl : m.sub.toList.length = 4 := by simp
  have := u8s_at (E := E) (b := b) (off := 19) (xs := m.sub.toList) (fun i x hx => by
    have hi : i < 4 := by rw [← hl]; exact (List.getElem?_eq_some_iff.1 hx).1
    refine h (19 + i) _ ?_
    have ex : m.sub.toList[i]? = some m.sub[i] := by simp [hi]
    rw [ex] at hx; cases hx
    have : i = 0 ∨ i = 1 ∨ i = 2 ∨ i = 3 := by omega
    rcases this with rfl | rfl | rfl | rfl <;> rfl) (by omega) (by omega)
  rwa [hl] at this
section
variable (m : Mb) (r v u : Value) (b : Nat) (E : Env) (L : List Item) (w : World)
theorem check1_calls (hA : Sat E L w) (hm : MbAt E b m r v u) :
    Calls Tryd.prog 65 ⟨[.pointer (some ⟨b, 0, none⟩)]⟩ w (Ret E L (vi (rangedU m.preds.toList 16 0 8))) := by
  have hp := preds_at hm
  refine enter (fn := Tryd.f65) Tryd.func65 rfl 5 rfl [.pointer (some ⟨b, 0, none⟩), undef, undef, undef, undef] rfl ?_
  repeat' (first | (refine g_ow ?_; refine t_sliceA (by decide) rfl ?_; refine rn ?_) | (refine g_callf 66 ?_; refine ow_call Tryd.call66 rfl ((rangedU_calls _ _ 16 0 8 E _ w hA hp).mono ?_); clear hA; (try clear w); rintro e w ⟨rfl, hA⟩; refine ⟨_, rfl, ?_⟩; refine rn ?_) | refine st ?_ | refine sr ?_ | refine sl hA ?_ | (refine s_w hA ?_; clear hA; (try clear w); intro w hA) | (refine s_v hA ?_; clear hA; (try clear w); intro v w hA hone hnil) | (refine s_b hA ?_; clear hA; (try clear w); intro b w hA) | refine sp (fun h => ?_) (fun h => ?_) | (refine wc_region ?_))
  exact ret1 hA rfl rfl
theorem check2_calls (hA : Sat E L w) (hm : MbAt E b m r v u) :
    Calls Tryd.prog 67 ⟨[.pointer (some ⟨b, 0, none⟩)]⟩ w (Ret E L (vi (rangedU m.sub.toList 4 0 3))) := by
  have hp := sub_at4 hm
  refine enter (fn := Tryd.f67) Tryd.func67 rfl 5 rfl [.pointer (some ⟨b, 0, none⟩), undef, undef, undef, undef] rfl ?_
  repeat' (first | (refine g_ow ?_; refine t_sliceA (by decide) rfl ?_; refine rn ?_) | (refine g_callf 66 ?_; refine ow_call Tryd.call66 rfl ((rangedU_calls _ _ 4 0 3 E _ w hA hp).mono ?_); clear hA; (try clear w); rintro e w ⟨rfl, hA⟩; refine ⟨_, rfl, ?_⟩; refine rn ?_) | refine st ?_ | refine sr ?_ | refine sl hA ?_ | (refine s_w hA ?_; clear hA; (try clear w); intro w hA) | (refine s_v hA ?_; clear hA; (try clear w); intro v w hA hone hnil) | (refine s_b hA ?_; clear hA; (try clear w); intro b w hA) | refine sp (fun h => ?_) (fun h => ?_) | (refine wc_region ?_))
  exact ret1 hA rfl rfl
theorem check3_calls (refs : Int) (b2 : Nat) (hA : Sat E L w) (hm : MbAt E b m r v u) (hl : MbL E m r v u) (hr : E.cell? ⟨b2, 0, none⟩ = some (vi refs)) (h0 : 0 ≤ refs ∧ refs ≤ 32) :
    Calls Tryd.prog 68 ⟨[.pointer (some ⟨b, 0, none⟩), .pointer (some ⟨b2, 0, none⟩)]⟩ w (Ret E L (vi (rangedL m.refs (partsN m.kind) 0 (refs - 1)))) := by
  have h1 : E.cell? ⟨b, 23, none⟩ = some r := hm 23 _ rfl
  have h2 : E.cell? ⟨b, 0, none⟩ = some (u8 m.kind) := hm 0 _ rfl
  refine enter (fn := Tryd.f68) Tryd.func68 rfl 11 rfl [.pointer (some ⟨b, 0, none⟩), .pointer (some ⟨b2, 0, none⟩), undef, undef, undef, undef, undef, undef, undef, undef, undef] rfl ?_
  repeat' (first | refine st ?_ | refine sr ?_ | refine sl hA ?_ | (refine s_w hA ?_; clear hA; (try clear w); intro w hA) | (refine s_v hA ?_; clear hA; (try clear w); intro v w hA hone hnil) | (refine s_b hA ?_; clear hA; (try clear w); intro b w hA) | refine sp (fun h => ?_) (fun h => ?_) | (refine wc_region ?_))
  refine' wc_vals 8 [3, 4, 5, 6, 7, 8, 9, 10] [_, _, _, _, _, _, _, _] rfl (by kernel_rfl) (by kernel_rfl) (by kernel_rfl) hA ?ops1 ?k1
  case ops1 =>
    refine' VOps.c0 rfl [] (by decide) [] (by decide) rfl ?o1_0 ?r1_0
    case o1_0 => intro E' Lx w lf hE hl hA; replace hl := hz hl; subst hl; first | (refine oq ?_; exact ⟨pe, hA⟩)
    refine' VOps.c0 rfl [0] (by decide) [3] (by decide) rfl ?o1_1 ?r1_1
    case o1_1 => intro E' Lx w lf hE hl hA; replace hl := hz hl; subst hl; first | (refine t_load_env rfl rfl hA (hE.cell h1) ?_; exact ⟨pe, hA⟩) | (refine t_load_env rfl rfl hA (hE.cell h2) ?_; exact ⟨pe, hA⟩) | (refine t_load_env rfl rfl hA (hE.cell hr) ?_; exact ⟨pe, hA⟩) | (refine oq ?_; exact ⟨pe, hA⟩)
    refine' VOps.c0 rfl [] (by decide) [] (by decide) rfl ?o1_2 ?r1_2
    case o1_2 => intro E' Lx w lf hE hl hA; replace hl := hz hl; subst hl; first | (refine oq ?_; exact ⟨pe, hA⟩)
    refine' VOps.c0 rfl [2] (by decide) [5] (by decide) rfl ?o1_3 ?r1_3
    case o1_3 => intro E' Lx w lf hE hl hA; replace hl := hz hl; subst hl; first | (refine t_load_env rfl rfl hA (hE.cell h1) ?_; exact ⟨pe, hA⟩) | (refine t_load_env rfl rfl hA (hE.cell h2) ?_; exact ⟨pe, hA⟩) | (refine t_load_env rfl rfl hA (hE.cell hr) ?_; exact ⟨pe, hA⟩) | (refine oq ?_; exact ⟨pe, hA⟩)
    refine' VOps.c0 rfl [3] (by decide) [6] (by decide) rfl ?o1_4 ?r1_4
    case o1_4 => intro E' Lx w lf hE hl hA; replace hl := hz hl; subst hl; first | (refine ow_call Tryd.call63 rfl ((parts_calls _ _ _ w hA).mono ?_); clear hA; rintro e w ⟨rfl, hA⟩; refine ⟨_, rfl, ?_⟩; exact ⟨put_eq (by rfl), hA⟩)
    refine' VOps.c0 rfl [] (by decide) [] (by decide) rfl ?o1_5 ?r1_5
    case o1_5 => intro E' Lx w lf hE hl hA; replace hl := hz hl; subst hl; first | (refine t_load_env rfl rfl hA (hE.cell h1) ?_; exact ⟨pe, hA⟩) | (refine t_load_env rfl rfl hA (hE.cell h2) ?_; exact ⟨pe, hA⟩) | (refine t_load_env rfl rfl hA (hE.cell hr) ?_; exact ⟨pe, hA⟩) | (refine oq ?_; exact ⟨pe, hA⟩)
    refine' VOps.c0 rfl [5] (by decide) [8] (by decide) rfl ?o1_6 ?r1_6
    case o1_6 => intro E' Lx w lf hE hl hA; replace hl := hz hl; subst hl; first | (refine oq ?_; exact ⟨pe, hA⟩)
    refine' VOps.c0 rfl [1, 4, 6] (by decide) [4, 7, 9] (by decide) rfl ?o1_7 ?r1_7
    case o1_7 => intro E' Lx w lf hE hl hA; replace hl := hz hl; subst hl; first | (refine ow_call Tryd.call69 rfl ((rangedI_calls _ _ _ _ _ _ _ w hA (hl.refs.mono hE)).mono ?_); clear hA; rintro e w ⟨rfl, hA⟩; refine ⟨_, rfl, ?_⟩; exact ⟨put_eq (by rfl), hA⟩)
    exact TameOps.nil
  case' k1 => (try clear hA); intro w hA; refine rn ?_
  repeat' (first | refine st ?_ | refine sr ?_ | refine sl hA ?_ | (refine s_w hA ?_; clear hA; (try clear w); intro w hA) | (refine s_v hA ?_; clear hA; (try clear w); intro v w hA hone hnil) | (refine s_b hA ?_; clear hA; (try clear w); intro b w hA) | refine sp (fun h => ?_) (fun h => ?_) | (refine wc_region ?_))
  exact ret1 hA rfl rfl
theorem mb_load (hm : MbAt E b m r v u) : ∀ j z, (mbC m r v u)[j]? = some z → E.cell? ⟨b, 0 + j, none⟩ = some z := fun j z hz => by rw [Nat.zero_add]; exact hm j z hz
theorem check4_calls (hA : Sat E L w) (hm : MbAt E b m r v u) (hl : MbL E m r v u) (hG : MbG E) :
    Calls Tryd.prog 70 ⟨[.pointer (some ⟨b, 0, none⟩)]⟩ w (fun e w' => ∃ E', e = .returned (vi (vectorsE m)) ∧ E.Le E' ∧ Sat E' L w') := by
  have hc := mb_load m r v u b E hm
  refine enter (fn := Tryd.f70) Tryd.func70 rfl 4 rfl [.pointer (some ⟨b, 0, none⟩), undef, undef, undef] rfl ?_
  repeat' (first | (refine g_ow ?_; refine t_load_agg_env rfl rfl hA hc rfl ?_; refine rn ?_) | (refine g_callf 71 ?_; refine ow_call Tryd.call71 rfl ((vectors_calls m r v u E _ w hA hG hl).mono ?_); clear hA; (try clear w); rintro e w ⟨E1, rfl, hE1, hA⟩; refine ⟨_, rfl, ?_⟩; refine rn ?_) | refine st ?_ | refine sr ?_ | refine sl hA ?_ | (refine s_w hA ?_; clear hA; (try clear w); intro w hA) | (refine s_v hA ?_; clear hA; (try clear w); intro v w hA hone hnil) | (refine s_b hA ?_; clear hA; (try clear w); intro b w hA) | refine sp (fun h => ?_) (fun h => ?_) | (refine wc_region ?_))
  exact fp_ret (res1 rfl rfl) ⟨E1, rfl, hE1, hA⟩
theorem check5_calls (hA : Sat E L w) (hm : MbAt E b m r v u) :
    Calls Tryd.prog 73 ⟨[.pointer (some ⟨b, 0, none⟩)]⟩ w (Ret E L (vi (cbpE m))) := by
  have hc := mb_load m r v u b E hm
  refine enter (fn := Tryd.f73) Tryd.func73 rfl 4 rfl [.pointer (some ⟨b, 0, none⟩), undef, undef, undef] rfl ?_
  repeat' (first | (refine g_ow ?_; refine t_load_agg_env rfl rfl hA hc rfl ?_; refine rn ?_) | (refine g_callf 74 ?_; refine ow_call Tryd.call74 rfl ((cbp_calls m r v u E _ w hA).mono ?_); clear hA; (try clear w); rintro e w ⟨rfl, hA⟩; refine ⟨_, rfl, ?_⟩; refine rn ?_) | refine st ?_ | refine sr ?_ | refine sl hA ?_ | (refine s_w hA ?_; clear hA; (try clear w); intro w hA) | (refine s_v hA ?_; clear hA; (try clear w); intro v w hA hone hnil) | (refine s_b hA ?_; clear hA; (try clear w); intro b w hA) | refine sp (fun h => ?_) (fun h => ?_) | (refine wc_region ?_))
  exact ret1 hA rfl rfl
theorem check6_calls (hA : Sat E L w) (hm : MbAt E b m r v u) (hl : MbL E m r v u) (hG : MbG E) :
    Calls Tryd.prog 76 ⟨[.pointer (some ⟨b, 0, none⟩)]⟩ w (fun e w' => ∃ E', e = .returned (vi (blocksE m)) ∧ E.Le E' ∧ Sat E' L w') := by
  have hc := mb_load m r v u b E hm
  refine enter (fn := Tryd.f76) Tryd.func76 rfl 4 rfl [.pointer (some ⟨b, 0, none⟩), undef, undef, undef] rfl ?_
  repeat' (first | (refine g_ow ?_; refine t_load_agg_env rfl rfl hA hc rfl ?_; refine rn ?_) | (refine g_callf 77 ?_; refine ow_call Tryd.call77 rfl ((blocksE_calls m r v u E _ w hA hG hl).mono ?_); clear hA; (try clear w); rintro e w ⟨E1, rfl, hE1, hA⟩; refine ⟨_, rfl, ?_⟩; refine rn ?_) | refine st ?_ | refine sr ?_ | refine sl hA ?_ | (refine s_w hA ?_; clear hA; (try clear w); intro w hA) | (refine s_v hA ?_; clear hA; (try clear w); intro v w hA hone hnil) | (refine s_b hA ?_; clear hA; (try clear w); intro b w hA) | refine sp (fun h => ?_) (fun h => ?_) | (refine wc_region ?_))
  exact fp_ret (res1 rfl rfl) ⟨E1, rfl, hE1, hA⟩
def pcmE (m : Mb) : Int := if m.pcm.length ≠ 384 then 2 else 0
theorem check7_calls (hA : Sat E L w) (hm : MbAt E b m r v u) :
    Calls Tryd.prog 78 ⟨[.pointer (some ⟨b, 0, none⟩)]⟩ w (Ret E L (vi (pcmE m))) := by
  have h1 : E.cell? ⟨b, 28, none⟩ = some (vs m.pcm) := hm 28 _ rfl
  refine enter (fn := Tryd.f78) Tryd.func78 rfl 6 rfl [.pointer (some ⟨b, 0, none⟩), undef, undef, undef, undef, undef] rfl ?_
  by_cases h : m.pcm.length = 384
  · rw [pcmE, if_neg (by omega)]
    repeat' (first | (refine g_ow ?_; refine t_load_env rfl rfl hA h1 ?_; refine rn ?_) | refine st ?_ | refine sr ?_ | refine sl hA ?_ | (refine s_w hA ?_; clear hA; (try clear w); intro w hA) | (refine s_v hA ?_; clear hA; (try clear w); intro v w hA hone hnil) | (refine s_b hA ?_; clear hA; (try clear w); intro b w hA) | refine sp (fun h => ?_) (fun h => ?_) | (refine wc_region ?_))
    exact ret1 hA rfl rfl
  · rw [pcmE, if_pos h]
    repeat' (first | (refine g_ow ?_; refine t_load_env rfl rfl hA h1 ?_; refine rn ?_) | refine st ?_ | refine sr ?_ | refine sl hA ?_ | (refine s_w hA ?_; clear hA; (try clear w); intro w hA) | (refine s_v hA ?_; clear hA; (try clear w); intro v w hA hone hnil) | (refine s_b hA ?_; clear hA; (try clear w); intro b w hA) | refine sp (fun h => ?_) (fun h => ?_) | (refine wc_region ?_))
    exact ret1 hA rfl rfl
end
theorem oneU_fn (x lo hi : UInt8) (b0 b1 b2 : Nat) (E : Env) (h0 : E.cell? ⟨b0, 0, none⟩ = some (u8 x)) (h1 : E.cell? ⟨b1, 0, none⟩ = some (u8 lo)) (h2 : E.cell? ⟨b2, 0, none⟩ = some (u8 hi)) (L : List Item) (w : World) (hA : Sat E L w) :
    Calls Tryd.prog 116 ⟨[.pointer (some ⟨b0, 0, none⟩), .pointer (some ⟨b1, 0, none⟩), .pointer (some ⟨b2, 0, none⟩)]⟩ w (fun e w' => ∃ E', e = .returned (vi (rangedU [x] 1 lo.toNat hi.toNat)) ∧ E.Le E' ∧ Sat E' L w') := by
  refine enter (fn := Tryd.f116) Tryd.func116 rfl 9 rfl [.pointer (some ⟨b0, 0, none⟩), .pointer (some ⟨b1, 0, none⟩), .pointer (some ⟨b2, 0, none⟩), undef, undef, undef, undef, undef, undef] rfl ?_
  repeat' (first | (refine g_ow ?_; refine t_load_env rfl rfl hA h0 ?_; refine rn ?_) | (refine g_ow ?_; refine t_load_env rfl rfl hA (hE1.cell h1) ?_; refine rn ?_) | (refine g_ow ?_; refine t_load_env rfl rfl hA (hE1.cell h2) ?_; refine rn ?_) | (refine g_ow ?_; refine t_buildSlice rfl (by decide) rfl hA ?_; clear hA; intro bb w hA; obtain ⟨E1, hE1, hA, hl⟩ := hA.freezeLitE (R := u8R) (xs := [x]) 0 rfl ((CsE.nil (R := u8R) (sz := 1) (E := E)).snoc (cs := [u8 x]) (x := x) rfl rfl) (Nat.le_of_ble_eq_true rfl); refine rn ?_) | (refine g_callf 66 ?_; refine ow_call Tryd.call66 rfl ((rangedU_calls _ [x] 1 lo hi E1 _ w hA hl).mono ?_); clear hA; (try clear w); rintro e w ⟨rfl, hA⟩; refine ⟨_, rfl, ?_⟩; refine rn ?_) | refine st ?_ | refine sr ?_ | refine sl hA ?_ | (refine s_w hA ?_; clear hA; (try clear w); intro w hA) | (refine s_v hA ?_; clear hA; (try clear w); intro v w hA hone hnil) | (refine s_b hA ?_; clear hA; (try clear w); intro b w hA) | refine sp (fun h => ?_) (fun h => ?_) | (refine wc_region ?_))
  exact fp_ret (res1 rfl rfl) ⟨E1, rfl, hE1, hA⟩
theorem oneI_fn (x lo hi : Int) (hx : I64 x) (b0 b1 b2 : Nat) (E : Env) (h0 : E.cell? ⟨b0, 0, none⟩ = some (vi x)) (h1 : E.cell? ⟨b1, 0, none⟩ = some (vi lo)) (h2 : E.cell? ⟨b2, 0, none⟩ = some (vi hi)) (L : List Item) (w : World) (hA : Sat E L w) :
    Calls Tryd.prog 118 ⟨[.pointer (some ⟨b0, 0, none⟩), .pointer (some ⟨b1, 0, none⟩), .pointer (some ⟨b2, 0, none⟩)]⟩ w (fun e w' => ∃ E', e = .returned (vi (rangedL [x] 1 lo hi)) ∧ E.Le E' ∧ Sat E' L w') := by
  refine enter (fn := Tryd.f118) Tryd.func118 rfl 9 rfl [.pointer (some ⟨b0, 0, none⟩), .pointer (some ⟨b1, 0, none⟩), .pointer (some ⟨b2, 0, none⟩), undef, undef, undef, undef, undef, undef] rfl ?_
  repeat' (first | (refine g_ow ?_; refine t_load_env rfl rfl hA h0 ?_; refine rn ?_) | (refine g_ow ?_; refine t_load_env rfl rfl hA (hE1.cell h1) ?_; refine rn ?_) | (refine g_ow ?_; refine t_load_env rfl rfl hA (hE1.cell h2) ?_; refine rn ?_) | (refine g_ow ?_; refine t_buildSlice rfl (by decide) rfl hA ?_; clear hA; intro bb w hA; obtain ⟨E1, hE1, hA, hl⟩ := hA.freezeLitE (R := intR) (xs := [x]) 0 rfl ((CsE.nil (R := intR) (sz := 1) (E := E)).snoc (cs := [vi x]) (x := x) rfl ⟨rfl, hx⟩) (Nat.le_of_ble_eq_true rfl); refine rn ?_) | (refine g_callf 69 ?_; refine ow_call Tryd.call69 rfl ((rangedI_calls _ [x] 1 lo hi E1 _ w hA hl).mono ?_); clear hA; (try clear w); rintro e w ⟨rfl, hA⟩; refine ⟨_, rfl, ?_⟩; refine rn ?_) | refine st ?_ | refine sr ?_ | refine sl hA ?_ | (refine s_w hA ?_; clear hA; (try clear w); intro w hA) | (refine s_v hA ?_; clear hA; (try clear w); intro v w hA hone hnil) | (refine s_b hA ?_; clear hA; (try clear w); intro b w hA) | refine sp (fun h => ?_) (fun h => ?_) | (refine wc_region ?_))
  exact fp_ret (res1 rfl rfl) ⟨E1, rfl, hE1, hA⟩
theorem oneU_calls (x lo hi : UInt8) (E : Env) (L : List Item) (w : World) (hA : Sat E L w) :
    Calls Tryd.prog 64 ⟨[u8 x, u8 lo, u8 hi]⟩ w (fun e w' => ∃ E' f, e = .returned f ∧ E.Le E' ∧ FnR E' f (rangedU [x] 1 lo.toNat hi.toNat) ∧ Sat E' L w') := by
  refine enter (fn := Tryd.f64) Tryd.func64 rfl 8 rfl [u8 x, u8 lo, u8 hi, undef, undef, undef, undef, undef] rfl ?_
  repeat' (first | refine st ?_ | refine sr ?_ | refine sl hA ?_ | (refine s_w hA ?_; clear hA; (try clear w); intro w hA) | (refine s_v hA ?_; clear hA; (try clear w); intro v w hA hone hnil) | (refine s_b hA ?_; clear hA; (try clear w); intro b w hA) | refine sp (fun h => ?_) (fun h => ?_) | (refine wc_region ?_))
  obtain ⟨E1, hE1, hA1, g1⟩ := hA.freezeCells
  obtain ⟨E2, hE2, hA2, g2⟩ := hA1.freezeCells
  obtain ⟨E3, hE3, hA3, g3⟩ := hA2.freezeCells
  exact fp_ret (res1 rfl rfl) ⟨E3, _, rfl, hE1.trans (hE2.trans hE3), ⟨_, [], _, rfl, Tryd.call116, fun E' L w hE hA => oneU_fn x lo hi _ _ _ E' (hE.cell (g3 0 _ rfl)) ((hE3.trans hE).cell (g2 0 _ rfl)) ((hE2.trans (hE3.trans hE)).cell (g1 0 _ rfl)) L w hA⟩, hA3⟩
theorem oneI_calls (x lo hi : Int) (hx : I64 x) (E : Env) (L : List Item) (w : World) (hA : Sat E L w) :
    Calls Tryd.prog 75 ⟨[vi x, vi lo, vi hi]⟩ w (fun e w' => ∃ E' f, e = .returned f ∧ E.Le E' ∧ FnR E' f (rangedL [x] 1 lo hi) ∧ Sat E' L w') := by
  refine enter (fn := Tryd.f75) Tryd.func75 rfl 8 rfl [vi x, vi lo, vi hi, undef, undef, undef, undef, undef] rfl ?_
  repeat' (first | refine st ?_ | refine sr ?_ | refine sl hA ?_ | (refine s_w hA ?_; clear hA; (try clear w); intro w hA) | (refine s_v hA ?_; clear hA; (try clear w); intro v w hA hone hnil) | (refine s_b hA ?_; clear hA; (try clear w); intro b w hA) | refine sp (fun h => ?_) (fun h => ?_) | (refine wc_region ?_))
  obtain ⟨E1, hE1, hA1, g1⟩ := hA.freezeCells
  obtain ⟨E2, hE2, hA2, g2⟩ := hA1.freezeCells
  obtain ⟨E3, hE3, hA3, g3⟩ := hA2.freezeCells
  exact fp_ret (res1 rfl rfl) ⟨E3, _, rfl, hE1.trans (hE2.trans hE3), ⟨_, [], _, rfl, Tryd.call118, fun E' L w hE hA => oneI_fn x lo hi hx _ _ _ E' (hE.cell (g3 0 _ rfl)) ((hE3.trans hE).cell (g2 0 _ rfl)) ((hE2.trans (hE3.trans hE)).cell (g1 0 _ rfl)) L w hA⟩, hA3⟩
end Go.Proofs.YtomfoaaaeidpnaaDoor
