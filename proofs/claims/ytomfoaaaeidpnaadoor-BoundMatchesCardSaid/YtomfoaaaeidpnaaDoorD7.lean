/-
  spindlelaw38.Few and BoundMatches, walked.
-/
import Derived.Test.YtomfoaaaeidpnaaDoorD6
import Derived.Test.YtomfoaaaeidpnaaDoorD3
set_option linter.unusedVariables false
set_option linter.unusedSimpArgs false
namespace Go.Proofs.YtomfoaaaeidpnaaDoor
open Go Go.RowKit
attribute [local irreducible] WC RL OW bodyPostM ThenQ BlockQ LoopQ ScopeQ
theorem mb1 {E : Env} {m : Mb} {r v u : Value} (hm : MbL E m r v u) : CsE mbR 29 E (mbC m r v u) [m] := by
  have h := CsE.cons1 (R := mbR) (sz := 29) (cs := mbC m r v u) (x := m) rfl ⟨r, v, u, rfl, hm⟩ (CsE.nil (R := mbR) (sz := 29) (E := E))
  rwa [List.append_nil] at h
set_option maxRecDepth 16000 in
set_option maxHeartbeats 8000000 in
theorem boundMatches_calls (m : Mb) (r v u : Value) (E : Env) (L : List Item) (w : World) (hA : Sat E L w) (hG : MbG E) (hm : MbL E m r v u) (hsh : Short m.blocks) :
    Calls Tryd.prog 3 ⟨[.agg ⟨mbC m r v u⟩]⟩ w (Ret E L (.bool true)) := by
  have o1 := hm.refs.one
  have o2 := hm.mvds.one
  have o3 := hm.blocks.one
  refine enter (fn := Tryd.f3) Tryd.func3 rfl 30 rfl [.agg ⟨mbC m r v u⟩, undef, undef, undef, undef, undef, undef, undef, undef, undef, undef, undef, undef, undef, undef, undef, undef, undef, undef, undef, undef, undef, undef, undef, undef, undef, undef, undef, undef, undef] rfl ?_
  have hfc : ∀ (E : Env) (L : List Item) (w : World) (z : Value), Sat E L w → ListE mbR 29 E z [m] → Calls Tryd.prog 17 ⟨[z, vi 1]⟩ w (Ret E L (.bool (fewM m))) := fun E L w z hA hl => by
    have := few14_calls z [m] 1 E L w hA hl
    rwa [fewB_one] at this
  repeat' (first | refine st ?_ | refine sr ?_ | refine sl hA ?_ | (refine s_w hA ?_; clear hA; (try clear w); intro w hA) | (refine s_v hA ?_; clear hA; (try clear w); intro v w hA hone hnil) | (refine s_b hA ?_; clear hA; (try clear w); intro b w hA) | refine sp (fun h => ?_) (fun h => ?_) | (refine wc_region ?_))
  generalize hb2 : b = b2 at *
  clear hb2
  obtain ⟨E1, hE1, hA, hl⟩ := hA.freezeLitE (R := mbR) (xs := [m]) 0 rfl (mb1 hm) (Nat.le_of_ble_eq_true rfl)
  cases hfw : fewM m with
  | false =>
    rw [hfw] at hfc
    repeat' (first | (refine g_callf 17 ?_; refine ow_call Tryd.call17 rfl ((hfc _ _ _ _ hA hl).mono ?_); clear hA; (try clear w); rintro e w ⟨rfl, hA⟩; refine ⟨_, rfl, ?_⟩; refine rn ?_) | refine st ?_ | refine sr ?_ | refine sl hA ?_ | (refine s_w hA ?_; clear hA; (try clear w); intro w hA) | (refine s_v hA ?_; clear hA; (try clear w); intro v w hA hone hnil) | (refine s_b hA ?_; clear hA; (try clear w); intro b w hA) | refine sp (fun h => ?_) (fun h => ?_) | (refine wc_region ?_))
    exact ret1 (hA.le hE1).tail rfl rfl
  | true =>
    rw [hfw] at hfc
    have hfit := fewM_fits hfw
    have hshort := fewM_short hfw
    repeat' (first | (refine g_callf 17 ?_; refine ow_call Tryd.call17 rfl ((hfc _ _ _ _ hA hl).mono ?_); clear hA; (try clear w); rintro e w ⟨rfl, hA⟩; refine ⟨_, rfl, ?_⟩; refine rn ?_) | (refine g_callf 18 ?_; refine ow_call Tryd.call18 rfl ((copyMb_calls m r v u _ _ _ hA (hm.mono hE1) hfit).mono ?_); clear hA; (try clear w); rintro e w ⟨E3, rO, vO, uO, rfl, hE3, hmO0, hA⟩; refine ⟨_, rfl, ?_⟩; (try have hmO := hmO0.mono (Env.sub_le _ _); have oo1 := hmO.refs.one; have oo2 := hmO.mvds.one; have oo3 := hmO.blocks.one); refine rn ?_) | refine st ?_ | refine sr ?_ | refine sl hA ?_ | (refine s_w hA ?_; clear hA; (try clear w); intro w hA) | (refine s_v hA ?_; clear hA; (try clear w); intro v w hA hone hnil) | (refine s_b hA ?_; clear hA; (try clear w); intro b w hA) | refine sp (fun h => ?_) (fun h => ?_) | (refine wc_regionS 4 rfl ?_; refine wc_region ?_))
    have hm3 := hm.mono (hE1.trans hE3)
    have hG3 := hG.mono (hE1.trans hE3)
    refine' wc_vals 20 [10, 11, 12, 13, 14, 15, 16, 17, 18, 19, 20, 21, 22, 23, 24, 25, 26, 27, 28, 29] [_, _, _, _, _, _, _, _, _, _, _, _, _, _, _, _, _, _, _, _] rfl (by kernel_rfl) (by kernel_rfl) (by kernel_rfl) hA ?ops4 ?k4
    case ops4 =>
      refine' VOps.c0 rfl [] (by decide) [] (by decide) rfl ?o4_0 ?r4_0
      case o4_0 => intro E' Lx w lf hE hl hA; replace hl := hz hl; subst hl; first | (refine oq ?_; exact ⟨pe, hA⟩)
      refine' VOps.c0 rfl [0] (by decide) [10] (by decide) rfl ?o4_1 ?r4_1
      case o4_1 => intro E' Lx w lf hE hl hA; replace hl := hz hl; subst hl; first | (refine ow_call Tryd.call19 rfl ((bBins_calls m rO vO uO _ _ _ hA (hmO.mono hE) (hG3.mono hE)).mono ?_); clear hA; rintro e w ⟨rfl, hA⟩; refine ⟨_, rfl, ?_⟩; exact ⟨put_eq (by rfl), hA⟩)
      refine' VOps.c0 rfl [] (by decide) [] (by decide) rfl ?o4_2 ?r4_2
      case o4_2 => intro E' Lx w lf hE hl hA; replace hl := hz hl; subst hl; first | (refine oq ?_; exact ⟨pe, hA⟩)
      refine' VOps.c0 rfl [2, 1] (by decide) [12, 11] (by decide) rfl ?o4_3 ?r4_3
      case o4_3 => intro E' Lx w lf hE hl hA; replace hl := hz hl; subst hl; first | (refine ow_call Tryd.call20 rfl ((rBins_calls m r v u _ _ _ hA (hm3.mono hE) hfit hshort).mono ?_); clear hA; rintro e w ⟨rfl, hA⟩; refine ⟨_, rfl, ?_⟩; exact ⟨put_eq (by rfl), hA⟩)
      refine' VOps.c0 rfl [1, 3] (by decide) [11, 13] (by decide) rfl ?o4_4 ?r4_4
      case o4_4 => intro E' Lx w lf hE hl hA; replace hl := hz hl; subst hl; first | (refine oq ?_; exact ⟨pe, hA⟩)
      refine' VOps.c0 rfl [4, 3] (by decide) [14, 13] (by decide) rfl ?o4_5 ?r4_5
      case o4_5 => intro E' Lx w lf hE hl hA; replace hl := hz hl; subst hl; first | (refine oq ?_; exact ⟨pe, hA⟩)
      first | refine' VOps.cT rfl [5] (by decide) [15] (by decide) rfl rfl ?o4_6 ?r4_6 | refine' VOps.cTn rfl [5] (by decide) [15] (by decide) rfl rfl ?o4_6 ?r4_6
      case o4_6 => intro hg E' Lx w lf hE hl hA; replace hl := hz hl; subst hl; first | (refine oqg ?_; exact ⟨pe, hA⟩)
      first | refine' VOps.cT rfl [6, 5] (by decide) [16, 15] (by decide) rfl rfl ?o4_7 ?r4_7 | refine' VOps.cTn rfl [6, 5] (by decide) [16, 15] (by decide) rfl rfl ?o4_7 ?r4_7
      case o4_7 => intro hg E' Lx w lf hE hl hA; replace hl := hz hl; subst hl; first | (refine ow_call Tryd.call21 (evs1 opr) ((bBits_calls m rO vO uO _ _ _ hA (hmO.mono hE) (hG3.mono hE)).mono ?_); clear hA; rintro e w ⟨rfl, hA⟩; refine ⟨_, rfl, ?_⟩; exact ⟨put_eq (by rfl), hA⟩)
      first | refine' VOps.cT rfl [5] (by decide) [15] (by decide) rfl rfl ?o4_8 ?r4_8 | refine' VOps.cTn rfl [5] (by decide) [15] (by decide) rfl rfl ?o4_8 ?r4_8
      case o4_8 => intro hg E' Lx w lf hE hl hA; replace hl := hz hl; subst hl; first | (refine oqg ?_; exact ⟨pe, hA⟩)
      first | refine' VOps.cT rfl [8, 7, 5] (by decide) [18, 17, 15] (by decide) rfl rfl ?o4_9 ?r4_9 | refine' VOps.cTn rfl [8, 7, 5] (by decide) [18, 17, 15] (by decide) rfl rfl ?o4_9 ?r4_9
      case o4_9 => intro hg E' Lx w lf hE hl hA; replace hl := hz hl; subst hl; first | (refine ow_call Tryd.call22 (evs1 opr) ((rBits_calls m r v u _ _ _ hA (hm3.mono hE) hfit hshort).mono ?_); clear hA; rintro e w ⟨rfl, hA⟩; refine ⟨_, rfl, ?_⟩; exact ⟨put_eq (by rfl), hA⟩)
      first | refine' VOps.cT rfl [7, 9, 5] (by decide) [17, 19, 15] (by decide) rfl rfl ?o4_10 ?r4_10 | refine' VOps.cTn rfl [7, 9, 5] (by decide) [17, 19, 15] (by decide) rfl rfl ?o4_10 ?r4_10
      case o4_10 => intro hg E' Lx w lf hE hl hA; replace hl := hz hl; subst hl; first | (refine oqg ?_; exact ⟨pe, hA⟩)
      refine' VOps.c0 rfl [5, 10] (by decide) [15, 20] (by decide) rfl ?o4_11 ?r4_11
      case o4_11 => intro E' Lx w lf hE hl hA; replace hl := hz hl; subst hl; first | (refine oq ?_; exact ⟨pe, hA⟩)
      refine' VOps.c0 rfl [11, 9] (by decide) [21, 19] (by decide) rfl ?o4_12 ?r4_12
      case o4_12 => intro E' Lx w lf hE hl hA; replace hl := hz hl; subst hl; first | (refine oq ?_; exact ⟨pe, hA⟩)
      first | refine' VOps.cT rfl [12] (by decide) [22] (by decide) rfl rfl ?o4_13 ?r4_13 | refine' VOps.cTn rfl [12] (by decide) [22] (by decide) rfl rfl ?o4_13 ?r4_13
      case o4_13 => intro hg E' Lx w lf hE hl hA; replace hl := hz hl; subst hl; first | (refine oqg ?_; exact ⟨pe, hA⟩)
      first | refine' VOps.cT rfl [12] (by decide) [22] (by decide) rfl rfl ?o4_14 ?r4_14 | refine' VOps.cTn rfl [12] (by decide) [22] (by decide) rfl rfl ?o4_14 ?r4_14
      case o4_14 => intro hg E' Lx w lf hE hl hA; replace hl := hz hl; subst hl; first | (refine oqg ?_; exact ⟨pe, hA⟩)
      first | refine' VOps.cT rfl [13, 14, 12] (by decide) [23, 24, 22] (by decide) rfl rfl ?o4_15 ?r4_15 | refine' VOps.cTn rfl [13, 14, 12] (by decide) [23, 24, 22] (by decide) rfl rfl ?o4_15 ?r4_15
      case o4_15 => intro hg E' Lx w lf hE hl hA; replace hl := hz hl; subst hl; first | (refine ow_call Tryd.call23 (evs2 opr opr) ((equalMb_calls m m rO vO uO r v u _ _ _ hA (hmO.mono hE) (hm3.mono hE)).mono ?_); clear hA; rintro e w ⟨rfl, hA⟩; refine ⟨_, rfl, ?_⟩; exact ⟨put_eq (by rfl), hA⟩)
      refine' VOps.c0 rfl [12, 15] (by decide) [22, 25] (by decide) rfl ?o4_16 ?r4_16
      case o4_16 => intro E' Lx w lf hE hl hA; replace hl := hz hl; subst hl; first | (refine oq ?_; exact ⟨pe, hA⟩)
      refine' VOps.c0 rfl [16, 15] (by decide) [26, 25] (by decide) rfl ?o4_17 ?r4_17
      case o4_17 => intro E' Lx w lf hE hl hA; replace hl := hz hl; subst hl; first | (refine oq ?_; exact ⟨pe, hA⟩)
      first | refine' VOps.cT rfl [17] (by decide) [27] (by decide) rfl rfl ?o4_18 ?r4_18 | refine' VOps.cTn rfl [17] (by decide) [27] (by decide) rfl rfl ?o4_18 ?r4_18
      case o4_18 => intro hg E' Lx w lf hE hl hA; replace hl := hz hl; subst hl; first | (refine ow_call Tryd.call24 rfl ((awake38_calls _ _ _ hA (hG3.mono hE)).mono ?_); clear hA; rintro e w ⟨rfl, hA⟩; refine ⟨_, rfl, ?_⟩; exact ⟨put_eq (by rfl), hA⟩)
      refine' VOps.c0 rfl [17, 18] (by decide) [27, 28] (by decide) rfl ?o4_19 ?r4_19
      case o4_19 => intro E' Lx w lf hE hl hA; replace hl := hz hl; subst hl; first | (refine oq ?_; exact ⟨pe, hA⟩)
      exact TameOps.nil
    case' k4 => (try clear hA); intro w hA; refine rn ?_
    repeat' (first | refine st ?_ | refine sr ?_ | refine sl hA ?_ | (refine s_w hA ?_; clear hA; (try clear w); intro w hA) | (refine s_v hA ?_; clear hA; (try clear w); intro v w hA hone hnil) | (refine s_b hA ?_; clear hA; (try clear w); intro b w hA) | refine sp (fun h => ?_) (fun h => ?_) | (refine wc_region ?_))
    exact ret1 ((hA.le (hE1.trans hE3)).dropN 2) rfl rfl
end Go.Proofs.YtomfoaaaeidpnaaDoor
