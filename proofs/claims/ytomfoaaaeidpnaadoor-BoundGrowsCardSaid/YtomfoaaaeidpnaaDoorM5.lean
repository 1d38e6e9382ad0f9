/-
  mb.blocks, walked.
-/
import Derived.Test.YtomfoaaaeidpnaaDoorM4
set_option linter.unusedVariables false
set_option linter.unusedSimpArgs false
namespace Go.Proofs.YtomfoaaaeidpnaaDoor
open Go Go.RowKit
attribute [local irreducible] WC RL OW bodyPostM ThenQ BlockQ LoopQ ScopeQ
def blocksGo : List (List Int) → List Coded → Int
  | b :: bs, c :: cs => if rangedL b (sizeN c.cat) (-32768) 32768 ≠ 0 then rangedL b (sizeN c.cat) (-32768) 32768 else blocksGo bs cs
  | _, _ => 0
/-- The error of the blocks. -/
def blocksE (m : Mb) : Int := if m.blocks.length ≠ (blocksL m).length then 2 else blocksGo m.blocks (blocksL m)
theorem blocksL_len (m : Mb) : (blocksL m).length ≤ 27 := by
  unfold blocksL
  split
  · have h1 := lumaL_len (if m.kind.toNat = 1 then 1 else 2) m.cbp 16
    have h2 := chacL_len 8
    simp only [List.length_append]
    have h3 : (if m.kind.toNat = 1 then [(⟨0, 0, 0⟩ : Coded)] else []).length ≤ 1 := by split <;> simp
    have h4 : (if 0 < m.cbp.toNat / 16 then [(⟨3, 0, 0⟩ : Coded), ⟨3, 1, 0⟩] else []).length ≤ 2 := by split <;> simp
    have h5 : (if m.cbp.toNat / 16 = 2 then chacL 8 else []).length ≤ 8 := by split <;> simp [h2]
    omega
  · simp
theorem blocksL_cat (m : Mb) : ∀ c ∈ blocksL m, c.cat.toNat < 5 := by
  intro c hc
  unfold blocksL at hc
  split at hc
  · simp only [List.mem_append] at hc
    rcases hc with ((hc | hc) | hc) | hc
    · split at hc
      · rw [List.mem_singleton.1 hc]; decide
      · cases hc
    · unfold lumaL at hc
      obtain ⟨k, _, rfl⟩ := List.mem_map.1 hc
      show (if m.kind.toNat = 1 then (1 : UInt8) else 2).toNat < 5
      split <;> decide
    · split at hc
      · rcases List.mem_cons.1 hc with rfl | hc
        · decide
        · rw [List.mem_singleton.1 hc]; decide
      · cases hc
    · split at hc
      · unfold chacL at hc
        obtain ⟨k, _, rfl⟩ := List.mem_map.1 hc
        show (4 : UInt8).toNat < 5
        decide
      · cases hc
  · cases hc
theorem blocksGo_ok {bs : List (List Int)} {cs : List Coded} (h : ∀ (j : Nat) b c, bs[j]? = some b → cs[j]? = some c → rangedL b (sizeN c.cat) (-32768) 32768 = 0) : blocksGo bs cs = 0 := by
  induction bs generalizing cs with
  | nil => rfl
  | cons b bs ih =>
    cases cs with
    | nil => rfl
    | cons c cs =>
      rw [blocksGo, if_neg (by rw [h 0 b c rfl rfl]; decide)]
      exact ih fun j b' c' h1 h2 => h (j + 1) b' c' h1 h2
theorem blocksGo_bad {bs : List (List Int)} {cs : List Coded} {i : Nat} {b : List Int} {c : Coded} (hb : bs[i]? = some b) (hc : cs[i]? = some c) (hbad : rangedL b (sizeN c.cat) (-32768) 32768 ≠ 0)
    (h : ∀ (j : Nat) b c, j < i → bs[j]? = some b → cs[j]? = some c → rangedL b (sizeN c.cat) (-32768) 32768 = 0) : blocksGo bs cs = rangedL b (sizeN c.cat) (-32768) 32768 := by
  induction i generalizing bs cs with
  | zero =>
    cases bs with
    | nil => cases hb
    | cons b' bs =>
      cases cs with
      | nil => cases hc
      | cons c' cs =>
        cases hb; cases hc
        rw [blocksGo, if_pos hbad]
  | succ i ih =>
    cases bs with
    | nil => cases hb
    | cons b' bs =>
      cases cs with
      | nil => cases hc
      | cons c' cs =>
        rw [blocksGo, if_neg (by rw [h 0 b' c' (by omega) rfl rfl]; decide)]
        exact ih hb hc fun j b2 c2 hj h1 h2 => h (j + 1) b2 c2 (by omega) h1 h2
set_option maxRecDepth 8000 in
set_option maxHeartbeats 4000000 in
theorem blocksE_calls (m : Mb) (r v u0 : Value) (E : Env) (L : List Item) (w : World) (hA : Sat E L w) (hG : MbG E) (hm : MbL E m r v u0) :
    Calls Tryd.prog 77 ⟨[.agg ⟨mbC m r v u0⟩]⟩ w (fun e w' => ∃ E', e = .returned (vi (blocksE m)) ∧ E.Le E' ∧ Sat E' L w') := by
  obtain ⟨cb, hcb⟩ := hm.blocks.sl
  have hn27 := blocksL_len m
  refine enter (fn := Tryd.f77) Tryd.func77 rfl 36 rfl [.agg ⟨mbC m r v u0⟩, undef, undef, undef, undef, undef, undef, undef, undef, undef, undef, undef, undef, undef, undef, undef, undef, undef, undef, undef, undef, undef, undef, undef, undef, undef, undef, undef, undef, undef, undef, undef, undef, undef, undef, undef] rfl ?_
  repeat' (first | (refine g_callf 107 ?_; refine ow_call Tryd.call107 rfl ((blocksL_calls m r v u0 E _ w hA).mono ?_); clear hA; (try clear w); rintro e w ⟨E1, lv, rfl, hE1, hl, hA⟩; refine ⟨_, rfl, ?_⟩; refine rn ?_) | refine st ?_ | refine sr ?_ | refine sl hA ?_ | (refine s_w hA ?_; clear hA; (try clear w); intro w hA) | (refine s_v hA ?_; clear hA; (try clear w); intro v w hA hone hnil) | (refine s_b hA ?_; clear hA; (try clear w); intro b w hA) | refine sp (fun h => ?_) (fun h => ?_) | (refine wc_regionS 2 rfl ?_; refine wc_region ?_))
  generalize hb1 : b = b1 at *
  obtain ⟨cl, hcl⟩ := hl.sl
  have hG1 := hG.mono hE1
  have hm1 := hm.mono hE1
  by_cases hlen : m.blocks.length = (blocksL m).length
  · have e : blocksE m = blocksGo m.blocks (blocksL m) := if_neg (by omega)
    rw [e]
    repeat' (first | (refine g_call ?_; refine t_lenS rfl hcb ?_; refine rn ?_) | (refine g_call ?_; refine t_lenS rfl hcl ?_; refine rn ?_) | refine st ?_ | refine sr ?_ | refine sl hA ?_ | (refine s_w hA ?_; clear hA; (try clear w); intro w hA) | (refine s_v hA ?_; clear hA; (try clear w); intro v w hA hone hnil) | (refine s_b hA ?_; clear hA; (try clear w); intro b w hA) | refine sp (fun h => ?_) (fun h => ?_) | (refine wc_region ?_))
    refine wc_loopn (fun k l w => ∃ (i : Nat), (∃ jk : Nat → Value, l = [jk 0, .pointer (some ⟨b1, 0, none⟩), jk 2, lv, jk 4, jk 5, jk 6, jk 7, jk 8, jk 9, jk 10, jk 11, jk 12, jk 13, jk 14, .int .i64 ((blocksL m).length : Int), .int .i64 (i : Int), jk 17, jk 18, jk 19, jk 20, jk 21, jk 22, jk 23, jk 24, jk 25, jk 26, jk 27, jk 28, jk 29, jk 30, jk 31, jk 32, jk 33, jk 34, jk 35]) ∧ i + k = (blocksL m).length ∧ (∀ (j : Nat) b c, j < i → m.blocks[j]? = some b → (blocksL m)[j]? = some c → rangedL b (sizeN c.cat) (-32768) 32768 = 0) ∧ Sat E1 (cells b1 (mbC m r v u0) 28 :: L) w) (blocksL m).length ⟨0, (ex_getD rfl), by omega, fun j b c hj => absurd hj (by omega), hA⟩ ?_
    clear hA
    rintro k l w ⟨i, ⟨jk, rfl⟩, hi, hok, hA⟩
    by_cases hlt : i < (blocksL m).length
    · obtain ⟨x, hxi⟩ : ∃ x, m.blocks[i]? = some x := ⟨_, List.getElem?_eq_getElem (by omega)⟩
      obtain ⟨c, hci⟩ : ∃ c, (blocksL m)[i]? = some c := ⟨_, List.getElem?_eq_getElem hlt⟩
      obtain ⟨cx, hcxl, ⟨q, rfl, hq⟩, hcx⟩ := hm1.blocks.get hxi
      have hx0 : E1.cell? ⟨sB u0, sO u0 + (i : Int).toNat * 1, none⟩ = some q := hcx 0 _ rfl
      obtain ⟨cc, hccl, ⟨rfl, hc64⟩, hcc⟩ := hl.get hci
      have hc0 : E1.cell? ⟨sB lv, sO lv + (i : Int).toNat * 3, none⟩ = some (u8 c.cat) := hcc 0 _ rfl
      have hc5 := blocksL_cat m c (List.mem_of_getElem? hci)
      have hs0 : E1.cell? ⟨0, 0 + ((c.cat.toNat : Int)).toNat * 1, none⟩ = some (vi (sizeN c.cat)) := by
        rw [Nat.zero_add, Int.toNat_natCast, Nat.mul_one]
        exact hG1.sizes _ _ (size_at c.cat hc5)
      have hs1 : E1.cell? ⟨0, ((c.cat.toNat : Int)).toNat * 1, none⟩ = some (vi (sizeN c.cat)) := by rw [Nat.zero_add] at hs0; exact hs0
      repeat' (first | refine st ?_ | refine sr ?_ | refine sl hA ?_ | (refine s_w hA ?_; clear hA; (try clear w); intro w hA) | (refine s_v hA ?_; clear hA; (try clear w); intro v w hA hone hnil) | (refine s_b hA ?_; clear hA; (try clear w); intro b w hA) | refine sp (fun h => ?_) (fun h => ?_) | (refine wc_regionS 7 rfl ?_; refine wc_region ?_))
      refine' wc_vals 13 [19, 20, 21, 22, 23, 24, 25, 26, 27, 28, 29, 30, 31] [_, _, _, _, _, _, _, _, _, _, _, _, _] rfl (by kernel_rfl) (by kernel_rfl) (by kernel_rfl) hA ?ops7 ?k7
      case ops7 =>
        refine' VOps.c0 rfl [] (by decide) [] (by decide) rfl ?o7_0 ?r7_0
        case o7_0 => intro E' Lx w lf hE hl hA; replace hl := hz hl; subst hl; first | (refine oq ?_; exact ⟨pe, hA⟩)
        refine' VOps.c0 rfl [0] (by decide) [19] (by decide) rfl ?o7_1 ?r7_1
        case o7_1 => intro E' Lx w lf hE hl hA; replace hl := hz hl; subst hl; first | (refine t_load_env rfl rfl hA (hE.cell hx0) ?_; exact ⟨pe, hA⟩) | (refine t_load_env rfl rfl hA (hE.cell hc0) ?_; exact ⟨pe, hA⟩) | (refine t_load_env rfl rfl hA (hE.cell hs1) ?_; exact ⟨pe, hA⟩) | (refine t_load_env rfl rfl hA (hE.cell hs0) ?_; exact ⟨pe, hA⟩) | (refine oq ?_; exact ⟨pe, hA⟩)
        refine' VOps.c0 rfl [] (by decide) [] (by decide) rfl ?o7_2 ?r7_2
        case o7_2 => intro E' Lx w lf hE hl hA; replace hl := hz hl; subst hl; first | (refine oq ?_; exact ⟨pe, hA⟩)
        refine' VOps.c0 rfl [1, 2] (by decide) [20, 21] (by decide) rfl ?o7_3 ?r7_3
        case o7_3 => intro E' Lx w lf hE hl hA; replace hl := hz hl; subst hl; first | (refine t_indexAddrS rfl hcb rfl (by omega) ?_; exact ⟨pe, hA⟩) | (refine t_indexAddrS rfl hcl rfl (by omega) ?_; exact ⟨pe, hA⟩) | (refine t_indexAddrA rfl rfl (by omega) ?_; exact ⟨pe, hA⟩) | (refine oq ?_; exact ⟨pe, hA⟩) | (refine t_indexAddrS rfl rfl (by omega) ?_; exact ⟨pe, hA⟩)
        refine' VOps.c0 rfl [3] (by decide) [22] (by decide) rfl ?o7_4 ?r7_4
        case o7_4 => intro E' Lx w lf hE hl hA; replace hl := hz hl; subst hl; first | (refine t_load_env rfl rfl hA (hE.cell hx0) ?_; exact ⟨pe, hA⟩) | (refine t_load_env rfl rfl hA (hE.cell hc0) ?_; exact ⟨pe, hA⟩) | (refine t_load_env rfl rfl hA (hE.cell hs1) ?_; exact ⟨pe, hA⟩) | (refine t_load_env rfl rfl hA (hE.cell hs0) ?_; exact ⟨pe, hA⟩) | (refine oq ?_; exact ⟨pe, hA⟩)
        refine' VOps.c0 rfl [] (by decide) [] (by decide) rfl ?o7_5 ?r7_5
        case o7_5 => intro E' Lx w lf hE hl hA; replace hl := hz hl; subst hl; first | (refine oq ?_; exact ⟨pe, hA⟩)
        refine' VOps.c0 rfl [] (by decide) [] (by decide) rfl ?o7_6 ?r7_6
        case o7_6 => intro E' Lx w lf hE hl hA; replace hl := hz hl; subst hl; first | (refine oq ?_; exact ⟨pe, hA⟩)
        refine' VOps.c0 rfl [5, 6] (by decide) [24, 25] (by decide) rfl ?o7_7 ?r7_7
        case o7_7 => intro E' Lx w lf hE hl hA; replace hl := hz hl; subst hl; first | (refine t_indexAddrS rfl hcb rfl (by omega) ?_; exact ⟨pe, hA⟩) | (refine t_indexAddrS rfl hcl rfl (by omega) ?_; exact ⟨pe, hA⟩) | (refine t_indexAddrA rfl rfl (by omega) ?_; exact ⟨pe, hA⟩) | (refine oq ?_; exact ⟨pe, hA⟩) | (refine t_indexAddrS rfl rfl (by omega) ?_; exact ⟨pe, hA⟩)
        refine' VOps.c0 rfl [7] (by decide) [26] (by decide) rfl ?o7_8 ?r7_8
        case o7_8 => intro E' Lx w lf hE hl hA; replace hl := hz hl; subst hl; first | (refine oq ?_; exact ⟨pe, hA⟩)
        refine' VOps.c0 rfl [8] (by decide) [27] (by decide) rfl ?o7_9 ?r7_9
        case o7_9 => intro E' Lx w lf hE hl hA; replace hl := hz hl; subst hl; first | (refine t_load_env rfl rfl hA (hE.cell hx0) ?_; exact ⟨pe, hA⟩) | (refine t_load_env rfl rfl hA (hE.cell hc0) ?_; exact ⟨pe, hA⟩) | (refine t_load_env rfl rfl hA (hE.cell hs1) ?_; exact ⟨pe, hA⟩) | (refine t_load_env rfl rfl hA (hE.cell hs0) ?_; exact ⟨pe, hA⟩) | (refine oq ?_; exact ⟨pe, hA⟩)
        refine' VOps.c0 rfl [9] (by decide) [28] (by decide) rfl ?o7_10 ?r7_10
        case o7_10 => intro E' Lx w lf hE hl hA; replace hl := hz hl; subst hl; first | (refine t_indexAddrS rfl hcb rfl (by omega) ?_; exact ⟨pe, hA⟩) | (refine t_indexAddrS rfl hcl rfl (by omega) ?_; exact ⟨pe, hA⟩) | (refine t_indexAddrA rfl rfl (by omega) ?_; exact ⟨pe, hA⟩) | (refine oq ?_; exact ⟨pe, hA⟩) | (refine t_indexAddrS rfl rfl (by omega) ?_; exact ⟨pe, hA⟩)
        refine' VOps.c0 rfl [10] (by decide) [29] (by decide) rfl ?o7_11 ?r7_11
        case o7_11 => intro E' Lx w lf hE hl hA; replace hl := hz hl; subst hl; first | (refine t_load_env rfl rfl hA (hE.cell hx0) ?_; exact ⟨pe, hA⟩) | (refine t_load_env rfl rfl hA (hE.cell hc0) ?_; exact ⟨pe, hA⟩) | (refine t_load_env rfl rfl hA (hE.cell hs1) ?_; exact ⟨pe, hA⟩) | (refine t_load_env rfl rfl hA (hE.cell hs0) ?_; exact ⟨pe, hA⟩) | (refine oq ?_; exact ⟨pe, hA⟩)
        refine' VOps.c0 rfl [4, 11] (by decide) [23, 30] (by decide) rfl ?o7_12 ?r7_12
        case o7_12 => intro E' Lx w lf hE hl hA; replace hl := hz hl; subst hl; first | (refine ow_call Tryd.call69 rfl ((rangedI_calls _ x _ _ _ _ _ w hA (hq.mono hE)).mono ?_); clear hA; rintro e w ⟨rfl, hA⟩; refine ⟨_, rfl, ?_⟩; exact ⟨put_eq (by rfl), hA⟩)
        exact TameOps.nil
      case' k7 => (try clear hA); intro w hA; refine rn ?_
      by_cases hr : rangedL x (sizeN c.cat) (-32768) 32768 = 0
      · repeat' (first | refine st ?_ | refine sr ?_ | refine sl hA ?_ | (refine s_w hA ?_; clear hA; (try clear w); intro w hA) | (refine s_v hA ?_; clear hA; (try clear w); intro v w hA hone hnil) | (refine s_b hA ?_; clear hA; (try clear w); intro b w hA) | refine sp (fun h => ?_) (fun h => ?_) | (refine wc_regionS 8 rfl ?_; refine wc_region ?_))
        refine wc_region ?_
        refine rv hA ?_; clear hA; intro w hA
        refine rv hA ?_; clear hA; intro w hA
        refine rl_nil ?_
        repeat' (first | (refine wc_bb rfl (fun h => ?_) (fun h => ?_)) | refine st ?_ | refine sr ?_ | refine sl hA ?_ | (refine s_w hA ?_; clear hA; (try clear w); intro w hA) | (refine s_v hA ?_; clear hA; (try clear w); intro v w hA hone hnil) | (refine s_b hA ?_; clear hA; (try clear w); intro b w hA) | refine sp (fun h => ?_) (fun h => ?_) | (refine wc_region ?_))
        · exfalso
          rw [hr] at h; simp at h
        refine lq_next (k - 1) (by omega) ⟨i + 1, (ex_getD rfl), by omega, fun j b' c' hj h1 h2 => ?_, hA⟩
        by_cases ej : j = i
        · subst ej; rw [hxi] at h1; rw [hci] at h2; cases h1; cases h2; exact hr
        · exact hok j b' c' (by omega) h1 h2
      · rw [blocksGo_bad hxi hci hr hok]
        repeat' (first | refine st ?_ | refine sr ?_ | refine sl hA ?_ | (refine s_w hA ?_; clear hA; (try clear w); intro w hA) | (refine s_v hA ?_; clear hA; (try clear w); intro v w hA hone hnil) | (refine s_b hA ?_; clear hA; (try clear w); intro b w hA) | refine sp (fun h => ?_) (fun h => ?_) | (refine wc_regionS 8 rfl ?_; refine wc_region ?_))
        refine wc_region ?_
        refine rv hA ?_; clear hA; intro w hA
        refine rv hA ?_; clear hA; intro w hA
        refine rl_nil ?_
        repeat' (first | (refine wc_bb rfl (fun h => ?_) (fun h => ?_)) | refine st ?_ | refine sr ?_ | refine sl hA ?_ | (refine s_w hA ?_; clear hA; (try clear w); intro w hA) | (refine s_v hA ?_; clear hA; (try clear w); intro v w hA hone hnil) | (refine s_b hA ?_; clear hA; (try clear w); intro b w hA) | refine sp (fun h => ?_) (fun h => ?_) | (refine wc_region ?_))
        · exact fp_ret (res1 rfl rfl) ⟨E1, rfl, hE1, hA.tail⟩
        · exfalso
          exact hr (by simpa using h)
    · rw [blocksGo_ok fun j b c h1 h2 => hok j b c (by have := (List.getElem?_eq_some_iff.1 h2).1; omega) h1 h2]
      repeat' (first | refine st ?_ | refine sr ?_ | refine sl hA ?_ | (refine s_w hA ?_; clear hA; (try clear w); intro w hA) | (refine s_v hA ?_; clear hA; (try clear w); intro v w hA hone hnil) | (refine s_b hA ?_; clear hA; (try clear w); intro b w hA) | refine sp (fun h => ?_) (fun h => ?_) | (refine wc_region ?_))
      exact fp_ret (res1 rfl rfl) ⟨E1, rfl, hE1, hA.tail⟩
  · have e : blocksE m = 2 := if_pos hlen
    rw [e]
    repeat' (first | (refine g_call ?_; refine t_lenS rfl hcb ?_; refine rn ?_) | (refine g_call ?_; refine t_lenS rfl hcl ?_; refine rn ?_) | refine st ?_ | refine sr ?_ | refine sl hA ?_ | (refine s_w hA ?_; clear hA; (try clear w); intro w hA) | (refine s_v hA ?_; clear hA; (try clear w); intro v w hA hone hnil) | (refine s_b hA ?_; clear hA; (try clear w); intro b w hA) | refine sp (fun h => ?_) (fun h => ?_) | (refine wc_region ?_))
    exact fp_ret (res1 rfl rfl) ⟨E1, rfl, hE1, hA.tail⟩
end Go.Proofs.YtomfoaaaeidpnaaDoor
