/-
  The reference's Check, walked.
-/
import Derived.Test.YtomfoaaaeidpnaaDoorM15
import Derived.Test.YtomfoaaaeidpnaaDoorSlD
set_option linter.unusedVariables false
set_option linter.unusedSimpArgs false
namespace Go.Proofs.YtomfoaaaeidpnaaDoor
open Go Go.RowKit
attribute [local irreducible] WC RL OW bodyPostM ThenQ BlockQ LoopQ ScopeQ
def firstNZ : List Int → Int
  | [] => 0
  | x :: r => if x ≠ 0 then x else firstNZ r
def refE (m : Mb) (intra : Bool) (refs : Int) : Int :=
  if ((intra && !decide (refs = 0)) || (!intra && !(decide (1 ≤ refs) && decide (refs ≤ 32)))) = true then 2
  else if (decide ((7 : Int) < (m.kind.toNat : Int)) || (intra && !decide (m.kind.toNat ≤ 2))) = true then 9
  else firstNZ (smallL m ++ motionL m refs ++ restL m)
theorem firstNZ_drop (F : List Int) (i : Nat) (x : Int) (h : F[i]? = some x) : firstNZ (F.drop i) = if x ≠ 0 then x else firstNZ (F.drop (i + 1)) := by
  have hi : i < F.length := (List.getElem?_eq_some_iff.1 h).1
  have e : F[i] = x := (List.getElem?_eq_some_iff.1 h).2
  rw [List.drop_eq_getElem_cons hi, e, firstNZ]
theorem flatten_le {α : Type} {c : Nat} : ∀ {l : List (List α)}, (∀ x ∈ l, x.length ≤ c) → l.flatten.length ≤ c * l.length
  | [], _ => by simp
  | a :: r, h => by
    have h1 := h a (List.mem_cons_self ..)
    have h2 := flatten_le (l := r) fun x hx => h x (List.mem_cons_of_mem _ hx)
    rw [List.flatten_cons, List.length_append, List.length_cons, Nat.mul_succ]
    omega
theorem rest_len (m : Mb) (hfb : ∀ b ∈ m.blocks, b.length ≤ 1000000) : (restL m).length ≤ 30000000 := by
  have h27 := blocksL_len m
  have h1 : (blkZ m).flatten.length ≤ 1000001 * (blkZ m).length := flatten_le fun l hl => by
    obtain ⟨i, hi⟩ := List.getElem?_of_mem hl
    unfold blkZ at hi
    rw [List.getElem?_zipWith] at hi
    cases hb : m.blocks[i]? with
    | none => rw [hb] at hi; cases hi
    | some b =>
      cases hc : (blocksL m)[i]? with
      | none => rw [hb, hc] at hi; cases hi
      | some c =>
        rw [hb, hc] at hi
        cases hi
        have := hfb b (List.mem_of_getElem? hb)
        unfold blkF
        rw [List.length_append, List.length_map, List.length_singleton]
        omega
  have h2 : (blkZ m).length ≤ 27 := by unfold blkZ; rw [List.length_zipWith]; omega
  unfold restL
  simp only [List.length_append, List.length_cons, List.length_nil]
  omega
theorem cse_vi_eq {E : Env} {cells : List Value} {xs : List Int} (h : CsE intR 1 E cells xs) : cells = xs.map vi := by
  obtain ⟨css, rfl, h2, h3, h4⟩ := h
  induction css generalizing xs with
  | nil =>
    cases xs with
    | nil => rfl
    | cons x r => cases h2
  | cons c css ih =>
    cases xs with
    | nil => cases h2
    | cons x r =>
      have hc : c = [vi x] := (h4 0 c x rfl rfl).1
      rw [List.flatten_cons, hc, ih (xs := r) (by simpa using h2) (fun cs hcs => h3 cs (List.mem_cons_of_mem _ hcs)) (fun i cs y hcs hy => h4 (i + 1) cs y hcs hy)]
      rfl
def oneV' : Env → Value → Prop := fun _ v => v.oneCell' = true
instance : PMono oneV' := ⟨fun _ h => h⟩
theorem vi_one (xs : List Int) : ∀ u ∈ xs.map vi, u.oneCell' = true := by
  intro u hu
  obtain ⟨x, _, rfl⟩ := List.mem_map.1 hu
  rfl
set_option maxRecDepth 16000 in
set_option maxHeartbeats 8000000 in
theorem refCheck_calls (m : Mb) (r vv u : Value) (intra : Bool) (refs : Int) (c : Int) (E : Env) (L : List Item) (w : World) (hA : Sat E L w) (hm : MbL E m r vv u) (hf : Fits m) (hfb : ∀ b ∈ m.blocks, b.length ≤ 1000000) (hc : refE m intra refs = c) :
    Calls Tryd.prog 100 ⟨[.agg ⟨mbC m r vv u⟩, .bool intra, vi refs]⟩ w (Ret E L (vi c)) := by
  subst hc
  refine enter (fn := Tryd.f100) Tryd.func100 rfl 59 rfl [.agg ⟨mbC m r vv u⟩, .bool intra, vi refs, undef, undef, undef, undef, undef, undef, undef, undef, undef, undef, undef, undef, undef, undef, undef, undef, undef, undef, undef, undef, undef, undef, undef, undef, undef, undef, undef, undef, undef, undef, undef, undef, undef, undef, undef, undef, undef, undef, undef, undef, undef, undef, undef, undef, undef, undef, undef, undef, undef, undef, undef, undef, undef, undef, undef, undef] rfl ?_
  repeat' (first | refine st ?_ | refine sr ?_ | refine sl hA ?_ | (refine s_w hA ?_; clear hA; (try clear w); intro w hA) | (refine s_v hA ?_; clear hA; (try clear w); intro v w hA hone hnil) | (refine s_b hA ?_; clear hA; (try clear w); intro b w hA) | refine sp (fun h => ?_) (fun h => ?_) | (refine wc_regionS 1 rfl ?_; refine wc_region ?_))
  generalize hb0 : b = b0 at *
  clear hb0
  have c0 : (mbC m r vv u)[0]? = some (u8 m.kind) := rfl
  refine wc_region ?_
  refine rv hA ?_; clear hA; intro w hA
  refine rv hA ?_; clear hA; intro w hA
  refine rt hA ?_; clear hA; intro w hA
  refine rt hA ?_; clear hA; intro w hA
  refine rv hA ?_; clear hA; intro w hA
  refine rv hA ?_; clear hA; intro w hA
  refine rf hA ?_; clear hA; intro w hA
  refine rf hA ?_; clear hA; intro w hA
  refine rf hA ?_; clear hA; intro w hA
  refine rt hA ?_; clear hA; intro w hA
  first | refine' rl_T rfl hA ?o1_10 ?k1_10 | refine' rl_Tn rfl hA ?o1_10 ?k1_10
  case o1_10 => intro hg w hA; first | (refine ow_call Tryd.call133 (evs3 opr opr opr) ((within_calls _ _ _ _ _ _ hA).mono ?_); clear hA; rintro e w ⟨rfl, hA⟩; refine ⟨_, rfl, ?_⟩; exact ⟨put_eq (by rfl), hA⟩)
  clear hA; intro w hA; refine rn ?_
  refine rt hA ?_; clear hA; intro w hA
  refine rf hA ?_; clear hA; intro w hA
  refine rv hA ?_; clear hA; intro w hA
  refine rl_nil ?_
  refine tq_normal ?_
  refine wc_mid (fun l w => (∃ jk : Nat → Value, l = [jk 0, .bool intra, vi refs, .pointer (some ⟨b0, 0, none⟩), jk 4, jk 5, vi 0, jk 7, jk 8, jk 9, jk 10, jk 11, jk 12, jk 13, jk 14, jk 15, jk 16, jk 17, jk 18, jk 19, jk 20, jk 21, jk 22, jk 23, jk 24, jk 25, jk 26, jk 27, jk 28, jk 29, jk 30, jk 31, jk 32, jk 33, jk 34, jk 35, jk 36, jk 37, jk 38, jk 39, jk 40, jk 41, jk 42, jk 43, jk 44, jk 45, jk 46, jk 47, jk 48, jk 49, jk 50, jk 51, jk 52, jk 53, jk 54, jk 55, jk 56, jk 57, jk 58]) ∧ ((intra && !decide (refs = 0)) || (!intra && !(decide (1 ≤ refs) && decide (refs ≤ 32)))) = false ∧ Sat E (cells b0 (mbC m r vv u) 28 :: L) w) ?_ ?_
  · refine wc_bb rfl (fun h => ?_) (fun h => ?_)
    · rw [show refE m intra refs = 2 by unfold refE; rw [if_pos h]]
      repeat' (first | refine st ?_ | refine sr ?_ | refine sl hA ?_ | (refine s_w hA ?_; clear hA; (try clear w); intro w hA) | (refine s_v hA ?_; clear hA; (try clear w); intro v w hA hone hnil) | (refine s_b hA ?_; clear hA; (try clear w); intro b w hA) | refine sp (fun h => ?_) (fun h => ?_) | (refine wc_region ?_))
      refine mq_ret ?_
      exact ret1 hA.tail rfl rfl
    · repeat' (first | refine st ?_ | refine sr ?_ | refine sl hA ?_ | (refine s_w hA ?_; clear hA; (try clear w); intro w hA) | (refine s_v hA ?_; clear hA; (try clear w); intro v w hA hone hnil) | (refine s_b hA ?_; clear hA; (try clear w); intro b w hA) | refine sp (fun h => ?_) (fun h => ?_) | (refine wc_region ?_))
      exact mq_normal ⟨(ex_getD rfl), h, hA⟩
  clear hA
  rintro l w ⟨⟨jk, rfl⟩, hg1, hA⟩
  repeat' (first | refine st ?_ | refine sr ?_ | refine sl hA ?_ | (refine s_w hA ?_; clear hA; (try clear w); intro w hA) | (refine s_v hA ?_; clear hA; (try clear w); intro v w hA hone hnil) | (refine s_b hA ?_; clear hA; (try clear w); intro b w hA) | refine sp (fun h => ?_) (fun h => ?_) | (refine wc_regionS 3 rfl ?_; refine wc_region ?_))
  refine wc_region ?_
  refine rv hA ?_; clear hA; intro w hA
  refine rv hA ?_; clear hA; intro w hA
  refine rv hA ?_; clear hA; intro w hA
  refine rv hA ?_; clear hA; intro w hA
  refine rf hA ?_; clear hA; intro w hA
  refine rf hA ?_; clear hA; intro w hA
  refine rt hA ?_; clear hA; intro w hA
  refine rt hA ?_; clear hA; intro w hA
  first | refine' rl_T rfl hA ?o3_8 ?k3_8 | refine' rl_Tn rfl hA ?o3_8 ?k3_8
  case o3_8 => intro hg w hA; first | (refine ow_call Tryd.call134 (evs1 opr) ((refIntra_calls _ _ _ _ hA).mono ?_); clear hA; rintro e w ⟨rfl, hA⟩; refine ⟨_, rfl, ?_⟩; exact ⟨put_eq (by rfl), hA⟩)
  clear hA; intro w hA; refine rn ?_
  refine rt hA ?_; clear hA; intro w hA
  refine rf hA ?_; clear hA; intro w hA
  refine rv hA ?_; clear hA; intro w hA
  refine rl_nil ?_
  refine tq_normal ?_
  refine wc_mid (fun l w => (∃ jk : Nat → Value, l = [jk 0, .bool intra, vi refs, .pointer (some ⟨b0, 0, none⟩), jk 4, jk 5, vi 0, jk 7, jk 8, jk 9, jk 10, jk 11, jk 12, jk 13, jk 14, jk 15, jk 16, jk 17, jk 18, jk 19, jk 20, jk 21, jk 22, jk 23, jk 24, jk 25, jk 26, jk 27, jk 28, jk 29, jk 30, jk 31, jk 32, jk 33, jk 34, jk 35, jk 36, jk 37, jk 38, jk 39, jk 40, jk 41, jk 42, jk 43, jk 44, jk 45, jk 46, jk 47, jk 48, jk 49, jk 50, jk 51, jk 52, jk 53, jk 54, jk 55, jk 56, jk 57, jk 58]) ∧ (decide ((7 : Int) < (m.kind.toNat : Int)) || (intra && !decide (m.kind.toNat ≤ 2))) = false ∧ Sat E (cells b0 (mbC m r vv u) 28 :: L) w) ?_ ?_
  · refine wc_bb rfl (fun h => ?_) (fun h => ?_)
    · rw [show refE m intra refs = 9 by unfold refE; rw [if_neg (by rw [hg1]; decide), if_pos h]]
      repeat' (first | refine st ?_ | refine sr ?_ | refine sl hA ?_ | (refine s_w hA ?_; clear hA; (try clear w); intro w hA) | (refine s_v hA ?_; clear hA; (try clear w); intro v w hA hone hnil) | (refine s_b hA ?_; clear hA; (try clear w); intro b w hA) | refine sp (fun h => ?_) (fun h => ?_) | (refine wc_region ?_))
      refine mq_ret ?_
      exact ret1 hA.tail rfl rfl
    · repeat' (first | refine st ?_ | refine sr ?_ | refine sl hA ?_ | (refine s_w hA ?_; clear hA; (try clear w); intro w hA) | (refine s_v hA ?_; clear hA; (try clear w); intro v w hA hone hnil) | (refine s_b hA ?_; clear hA; (try clear w); intro b w hA) | refine sp (fun h => ?_) (fun h => ?_) | (refine wc_region ?_))
      exact mq_normal ⟨(ex_getD rfl), h, hA⟩
  clear hA
  rintro l w ⟨⟨jk, rfl⟩, hg2, hA⟩
  rw [show refE m intra refs = firstNZ (smallL m ++ motionL m refs ++ restL m) by unfold refE; rw [if_neg (by rw [hg1]; decide), if_neg (by rw [hg2]; decide)]]
  have hrs : 0 ≤ refs ∧ refs ≤ 32 := by
    cases intra with
    | true => simp only [Bool.true_and, Bool.not_true, Bool.false_and, Bool.or_false, Bool.not_eq_false', decide_eq_true_eq] at hg1; omega
    | false => simp only [Bool.false_and, Bool.not_false, Bool.true_and, Bool.false_or, Bool.not_eq_false', Bool.and_eq_true, decide_eq_true_eq] at hg1; omega
  have hml := motion_len m refs
  have hrl := rest_len m hfb
  have hf1 := hf.refs
  have hf2 := hf.mvds
  repeat' (first | refine st ?_ | refine sr ?_ | refine sl hA ?_ | (refine s_w hA ?_; clear hA; (try clear w); intro w hA) | (refine s_v hA ?_; clear hA; (try clear w); intro v w hA hone hnil) | (refine s_b hA ?_; clear hA; (try clear w); intro b w hA) | refine sp (fun h => ?_) (fun h => ?_) | (refine wc_regionS 5 rfl ?_; refine wc_region ?_))
  refine' wc_flow' 0 (fun _ => undef) (fun ix => match ix with | 5 => [1] | 8 => [5] | 9 => [8] | _ => []) (fun ix => match ix with | 5 => [1] | 8 => [5] | 9 => [8] | _ => []) (fun ix => match ix with | 1 => [1] | 5 => [5] | 8 => [8] | 9 => [9] | _ => []) (mixPhi [_, undef, _, _, undef, undef, _, undef, undef, undef] (fun ix => match ix with | 1 => some (oneV') | 4 => some (fun E v => ListE intR 1 E v (motionL m refs)) | 5 => some (oneV') | 7 => some (fun E v => ListE intR 1 E v (restL m)) | 8 => some (oneV') | 9 => some (oneV') | _ => none)) (fun ix yy => match ix with | 1 => [row 65 1 (yy 1) 22 ((smallL m).map vi)] | 5 => [row 65 1 (yy 5) (22 + (motionL m refs).length) ((smallL m).map vi ++ (motionL m refs).map vi)] | 8 => [row 65 1 (yy 8) (22 + (motionL m refs).length + (restL m).length) ((smallL m).map vi ++ (motionL m refs).map vi ++ (restL m).map vi)] | 9 => [row 65 1 (yy 9) (22 + (motionL m refs).length + (restL m).length) ((smallL m).map vi ++ (motionL m refs).map vi ++ (restL m).map vi)] | _ => []) (cells b0 (mbC m r vv u) 28 :: L) 10 (by kernel_rfl) rfl (by kernel_rfl) [(0, 35), (1, 36), (2, 37), (3, 38), (4, 39), (5, 40), (6, 41), (7, 42), (8, 43), (9, 7)] (by kernel_rfl) [0, 2, 3, 4, 6, 7, 9] (by kernel_rfl) [] (by kernel_rfl) hA ?itd5 ?phi5 ?ops5 ?k5
  case itd5 => (intro i y y' h; first | rfl | ((try dsimp only at h ⊢); split <;> first | rfl | (simp only [List.mem_cons, List.not_mem_nil, or_false, forall_eq_or_imp, forall_eq] at h; simp only [h]; done)))
  case phi5 => (refine mix_mono fun i p hp E1 E2 v hE h => ?_; split at hp <;> first | (cases hp; done) | (obtain rfl := Option.some.inj hp; first | exact ListE.mono h hE | exact ListE.mono h (Env.sub_left _ hE) | exact PMono.mono hE h | exact PMono.mono (Env.sub_left _ hE) h | exact h))
  case ops5 =>
    refine' FlowOps.c rfl [] (by decide) [] (by decide) [] rfl [] rfl ?o5_0 ?r5_0
    case o5_0 => intro yy E' Lx w lf hE hph hyp hl hA; replace hl := hz hl; subst hl; (try simp only [List.flatMap_cons, List.flatMap_nil, List.nil_append, List.append_nil, List.cons_append] at hA ⊢); (try clear hph hyp); first | (refine oq ?_; exact ⟨_, E', pe, Env.Le.refl _, mix_mk rfl rfl, hA⟩)
    refine' FlowOps.c rfl [(0, 35)] (by decide) [0] (by decide) [] rfl [] rfl ?o5_1 ?r5_1
    case o5_1 => intro yy E' Lx w lf hE hph hyp hl hA; have e0 := mn hph 0; simp only [List.map_cons, List.map_nil, ← e0] at hl; replace hl := hz hl; subst hl; (try simp only [← e0] at hA ⊢); (try simp only [List.flatMap_cons, List.flatMap_nil, List.nil_append, List.append_nil, List.cons_append] at hA ⊢); (try clear hph hyp); refine ow_call Tryd.call135 rfl ((small_calls m r vv u _ _ _ hA).mono ?_); clear hA; rintro e w ⟨z, rfl, hz, hA⟩; exact ⟨_, rfl, z, E', rfl, Env.Le.refl _, mix_mkP rfl hz, hA⟩
    refine' FlowOps.c rfl [] (by decide) [] (by decide) [] rfl [] rfl ?o5_2 ?r5_2
    case o5_2 => intro yy E' Lx w lf hE hph hyp hl hA; replace hl := hz hl; subst hl; (try simp only [List.flatMap_cons, List.flatMap_nil, List.nil_append, List.append_nil, List.cons_append] at hA ⊢); (try clear hph hyp); first | (refine oq ?_; exact ⟨_, E', pe, Env.Le.refl _, mix_mk rfl rfl, hA⟩)
    refine' FlowOps.c rfl [] (by decide) [] (by decide) [] rfl [] rfl ?o5_3 ?r5_3
    case o5_3 => intro yy E' Lx w lf hE hph hyp hl hA; replace hl := hz hl; subst hl; (try simp only [List.flatMap_cons, List.flatMap_nil, List.nil_append, List.append_nil, List.cons_append] at hA ⊢); (try clear hph hyp); first | (refine oq ?_; exact ⟨_, E', pe, Env.Le.refl _, mix_mk rfl rfl, hA⟩)
    refine' FlowOps.c rfl [(2, 37), (3, 38), (1, 36)] (by decide) [0, 2, 3, 1] (by decide) [] rfl [] rfl ?o5_4 ?r5_4
    case o5_4 => intro yy E' Lx w lf hE hph hyp hl hA; have e0 := mn hph 0; have e2 := mn hph 2; have e3 := mn hph 3; simp only [List.map_cons, List.map_nil, ← e0, ← e2, ← e3] at hl; replace hl := hz hl; subst hl; have p1 := mp hph 1; (try simp only [← e0, ← e2, ← e3] at hA ⊢); generalize yy 1 = y1 at *; (try simp only [List.flatMap_cons, List.flatMap_nil, List.nil_append, List.append_nil, List.cons_append] at hA ⊢); (try clear hph hyp); refine ow_call Tryd.call136 rfl ((motion_calls m r vv u refs _ _ _ hA (hm.mono hE) hrs hf).mono ?_); clear hA; rintro e w ⟨E2, z, rfl, hE2, hz, hA⟩; exact ⟨_, rfl, z, E2, rfl, hE2, mix_mkP rfl hz, hA⟩
    refine' FlowOps.c rfl [(1, 36), (4, 39)] (by decide) [0, 2, 3, 1, 4] (by decide) [1] rfl [] rfl ?o5_5 ?r5_5
    case o5_5 => intro yy E' Lx w lf hE hph hyp hl hA; have e0 := mn hph 0; have e2 := mn hph 2; have e3 := mn hph 3; simp only [List.map_cons, List.map_nil, ← e0, ← e2, ← e3] at hl; replace hl := hz hl; subst hl; have p1 := mp hph 1; have p4 := mp hph 4; (try simp only [← e0, ← e2, ← e3] at hA ⊢); generalize yy 1 = y1 at *; generalize yy 4 = y4 at *; (try simp only [List.flatMap_cons, List.flatMap_nil, List.nil_append, List.append_nil, List.cons_append] at hA ⊢); (try clear hph hyp); obtain ⟨cm, hcm, hsm⟩ := p4.cs; rw [cse_vi_eq hcm] at hsm; refine t_append 0 Tryd.underlying160 (.inl ⟨_, rfl⟩) (by decide) (by rfl) rfl rfl hA rfl (src_E hA hsm (vi_one _)) (by unfold maxLen; omega) (by omega) ?_; clear hA; intro v' w hA h1 h2; exact ⟨v', E', rfl, Env.Le.refl _, mix_mkP rfl h1, hA⟩
    refine' FlowOps.c rfl [] (by decide) [] (by decide) [] rfl [] rfl ?o5_6 ?r5_6
    case o5_6 => intro yy E' Lx w lf hE hph hyp hl hA; replace hl := hz hl; subst hl; (try simp only [List.flatMap_cons, List.flatMap_nil, List.nil_append, List.append_nil, List.cons_append] at hA ⊢); (try clear hph hyp); first | (refine oq ?_; exact ⟨_, E', pe, Env.Le.refl _, mix_mk rfl rfl, hA⟩)
    refine' FlowOps.c rfl [(6, 41), (5, 40)] (by decide) [0, 2, 3, 1, 4, 6, 5] (by decide) [] rfl [] rfl ?o5_7 ?r5_7
    case o5_7 => intro yy E' Lx w lf hE hph hyp hl hA; have e0 := mn hph 0; have e2 := mn hph 2; have e3 := mn hph 3; have e6 := mn hph 6; simp only [List.map_cons, List.map_nil, ← e0, ← e2, ← e3, ← e6] at hl; replace hl := hz hl; subst hl; have p1 := mp hph 1; have p4 := mp hph 4; have p5 := mp hph 5; (try simp only [← e0, ← e2, ← e3, ← e6] at hA ⊢); generalize yy 1 = y1 at *; generalize yy 4 = y4 at *; generalize yy 5 = y5 at *; (try simp only [List.flatMap_cons, List.flatMap_nil, List.nil_append, List.append_nil, List.cons_append] at hA ⊢); (try clear hph hyp); refine ow_call Tryd.call137 rfl ((rest_calls m r vv u _ _ _ hA (hm.mono hE) hf hfb).mono ?_); clear hA; rintro e w ⟨E2, z, rfl, hE2, hz, hA⟩; exact ⟨_, rfl, z, E2, rfl, hE2, mix_mkP rfl hz, hA⟩
    refine' FlowOps.c rfl [(5, 40), (7, 42)] (by decide) [0, 2, 3, 1, 4, 6, 5, 7] (by decide) [5] rfl [] rfl ?o5_8 ?r5_8
    case o5_8 => intro yy E' Lx w lf hE hph hyp hl hA; have e0 := mn hph 0; have e2 := mn hph 2; have e3 := mn hph 3; have e6 := mn hph 6; simp only [List.map_cons, List.map_nil, ← e0, ← e2, ← e3, ← e6] at hl; replace hl := hz hl; subst hl; have p1 := mp hph 1; have p4 := mp hph 4; have p5 := mp hph 5; have p7 := mp hph 7; (try simp only [← e0, ← e2, ← e3, ← e6] at hA ⊢); generalize yy 1 = y1 at *; generalize yy 4 = y4 at *; generalize yy 5 = y5 at *; generalize yy 7 = y7 at *; (try simp only [List.flatMap_cons, List.flatMap_nil, List.nil_append, List.append_nil, List.cons_append] at hA ⊢); (try clear hph hyp); obtain ⟨cm, hcm, hsm⟩ := p7.cs; rw [cse_vi_eq hcm] at hsm; refine t_append 0 Tryd.underlying160 (.inl ⟨_, rfl⟩) (by decide) (by rfl) rfl rfl hA rfl (src_E hA hsm (vi_one _)) (by unfold maxLen; omega) (by omega) ?_; clear hA; intro v' w hA h1 h2; exact ⟨v', E', rfl, Env.Le.refl _, mix_mkP rfl h1, hA⟩
    refine' FlowOps.c rfl [(8, 43), (0, 35), (1, 36), (2, 37), (3, 38), (4, 39), (5, 40), (6, 41), (7, 42)] (by decide) [8, 0, 1, 2, 3, 4, 5, 6, 7] (by decide) [8] rfl [] rfl ?o5_9 ?r5_9
    case o5_9 => intro yy E' Lx w lf hE hph hyp hl hA; have e0 := mn hph 0; have e2 := mn hph 2; have e3 := mn hph 3; have e6 := mn hph 6; simp only [List.map_cons, List.map_nil, ← e0, ← e2, ← e3, ← e6] at hl; replace hl := hz hl; subst hl; have p8 := mp hph 8; have p1 := mp hph 1; have p4 := mp hph 4; have p5 := mp hph 5; have p7 := mp hph 7; (try simp only [← e0, ← e2, ← e3, ← e6] at hA ⊢); generalize yy 8 = y8 at *; generalize yy 1 = y1 at *; generalize yy 4 = y4 at *; generalize yy 5 = y5 at *; generalize yy 7 = y7 at *; (try simp only [List.flatMap_cons, List.flatMap_nil, List.nil_append, List.append_nil, List.cons_append] at hA ⊢); (try clear hph hyp); refine ow_assign_v rfl ?_; exact ⟨_, E', rfl, Env.Le.refl _, mix_mkP rfl p8, hA⟩
    exact FlowOps.nil
  case' k5 => (try clear hA); intro yy E' w lf hE hph hyp hl hA; have e0 := mn hph 0; have e2 := mn hph 2; have e3 := mn hph 3; have e6 := mn hph 6; simp only [List.map_cons, List.map_nil, ← e0, ← e2, ← e3, ← e6] at hl; replace hl := hz hl; subst hl; have p1 := mp hph 1; have p4 := mp hph 4; have p5 := mp hph 5; have p7 := mp hph 7; have p8 := mp hph 8; have p9 := mp hph 9; (try simp only [← e0, ← e2, ← e3, ← e6] at hA); generalize yy 1 = y1 at *; generalize yy 4 = y4 at *; generalize yy 5 = y5 at *; generalize yy 7 = y7 at *; generalize yy 8 = y8 at *; generalize yy 9 = y9 at *; (try simp only [List.flatMap_cons, List.flatMap_nil, List.nil_append, List.append_nil, List.cons_append] at hA); clear hph hyp
  have hL : (smallL m).map vi ++ (motionL m refs).map vi ++ (restL m).map vi = (smallL m ++ motionL m refs ++ restL m).map vi := by rw [List.map_append, List.map_append]
  rw [hL] at hA
  clear hL
  have hln := hA.row_n
  rw [hln] at hA
  generalize hF : smallL m ++ motionL m refs ++ restL m = F at *
  have hFl : F.length ≤ 40000000 := by omega
  clear hln hF hml hrl
  repeat' (first | refine st ?_ | refine sr ?_ | refine sl hA ?_ | (refine s_w hA ?_; clear hA; (try clear w); intro w hA) | (refine s_v hA ?_; clear hA; (try clear w); intro v w hA hone hnil) | (refine s_b hA ?_; clear hA; (try clear w); intro b w hA) | refine sp (fun h => ?_) (fun h => ?_) | (refine wc_region ?_))
  refine wc_loopn (fun k l w => ∃ (q : Value) (i : Nat), (∃ jk : Nat → Value, l = [jk 0, jk 1, jk 2, jk 3, jk 4, jk 5, jk 6, q, .int .i64 (i : Int), jk 9, jk 10, jk 11, jk 12, jk 13, jk 14, jk 15, jk 16, jk 17, jk 18, jk 19, jk 20, jk 21, jk 22, jk 23, jk 24, jk 25, jk 26, jk 27, jk 28, jk 29, jk 30, jk 31, jk 32, jk 33, jk 34, jk 35, jk 36, jk 37, jk 38, jk 39, jk 40, jk 41, jk 42, jk 43, jk 44, jk 45, jk 46, jk 47, jk 48, jk 49, jk 50, jk 51, jk 52, jk 53, jk 54, jk 55, jk 56, jk 57, jk 58]) ∧ i + k = F.length ∧ firstNZ F = firstNZ (F.drop i) ∧ Sat E' (row 65 1 q F.length (F.map vi) :: cells b0 (mbC m r vv u) 28 :: L) w) F.length ⟨y9, 0, (ex_getD rfl), by omega, rfl, hA⟩ ?_
  clear hA
  rintro k l w ⟨q, i, ⟨jk, rfl⟩, hi, hfd, hA⟩
  by_cases hlt : i < F.length
  · obtain ⟨x, hx⟩ : ∃ x, F[i]? = some x := ⟨_, List.getElem?_eq_getElem hlt⟩
    have hd := firstNZ_drop F i x hx
    have hx0 : (F.map vi)[(i : Int).toNat * 1]? = some (vi x) := by rw [Int.toNat_natCast, Nat.mul_one, List.getElem?_map, hx]; rfl
    by_cases h0 : x = 0
    · rw [if_neg (by omega)] at hd
      repeat' (first | (refine g_call ?_; refine t_lenR 0 rfl hA rfl ?_; refine rn ?_) | (refine g_ow ?_; refine t_indexAddrR 0 rfl hA rfl rfl (by omega) ?_; refine rn ?_) | (refine g_ow ?_; refine t_load_row 0 rfl rfl hA rfl hx0 ?_; refine rn ?_) | refine st ?_ | refine sr ?_ | refine sl hA ?_ | (refine s_w hA ?_; clear hA; (try clear w); intro w hA) | (refine s_v hA ?_; clear hA; (try clear w); intro v w hA hone hnil) | (refine s_b hA ?_; clear hA; (try clear w); intro b w hA) | refine sp (fun h => ?_) (fun h => ?_) | (refine wc_region ?_))
      exact lq_next (k - 1) (by omega) ⟨q, i + 1, (ex_getD rfl), by omega, by rw [hfd, hd], hA⟩
    · rw [if_pos h0] at hd
      rw [hfd, hd]
      repeat' (first | (refine g_call ?_; refine t_lenR 0 rfl hA rfl ?_; refine rn ?_) | (refine g_ow ?_; refine t_indexAddrR 0 rfl hA rfl rfl (by omega) ?_; refine rn ?_) | (refine g_ow ?_; refine t_load_row 0 rfl rfl hA rfl hx0 ?_; refine rn ?_) | refine st ?_ | refine sr ?_ | refine sl hA ?_ | (refine s_w hA ?_; clear hA; (try clear w); intro w hA) | (refine s_v hA ?_; clear hA; (try clear w); intro v w hA hone hnil) | (refine s_b hA ?_; clear hA; (try clear w); intro b w hA) | refine sp (fun h => ?_) (fun h => ?_) | (refine wc_region ?_))
      exact ret1 ((hA.le hE).dropN 2) rfl rfl
  · rw [hfd, List.drop_eq_nil_of_le (by omega)]
    repeat' (first | (refine g_call ?_; refine t_lenR 0 rfl hA rfl ?_; refine rn ?_) | refine st ?_ | refine sr ?_ | refine sl hA ?_ | (refine s_w hA ?_; clear hA; (try clear w); intro w hA) | (refine s_v hA ?_; clear hA; (try clear w); intro v w hA hone hnil) | (refine s_b hA ?_; clear hA; (try clear w); intro b w hA) | refine sp (fun h => ?_) (fun h => ?_) | (refine wc_region ?_))
    exact ret1 ((hA.le hE).dropN 2) rfl rfl
end Go.Proofs.YtomfoaaaeidpnaaDoor
