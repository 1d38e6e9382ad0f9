/-
  script's source: block, walked.
-/
import Derived.Test.YtomfoaaaeidpnaaDoorS3
import Derived.Test.YtomfoaaaeidpnaaDoorSlG
set_option linter.unusedVariables false
set_option linter.unusedSimpArgs false
namespace Go.Proofs.YtomfoaaaeidpnaaDoor
open Go Go.RowKit
attribute [local irreducible] WC RL OW bodyPostM ThenQ BlockQ LoopQ ScopeQ
theorem cseVi {E : Env} {xs : List Int} (h : ∀ x ∈ xs, I64 x) : CsE intR 1 E (xs.map vi) xs := by
  induction xs with
  | nil => exact CsE.nil
  | cons x r ih =>
    have := CsE.snoc (R := intR) (sz := 1) (E := E) (cells := []) (xs := []) CsE.nil (cs := [vi x]) (x := x) rfl ⟨rfl, h x (List.mem_cons_self ..)⟩
    obtain ⟨css, h1, h2, h3, h4⟩ := ih fun y hy => h y (List.mem_cons_of_mem _ hy)
    refine ⟨[vi x] :: css, by rw [List.map_cons, List.flatten_cons, h1]; rfl, by simp [h2], fun c hc => ?_, fun i c y hc hy => ?_⟩
    · rcases List.mem_cons.1 hc with rfl | hc
      · rfl
      · exact h3 c hc
    · cases i with
      | zero => cases hc; cases hy; exact ⟨rfl, h x (List.mem_cons_self ..)⟩
      | succ i => exact h4 i c y hc hy
theorem zero_vi : ∀ n, zeroRow [Value.int .i64 0] n = (List.replicate n (0 : Int)).map vi
  | 0 => rfl
  | n + 1 => by
    rw [List.replicate_succ, List.map_cons, ← zero_vi n]
    rfl
theorem num_i64 (most : Nat) (hm : most ≤ 1000000) (σ : Nat → UInt8) (p : Nat) : -(most : Int) ≤ (numP most σ p).1 ∧ (numP most σ p).1 ≤ most := by
  by_cases h : (tk 256 σ p).1 < 240
  · rw [num_small h]
    show -(most : Int) ≤ smallI (tk 256 σ p).1 most ∧ smallI (tk 256 σ p).1 most ≤ most
    unfold smallI
    dsimp only
    generalize (if (tk 256 σ p).1 % 2 = 1 then (((tk 256 σ p).1 + 1) / 2 : Nat) else -(((tk 256 σ p).1 / 2 : Nat) : Int) : Int) = n
    split <;> omega
  · rw [num_great h]
    show -(most : Int) ≤ greatI _ _ _ most ∧ greatI _ _ _ most ≤ most
    unfold greatI
    dsimp only
    have := Nat.mod_lt (256 * (tk 256 σ (p + 1)).1 + (tk 256 σ (p + 1 + 1)).1) (show 0 < most + 1 by omega)
    generalize (256 * (tk 256 σ (p + 1)).1 + (tk 256 σ (p + 1 + 1)).1) % (most + 1) = n at *
    split <;> omega
theorem itSet (size : Nat) (hs : 1 ≤ size) (σ : Nat → UInt8) (p : Nat) : ∀ k, (itP (setP size) k (List.replicate size 0) σ p).1.length = size ∧ ∀ x ∈ (itP (setP size) k (List.replicate size 0) σ p).1, -32768 ≤ x ∧ x ≤ 32768
  | 0 => ⟨List.length_replicate, fun x hx => by
    have : x = 0 := List.eq_of_mem_replicate (show x ∈ List.replicate size (0 : Int) from hx)
    omega⟩
  | k + 1 => by
    obtain ⟨h1, h2⟩ := itSet size hs σ p k
    show (List.set (itP (setP size) k (List.replicate size 0) σ p).1 _ _).length = size ∧ ∀ x ∈ List.set (itP (setP size) k (List.replicate size 0) σ p).1 _ _, _
    refine ⟨by rw [List.length_set]; exact h1, fun x hx => ?_⟩
    rcases List.mem_or_eq_of_mem_set hx with hx | rfl
    · exact h2 x hx
    · exact num_i64 32768 (by omega) _ _
theorem repFive (σ : Nat → UInt8) (p : Nat) : ∀ k, (repP ((tk 5).bnd fun a => .ret ((a : Int) - 2)) k σ p).1.length = k ∧ ∀ x ∈ (repP ((tk 5).bnd fun a => .ret ((a : Int) - 2)) k σ p).1, -2 ≤ x ∧ x ≤ 2
  | 0 => ⟨rfl, fun x hx => by cases hx⟩
  | k + 1 => by
    obtain ⟨h1, h2⟩ := repFive σ p k
    show ((repP _ k σ p).1 ++ [_]).length = k + 1 ∧ ∀ x ∈ (repP _ k σ p).1 ++ [_], _
    refine ⟨by rw [List.length_append, h1]; rfl, fun x hx => ?_⟩
    rcases List.mem_append.1 hx with hx | hx
    · exact h2 x hx
    · have hx := List.mem_singleton.1 hx
      have := Nat.mod_lt (σ (repP ((tk 5).bnd fun a => .ret ((a : Int) - 2)) k σ p).2).toNat (show 0 < 5 by decide)
      rw [hx]
      show -2 ≤ (((σ (repP ((tk 5).bnd fun a => .ret ((a : Int) - 2)) k σ p).2).toNat % 5 : Nat) : Int) - 2 ∧ _
      refine ⟨by omega, ?_⟩
      show (((σ (repP ((tk 5).bnd fun a => .ret ((a : Int) - 2)) k σ p).2).toNat % 5 : Nat) : Int) - 2 ≤ 2
      omega
theorem blk_nums (size : Nat) (hs : 1 ≤ size) (σ : Nat → UInt8) (p : Nat) : (blkP size σ p).1.length = size ∧ ∀ x ∈ (blkP size σ p).1, -32768 ≤ x ∧ x ≤ 32768 := by
  have hb : blkP size σ p = (if (tk 4 σ p).1 = 3 then repP ((tk 5).bnd fun a => .ret ((a : Int) - 2)) size else itP (setP size) (tk 4 σ p).1 (List.replicate size 0)) σ (p + 1) := rfl
  rw [hb]
  split
  · obtain ⟨h1, h2⟩ := repFive σ (p + 1) size
    exact ⟨h1, fun x hx => by have := h2 x hx; omega⟩
  · exact itSet size hs σ (p + 1) _
theorem fill_set (l : List Int) (n : Nat) (x : Int) : (l ++ List.replicate (n + 1) 0).set l.length x = (l ++ [x]) ++ List.replicate n 0 := by
  rw [List.set_append_right _ _ (Nat.le_refl _), Nat.sub_self, List.replicate_succ, List.set_cons_zero, List.append_assoc]
  rfl
set_option maxRecDepth 16000 in
set_option maxHeartbeats 8000000 in
theorem block_calls (b : Nat) (s : List UInt8) (p : Nat) (E : Env) (L : List Item) (w : World) (size : Nat) (hz : 1 ≤ size ∧ size ≤ 16) (hs : s.length ≤ 1000000) (hA : Sat E (src b s p :: L) w) :
    Calls Tryd.prog 109 ⟨[.pointer (some ⟨b, 0, none⟩), vi size]⟩ w (fun e w' => ∃ E' q, e = .returned q ∧ E.Le E' ∧ ListE intR 1 (E'.sub E) q (blkP size (strm s) p).1 ∧ Sat E' (src b s (blkP size (strm s) p).2 :: L) w') := by
  have hk8 : (tk 4 (strm s) p).1 < 4 := Nat.mod_lt _ (by decide)
  have hbn := blk_nums size hz.1 (strm s) p
  refine enter (fn := Tryd.f109) Tryd.func109 rfl 44 rfl [.pointer (some ⟨b, 0, none⟩), vi size, undef, undef, undef, undef, undef, undef, undef, undef, undef, undef, undef, undef, undef, undef, undef, undef, undef, undef, undef, undef, undef, undef, undef, undef, undef, undef, undef, undef, undef, undef, undef, undef, undef, undef, undef, undef, undef, undef, undef, undef, undef, undef] rfl ?_
  repeat' (first | (refine g_ow ?_; refine t_makeN (by rfl) rfl rfl (by omega) (by omega) hA ?_; clear hA; intro v w hA hv1 hv2; rw [zero_vi] at hA; refine rn ?_) | (refine g_callf 84 ?_; refine ow_call Tryd.call84 rfl ((take_calls _ _ _ _ _ _ 4 4 rfl (by omega) hs (hA.perm (List.Perm.swap _ _ _))).mono ?_); clear hA; (try clear w); rintro e w ⟨rfl, hA⟩; refine ⟨_, rfl, ?_⟩; refine rn ?_) | refine st ?_ | (refine wc_regionS 3 rfl ?_; refine wc_region ?_) | (refine su ?_; refine rn ?_) | (refine g_conv ?_; refine p_c hA ?_; refine rn ?_) | (refine g_load ?_; (first | refine t_loadx rfl hA ?_ | refine t_loada rfl hA ?_); refine rn ?_) | (refine g_call ?_; refine t_appx rfl rfl hA rfl ?_; clear hA; (try clear w); intro v w hA hone hnil; refine h_n hA ?_; clear hA; intro hA; refine rn ?_) | (refine g_store ?_; (first | refine t_storex rfl rfl hA ?_ | refine t_storea rfl rfl hA ?_); clear hA; (try clear w); intro w hA; refine h_m hA ?_; clear hA; intro hA; refine rn ?_) | (refine g_ow ?_; (first | refine t_alloc hA ?_ | refine ow_box rfl rfl hA ?_ | refine t_buildSlice rfl (by decide) rfl hA ?_); clear hA; (try clear w); intro b w hA; refine h_n hA ?_; clear hA; intro hA; refine rn ?_) | (refine g_ow ?_; refine t_make rfl rfl (by omega) (by omega) hA ?_; clear hA; (try clear w); intro v w hA hone hnil; refine rn ?_) | refine wc_pp rfl (fun h => ?_) (fun h => ?_) | refine wc_nn rfl (fun h => ?_) (fun h => ?_) | refine rl_pp rfl (fun h => o_n ?_) (fun h => rn ?_) | refine rl_qq rfl (fun h => o_n ?_) (fun h => rn ?_) | refine rl_nn rfl (fun h => o_n ?_) (fun h => rn ?_) | refine rl_mm rfl (fun h => o_n ?_) (fun h => rn ?_))
  have hb : blkP size (strm s) p = (if (tk 4 (strm s) p).1 = 3 then repP ((tk 5).bnd fun a => .ret ((a : Int) - 2)) size else itP (setP size) (tk 4 (strm s) p).1 (List.replicate size 0)) (strm s) (p + 1) := rfl
  generalize (tk 4 (strm s) p).1 = k at *
  refine wc_region ?_
  refine' rl_v hA ?o3_0 ?k3_0
  case o3_0 => intro w hA; first | (refine ow_move_v rfl ?_; exact ⟨pe, hA⟩)
  case' k3_0 => clear hA; intro w hA; refine rn ?_
  refine rl_nil ?_
  refine tq_normal ?_
  refine wc_mid (fun l w => (∃ jk : Nat → Value, l = [.pointer (some ⟨b, 0, none⟩), vi size, jk 2, jk 3, jk 4, v, jk 6, jk 7, jk 8, jk 9, jk 10, jk 11, jk 12, jk 13, jk 14, jk 15, jk 16, jk 17, jk 18, jk 19, jk 20, jk 21, jk 22, jk 23, jk 24, jk 25, jk 26, jk 27, jk 28, jk 29, jk 30, jk 31, jk 32, jk 33, jk 34, jk 35, jk 36, jk 37, jk 38, jk 39, jk 40, jk 41, jk 42, jk 43]) ∧ Sat E (src b s (blkP size (strm s) p).2 :: row 3 1 v size ((blkP size (strm s) p).1.map vi) :: L) w) ?_ ?_
  · rw [hb]
    clear hb hbn
    by_cases h3 : k = 3
    · rw [if_pos h3]
      generalize hst : repP ((tk 5).bnd fun a => Par.ret ((a : Int) - 2)) = gs
      subst h3
      repeat' (first | (refine g_call ?_; refine t_lenR 1 rfl hA rfl ?_; refine rn ?_) | refine st ?_ | (refine wc_regionS 13 rfl ?_; refine wc_region ?_) | (refine su ?_; refine rn ?_) | (refine g_conv ?_; refine p_c hA ?_; refine rn ?_) | (refine g_load ?_; (first | refine t_loadx rfl hA ?_ | refine t_loada rfl hA ?_); refine rn ?_) | (refine g_call ?_; refine t_appx rfl rfl hA rfl ?_; clear hA; (try clear w); intro v w hA hone hnil; refine h_n hA ?_; clear hA; intro hA; refine rn ?_) | (refine g_store ?_; (first | refine t_storex rfl rfl hA ?_ | refine t_storea rfl rfl hA ?_); clear hA; (try clear w); intro w hA; refine h_m hA ?_; clear hA; intro hA; refine rn ?_) | (refine g_ow ?_; (first | refine t_alloc hA ?_ | refine ow_box rfl rfl hA ?_ | refine t_buildSlice rfl (by decide) rfl hA ?_); clear hA; (try clear w); intro b w hA; refine h_n hA ?_; clear hA; intro hA; refine rn ?_) | (refine g_ow ?_; refine t_make rfl rfl (by omega) (by omega) hA ?_; clear hA; (try clear w); intro v w hA hone hnil; refine rn ?_) | refine wc_pp rfl (fun h => ?_) (fun h => ?_) | refine wc_nn rfl (fun h => ?_) (fun h => ?_) | refine rl_pp rfl (fun h => o_n ?_) (fun h => rn ?_) | refine rl_qq rfl (fun h => o_n ?_) (fun h => rn ?_) | refine rl_nn rfl (fun h => o_n ?_) (fun h => rn ?_) | refine rl_mm rfl (fun h => o_n ?_) (fun h => rn ?_))
      have hl0 : Sat E (src b s (gs 0 (strm s) (p + 1)).2 :: row 3 1 v size (((gs 0 (strm s) (p + 1)).1 ++ List.replicate (size - 0) 0).map vi) :: L) w := by subst hst; exact hA
      clear hA
      refine wc_loopn (fun q l w => ∃ (i : Nat), (∃ jk : Nat → Value, l = [.pointer (some ⟨b, 0, none⟩), vi size, jk 2, jk 3, jk 4, v, jk 6, jk 7, jk 8, jk 9, jk 10, jk 11, jk 12, jk 13, jk 14, jk 15, jk 16, jk 17, jk 18, jk 19, jk 20, jk 21, jk 22, jk 23, jk 24, jk 25, jk 26, jk 27, jk 28, jk 29, jk 30, jk 31, .int .i64 (size : Int), .int .i64 (i : Int), jk 34, jk 35, jk 36, jk 37, jk 38, jk 39, jk 40, jk 41, jk 42, jk 43]) ∧ i + q = size ∧ Sat E (src b s (gs i (strm s) (p + 1)).2 :: row 3 1 v size (((gs i (strm s) (p + 1)).1 ++ List.replicate (size - i) 0).map vi) :: L) w) size ⟨0, (ex_getD rfl), by omega, hl0⟩ ?_
      clear hl0
      rintro q l w ⟨i, ⟨jk, rfl⟩, hi, hA⟩
      have hlen : (gs i (strm s) (p + 1)).1.length = i := by subst hst; exact (repFive _ _ i).1
      by_cases hlt : i < size
      · have hstep : gs (i + 1) (strm s) (p + 1) = ((gs i (strm s) (p + 1)).1 ++ [(((tk 5 (strm s) (gs i (strm s) (p + 1)).2).1 : Nat) : Int) - 2], (gs i (strm s) (p + 1)).2 + 1) := by subst hst; rfl
        have ht5 : (tk 5 (strm s) (gs i (strm s) (p + 1)).2).1 < 5 := Nat.mod_lt _ (by decide)
        repeat' (first | (refine g_callf 84 ?_; refine ow_call Tryd.call84 rfl ((take_calls _ _ _ _ _ _ 5 5 rfl (by omega) hs hA).mono ?_); clear hA; (try clear w); rintro e w ⟨rfl, hA⟩; refine ⟨_, rfl, ?_⟩; refine rn ?_) | (refine g_ow ?_; refine t_indexAddrR 1 rfl hA rfl rfl (by omega) ?_; refine rn ?_) | (refine g_ow ?_; refine t_store_row 1 rfl rfl rfl hA rfl (by simp [hlen]; omega) ?_; clear hA; intro w hA; refine rn ?_) | refine st ?_ | (refine wc_region ?_) | (refine su ?_; refine rn ?_) | (refine g_conv ?_; refine p_c hA ?_; refine rn ?_) | (refine g_load ?_; (first | refine t_loadx rfl hA ?_ | refine t_loada rfl hA ?_); refine rn ?_) | (refine g_call ?_; refine t_appx rfl rfl hA rfl ?_; clear hA; (try clear w); intro v w hA hone hnil; refine h_n hA ?_; clear hA; intro hA; refine rn ?_) | (refine g_store ?_; (first | refine t_storex rfl rfl hA ?_ | refine t_storea rfl rfl hA ?_); clear hA; (try clear w); intro w hA; refine h_m hA ?_; clear hA; intro hA; refine rn ?_) | (refine g_ow ?_; (first | refine t_alloc hA ?_ | refine ow_box rfl rfl hA ?_ | refine t_buildSlice rfl (by decide) rfl hA ?_); clear hA; (try clear w); intro b w hA; refine h_n hA ?_; clear hA; intro hA; refine rn ?_) | (refine g_ow ?_; refine t_make rfl rfl (by omega) (by omega) hA ?_; clear hA; (try clear w); intro v w hA hone hnil; refine rn ?_) | refine wc_pp rfl (fun h => ?_) (fun h => ?_) | refine wc_nn rfl (fun h => ?_) (fun h => ?_) | refine rl_pp rfl (fun h => o_n ?_) (fun h => rn ?_) | refine rl_qq rfl (fun h => o_n ?_) (fun h => rn ?_) | refine rl_nn rfl (fun h => o_n ?_) (fun h => rn ?_) | refine rl_mm rfl (fun h => o_n ?_) (fun h => rn ?_))
        refine lq_next (q - 1) (by omega) ⟨i + 1, (ex_getD rfl), by omega, ?_⟩
        rw [hstep]
        have hA : Sat E (src b s ((gs i (strm s) (p + 1)).2 + 1) :: row 3 1 v size ((((gs i (strm s) (p + 1)).1 ++ List.replicate (size - i) 0).map vi).set ((i : Int).toNat * 1) (vi ((((tk 5 (strm s) (gs i (strm s) (p + 1)).2).1 : Nat) : Int) - 2))) :: L) w := hA
        have hf := fill_set (gs i (strm s) (p + 1)).1 (size - (i + 1)) ((((tk 5 (strm s) (gs i (strm s) (p + 1)).2).1 : Nat) : Int) - 2)
        rw [hlen] at hf
        rw [Int.toNat_natCast, Nat.mul_one, ← List.map_set, show size - i = (size - (i + 1)) + 1 by omega, hf] at hA
        exact hA
      · obtain rfl : i = size := by omega
        repeat' (first | refine st ?_ | (refine wc_region ?_) | (refine su ?_; refine rn ?_) | (refine g_conv ?_; refine p_c hA ?_; refine rn ?_) | (refine g_load ?_; (first | refine t_loadx rfl hA ?_ | refine t_loada rfl hA ?_); refine rn ?_) | (refine g_call ?_; refine t_appx rfl rfl hA rfl ?_; clear hA; (try clear w); intro v w hA hone hnil; refine h_n hA ?_; clear hA; intro hA; refine rn ?_) | (refine g_store ?_; (first | refine t_storex rfl rfl hA ?_ | refine t_storea rfl rfl hA ?_); clear hA; (try clear w); intro w hA; refine h_m hA ?_; clear hA; intro hA; refine rn ?_) | (refine g_ow ?_; (first | refine t_alloc hA ?_ | refine ow_box rfl rfl hA ?_ | refine t_buildSlice rfl (by decide) rfl hA ?_); clear hA; (try clear w); intro b w hA; refine h_n hA ?_; clear hA; intro hA; refine rn ?_) | (refine g_ow ?_; refine t_make rfl rfl (by omega) (by omega) hA ?_; clear hA; (try clear w); intro v w hA hone hnil; refine rn ?_) | refine wc_pp rfl (fun h => ?_) (fun h => ?_) | refine wc_nn rfl (fun h => ?_) (fun h => ?_) | refine rl_pp rfl (fun h => o_n ?_) (fun h => rn ?_) | refine rl_qq rfl (fun h => o_n ?_) (fun h => rn ?_) | refine rl_nn rfl (fun h => o_n ?_) (fun h => rn ?_) | refine rl_mm rfl (fun h => o_n ?_) (fun h => rn ?_))
        rw [Nat.sub_self, List.replicate_zero, List.append_nil] at hA
        exact mq_normal ⟨(ex_getD rfl), hA⟩
    · rw [if_neg h3]
      have h012 : k = 0 ∨ k = 1 ∨ k = 2 := by omega
      have h0A : Sat E (src b s (itP (setP size) 0 (List.replicate size 0) (strm s) (p + 1)).2 :: row 3 1 v size ((itP (setP size) 0 (List.replicate size 0) (strm s) (p + 1)).1.map vi) :: L) w := hA
      clear hA
      have hit := itSet size hz.1 (strm s) (p + 1)
      have hstep : ∀ i, itP (setP size) (i + 1) (List.replicate size 0) (strm s) (p + 1) = (let r := itP (setP size) i (List.replicate size 0) (strm s) (p + 1); (r.1.set (tk size (strm s) r.2).1 (numP 32768 (strm s) (r.2 + 1)).1, (numP 32768 (strm s) (r.2 + 1)).2)) := fun i => rfl
      rcases h012 with rfl | rfl | rfl
      · repeat' (first | refine st ?_ | (refine wc_region ?_) | (refine su ?_; refine rn ?_) | (refine g_conv ?_; refine p_c hA ?_; refine rn ?_) | (refine g_load ?_; (first | refine t_loadx rfl hA ?_ | refine t_loada rfl hA ?_); refine rn ?_) | (refine g_call ?_; refine t_appx rfl rfl hA rfl ?_; clear hA; (try clear w); intro v w hA hone hnil; refine h_n hA ?_; clear hA; intro hA; refine rn ?_) | (refine g_store ?_; (first | refine t_storex rfl rfl hA ?_ | refine t_storea rfl rfl hA ?_); clear hA; (try clear w); intro w hA; refine h_m hA ?_; clear hA; intro hA; refine rn ?_) | (refine g_ow ?_; (first | refine t_alloc hA ?_ | refine ow_box rfl rfl hA ?_ | refine t_buildSlice rfl (by decide) rfl hA ?_); clear hA; (try clear w); intro b w hA; refine h_n hA ?_; clear hA; intro hA; refine rn ?_) | (refine g_ow ?_; refine t_make rfl rfl (by omega) (by omega) hA ?_; clear hA; (try clear w); intro v w hA hone hnil; refine rn ?_) | refine wc_pp rfl (fun h => ?_) (fun h => ?_) | refine wc_nn rfl (fun h => ?_) (fun h => ?_) | refine rl_pp rfl (fun h => o_n ?_) (fun h => rn ?_) | refine rl_qq rfl (fun h => o_n ?_) (fun h => rn ?_) | refine rl_nn rfl (fun h => o_n ?_) (fun h => rn ?_) | refine rl_mm rfl (fun h => o_n ?_) (fun h => rn ?_))
        exact mq_normal ⟨(ex_getD rfl), h0A⟩
      · repeat' (first | refine st ?_ | (refine wc_regionS 7 rfl ?_; refine wc_region ?_) | (refine su ?_; refine rn ?_) | (refine g_conv ?_; refine p_c hA ?_; refine rn ?_) | (refine g_load ?_; (first | refine t_loadx rfl hA ?_ | refine t_loada rfl hA ?_); refine rn ?_) | (refine g_call ?_; refine t_appx rfl rfl hA rfl ?_; clear hA; (try clear w); intro v w hA hone hnil; refine h_n hA ?_; clear hA; intro hA; refine rn ?_) | (refine g_store ?_; (first | refine t_storex rfl rfl hA ?_ | refine t_storea rfl rfl hA ?_); clear hA; (try clear w); intro w hA; refine h_m hA ?_; clear hA; intro hA; refine rn ?_) | (refine g_ow ?_; (first | refine t_alloc hA ?_ | refine ow_box rfl rfl hA ?_ | refine t_buildSlice rfl (by decide) rfl hA ?_); clear hA; (try clear w); intro b w hA; refine h_n hA ?_; clear hA; intro hA; refine rn ?_) | (refine g_ow ?_; refine t_make rfl rfl (by omega) (by omega) hA ?_; clear hA; (try clear w); intro v w hA hone hnil; refine rn ?_) | refine wc_pp rfl (fun h => ?_) (fun h => ?_) | refine wc_nn rfl (fun h => ?_) (fun h => ?_) | refine rl_pp rfl (fun h => o_n ?_) (fun h => rn ?_) | refine rl_qq rfl (fun h => o_n ?_) (fun h => rn ?_) | refine rl_nn rfl (fun h => o_n ?_) (fun h => rn ?_) | refine rl_mm rfl (fun h => o_n ?_) (fun h => rn ?_))
        refine wc_loopn (fun q l w => ∃ (i : Nat), (∃ jk : Nat → Value, l = [.pointer (some ⟨b, 0, none⟩), vi size, jk 2, jk 3, jk 4, v, jk 6, jk 7, jk 8, jk 9, jk 10, jk 11, jk 12, jk 13, jk 14, jk 15, jk 16, vi ((1 : Nat) : Int), .int .i64 (i : Int), jk 19, jk 20, jk 21, jk 22, jk 23, jk 24, jk 25, jk 26, jk 27, jk 28, jk 29, jk 30, jk 31, jk 32, jk 33, jk 34, jk 35, jk 36, jk 37, jk 38, jk 39, jk 40, jk 41, jk 42, jk 43]) ∧ i + q = 1 ∧ Sat E (src b s (itP (setP size) i (List.replicate size 0) (strm s) (p + 1)).2 :: row 3 1 v size ((itP (setP size) i (List.replicate size 0) (strm s) (p + 1)).1.map vi) :: L) w) 1 ⟨0, (ex_getD rfl), by omega, h0A⟩ ?_
        clear h0A
        rintro q l w ⟨i, ⟨jk, rfl⟩, hi, hA⟩
        by_cases hlt : i < 1
        · have hst := hstep i
          have hil := (hit i).1
          dsimp only at hst
          generalize itP (setP size) i (List.replicate size 0) (strm s) (p + 1) = r at *
          have htz : (tk size (strm s) r.2).1 < size := Nat.mod_lt _ (by omega)
          repeat' (first | (refine g_callf 84 ?_; refine ow_call Tryd.call84 rfl ((take_calls _ _ _ _ _ _ size _ rfl (by omega) hs hA).mono ?_); clear hA; (try clear w); rintro e w ⟨rfl, hA⟩; refine ⟨_, rfl, ?_⟩; refine rn ?_) | (refine g_callf 139 ?_; refine ow_call Tryd.call139 rfl ((number_calls _ _ _ _ _ _ 32768 (by omega) hs hA).mono ?_); clear hA; (try clear w); rintro e w ⟨rfl, hA⟩; refine ⟨_, rfl, ?_⟩; refine rn ?_) | (refine g_ow ?_; refine t_indexAddrR 1 rfl hA rfl rfl (by omega) ?_; refine rn ?_) | (refine g_ow ?_; refine t_store_row 1 rfl rfl rfl hA rfl (by simp; omega) ?_; clear hA; intro w hA; refine rn ?_) | refine st ?_ | (refine wc_region ?_) | (refine su ?_; refine rn ?_) | (refine g_conv ?_; refine p_c hA ?_; refine rn ?_) | (refine g_load ?_; (first | refine t_loadx rfl hA ?_ | refine t_loada rfl hA ?_); refine rn ?_) | (refine g_call ?_; refine t_appx rfl rfl hA rfl ?_; clear hA; (try clear w); intro v w hA hone hnil; refine h_n hA ?_; clear hA; intro hA; refine rn ?_) | (refine g_store ?_; (first | refine t_storex rfl rfl hA ?_ | refine t_storea rfl rfl hA ?_); clear hA; (try clear w); intro w hA; refine h_m hA ?_; clear hA; intro hA; refine rn ?_) | (refine g_ow ?_; (first | refine t_alloc hA ?_ | refine ow_box rfl rfl hA ?_ | refine t_buildSlice rfl (by decide) rfl hA ?_); clear hA; (try clear w); intro b w hA; refine h_n hA ?_; clear hA; intro hA; refine rn ?_) | (refine g_ow ?_; refine t_make rfl rfl (by omega) (by omega) hA ?_; clear hA; (try clear w); intro v w hA hone hnil; refine rn ?_) | refine wc_pp rfl (fun h => ?_) (fun h => ?_) | refine wc_nn rfl (fun h => ?_) (fun h => ?_) | refine rl_pp rfl (fun h => o_n ?_) (fun h => rn ?_) | refine rl_qq rfl (fun h => o_n ?_) (fun h => rn ?_) | refine rl_nn rfl (fun h => o_n ?_) (fun h => rn ?_) | refine rl_mm rfl (fun h => o_n ?_) (fun h => rn ?_))
          refine lq_next (q - 1) (by omega) ⟨i + 1, (ex_getD rfl), by omega, ?_⟩
          rw [hst]
          have hA : Sat E (src b s (numP 32768 (strm s) (r.2 + 1)).2 :: row 3 1 v size ((r.1.map vi).set (((tk size (strm s) r.2).1 : Int).toNat * 1) (vi (numP 32768 (strm s) (r.2 + 1)).1)) :: L) w := hA
          rw [Int.toNat_natCast, Nat.mul_one, ← List.map_set] at hA
          exact hA
        · obtain rfl : i = 1 := by omega
          repeat' (first | refine st ?_ | (refine wc_region ?_) | (refine su ?_; refine rn ?_) | (refine g_conv ?_; refine p_c hA ?_; refine rn ?_) | (refine g_load ?_; (first | refine t_loadx rfl hA ?_ | refine t_loada rfl hA ?_); refine rn ?_) | (refine g_call ?_; refine t_appx rfl rfl hA rfl ?_; clear hA; (try clear w); intro v w hA hone hnil; refine h_n hA ?_; clear hA; intro hA; refine rn ?_) | (refine g_store ?_; (first | refine t_storex rfl rfl hA ?_ | refine t_storea rfl rfl hA ?_); clear hA; (try clear w); intro w hA; refine h_m hA ?_; clear hA; intro hA; refine rn ?_) | (refine g_ow ?_; (first | refine t_alloc hA ?_ | refine ow_box rfl rfl hA ?_ | refine t_buildSlice rfl (by decide) rfl hA ?_); clear hA; (try clear w); intro b w hA; refine h_n hA ?_; clear hA; intro hA; refine rn ?_) | (refine g_ow ?_; refine t_make rfl rfl (by omega) (by omega) hA ?_; clear hA; (try clear w); intro v w hA hone hnil; refine rn ?_) | refine wc_pp rfl (fun h => ?_) (fun h => ?_) | refine wc_nn rfl (fun h => ?_) (fun h => ?_) | refine rl_pp rfl (fun h => o_n ?_) (fun h => rn ?_) | refine rl_qq rfl (fun h => o_n ?_) (fun h => rn ?_) | refine rl_nn rfl (fun h => o_n ?_) (fun h => rn ?_) | refine rl_mm rfl (fun h => o_n ?_) (fun h => rn ?_))
          exact mq_normal ⟨(ex_getD rfl), hA⟩
      · repeat' (first | refine st ?_ | (refine wc_regionS 7 rfl ?_; refine wc_region ?_) | (refine su ?_; refine rn ?_) | (refine g_conv ?_; refine p_c hA ?_; refine rn ?_) | (refine g_load ?_; (first | refine t_loadx rfl hA ?_ | refine t_loada rfl hA ?_); refine rn ?_) | (refine g_call ?_; refine t_appx rfl rfl hA rfl ?_; clear hA; (try clear w); intro v w hA hone hnil; refine h_n hA ?_; clear hA; intro hA; refine rn ?_) | (refine g_store ?_; (first | refine t_storex rfl rfl hA ?_ | refine t_storea rfl rfl hA ?_); clear hA; (try clear w); intro w hA; refine h_m hA ?_; clear hA; intro hA; refine rn ?_) | (refine g_ow ?_; (first | refine t_alloc hA ?_ | refine ow_box rfl rfl hA ?_ | refine t_buildSlice rfl (by decide) rfl hA ?_); clear hA; (try clear w); intro b w hA; refine h_n hA ?_; clear hA; intro hA; refine rn ?_) | (refine g_ow ?_; refine t_make rfl rfl (by omega) (by omega) hA ?_; clear hA; (try clear w); intro v w hA hone hnil; refine rn ?_) | refine wc_pp rfl (fun h => ?_) (fun h => ?_) | refine wc_nn rfl (fun h => ?_) (fun h => ?_) | refine rl_pp rfl (fun h => o_n ?_) (fun h => rn ?_) | refine rl_qq rfl (fun h => o_n ?_) (fun h => rn ?_) | refine rl_nn rfl (fun h => o_n ?_) (fun h => rn ?_) | refine rl_mm rfl (fun h => o_n ?_) (fun h => rn ?_))
        refine wc_loopn (fun q l w => ∃ (i : Nat), (∃ jk : Nat → Value, l = [.pointer (some ⟨b, 0, none⟩), vi size, jk 2, jk 3, jk 4, v, jk 6, jk 7, jk 8, jk 9, jk 10, jk 11, jk 12, jk 13, jk 14, jk 15, jk 16, vi ((2 : Nat) : Int), .int .i64 (i : Int), jk 19, jk 20, jk 21, jk 22, jk 23, jk 24, jk 25, jk 26, jk 27, jk 28, jk 29, jk 30, jk 31, jk 32, jk 33, jk 34, jk 35, jk 36, jk 37, jk 38, jk 39, jk 40, jk 41, jk 42, jk 43]) ∧ i + q = 2 ∧ Sat E (src b s (itP (setP size) i (List.replicate size 0) (strm s) (p + 1)).2 :: row 3 1 v size ((itP (setP size) i (List.replicate size 0) (strm s) (p + 1)).1.map vi) :: L) w) 2 ⟨0, (ex_getD rfl), by omega, h0A⟩ ?_
        clear h0A
        rintro q l w ⟨i, ⟨jk, rfl⟩, hi, hA⟩
        by_cases hlt : i < 2
        · have hst := hstep i
          have hil := (hit i).1
          dsimp only at hst
          generalize itP (setP size) i (List.replicate size 0) (strm s) (p + 1) = r at *
          have htz : (tk size (strm s) r.2).1 < size := Nat.mod_lt _ (by omega)
          repeat' (first | (refine g_callf 84 ?_; refine ow_call Tryd.call84 rfl ((take_calls _ _ _ _ _ _ size _ rfl (by omega) hs hA).mono ?_); clear hA; (try clear w); rintro e w ⟨rfl, hA⟩; refine ⟨_, rfl, ?_⟩; refine rn ?_) | (refine g_callf 139 ?_; refine ow_call Tryd.call139 rfl ((number_calls _ _ _ _ _ _ 32768 (by omega) hs hA).mono ?_); clear hA; (try clear w); rintro e w ⟨rfl, hA⟩; refine ⟨_, rfl, ?_⟩; refine rn ?_) | (refine g_ow ?_; refine t_indexAddrR 1 rfl hA rfl rfl (by omega) ?_; refine rn ?_) | (refine g_ow ?_; refine t_store_row 1 rfl rfl rfl hA rfl (by simp; omega) ?_; clear hA; intro w hA; refine rn ?_) | refine st ?_ | (refine wc_region ?_) | (refine su ?_; refine rn ?_) | (refine g_conv ?_; refine p_c hA ?_; refine rn ?_) | (refine g_load ?_; (first | refine t_loadx rfl hA ?_ | refine t_loada rfl hA ?_); refine rn ?_) | (refine g_call ?_; refine t_appx rfl rfl hA rfl ?_; clear hA; (try clear w); intro v w hA hone hnil; refine h_n hA ?_; clear hA; intro hA; refine rn ?_) | (refine g_store ?_; (first | refine t_storex rfl rfl hA ?_ | refine t_storea rfl rfl hA ?_); clear hA; (try clear w); intro w hA; refine h_m hA ?_; clear hA; intro hA; refine rn ?_) | (refine g_ow ?_; (first | refine t_alloc hA ?_ | refine ow_box rfl rfl hA ?_ | refine t_buildSlice rfl (by decide) rfl hA ?_); clear hA; (try clear w); intro b w hA; refine h_n hA ?_; clear hA; intro hA; refine rn ?_) | (refine g_ow ?_; refine t_make rfl rfl (by omega) (by omega) hA ?_; clear hA; (try clear w); intro v w hA hone hnil; refine rn ?_) | refine wc_pp rfl (fun h => ?_) (fun h => ?_) | refine wc_nn rfl (fun h => ?_) (fun h => ?_) | refine rl_pp rfl (fun h => o_n ?_) (fun h => rn ?_) | refine rl_qq rfl (fun h => o_n ?_) (fun h => rn ?_) | refine rl_nn rfl (fun h => o_n ?_) (fun h => rn ?_) | refine rl_mm rfl (fun h => o_n ?_) (fun h => rn ?_))
          refine lq_next (q - 1) (by omega) ⟨i + 1, (ex_getD rfl), by omega, ?_⟩
          rw [hst]
          have hA : Sat E (src b s (numP 32768 (strm s) (r.2 + 1)).2 :: row 3 1 v size ((r.1.map vi).set (((tk size (strm s) r.2).1 : Int).toNat * 1) (vi (numP 32768 (strm s) (r.2 + 1)).1)) :: L) w := hA
          rw [Int.toNat_natCast, Nat.mul_one, ← List.map_set] at hA
          exact hA
        · obtain rfl : i = 2 := by omega
          repeat' (first | refine st ?_ | (refine wc_region ?_) | (refine su ?_; refine rn ?_) | (refine g_conv ?_; refine p_c hA ?_; refine rn ?_) | (refine g_load ?_; (first | refine t_loadx rfl hA ?_ | refine t_loada rfl hA ?_); refine rn ?_) | (refine g_call ?_; refine t_appx rfl rfl hA rfl ?_; clear hA; (try clear w); intro v w hA hone hnil; refine h_n hA ?_; clear hA; intro hA; refine rn ?_) | (refine g_store ?_; (first | refine t_storex rfl rfl hA ?_ | refine t_storea rfl rfl hA ?_); clear hA; (try clear w); intro w hA; refine h_m hA ?_; clear hA; intro hA; refine rn ?_) | (refine g_ow ?_; (first | refine t_alloc hA ?_ | refine ow_box rfl rfl hA ?_ | refine t_buildSlice rfl (by decide) rfl hA ?_); clear hA; (try clear w); intro b w hA; refine h_n hA ?_; clear hA; intro hA; refine rn ?_) | (refine g_ow ?_; refine t_make rfl rfl (by omega) (by omega) hA ?_; clear hA; (try clear w); intro v w hA hone hnil; refine rn ?_) | refine wc_pp rfl (fun h => ?_) (fun h => ?_) | refine wc_nn rfl (fun h => ?_) (fun h => ?_) | refine rl_pp rfl (fun h => o_n ?_) (fun h => rn ?_) | refine rl_qq rfl (fun h => o_n ?_) (fun h => rn ?_) | refine rl_nn rfl (fun h => o_n ?_) (fun h => rn ?_) | refine rl_mm rfl (fun h => o_n ?_) (fun h => rn ?_))
          exact mq_normal ⟨(ex_getD rfl), hA⟩
  · clear hA
    rintro l w ⟨⟨jk, rfl⟩, hA⟩
    repeat' (first | refine st ?_ | (refine wc_region ?_) | (refine su ?_; refine rn ?_) | (refine g_conv ?_; refine p_c hA ?_; refine rn ?_) | (refine g_load ?_; (first | refine t_loadx rfl hA ?_ | refine t_loada rfl hA ?_); refine rn ?_) | (refine g_call ?_; refine t_appx rfl rfl hA rfl ?_; clear hA; (try clear w); intro v w hA hone hnil; refine h_n hA ?_; clear hA; intro hA; refine rn ?_) | (refine g_store ?_; (first | refine t_storex rfl rfl hA ?_ | refine t_storea rfl rfl hA ?_); clear hA; (try clear w); intro w hA; refine h_m hA ?_; clear hA; intro hA; refine rn ?_) | (refine g_ow ?_; (first | refine t_alloc hA ?_ | refine ow_box rfl rfl hA ?_ | refine t_buildSlice rfl (by decide) rfl hA ?_); clear hA; (try clear w); intro b w hA; refine h_n hA ?_; clear hA; intro hA; refine rn ?_) | (refine g_ow ?_; refine t_make rfl rfl (by omega) (by omega) hA ?_; clear hA; (try clear w); intro v w hA hone hnil; refine rn ?_) | refine wc_pp rfl (fun h => ?_) (fun h => ?_) | refine wc_nn rfl (fun h => ?_) (fun h => ?_) | refine rl_pp rfl (fun h => o_n ?_) (fun h => rn ?_) | refine rl_qq rfl (fun h => o_n ?_) (fun h => rn ?_) | refine rl_nn rfl (fun h => o_n ?_) (fun h => rn ?_) | refine rl_mm rfl (fun h => o_n ?_) (fun h => rn ?_))
    have hA : Sat E (row 3 1 v (blkP size (strm s) p).1.length ((blkP size (strm s) p).1.map vi) :: src b s (blkP size (strm s) p).2 :: L) w := by rw [hbn.1]; exact hA.perm (List.Perm.swap _ _ _)
    obtain ⟨E', hE', hA, hl⟩ := hA.freezeListS E (Env.Le.refl _) (cseVi fun x hx => by have := hbn.2 x hx; exact ⟨by omega, by omega⟩)
    exact fp_ret (res1 rfl rfl) ⟨E', v, rfl, hE', hl, hA⟩
end Go.Proofs.YtomfoaaaeidpnaaDoor
