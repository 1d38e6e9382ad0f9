/-
  The reference's Taker: mb, walked.
-/
import Derived.Test.YtomfoaaaeidpnaaDoorT5
import Derived.Test.YtomfoaaaeidpnaaDoorM12
set_option linter.unusedVariables false
set_option linter.unusedSimpArgs false
namespace Go.Proofs.YtomfoaaaeidpnaaDoor
open Go Go.RowKit
attribute [local irreducible] WC RL OW bodyPostM ThenQ BlockQ LoopQ ScopeQ
theorem motH_eq (k : UInt8) (σ : Nat → UInt8) (p : Nat) : motH k σ p = (((repP (u8P 4) (if k.toNat = 6 then 4 else 0) σ p).1, partsN k, if 3 ≤ k.toNat ∧ k.toNat ≤ 6 then (piecesP k (vec4 (repP (u8P 4) (if k.toNat = 6 then 4 else 0) σ p).1)).1 else 0), (repP (u8P 4) (if k.toNat = 6 then 4 else 0) σ p).2) := by
  unfold motH partsN piecesP
  by_cases h3 : k.toNat = 3
  · rw [h3]; rfl
  by_cases h4 : k.toNat = 4
  · rw [h4]; rfl
  by_cases h5 : k.toNat = 5
  · rw [h5]; rfl
  by_cases h6 : k.toNat = 6
  · rw [h6]
    have hl := rep_len (u8P 4) σ p 4
    have ha : ∀ n, ∀ x ∈ (repP (u8P 4) n σ p).1, x.toNat ≤ 3 := fun n => by
      induction n with
      | zero => exact fun x hx => (by cases hx)
      | succ n ih =>
        intro x hx
        have hx : x ∈ (repP (u8P 4) n σ p).1 ++ [UInt8.ofNat ((σ (repP (u8P 4) n σ p).2).toNat % 4)] := hx
        rcases List.mem_append.1 hx with hx | hx
        · exact ih x hx
        · rw [List.mem_singleton.1 hx, UInt8.toNat_ofNat']
          omega
    have ha := ha 4
    show ((((repP (u8P 4) 4).bnd fun s => Par.ret (s, 4, (s.map pieceN).sum)) : Par (List UInt8 × Nat × Nat)) σ p) = (((repP (u8P 4) 4 σ p).1, 4, (if (vec4 (repP (u8P 4) 4 σ p).1).toList.all (fun s => decide (s.toNat ≤ 3)) = true then (qsum (vec4 (repP (u8P 4) 4 σ p).1).toList, (0 : Int)) else (0, 3)).1), (repP (u8P 4) 4 σ p).2)
    show (((repP (u8P 4) 4 σ p).1, 4, (((repP (u8P 4) 4 σ p).1).map pieceN).sum), (repP (u8P 4) 4 σ p).2) = _
    generalize repP (u8P 4) 4 σ p = r at *
    obtain ⟨sl, p1⟩ := r
    dsimp only at hl ha ⊢
    have e4 : (vec4 sl).toList = sl := by
      match sl, hl with
      | [a, b, c, d], _ => rfl
    have eq : qsum sl = (sl.map pieceN).sum := by
      unfold qsum
      congr 1
      refine List.map_congr_left fun x hx => ?_
      have h3 := ha x hx
      have : x.toNat = 0 ∨ x.toNat = 1 ∨ x.toNat = 2 ∨ x.toNat = 3 := by omega
      unfold pieceN
      rcases this with h | h | h | h <;> (rw [h]; rfl)
    rw [e4, if_pos (List.all_eq_true.2 fun x hx => decide_eq_true (ha x hx)), eq]
  · have g1 : ¬ (k.toNat = 4 ∨ k.toNat = 5) := by omega
    have g2 : ¬ (3 ≤ k.toNat ∧ k.toNat ≤ 6) := by omega
    rw [if_neg h3, if_neg g1, if_neg h6, if_neg h6, if_neg h3, if_neg h4, if_neg h5, if_neg h6, if_neg g2]
    rfl
theorem mM_pred2 (k mo ch : UInt8) (l sl : List UInt8) (x : UInt8) (r v u : Value) (hl : l.length < 16) : (mbC (mM k mo ch (vec16 l) []) r v u).set (3 + l.length) (u8 x) = mbC (mM k mo ch (vec16 (l ++ [x])) []) r v u := mM_pred k mo ch l x r v u hl
set_option maxRecDepth 16000 in
set_option maxHeartbeats 32000000 in
theorem mbT_calls (bx : Nat) (s : List UInt8) (p : Nat) (intra : Bool) (refs : Nat) (E : Env) (L : List Item) (w : World) (hir : intra = true ∨ 1 ≤ refs) (hr2 : refs ≤ 1000) (hs : s.length ≤ 1000000) (hA : Sat E (srcT bx s p :: L) w) :
    Calls Tryd.prog 61 ⟨[.pointer (some ⟨bx, 0, none⟩), .bool intra, vi refs]⟩ w (fun e w' => ∃ E' r v u, e = .returned (.agg ⟨mbC (mbP intra refs (strm s) p).1 r v u⟩) ∧ E.Le E' ∧ MbL (E'.sub E) (mbP intra refs (strm s) p).1 r v u ∧ Sat E' (srcT bx s (mbP intra refs (strm s) p).2 :: L) w') := by
  refine enter (fn := Tryd.f61) Tryd.func61 rfl 153 rfl [.pointer (some ⟨bx, 0, none⟩), .bool intra, vi refs, undef, undef, undef, undef, undef, undef, undef, undef, undef, undef, undef, undef, undef, undef, undef, undef, undef, undef, undef, undef, undef, undef, undef, undef, undef, undef, undef, undef, undef, undef, undef, undef, undef, undef, undef, undef, undef, undef, undef, undef, undef, undef, undef, undef, undef, undef, undef, undef, undef, undef, undef, undef, undef, undef, undef, undef, undef, undef, undef, undef, undef, undef, undef, undef, undef, undef, undef, undef, undef, undef, undef, undef, undef, undef, undef, undef, undef, undef, undef, undef, undef, undef, undef, undef, undef, undef, undef, undef, undef, undef, undef, undef, undef, undef, undef, undef, undef, undef, undef, undef, undef, undef, undef, undef, undef, undef, undef, undef, undef, undef, undef, undef, undef, undef, undef, undef, undef, undef, undef, undef, undef, undef, undef, undef, undef, undef, undef, undef, undef, undef, undef, undef, undef, undef, undef, undef, undef, undef, undef, undef, undef, undef, undef, undef, undef, undef, undef, undef, undef, undef] rfl ?_
  repeat' (first | refine st ?_ | (refine wc_regionS 2 rfl ?_; refine wc_region ?_) | (refine su ?_; refine rn ?_) | (refine g_conv ?_; refine p_c hA ?_; refine rn ?_) | (refine g_load ?_; (first | refine t_loadx rfl hA ?_ | refine t_loada rfl hA ?_); refine rn ?_) | (refine g_call ?_; refine t_appx rfl rfl hA rfl ?_; clear hA; (try clear w); intro v w hA hone hnil; refine h_n hA ?_; clear hA; intro hA; refine rn ?_) | (refine g_store ?_; (first | refine t_storex rfl rfl hA ?_ | refine t_storea rfl rfl hA ?_); clear hA; (try clear w); intro w hA; refine h_m hA ?_; clear hA; intro hA; refine rn ?_) | (refine g_ow ?_; (first | refine t_alloc hA ?_ | refine ow_box rfl rfl hA ?_ | refine t_buildSlice rfl (by decide) rfl hA ?_); clear hA; (try clear w); intro b w hA; refine h_n hA ?_; clear hA; intro hA; refine rn ?_) | (refine g_ow ?_; refine t_make rfl rfl (by omega) (by omega) hA ?_; clear hA; (try clear w); intro v w hA hone hnil; refine rn ?_) | refine wc_pp rfl (fun h => ?_) (fun h => ?_) | refine wc_nn rfl (fun h => ?_) (fun h => ?_) | refine rl_pp rfl (fun h => o_n ?_) (fun h => rn ?_) | refine rl_qq rfl (fun h => o_n ?_) (fun h => rn ?_) | refine rl_nn rfl (fun h => o_n ?_) (fun h => rn ?_) | refine rl_mm rfl (fun h => o_n ?_) (fun h => rn ?_))
  rename_i b6
  generalize hb7 : b = b7 at *
  clear hb7
  have hA : Sat E (cells b7 zM 28 :: cells b6 zM 28 :: srcT bx s p :: L) w := hA
  have hA := hA.perm (List.perm_middle (l₁ := [_, _]))
  refine wc_region ?_
  refine' rl_v hA ?o2_0 ?k2_0
  case o2_0 => intro w hA; first | (refine ow_move_v rfl ?_; exact ⟨pe, hA⟩)
  case' k2_0 => clear hA; intro w hA; refine rn ?_
  refine rl_nil ?_
  refine tq_normal ?_
  refine wc_mid (fun l w => ∃ (k : UInt8) (p1 : Nat), (∃ jk : Nat → Value, l = [.pointer (some ⟨bx, 0, none⟩), .bool intra, vi refs, jk 3, jk 4, jk 5, .pointer (some ⟨b6, 0, none⟩), .pointer (some ⟨b7, 0, none⟩), jk 8, jk 9, jk 10, jk 11, jk 12, jk 13, jk 14, jk 15, jk 16, jk 17, jk 18, jk 19, jk 20, jk 21, jk 22, jk 23, jk 24, jk 25, jk 26, jk 27, jk 28, jk 29, jk 30, jk 31, jk 32, jk 33, jk 34, jk 35, jk 36, jk 37, jk 38, jk 39, jk 40, jk 41, jk 42, jk 43, jk 44, jk 45, jk 46, jk 47, jk 48, jk 49, jk 50, jk 51, jk 52, jk 53, jk 54, jk 55, jk 56, jk 57, jk 58, jk 59, jk 60, jk 61, jk 62, jk 63, jk 64, jk 65, jk 66, jk 67, jk 68, jk 69, jk 70, jk 71, jk 72, jk 73, jk 74, jk 75, jk 76, jk 77, jk 78, jk 79, jk 80, jk 81, jk 82, jk 83, jk 84, jk 85, jk 86, jk 87, jk 88, jk 89, jk 90, jk 91, jk 92, jk 93, jk 94, jk 95, jk 96, jk 97, jk 98, jk 99, jk 100, jk 101, jk 102, jk 103, jk 104, jk 105, jk 106, jk 107, jk 108, jk 109, jk 110, jk 111, jk 112, jk 113, jk 114, jk 115, jk 116, jk 117, jk 118, jk 119, jk 120, jk 121, jk 122, jk 123, jk 124, jk 125, jk 126, jk 127, jk 128, jk 129, jk 130, jk 131, jk 132, jk 133, jk 134, jk 135, jk 136, jk 137, jk 138, jk 139, jk 140, jk 141, jk 142, jk 143, jk 144, jk 145, jk 146, jk 147, jk 148, jk 149, jk 150, jk 151, jk 152]) ∧ u8P (if intra then 3 else 8) (strm s) p = (k, p1) ∧ Sat E (srcT bx s p1 :: cells b7 (fC k 0 0 (vec16 []) (vec4 []) 0 0 nilV nilV nilV) 28 :: cells b6 zM 28 :: L) w) ?_ ?_
  · cases intra with
    | true =>
      have ht : (tk 3 (strm s) p).1 < 3 := Nat.mod_lt _ (by decide)
      repeat' (first | (refine g_callf 88 ?_; refine ow_call Tryd.call88 rfl ((takeT_calls _ _ _ _ _ _ 3 3 rfl (by omega) hs hA).mono ?_); clear hA; (try clear w); rintro e w ⟨rfl, hA⟩; refine ⟨_, rfl, ?_⟩; refine rn ?_) | (refine g_ow ?_; refine t_conv8 rfl (by omega) ?_; rw [u8_small _ (by omega)]; refine rn ?_) | refine st ?_ | (refine wc_region ?_) | (refine su ?_; refine rn ?_) | (refine g_conv ?_; refine p_c hA ?_; refine rn ?_) | (refine g_load ?_; (first | refine t_loadx rfl hA ?_ | refine t_loada rfl hA ?_); refine rn ?_) | (refine g_call ?_; refine t_appx rfl rfl hA rfl ?_; clear hA; (try clear w); intro v w hA hone hnil; refine h_n hA ?_; clear hA; intro hA; refine rn ?_) | (refine g_store ?_; (first | refine t_storex rfl rfl hA ?_ | refine t_storea rfl rfl hA ?_); clear hA; (try clear w); intro w hA; refine h_m hA ?_; clear hA; intro hA; refine rn ?_) | (refine g_ow ?_; (first | refine t_alloc hA ?_ | refine ow_box rfl rfl hA ?_ | refine t_buildSlice rfl (by decide) rfl hA ?_); clear hA; (try clear w); intro b w hA; refine h_n hA ?_; clear hA; intro hA; refine rn ?_) | (refine g_ow ?_; refine t_make rfl rfl (by omega) (by omega) hA ?_; clear hA; (try clear w); intro v w hA hone hnil; refine rn ?_) | refine wc_pp rfl (fun h => ?_) (fun h => ?_) | refine wc_nn rfl (fun h => ?_) (fun h => ?_) | refine rl_pp rfl (fun h => o_n ?_) (fun h => rn ?_) | refine rl_qq rfl (fun h => o_n ?_) (fun h => rn ?_) | refine rl_nn rfl (fun h => o_n ?_) (fun h => rn ?_) | refine rl_mm rfl (fun h => o_n ?_) (fun h => rn ?_))
      exact mq_normal ⟨_, _, (ex_getD rfl), rfl, hA⟩
    | false =>
      have ht : (tk 8 (strm s) p).1 < 8 := Nat.mod_lt _ (by decide)
      repeat' (first | (refine g_callf 88 ?_; refine ow_call Tryd.call88 rfl ((takeT_calls _ _ _ _ _ _ 8 8 rfl (by omega) hs hA).mono ?_); clear hA; (try clear w); rintro e w ⟨rfl, hA⟩; refine ⟨_, rfl, ?_⟩; refine rn ?_) | (refine g_ow ?_; refine t_conv8 rfl (by omega) ?_; rw [u8_small _ (by omega)]; refine rn ?_) | refine st ?_ | (refine wc_region ?_) | (refine su ?_; refine rn ?_) | (refine g_conv ?_; refine p_c hA ?_; refine rn ?_) | (refine g_load ?_; (first | refine t_loadx rfl hA ?_ | refine t_loada rfl hA ?_); refine rn ?_) | (refine g_call ?_; refine t_appx rfl rfl hA rfl ?_; clear hA; (try clear w); intro v w hA hone hnil; refine h_n hA ?_; clear hA; intro hA; refine rn ?_) | (refine g_store ?_; (first | refine t_storex rfl rfl hA ?_ | refine t_storea rfl rfl hA ?_); clear hA; (try clear w); intro w hA; refine h_m hA ?_; clear hA; intro hA; refine rn ?_) | (refine g_ow ?_; (first | refine t_alloc hA ?_ | refine ow_box rfl rfl hA ?_ | refine t_buildSlice rfl (by decide) rfl hA ?_); clear hA; (try clear w); intro b w hA; refine h_n hA ?_; clear hA; intro hA; refine rn ?_) | (refine g_ow ?_; refine t_make rfl rfl (by omega) (by omega) hA ?_; clear hA; (try clear w); intro v w hA hone hnil; refine rn ?_) | refine wc_pp rfl (fun h => ?_) (fun h => ?_) | refine wc_nn rfl (fun h => ?_) (fun h => ?_) | refine rl_pp rfl (fun h => o_n ?_) (fun h => rn ?_) | refine rl_qq rfl (fun h => o_n ?_) (fun h => rn ?_) | refine rl_nn rfl (fun h => o_n ?_) (fun h => rn ?_) | refine rl_mm rfl (fun h => o_n ?_) (fun h => rn ?_))
      exact mq_normal ⟨_, _, (ex_getD rfl), rfl, hA⟩
  clear hA
  rintro l w ⟨k, p1, ⟨jk, rfl⟩, h1, hA⟩
  have hk8 : k.toNat < 8 ∧ (intra = true → k.toNat < 3) := by
    have e : k = UInt8.ofNat ((tk (if intra then 3 else 8) (strm s) p).1) := (congrArg Prod.fst h1).symm
    have hlt : (tk (if intra then 3 else 8) (strm s) p).1 < (if intra then 3 else 8) := Nat.mod_lt _ (by split <;> decide)
    generalize (tk (if intra then 3 else 8) (strm s) p).1 = a at *
    have hlt8 : a < 8 := by split at hlt <;> omega
    have ek : k.toNat = a := by rw [e, UInt8.toNat_ofNat', Nat.mod_eq_of_lt (by omega)]
    exact ⟨by omega, fun hi => by rw [hi, if_pos rfl] at hlt; omega⟩
  have hkr : 3 ≤ k.toNat → 1 ≤ refs := fun h => hir.elim (fun hi => absurd (hk8.2 hi) (by omega)) id
  repeat' (first | refine st ?_ | (refine wc_regionS 5 rfl ?_; refine wc_region ?_) | (refine su ?_; refine rn ?_) | (refine g_conv ?_; refine p_c hA ?_; refine rn ?_) | (refine g_load ?_; (first | refine t_loadx rfl hA ?_ | refine t_loada rfl hA ?_); refine rn ?_) | (refine g_call ?_; refine t_appx rfl rfl hA rfl ?_; clear hA; (try clear w); intro v w hA hone hnil; refine h_n hA ?_; clear hA; intro hA; refine rn ?_) | (refine g_store ?_; (first | refine t_storex rfl rfl hA ?_ | refine t_storea rfl rfl hA ?_); clear hA; (try clear w); intro w hA; refine h_m hA ?_; clear hA; intro hA; refine rn ?_) | (refine g_ow ?_; (first | refine t_alloc hA ?_ | refine ow_box rfl rfl hA ?_ | refine t_buildSlice rfl (by decide) rfl hA ?_); clear hA; (try clear w); intro b w hA; refine h_n hA ?_; clear hA; intro hA; refine rn ?_) | (refine g_ow ?_; refine t_make rfl rfl (by omega) (by omega) hA ?_; clear hA; (try clear w); intro v w hA hone hnil; refine rn ?_) | refine wc_pp rfl (fun h => ?_) (fun h => ?_) | refine wc_nn rfl (fun h => ?_) (fun h => ?_) | refine rl_pp rfl (fun h => o_n ?_) (fun h => rn ?_) | refine rl_qq rfl (fun h => o_n ?_) (fun h => rn ?_) | refine rl_nn rfl (fun h => o_n ?_) (fun h => rn ?_) | refine rl_mm rfl (fun h => o_n ?_) (fun h => rn ?_))
  refine wc_region ?_
  refine' rl_v hA ?o5_0 ?k5_0
  case o5_0 => intro w hA; first | (refine t_fieldAddr rfl ?_; exact ⟨pe, hA⟩)
  case' k5_0 => clear hA; intro w hA; refine rn ?_
  refine' rl_v hA ?o5_1 ?k5_1
  case o5_1 => intro w hA; first | (refine t_loadx rfl hA ?_; exact ⟨pe, hA⟩) | (refine t_loada rfl hA ?_; exact ⟨pe, hA⟩)
  case' k5_1 => clear hA; intro w hA; refine rn ?_
  refine' rl_v hA ?o5_2 ?k5_2
  case o5_2 => intro w hA; first | (refine ow_eql rfl rfl ?_; exact ⟨pe, hA⟩) | (refine ow_eqs rfl rfl ?_; exact ⟨pe, hA⟩) | (refine t_eqlb rfl rfl ?_; exact ⟨pe, hA⟩)
  case' k5_2 => clear hA; intro w hA; refine rn ?_
  refine rl_nil ?_
  refine tq_normal ?_
  refine wc_mid (fun l w => ∃ (mo : UInt8) (p2 : Nat), (∃ jk : Nat → Value, l = [.pointer (some ⟨bx, 0, none⟩), .bool intra, vi refs, jk 3, jk 4, jk 5, .pointer (some ⟨b6, 0, none⟩), .pointer (some ⟨b7, 0, none⟩), jk 8, jk 9, jk 10, jk 11, jk 12, jk 13, jk 14, jk 15, jk 16, jk 17, jk 18, jk 19, jk 20, jk 21, jk 22, jk 23, jk 24, jk 25, jk 26, jk 27, jk 28, jk 29, jk 30, jk 31, jk 32, jk 33, jk 34, jk 35, jk 36, jk 37, jk 38, jk 39, jk 40, jk 41, jk 42, jk 43, jk 44, jk 45, jk 46, jk 47, jk 48, jk 49, jk 50, jk 51, jk 52, jk 53, jk 54, jk 55, jk 56, jk 57, jk 58, jk 59, jk 60, jk 61, jk 62, jk 63, jk 64, jk 65, jk 66, jk 67, jk 68, jk 69, jk 70, jk 71, jk 72, jk 73, jk 74, jk 75, jk 76, jk 77, jk 78, jk 79, jk 80, jk 81, jk 82, jk 83, jk 84, jk 85, jk 86, jk 87, jk 88, jk 89, jk 90, jk 91, jk 92, jk 93, jk 94, jk 95, jk 96, jk 97, jk 98, jk 99, jk 100, jk 101, jk 102, jk 103, jk 104, jk 105, jk 106, jk 107, jk 108, jk 109, jk 110, jk 111, jk 112, jk 113, jk 114, jk 115, jk 116, jk 117, jk 118, jk 119, jk 120, jk 121, jk 122, jk 123, jk 124, jk 125, jk 126, jk 127, jk 128, jk 129, jk 130, jk 131, jk 132, jk 133, jk 134, jk 135, jk 136, jk 137, jk 138, jk 139, jk 140, jk 141, jk 142, jk 143, jk 144, jk 145, jk 146, jk 147, jk 148, jk 149, jk 150, jk 151, jk 152]) ∧ optP (decide (k.toNat = 1)) (u8P 4) 0 (strm s) p1 = (mo, p2) ∧ Sat E (srcT bx s p2 :: cells b7 (fC k mo 0 (vec16 []) (vec4 []) 0 0 nilV nilV nilV) 28 :: cells b6 zM 28 :: L) w) ?_ ?_
  · refine wc_bb rfl (fun h => ?_) (fun h => ?_)
    · have h' : k.toNat = 1 := by simp only [Bool.or_eq_true, decide_eq_true_eq] at h; omega
      unfold optP
      rw [decide_eq_true h', if_pos rfl]
      have ht : (tk 4 (strm s) p1).1 < 4 := Nat.mod_lt _ (by decide)
      repeat' (first | (refine g_callf 88 ?_; refine ow_call Tryd.call88 rfl ((takeT_calls _ _ _ _ _ _ 4 4 rfl (by omega) hs hA).mono ?_); clear hA; (try clear w); rintro e w ⟨rfl, hA⟩; refine ⟨_, rfl, ?_⟩; refine rn ?_) | (refine g_ow ?_; refine t_conv8 rfl (by omega) ?_; rw [u8_small _ (by omega)]; refine rn ?_) | refine st ?_ | (refine wc_region ?_) | (refine su ?_; refine rn ?_) | (refine g_conv ?_; refine p_c hA ?_; refine rn ?_) | (refine g_load ?_; (first | refine t_loadx rfl hA ?_ | refine t_loada rfl hA ?_); refine rn ?_) | (refine g_call ?_; refine t_appx rfl rfl hA rfl ?_; clear hA; (try clear w); intro v w hA hone hnil; refine h_n hA ?_; clear hA; intro hA; refine rn ?_) | (refine g_store ?_; (first | refine t_storex rfl rfl hA ?_ | refine t_storea rfl rfl hA ?_); clear hA; (try clear w); intro w hA; refine h_m hA ?_; clear hA; intro hA; refine rn ?_) | (refine g_ow ?_; (first | refine t_alloc hA ?_ | refine ow_box rfl rfl hA ?_ | refine t_buildSlice rfl (by decide) rfl hA ?_); clear hA; (try clear w); intro b w hA; refine h_n hA ?_; clear hA; intro hA; refine rn ?_) | (refine g_ow ?_; refine t_make rfl rfl (by omega) (by omega) hA ?_; clear hA; (try clear w); intro v w hA hone hnil; refine rn ?_) | refine wc_pp rfl (fun h => ?_) (fun h => ?_) | refine wc_nn rfl (fun h => ?_) (fun h => ?_) | refine rl_pp rfl (fun h => o_n ?_) (fun h => rn ?_) | refine rl_qq rfl (fun h => o_n ?_) (fun h => rn ?_) | refine rl_nn rfl (fun h => o_n ?_) (fun h => rn ?_) | refine rl_mm rfl (fun h => o_n ?_) (fun h => rn ?_))
      exact mq_normal ⟨_, _, (ex_getD rfl), rfl, hA⟩
    · have h' : ¬ (k.toNat = 1) := by simp only [Bool.or_eq_false_iff, decide_eq_false_iff_not] at h; omega
      unfold optP
      rw [decide_eq_false h', if_neg (by decide)]
      repeat' (first | refine st ?_ | (refine wc_region ?_) | (refine su ?_; refine rn ?_) | (refine g_conv ?_; refine p_c hA ?_; refine rn ?_) | (refine g_load ?_; (first | refine t_loadx rfl hA ?_ | refine t_loada rfl hA ?_); refine rn ?_) | (refine g_call ?_; refine t_appx rfl rfl hA rfl ?_; clear hA; (try clear w); intro v w hA hone hnil; refine h_n hA ?_; clear hA; intro hA; refine rn ?_) | (refine g_store ?_; (first | refine t_storex rfl rfl hA ?_ | refine t_storea rfl rfl hA ?_); clear hA; (try clear w); intro w hA; refine h_m hA ?_; clear hA; intro hA; refine rn ?_) | (refine g_ow ?_; (first | refine t_alloc hA ?_ | refine ow_box rfl rfl hA ?_ | refine t_buildSlice rfl (by decide) rfl hA ?_); clear hA; (try clear w); intro b w hA; refine h_n hA ?_; clear hA; intro hA; refine rn ?_) | (refine g_ow ?_; refine t_make rfl rfl (by omega) (by omega) hA ?_; clear hA; (try clear w); intro v w hA hone hnil; refine rn ?_) | refine wc_pp rfl (fun h => ?_) (fun h => ?_) | refine wc_nn rfl (fun h => ?_) (fun h => ?_) | refine rl_pp rfl (fun h => o_n ?_) (fun h => rn ?_) | refine rl_qq rfl (fun h => o_n ?_) (fun h => rn ?_) | refine rl_nn rfl (fun h => o_n ?_) (fun h => rn ?_) | refine rl_mm rfl (fun h => o_n ?_) (fun h => rn ?_))
      exact mq_normal ⟨0, p1, (ex_getD rfl), rfl, hA⟩
  clear hA
  rintro l w ⟨mo, p2, ⟨jk, rfl⟩, hmo, hA⟩
  repeat' (first | refine st ?_ | (refine wc_regionS 7 rfl ?_; refine wc_region ?_) | (refine su ?_; refine rn ?_) | (refine g_conv ?_; refine p_c hA ?_; refine rn ?_) | (refine g_load ?_; (first | refine t_loadx rfl hA ?_ | refine t_loada rfl hA ?_); refine rn ?_) | (refine g_call ?_; refine t_appx rfl rfl hA rfl ?_; clear hA; (try clear w); intro v w hA hone hnil; refine h_n hA ?_; clear hA; intro hA; refine rn ?_) | (refine g_store ?_; (first | refine t_storex rfl rfl hA ?_ | refine t_storea rfl rfl hA ?_); clear hA; (try clear w); intro w hA; refine h_m hA ?_; clear hA; intro hA; refine rn ?_) | (refine g_ow ?_; (first | refine t_alloc hA ?_ | refine ow_box rfl rfl hA ?_ | refine t_buildSlice rfl (by decide) rfl hA ?_); clear hA; (try clear w); intro b w hA; refine h_n hA ?_; clear hA; intro hA; refine rn ?_) | (refine g_ow ?_; refine t_make rfl rfl (by omega) (by omega) hA ?_; clear hA; (try clear w); intro v w hA hone hnil; refine rn ?_) | refine wc_pp rfl (fun h => ?_) (fun h => ?_) | refine wc_nn rfl (fun h => ?_) (fun h => ?_) | refine rl_pp rfl (fun h => o_n ?_) (fun h => rn ?_) | refine rl_qq rfl (fun h => o_n ?_) (fun h => rn ?_) | refine rl_nn rfl (fun h => o_n ?_) (fun h => rn ?_) | refine rl_mm rfl (fun h => o_n ?_) (fun h => rn ?_))
  refine wc_region ?_
  refine' rl_v hA ?o7_0 ?k7_0
  case o7_0 => intro w hA; first | (refine t_fieldAddr rfl ?_; exact ⟨pe, hA⟩)
  case' k7_0 => clear hA; intro w hA; refine rn ?_
  refine' rl_v hA ?o7_1 ?k7_1
  case o7_1 => intro w hA; first | (refine t_loadx rfl hA ?_; exact ⟨pe, hA⟩) | (refine t_loada rfl hA ?_; exact ⟨pe, hA⟩)
  case' k7_1 => clear hA; intro w hA; refine rn ?_
  refine' rl_v hA ?o7_2 ?k7_2
  case o7_2 => intro w hA; first | (refine ow_eql rfl rfl ?_; exact ⟨pe, hA⟩) | (refine ow_eqs rfl rfl ?_; exact ⟨pe, hA⟩) | (refine t_eqlb rfl rfl ?_; exact ⟨pe, hA⟩)
  case' k7_2 => clear hA; intro w hA; refine rn ?_
  refine' rl_v hA ?o7_3 ?k7_3
  case o7_3 => intro w hA; first | (refine ow_move_v rfl ?_; exact ⟨pe, hA⟩)
  case' k7_3 => clear hA; intro w hA; refine rn ?_
  first | refine' rl_F rfl hA ?o7_4 ?k7_4 | refine' rl_Fn rfl hA ?o7_4 ?k7_4
  case o7_4 => intro hg w hA; first | (refine t_fieldAddr opr ?_; exact ⟨pe, hA⟩)
  case' k7_4 => clear hA; intro w hA; refine rn ?_
  first | refine' rl_F rfl hA ?o7_5 ?k7_5 | refine' rl_Fn rfl hA ?o7_5 ?k7_5
  case o7_5 => intro hg w hA; first | (refine t_loadx opr hA ?_; exact ⟨pe, hA⟩) | (refine t_loada opr hA ?_; exact ⟨pe, hA⟩)
  case' k7_5 => clear hA; intro w hA; refine rn ?_
  first | refine' rl_F rfl hA ?o7_6 ?k7_6 | refine' rl_Fn rfl hA ?o7_6 ?k7_6
  case o7_6 => intro hg w hA; first | (refine ow_eql opr opr ?_; exact ⟨pe, hA⟩) | (refine ow_eqs opr opr ?_; exact ⟨pe, hA⟩) | (refine t_eqlb opr opr ?_; exact ⟨pe, hA⟩)
  case' k7_6 => clear hA; intro w hA; refine rn ?_
  refine' rl_v hA ?o7_7 ?k7_7
  case o7_7 => intro w hA; first | (refine ow_or rfl rfl (by first | rfl) ?_; exact ⟨pe, hA⟩) | (refine ow_pick rfl rfl rfl ?_; exact ⟨pe, hA⟩)
  case' k7_7 => clear hA; intro w hA; refine rn ?_
  refine rl_nil ?_
  refine tq_normal ?_
  refine wc_mid (fun l w => ∃ (ch : UInt8) (p3 : Nat), (∃ jk : Nat → Value, l = [.pointer (some ⟨bx, 0, none⟩), .bool intra, vi refs, jk 3, jk 4, jk 5, .pointer (some ⟨b6, 0, none⟩), .pointer (some ⟨b7, 0, none⟩), jk 8, jk 9, jk 10, jk 11, jk 12, jk 13, jk 14, jk 15, jk 16, jk 17, jk 18, jk 19, jk 20, jk 21, jk 22, jk 23, jk 24, jk 25, jk 26, jk 27, jk 28, jk 29, jk 30, jk 31, jk 32, jk 33, jk 34, jk 35, jk 36, jk 37, jk 38, jk 39, jk 40, jk 41, jk 42, jk 43, jk 44, jk 45, jk 46, jk 47, jk 48, jk 49, jk 50, jk 51, jk 52, jk 53, jk 54, jk 55, jk 56, jk 57, jk 58, jk 59, jk 60, jk 61, jk 62, jk 63, jk 64, jk 65, jk 66, jk 67, jk 68, jk 69, jk 70, jk 71, jk 72, jk 73, jk 74, jk 75, jk 76, jk 77, jk 78, jk 79, jk 80, jk 81, jk 82, jk 83, jk 84, jk 85, jk 86, jk 87, jk 88, jk 89, jk 90, jk 91, jk 92, jk 93, jk 94, jk 95, jk 96, jk 97, jk 98, jk 99, jk 100, jk 101, jk 102, jk 103, jk 104, jk 105, jk 106, jk 107, jk 108, jk 109, jk 110, jk 111, jk 112, jk 113, jk 114, jk 115, jk 116, jk 117, jk 118, jk 119, jk 120, jk 121, jk 122, jk 123, jk 124, jk 125, jk 126, jk 127, jk 128, jk 129, jk 130, jk 131, jk 132, jk 133, jk 134, jk 135, jk 136, jk 137, jk 138, jk 139, jk 140, jk 141, jk 142, jk 143, jk 144, jk 145, jk 146, jk 147, jk 148, jk 149, jk 150, jk 151, jk 152]) ∧ optP (decide (k.toNat ≤ 1)) (u8P 4) 0 (strm s) p2 = (ch, p3) ∧ Sat E (srcT bx s p3 :: cells b7 (fC k mo ch (vec16 []) (vec4 []) 0 0 nilV nilV nilV) 28 :: cells b6 zM 28 :: L) w) ?_ ?_
  · refine wc_bb rfl (fun h => ?_) (fun h => ?_)
    · have h' : k.toNat ≤ 1 := by simp only [Bool.or_eq_true, decide_eq_true_eq] at h; omega
      unfold optP
      rw [decide_eq_true h', if_pos rfl]
      have ht : (tk 4 (strm s) p2).1 < 4 := Nat.mod_lt _ (by decide)
      repeat' (first | (refine g_callf 88 ?_; refine ow_call Tryd.call88 rfl ((takeT_calls _ _ _ _ _ _ 4 4 rfl (by omega) hs hA).mono ?_); clear hA; (try clear w); rintro e w ⟨rfl, hA⟩; refine ⟨_, rfl, ?_⟩; refine rn ?_) | (refine g_ow ?_; refine t_conv8 rfl (by omega) ?_; rw [u8_small _ (by omega)]; refine rn ?_) | refine st ?_ | (refine wc_region ?_) | (refine su ?_; refine rn ?_) | (refine g_conv ?_; refine p_c hA ?_; refine rn ?_) | (refine g_load ?_; (first | refine t_loadx rfl hA ?_ | refine t_loada rfl hA ?_); refine rn ?_) | (refine g_call ?_; refine t_appx rfl rfl hA rfl ?_; clear hA; (try clear w); intro v w hA hone hnil; refine h_n hA ?_; clear hA; intro hA; refine rn ?_) | (refine g_store ?_; (first | refine t_storex rfl rfl hA ?_ | refine t_storea rfl rfl hA ?_); clear hA; (try clear w); intro w hA; refine h_m hA ?_; clear hA; intro hA; refine rn ?_) | (refine g_ow ?_; (first | refine t_alloc hA ?_ | refine ow_box rfl rfl hA ?_ | refine t_buildSlice rfl (by decide) rfl hA ?_); clear hA; (try clear w); intro b w hA; refine h_n hA ?_; clear hA; intro hA; refine rn ?_) | (refine g_ow ?_; refine t_make rfl rfl (by omega) (by omega) hA ?_; clear hA; (try clear w); intro v w hA hone hnil; refine rn ?_) | refine wc_pp rfl (fun h => ?_) (fun h => ?_) | refine wc_nn rfl (fun h => ?_) (fun h => ?_) | refine rl_pp rfl (fun h => o_n ?_) (fun h => rn ?_) | refine rl_qq rfl (fun h => o_n ?_) (fun h => rn ?_) | refine rl_nn rfl (fun h => o_n ?_) (fun h => rn ?_) | refine rl_mm rfl (fun h => o_n ?_) (fun h => rn ?_))
      exact mq_normal ⟨_, _, (ex_getD rfl), rfl, hA⟩
    · have h' : ¬ (k.toNat ≤ 1) := by simp only [Bool.or_eq_false_iff, decide_eq_false_iff_not] at h; omega
      unfold optP
      rw [decide_eq_false h', if_neg (by decide)]
      repeat' (first | refine st ?_ | (refine wc_region ?_) | (refine su ?_; refine rn ?_) | (refine g_conv ?_; refine p_c hA ?_; refine rn ?_) | (refine g_load ?_; (first | refine t_loadx rfl hA ?_ | refine t_loada rfl hA ?_); refine rn ?_) | (refine g_call ?_; refine t_appx rfl rfl hA rfl ?_; clear hA; (try clear w); intro v w hA hone hnil; refine h_n hA ?_; clear hA; intro hA; refine rn ?_) | (refine g_store ?_; (first | refine t_storex rfl rfl hA ?_ | refine t_storea rfl rfl hA ?_); clear hA; (try clear w); intro w hA; refine h_m hA ?_; clear hA; intro hA; refine rn ?_) | (refine g_ow ?_; (first | refine t_alloc hA ?_ | refine ow_box rfl rfl hA ?_ | refine t_buildSlice rfl (by decide) rfl hA ?_); clear hA; (try clear w); intro b w hA; refine h_n hA ?_; clear hA; intro hA; refine rn ?_) | (refine g_ow ?_; refine t_make rfl rfl (by omega) (by omega) hA ?_; clear hA; (try clear w); intro v w hA hone hnil; refine rn ?_) | refine wc_pp rfl (fun h => ?_) (fun h => ?_) | refine wc_nn rfl (fun h => ?_) (fun h => ?_) | refine rl_pp rfl (fun h => o_n ?_) (fun h => rn ?_) | refine rl_qq rfl (fun h => o_n ?_) (fun h => rn ?_) | refine rl_nn rfl (fun h => o_n ?_) (fun h => rn ?_) | refine rl_mm rfl (fun h => o_n ?_) (fun h => rn ?_))
      exact mq_normal ⟨0, p2, (ex_getD rfl), rfl, hA⟩
  clear hA
  rintro l w ⟨ch, p3, ⟨jk, rfl⟩, hch, hA⟩
  repeat' (first | refine st ?_ | (refine wc_regionS 10 rfl ?_; refine wc_region ?_) | (refine su ?_; refine rn ?_) | (refine g_conv ?_; refine p_c hA ?_; refine rn ?_) | (refine g_load ?_; (first | refine t_loadx rfl hA ?_ | refine t_loada rfl hA ?_); refine rn ?_) | (refine g_call ?_; refine t_appx rfl rfl hA rfl ?_; clear hA; (try clear w); intro v w hA hone hnil; refine h_n hA ?_; clear hA; intro hA; refine rn ?_) | (refine g_store ?_; (first | refine t_storex rfl rfl hA ?_ | refine t_storea rfl rfl hA ?_); clear hA; (try clear w); intro w hA; refine h_m hA ?_; clear hA; intro hA; refine rn ?_) | (refine g_ow ?_; (first | refine t_alloc hA ?_ | refine ow_box rfl rfl hA ?_ | refine t_buildSlice rfl (by decide) rfl hA ?_); clear hA; (try clear w); intro b w hA; refine h_n hA ?_; clear hA; intro hA; refine rn ?_) | (refine g_ow ?_; refine t_make rfl rfl (by omega) (by omega) hA ?_; clear hA; (try clear w); intro v w hA hone hnil; refine rn ?_) | refine wc_pp rfl (fun h => ?_) (fun h => ?_) | refine wc_nn rfl (fun h => ?_) (fun h => ?_) | refine rl_pp rfl (fun h => o_n ?_) (fun h => rn ?_) | refine rl_qq rfl (fun h => o_n ?_) (fun h => rn ?_) | refine rl_nn rfl (fun h => o_n ?_) (fun h => rn ?_) | refine rl_mm rfl (fun h => o_n ?_) (fun h => rn ?_))
  have hl0 : Sat E (srcT bx s (repP (u8P 9) 0 (strm s) p3).2 :: cells b7 (mbC (mM k mo ch (vec16 (repP (u8P 9) 0 (strm s) p3).1) []) nilV nilV nilV) 28 :: cells b6 zM 28 :: L) w := hA
  clear hA
  refine wc_loopn (fun q l w => ∃ (i : Nat), (∃ jk : Nat → Value, l = [.pointer (some ⟨bx, 0, none⟩), .bool intra, vi refs, jk 3, jk 4, jk 5, .pointer (some ⟨b6, 0, none⟩), .pointer (some ⟨b7, 0, none⟩), .int .i64 (i : Int), jk 9, jk 10, jk 11, jk 12, jk 13, jk 14, jk 15, jk 16, jk 17, jk 18, jk 19, jk 20, jk 21, jk 22, jk 23, jk 24, jk 25, jk 26, jk 27, jk 28, jk 29, jk 30, jk 31, jk 32, jk 33, jk 34, jk 35, jk 36, jk 37, jk 38, jk 39, jk 40, jk 41, jk 42, jk 43, jk 44, jk 45, jk 46, jk 47, jk 48, jk 49, jk 50, jk 51, jk 52, jk 53, jk 54, jk 55, jk 56, jk 57, jk 58, jk 59, jk 60, jk 61, jk 62, jk 63, jk 64, jk 65, jk 66, jk 67, jk 68, jk 69, jk 70, jk 71, jk 72, jk 73, jk 74, jk 75, jk 76, jk 77, jk 78, jk 79, jk 80, jk 81, jk 82, jk 83, jk 84, jk 85, jk 86, jk 87, jk 88, jk 89, jk 90, jk 91, jk 92, jk 93, jk 94, jk 95, jk 96, jk 97, jk 98, jk 99, jk 100, jk 101, jk 102, jk 103, jk 104, jk 105, jk 106, jk 107, jk 108, jk 109, jk 110, jk 111, jk 112, jk 113, jk 114, jk 115, jk 116, jk 117, jk 118, jk 119, jk 120, jk 121, jk 122, jk 123, jk 124, jk 125, jk 126, jk 127, jk 128, jk 129, jk 130, jk 131, jk 132, jk 133, jk 134, jk 135, jk 136, jk 137, jk 138, jk 139, jk 140, jk 141, jk 142, jk 143, jk 144, jk 145, jk 146, jk 147, jk 148, jk 149, jk 150, jk 151, jk 152]) ∧ i + q = (if k.toNat = 0 then 16 else 0) ∧ Sat E (srcT bx s (repP (u8P 9) i (strm s) p3).2 :: cells b7 (mbC (mM k mo ch (vec16 (repP (u8P 9) i (strm s) p3).1) []) nilV nilV nilV) 28 :: cells b6 zM 28 :: L) w) ((if k.toNat = 0 then 16 else 0)) ⟨0, (ex_getD rfl), by omega, hl0⟩ ?_
  clear hl0
  rintro q l w ⟨i, ⟨jk, rfl⟩, hi, hA⟩
  have hlen := rep_len (u8P 9) (strm s) p3 i
  have hkk : ∀ pr sl, (mM k mo ch pr sl).kind = k := fun _ _ => rfl
  have hA : Sat E (srcT bx s (repP (u8P 9) i (strm s) p3).2 :: cells b7 (fC k mo ch (vec16 (repP (u8P 9) i (strm s) p3).1) (vec4 []) 0 0 nilV nilV nilV) 28 :: cells b6 zM 28 :: L) w := hA
  repeat' (first | refine st ?_ | (refine wc_regionS 10 rfl ?_; refine wc_region ?_) | (refine su ?_; refine rn ?_) | (refine g_conv ?_; refine p_c hA ?_; refine rn ?_) | (refine g_load ?_; (first | refine t_loadx rfl hA ?_ | refine t_loada rfl hA ?_); refine rn ?_) | (refine g_call ?_; refine t_appx rfl rfl hA rfl ?_; clear hA; (try clear w); intro v w hA hone hnil; refine h_n hA ?_; clear hA; intro hA; refine rn ?_) | (refine g_store ?_; (first | refine t_storex rfl rfl hA ?_ | refine t_storea rfl rfl hA ?_); clear hA; (try clear w); intro w hA; refine h_m hA ?_; clear hA; intro hA; refine rn ?_) | (refine g_ow ?_; (first | refine t_alloc hA ?_ | refine ow_box rfl rfl hA ?_ | refine t_buildSlice rfl (by decide) rfl hA ?_); clear hA; (try clear w); intro b w hA; refine h_n hA ?_; clear hA; intro hA; refine rn ?_) | (refine g_ow ?_; refine t_make rfl rfl (by omega) (by omega) hA ?_; clear hA; (try clear w); intro v w hA hone hnil; refine rn ?_) | refine wc_pp rfl (fun h => ?_) (fun h => ?_) | refine wc_nn rfl (fun h => ?_) (fun h => ?_) | refine rl_pp rfl (fun h => o_n ?_) (fun h => rn ?_) | refine rl_qq rfl (fun h => o_n ?_) (fun h => rn ?_) | refine rl_nn rfl (fun h => o_n ?_) (fun h => rn ?_) | refine rl_mm rfl (fun h => o_n ?_) (fun h => rn ?_))
  refine wc_region ?_
  refine' rl_v hA ?o10_0 ?k10_0
  case o10_0 => intro w hA; first | (refine t_fieldAddr rfl ?_; exact ⟨pe, hA⟩)
  case' k10_0 => clear hA; intro w hA; refine rn ?_
  refine' rl_v hA ?o10_1 ?k10_1
  case o10_1 => intro w hA; first | (refine t_loadx rfl hA ?_; exact ⟨pe, hA⟩) | (refine t_loada rfl hA ?_; exact ⟨pe, hA⟩)
  case' k10_1 => clear hA; intro w hA; refine rn ?_
  refine' rl_v hA ?o10_2 ?k10_2
  case o10_2 => intro w hA; first | (refine ow_eql rfl rfl ?_; exact ⟨pe, hA⟩) | (refine ow_eqs rfl rfl ?_; exact ⟨pe, hA⟩) | (refine t_eqlb rfl rfl ?_; exact ⟨pe, hA⟩)
  case' k10_2 => clear hA; intro w hA; refine rn ?_
  refine' rl_v hA ?o10_3 ?k10_3
  case o10_3 => intro w hA; first | (refine ow_move_v rfl ?_; exact ⟨pe, hA⟩)
  case' k10_3 => clear hA; intro w hA; refine rn ?_
  first | refine' rl_T rfl hA ?o10_4 ?k10_4 | refine' rl_Tn rfl hA ?o10_4 ?k10_4
  case o10_4 => intro hg w hA; first | (refine ow_move_v opr ?_; exact ⟨pe, hA⟩)
  case' k10_4 => clear hA; intro w hA; refine rn ?_
  first | refine' rl_T rfl hA ?o10_5 ?k10_5 | refine' rl_Tn rfl hA ?o10_5 ?k10_5
  case o10_5 => intro hg w hA; first | (refine ow_lss opr opr ?_; exact ⟨pe, hA⟩)
  case' k10_5 => clear hA; intro w hA; refine rn ?_
  refine' rl_v hA ?o10_6 ?k10_6
  case o10_6 => intro w hA; first | (refine ow_and rfl (by first | rfl) rfl ?_; exact ⟨pe, hA⟩) | (refine ow_pick rfl rfl rfl ?_; exact ⟨pe, hA⟩)
  case' k10_6 => clear hA; intro w hA; refine rn ?_
  refine rl_nil ?_
  refine tq_normal ?_
  refine wc_bb rfl (fun h => ?_) (fun h => ?_)
  · have hlt : k.toNat = 0 ∧ i < 16 := by simp only [Bool.and_eq_true, decide_eq_true_eq] at h; omega
    rw [if_pos hlt.1] at hi
    have hstep : repP (u8P 9) (i + 1) (strm s) p3 = ((repP (u8P 9) i (strm s) p3).1 ++ [UInt8.ofNat (tk 9 (strm s) (repP (u8P 9) i (strm s) p3).2).1], (repP (u8P 9) i (strm s) p3).2 + 1) := rfl
    generalize repP (u8P 9) i (strm s) p3 = r at *
    have ht9 : (tk 9 (strm s) r.2).1 < 9 := Nat.mod_lt _ (by decide)
    have hset := mM_pred k mo ch r.1 (UInt8.ofNat (tk 9 (strm s) r.2).1) nilV nilV nilV (by omega)
    rw [hlen] at hset
    repeat' (first | (refine g_callf 88 ?_; refine ow_call Tryd.call88 rfl ((takeT_calls _ _ _ _ _ _ 9 9 rfl (by omega) hs hA).mono ?_); clear hA; (try clear w); rintro e w ⟨rfl, hA⟩; refine ⟨_, rfl, ?_⟩; refine rn ?_) | (refine g_ow ?_; refine t_conv8 rfl (by omega) ?_; rw [u8_small _ (by omega)]; refine rn ?_) | (refine g_ow ?_; refine t_indexAddrA rfl rfl (by omega) ?_; refine rn ?_) | (refine g_ow ?_; refine t_store 1 rfl rfl rfl hA rfl (by show 3 + (i : Int).toNat * 1 < 29; omega) ?_; clear hA; intro w hA; refine rn ?_) | refine st ?_ | (refine wc_region ?_) | (refine su ?_; refine rn ?_) | (refine g_conv ?_; refine p_c hA ?_; refine rn ?_) | (refine g_load ?_; (first | refine t_loadx rfl hA ?_ | refine t_loada rfl hA ?_); refine rn ?_) | (refine g_call ?_; refine t_appx rfl rfl hA rfl ?_; clear hA; (try clear w); intro v w hA hone hnil; refine h_n hA ?_; clear hA; intro hA; refine rn ?_) | (refine g_store ?_; (first | refine t_storex rfl rfl hA ?_ | refine t_storea rfl rfl hA ?_); clear hA; (try clear w); intro w hA; refine h_m hA ?_; clear hA; intro hA; refine rn ?_) | (refine g_ow ?_; (first | refine t_alloc hA ?_ | refine ow_box rfl rfl hA ?_ | refine t_buildSlice rfl (by decide) rfl hA ?_); clear hA; (try clear w); intro b w hA; refine h_n hA ?_; clear hA; intro hA; refine rn ?_) | (refine g_ow ?_; refine t_make rfl rfl (by omega) (by omega) hA ?_; clear hA; (try clear w); intro v w hA hone hnil; refine rn ?_) | refine wc_pp rfl (fun h => ?_) (fun h => ?_) | refine wc_nn rfl (fun h => ?_) (fun h => ?_) | refine rl_pp rfl (fun h => o_n ?_) (fun h => rn ?_) | refine rl_qq rfl (fun h => o_n ?_) (fun h => rn ?_) | refine rl_nn rfl (fun h => o_n ?_) (fun h => rn ?_) | refine rl_mm rfl (fun h => o_n ?_) (fun h => rn ?_))
    have hA : Sat E (srcT bx s (r.2 + 1) :: cells b7 ((mbC (mM k mo ch (vec16 r.1) []) nilV nilV nilV).set (3 + (i : Int).toNat * 1) (u8 (UInt8.ofNat (tk 9 (strm s) r.2).1))) 28 :: cells b6 zM 28 :: L) w := hA
    rw [Int.toNat_natCast, Nat.mul_one, hset] at hA
    exact lq_next (q - 1) (by omega) ⟨i + 1, (ex_getD rfl), by rw [if_pos hlt.1]; omega, by rw [hstep]; exact hA⟩
  have hiN : i = (if k.toNat = 0 then 16 else 0) := by
    simp only [Bool.and_eq_false_iff, decide_eq_false_iff_not] at h
    split at hi <;> split <;> omega
  have hpr0 : optP (decide (k.toNat = 0)) (repP (u8P 9) 16) [] (strm s) p3 = repP (u8P 9) (if k.toNat = 0 then 16 else 0) (strm s) p3 := by
    unfold optP
    by_cases h0 : k.toNat = 0
    · rw [decide_eq_true h0, if_pos rfl, if_pos h0]
    · rw [decide_eq_false h0, if_neg (by decide), if_neg h0]
      rfl
  rw [← hiN] at hpr0
  clear hiN hi hlen hkk h
  rcases hpr : repP (u8P 9) i (strm s) p3 with ⟨pr, p4⟩
  rw [hpr] at hA hpr0
  dsimp only at hA
  clear hpr
  repeat' (first | refine st ?_ | (refine wc_regionS 14 rfl ?_; refine wc_region ?_) | (refine su ?_; refine rn ?_) | (refine g_conv ?_; refine p_c hA ?_; refine rn ?_) | (refine g_load ?_; (first | refine t_loadx rfl hA ?_ | refine t_loada rfl hA ?_); refine rn ?_) | (refine g_call ?_; refine t_appx rfl rfl hA rfl ?_; clear hA; (try clear w); intro v w hA hone hnil; refine h_n hA ?_; clear hA; intro hA; refine rn ?_) | (refine g_store ?_; (first | refine t_storex rfl rfl hA ?_ | refine t_storea rfl rfl hA ?_); clear hA; (try clear w); intro w hA; refine h_m hA ?_; clear hA; intro hA; refine rn ?_) | (refine g_ow ?_; (first | refine t_alloc hA ?_ | refine ow_box rfl rfl hA ?_ | refine t_buildSlice rfl (by decide) rfl hA ?_); clear hA; (try clear w); intro b w hA; refine h_n hA ?_; clear hA; intro hA; refine rn ?_) | (refine g_ow ?_; refine t_make rfl rfl (by omega) (by omega) hA ?_; clear hA; (try clear w); intro v w hA hone hnil; refine rn ?_) | refine wc_pp rfl (fun h => ?_) (fun h => ?_) | refine wc_nn rfl (fun h => ?_) (fun h => ?_) | refine rl_pp rfl (fun h => o_n ?_) (fun h => rn ?_) | refine rl_qq rfl (fun h => o_n ?_) (fun h => rn ?_) | refine rl_nn rfl (fun h => o_n ?_) (fun h => rn ?_) | refine rl_mm rfl (fun h => o_n ?_) (fun h => rn ?_))
  have hl0 : Sat E (srcT bx s (repP (u8P 4) 0 (strm s) p4).2 :: cells b7 (mbC (mM k mo ch (vec16 pr) (repP (u8P 4) 0 (strm s) p4).1) nilV nilV nilV) 28 :: cells b6 zM 28 :: L) w := hA
  clear hA
  refine wc_loopn (fun q l w => ∃ (i : Nat), (∃ jk : Nat → Value, l = [.pointer (some ⟨bx, 0, none⟩), .bool intra, vi refs, jk 3, jk 4, jk 5, .pointer (some ⟨b6, 0, none⟩), .pointer (some ⟨b7, 0, none⟩), jk 8, .int .i64 (i : Int), jk 10, jk 11, jk 12, jk 13, jk 14, jk 15, jk 16, jk 17, jk 18, jk 19, jk 20, jk 21, jk 22, jk 23, jk 24, jk 25, jk 26, jk 27, jk 28, jk 29, jk 30, jk 31, jk 32, jk 33, jk 34, jk 35, jk 36, jk 37, jk 38, jk 39, jk 40, jk 41, jk 42, jk 43, jk 44, jk 45, jk 46, jk 47, jk 48, jk 49, jk 50, jk 51, jk 52, jk 53, jk 54, jk 55, jk 56, jk 57, jk 58, jk 59, jk 60, jk 61, jk 62, jk 63, jk 64, jk 65, jk 66, jk 67, jk 68, jk 69, jk 70, jk 71, jk 72, jk 73, jk 74, jk 75, jk 76, jk 77, jk 78, jk 79, jk 80, jk 81, jk 82, jk 83, jk 84, jk 85, jk 86, jk 87, jk 88, jk 89, jk 90, jk 91, jk 92, jk 93, jk 94, jk 95, jk 96, jk 97, jk 98, jk 99, jk 100, jk 101, jk 102, jk 103, jk 104, jk 105, jk 106, jk 107, jk 108, jk 109, jk 110, jk 111, jk 112, jk 113, jk 114, jk 115, jk 116, jk 117, jk 118, jk 119, jk 120, jk 121, jk 122, jk 123, jk 124, jk 125, jk 126, jk 127, jk 128, jk 129, jk 130, jk 131, jk 132, jk 133, jk 134, jk 135, jk 136, jk 137, jk 138, jk 139, jk 140, jk 141, jk 142, jk 143, jk 144, jk 145, jk 146, jk 147, jk 148, jk 149, jk 150, jk 151, jk 152]) ∧ i + q = (if k.toNat = 6 then 4 else 0) ∧ Sat E (srcT bx s (repP (u8P 4) i (strm s) p4).2 :: cells b7 (mbC (mM k mo ch (vec16 pr) (repP (u8P 4) i (strm s) p4).1) nilV nilV nilV) 28 :: cells b6 zM 28 :: L) w) ((if k.toNat = 6 then 4 else 0)) ⟨0, (ex_getD rfl), by omega, hl0⟩ ?_
  clear hl0
  rintro q l w ⟨i, ⟨jk, rfl⟩, hi, hA⟩
  have hlen := rep_len (u8P 4) (strm s) p4 i
  have hkk : ∀ pr sl, (mM k mo ch pr sl).kind = k := fun _ _ => rfl
  have hA : Sat E (srcT bx s (repP (u8P 4) i (strm s) p4).2 :: cells b7 (fC k mo ch (vec16 pr) (vec4 (repP (u8P 4) i (strm s) p4).1) 0 0 nilV nilV nilV) 28 :: cells b6 zM 28 :: L) w := hA
  repeat' (first | refine st ?_ | (refine wc_regionS 14 rfl ?_; refine wc_region ?_) | (refine su ?_; refine rn ?_) | (refine g_conv ?_; refine p_c hA ?_; refine rn ?_) | (refine g_load ?_; (first | refine t_loadx rfl hA ?_ | refine t_loada rfl hA ?_); refine rn ?_) | (refine g_call ?_; refine t_appx rfl rfl hA rfl ?_; clear hA; (try clear w); intro v w hA hone hnil; refine h_n hA ?_; clear hA; intro hA; refine rn ?_) | (refine g_store ?_; (first | refine t_storex rfl rfl hA ?_ | refine t_storea rfl rfl hA ?_); clear hA; (try clear w); intro w hA; refine h_m hA ?_; clear hA; intro hA; refine rn ?_) | (refine g_ow ?_; (first | refine t_alloc hA ?_ | refine ow_box rfl rfl hA ?_ | refine t_buildSlice rfl (by decide) rfl hA ?_); clear hA; (try clear w); intro b w hA; refine h_n hA ?_; clear hA; intro hA; refine rn ?_) | (refine g_ow ?_; refine t_make rfl rfl (by omega) (by omega) hA ?_; clear hA; (try clear w); intro v w hA hone hnil; refine rn ?_) | refine wc_pp rfl (fun h => ?_) (fun h => ?_) | refine wc_nn rfl (fun h => ?_) (fun h => ?_) | refine rl_pp rfl (fun h => o_n ?_) (fun h => rn ?_) | refine rl_qq rfl (fun h => o_n ?_) (fun h => rn ?_) | refine rl_nn rfl (fun h => o_n ?_) (fun h => rn ?_) | refine rl_mm rfl (fun h => o_n ?_) (fun h => rn ?_))
  refine wc_region ?_
  refine' rl_v hA ?o14_0 ?k14_0
  case o14_0 => intro w hA; first | (refine t_fieldAddr rfl ?_; exact ⟨pe, hA⟩)
  case' k14_0 => clear hA; intro w hA; refine rn ?_
  refine' rl_v hA ?o14_1 ?k14_1
  case o14_1 => intro w hA; first | (refine t_loadx rfl hA ?_; exact ⟨pe, hA⟩) | (refine t_loada rfl hA ?_; exact ⟨pe, hA⟩)
  case' k14_1 => clear hA; intro w hA; refine rn ?_
  refine' rl_v hA ?o14_2 ?k14_2
  case o14_2 => intro w hA; first | (refine ow_eql rfl rfl ?_; exact ⟨pe, hA⟩) | (refine ow_eqs rfl rfl ?_; exact ⟨pe, hA⟩) | (refine t_eqlb rfl rfl ?_; exact ⟨pe, hA⟩)
  case' k14_2 => clear hA; intro w hA; refine rn ?_
  refine' rl_v hA ?o14_3 ?k14_3
  case o14_3 => intro w hA; first | (refine ow_move_v rfl ?_; exact ⟨pe, hA⟩)
  case' k14_3 => clear hA; intro w hA; refine rn ?_
  first | refine' rl_T rfl hA ?o14_4 ?k14_4 | refine' rl_Tn rfl hA ?o14_4 ?k14_4
  case o14_4 => intro hg w hA; first | (refine ow_move_v opr ?_; exact ⟨pe, hA⟩)
  case' k14_4 => clear hA; intro w hA; refine rn ?_
  first | refine' rl_T rfl hA ?o14_5 ?k14_5 | refine' rl_Tn rfl hA ?o14_5 ?k14_5
  case o14_5 => intro hg w hA; first | (refine ow_lss opr opr ?_; exact ⟨pe, hA⟩)
  case' k14_5 => clear hA; intro w hA; refine rn ?_
  refine' rl_v hA ?o14_6 ?k14_6
  case o14_6 => intro w hA; first | (refine ow_and rfl (by first | rfl) rfl ?_; exact ⟨pe, hA⟩) | (refine ow_pick rfl rfl rfl ?_; exact ⟨pe, hA⟩)
  case' k14_6 => clear hA; intro w hA; refine rn ?_
  refine rl_nil ?_
  refine tq_normal ?_
  refine wc_bb rfl (fun h => ?_) (fun h => ?_)
  · have hlt : k.toNat = 6 ∧ i < 4 := by simp only [Bool.and_eq_true, decide_eq_true_eq] at h; omega
    rw [if_pos hlt.1] at hi
    have hstep : repP (u8P 4) (i + 1) (strm s) p4 = ((repP (u8P 4) i (strm s) p4).1 ++ [UInt8.ofNat (tk 4 (strm s) (repP (u8P 4) i (strm s) p4).2).1], (repP (u8P 4) i (strm s) p4).2 + 1) := rfl
    generalize repP (u8P 4) i (strm s) p4 = r at *
    have ht9 : (tk 4 (strm s) r.2).1 < 4 := Nat.mod_lt _ (by decide)
    have hset := mM_sub k mo ch (vec16 pr) r.1 (UInt8.ofNat (tk 4 (strm s) r.2).1) nilV nilV nilV (by omega)
    rw [hlen] at hset
    repeat' (first | (refine g_callf 88 ?_; refine ow_call Tryd.call88 rfl ((takeT_calls _ _ _ _ _ _ 4 4 rfl (by omega) hs hA).mono ?_); clear hA; (try clear w); rintro e w ⟨rfl, hA⟩; refine ⟨_, rfl, ?_⟩; refine rn ?_) | (refine g_ow ?_; refine t_conv8 rfl (by omega) ?_; rw [u8_small _ (by omega)]; refine rn ?_) | (refine g_ow ?_; refine t_indexAddrA rfl rfl (by omega) ?_; refine rn ?_) | (refine g_ow ?_; refine t_store 1 rfl rfl rfl hA rfl (by show 19 + (i : Int).toNat * 1 < 29; omega) ?_; clear hA; intro w hA; refine rn ?_) | refine st ?_ | (refine wc_region ?_) | (refine su ?_; refine rn ?_) | (refine g_conv ?_; refine p_c hA ?_; refine rn ?_) | (refine g_load ?_; (first | refine t_loadx rfl hA ?_ | refine t_loada rfl hA ?_); refine rn ?_) | (refine g_call ?_; refine t_appx rfl rfl hA rfl ?_; clear hA; (try clear w); intro v w hA hone hnil; refine h_n hA ?_; clear hA; intro hA; refine rn ?_) | (refine g_store ?_; (first | refine t_storex rfl rfl hA ?_ | refine t_storea rfl rfl hA ?_); clear hA; (try clear w); intro w hA; refine h_m hA ?_; clear hA; intro hA; refine rn ?_) | (refine g_ow ?_; (first | refine t_alloc hA ?_ | refine ow_box rfl rfl hA ?_ | refine t_buildSlice rfl (by decide) rfl hA ?_); clear hA; (try clear w); intro b w hA; refine h_n hA ?_; clear hA; intro hA; refine rn ?_) | (refine g_ow ?_; refine t_make rfl rfl (by omega) (by omega) hA ?_; clear hA; (try clear w); intro v w hA hone hnil; refine rn ?_) | refine wc_pp rfl (fun h => ?_) (fun h => ?_) | refine wc_nn rfl (fun h => ?_) (fun h => ?_) | refine rl_pp rfl (fun h => o_n ?_) (fun h => rn ?_) | refine rl_qq rfl (fun h => o_n ?_) (fun h => rn ?_) | refine rl_nn rfl (fun h => o_n ?_) (fun h => rn ?_) | refine rl_mm rfl (fun h => o_n ?_) (fun h => rn ?_))
    have hA : Sat E (srcT bx s (r.2 + 1) :: cells b7 ((mbC (mM k mo ch (vec16 pr) r.1) nilV nilV nilV).set (19 + (i : Int).toNat * 1) (u8 (UInt8.ofNat (tk 4 (strm s) r.2).1))) 28 :: cells b6 zM 28 :: L) w := hA
    rw [Int.toNat_natCast, Nat.mul_one, hset] at hA
    exact lq_next (q - 1) (by omega) ⟨i + 1, (ex_getD rfl), by rw [if_pos hlt.1]; omega, by rw [hstep]; exact hA⟩
  have hiN : i = (if k.toNat = 6 then 4 else 0) := by
    simp only [Bool.and_eq_false_iff, decide_eq_false_iff_not] at h
    split at hi <;> split <;> omega
  have hH := motH_eq k (strm s) p4
  rw [← hiN] at hH
  clear hiN hi hlen hkk h
  rcases hsl : repP (u8P 4) i (strm s) p4 with ⟨sl, p5⟩
  rw [hsl] at hA hH
  dsimp only at hA hH
  clear hsl
  have hpp : 0 < partsN k → 3 ≤ k.toNat := by
    intro hp
    unfold partsN at hp
    by_cases g3 : k.toNat = 3
    · omega
    rw [if_neg g3] at hp
    by_cases g4 : k.toNat = 4
    · omega
    rw [if_neg g4] at hp
    by_cases g5 : k.toNat = 5
    · omega
    rw [if_neg g5] at hp
    by_cases g6 : k.toNat = 6
    · omega
    rw [if_neg g6] at hp
    omega
  have hp4 : partsN k ≤ 4 := by unfold partsN; (repeat' split) <;> omega
  have hA : Sat E (srcT bx s p5 :: cells b7 (fC k mo ch (vec16 pr) (vec4 sl) 0 0 nilV nilV nilV) 28 :: cells b6 zM 28 :: L) w := hA
  have hA' := hA.nilRow 3 1
  clear hA
  have hA := hA'.perm (List.perm_middle (l₁ := [_, _])).symm
  clear hA'
  repeat' (first | refine st ?_ | (refine wc_regionS 18 rfl ?_; refine wc_region ?_) | (refine su ?_; refine rn ?_) | (refine g_conv ?_; refine p_c hA ?_; refine rn ?_) | (refine g_load ?_; (first | refine t_loadx rfl hA ?_ | refine t_loada rfl hA ?_); refine rn ?_) | (refine g_call ?_; refine t_appx rfl rfl hA rfl ?_; clear hA; (try clear w); intro v w hA hone hnil; refine h_n hA ?_; clear hA; intro hA; refine rn ?_) | (refine g_store ?_; (first | refine t_storex rfl rfl hA ?_ | refine t_storea rfl rfl hA ?_); clear hA; (try clear w); intro w hA; refine h_m hA ?_; clear hA; intro hA; refine rn ?_) | (refine g_ow ?_; (first | refine t_alloc hA ?_ | refine ow_box rfl rfl hA ?_ | refine t_buildSlice rfl (by decide) rfl hA ?_); clear hA; (try clear w); intro b w hA; refine h_n hA ?_; clear hA; intro hA; refine rn ?_) | (refine g_ow ?_; refine t_make rfl rfl (by omega) (by omega) hA ?_; clear hA; (try clear w); intro v w hA hone hnil; refine rn ?_) | refine wc_pp rfl (fun h => ?_) (fun h => ?_) | refine wc_nn rfl (fun h => ?_) (fun h => ?_) | refine rl_pp rfl (fun h => o_n ?_) (fun h => rn ?_) | refine rl_qq rfl (fun h => o_n ?_) (fun h => rn ?_) | refine rl_nn rfl (fun h => o_n ?_) (fun h => rn ?_) | refine rl_mm rfl (fun h => o_n ?_) (fun h => rn ?_))
  refine wc_loopn (fun q l w => ∃ (i : Nat) (q1 : Value), (∃ jk : Nat → Value, l = [.pointer (some ⟨bx, 0, none⟩), .bool intra, vi refs, jk 3, jk 4, jk 5, .pointer (some ⟨b6, 0, none⟩), .pointer (some ⟨b7, 0, none⟩), jk 8, jk 9, .int .i64 (i : Int), jk 11, jk 12, jk 13, jk 14, jk 15, jk 16, jk 17, jk 18, jk 19, jk 20, jk 21, jk 22, jk 23, jk 24, jk 25, jk 26, jk 27, jk 28, jk 29, jk 30, jk 31, jk 32, jk 33, jk 34, jk 35, jk 36, jk 37, jk 38, jk 39, jk 40, jk 41, jk 42, jk 43, jk 44, jk 45, jk 46, jk 47, jk 48, jk 49, jk 50, jk 51, jk 52, jk 53, jk 54, jk 55, jk 56, jk 57, jk 58, jk 59, jk 60, jk 61, jk 62, jk 63, jk 64, jk 65, jk 66, jk 67, jk 68, jk 69, jk 70, jk 71, jk 72, jk 73, jk 74, jk 75, jk 76, jk 77, jk 78, jk 79, jk 80, jk 81, jk 82, jk 83, jk 84, jk 85, jk 86, jk 87, jk 88, jk 89, jk 90, jk 91, jk 92, jk 93, jk 94, jk 95, jk 96, jk 97, jk 98, jk 99, jk 100, jk 101, jk 102, jk 103, jk 104, jk 105, jk 106, jk 107, jk 108, jk 109, jk 110, jk 111, jk 112, jk 113, jk 114, jk 115, jk 116, jk 117, jk 118, jk 119, jk 120, jk 121, jk 122, jk 123, jk 124, jk 125, jk 126, jk 127, jk 128, jk 129, jk 130, jk 131, jk 132, jk 133, jk 134, jk 135, jk 136, jk 137, jk 138, jk 139, jk 140, jk 141, jk 142, jk 143, jk 144, jk 145, jk 146, jk 147, jk 148, jk 149, jk 150, jk 151, jk 152]) ∧ i + q = partsN k ∧ q1.oneCell' = true ∧ Sat E (srcT bx s (repP (refP refs) i (strm s) p5).2 :: cells b7 (fC k mo ch (vec16 pr) (vec4 sl) 0 0 q1 nilV nilV) 28 :: row 3 1 q1 i ((repP (refP refs) i (strm s) p5).1.map vi) :: cells b6 zM 28 :: L) w) (partsN k) ⟨0, nilV, (ex_getD rfl), by omega, rfl, hA⟩ ?_
  clear hA
  rintro q l w ⟨i, q1, ⟨jk, rfl⟩, hi, ho1, hA⟩
  by_cases hlt : i < partsN k
  · have hr1 := hkr (hpp (by omega))
    have hstep : repP (refP refs) (i + 1) (strm s) p5 = ((repP (refP refs) i (strm s) p5).1 ++ [(((tk refs (strm s) (repP (refP refs) i (strm s) p5).2).1 : Nat) : Int)], (repP (refP refs) i (strm s) p5).2 + 1) := rfl
    generalize repP (refP refs) i (strm s) p5 = r at *
    have htr : (tk refs (strm s) r.2).1 < refs := Nat.mod_lt _ (by omega)
    generalize ha : (tk refs (strm s) r.2).1 = a at *
    repeat' (first | (refine g_callf 110 ?_; refine ow_call Tryd.call110 rfl ((refParts_calls _ _ _ _ hA).mono ?_); clear hA; (try clear w); rintro e w ⟨rfl, hA⟩; refine ⟨_, rfl, ?_⟩; refine rn ?_) | refine st ?_ | (refine wc_regionS 20 rfl ?_; refine wc_region ?_) | (refine su ?_; refine rn ?_) | (refine g_conv ?_; refine p_c hA ?_; refine rn ?_) | (refine g_load ?_; (first | refine t_loadx rfl hA ?_ | refine t_loada rfl hA ?_); refine rn ?_) | (refine g_call ?_; refine t_appx rfl rfl hA rfl ?_; clear hA; (try clear w); intro v w hA hone hnil; refine h_n hA ?_; clear hA; intro hA; refine rn ?_) | (refine g_store ?_; (first | refine t_storex rfl rfl hA ?_ | refine t_storea rfl rfl hA ?_); clear hA; (try clear w); intro w hA; refine h_m hA ?_; clear hA; intro hA; refine rn ?_) | (refine g_ow ?_; (first | refine t_alloc hA ?_ | refine ow_box rfl rfl hA ?_ | refine t_buildSlice rfl (by decide) rfl hA ?_); clear hA; (try clear w); intro b w hA; refine h_n hA ?_; clear hA; intro hA; refine rn ?_) | (refine g_ow ?_; refine t_make rfl rfl (by omega) (by omega) hA ?_; clear hA; (try clear w); intro v w hA hone hnil; refine rn ?_) | refine wc_pp rfl (fun h => ?_) (fun h => ?_) | refine wc_nn rfl (fun h => ?_) (fun h => ?_) | refine rl_pp rfl (fun h => o_n ?_) (fun h => rn ?_) | refine rl_qq rfl (fun h => o_n ?_) (fun h => rn ?_) | refine rl_nn rfl (fun h => o_n ?_) (fun h => rn ?_) | refine rl_mm rfl (fun h => o_n ?_) (fun h => rn ?_))
    refine' wc_flow' 3 (fun _ => undef) (fun ix => match ix with | 1 => [10] | 4 => [9] | 6 => [5, 11] | 8 => [10] | _ => []) (fun ix => match ix with | 4 => [9] | 6 => [5, 11] | 8 => [10] | _ => []) (fun ix => match ix with | 5 => [5] | 6 => [6] | 8 => [6] | _ => []) (mixPhi [_, _, _, _, undef, undef, undef, _, undef] (fun ix => match ix with | 4 => some (valV (vi a)) | 5 => some (litW 1) | 6 => some (oneS) | 8 => some (trueV) | _ => none)) (fun ix yy => match ix with | 4 => [srcT bx s (r.2 + 1)] | 5 => [cells (sB (yy 5)) [vi a] 3] | 6 => [row 3 1 (yy 6) (i + 1) (r.1.map vi ++ [vi a])] | 8 => [cells b7 (fC k mo ch (vec16 pr) (vec4 sl) 0 0 (yy 6) nilV nilV) 28] | 9 => [srcT bx s r.2] | 10 => [cells b7 (fC k mo ch (vec16 pr) (vec4 sl) 0 0 q1 nilV nilV) 28] | 11 => [row 3 1 q1 i (r.1.map vi)] | _ => []) (cells b6 zM 28 :: L) 9 (by kernel_rfl) rfl (by kernel_rfl) [(0, 85), (1, 86), (2, 87), (3, 88), (4, 89), (5, 90), (6, 91), (7, 92)] (by kernel_rfl) [0, 1, 2, 3, 4, 6, 7, 8] (by kernel_rfl) [9, 10, 11] (by kernel_rfl) hA ?itd20 ?phi20 ?ops20 ?k20
    case itd20 => (intro i y y' h; first | rfl | ((try dsimp only at h ⊢); split <;> first | rfl | (simp only [List.mem_cons, List.not_mem_nil, or_false, forall_eq_or_imp, forall_eq] at h; simp only [h]; done)))
    case phi20 => (refine mix_mono fun i p hp E1 E2 v hE h => ?_; split at hp <;> first | (cases hp; done) | (obtain rfl := Option.some.inj hp; first | exact ListE.mono h hE | exact ListE.mono h (Env.sub_left _ hE) | exact PMono.mono hE h | exact PMono.mono (Env.sub_left _ hE) h | exact h))
    case ops20 =>
      refine' FlowOps.c rfl [] (by decide) [] (by decide) [] rfl [] rfl ?o20_0 ?r20_0
      case o20_0 => intro yy E' Lx w lf hE hph hyp hl hA; simp only [setAll, List.map_cons, List.map_nil, List.set_cons_succ, List.set_cons_zero] at hl; subst hl; (try simp only [List.flatMap_cons, List.flatMap_nil, List.nil_append, List.append_nil, List.cons_append] at hA ⊢); (try clear hph hyp); first | (refine t_fieldAddr rfl ?_; exact ⟨_, E', pe, Env.Le.refl _, mix_mk rfl rfl, hA⟩)
      case r20_0 =>
        refine' FlowOps.c rfl [(0, 85)] (by decide) [0] (by decide) [10] rfl [10] rfl ?o20_1 ?r20_1
        case o20_1 => intro yy E' Lx w lf hE hph hyp hl hA; have e0 := mix_known (hph 0 (by decide)) rfl rfl; simp only [setAll, List.map_cons, List.map_nil, List.set_cons_succ, List.set_cons_zero, ← e0] at hl; subst hl; (try simp only [← e0] at hA ⊢); (try simp only [List.flatMap_cons, List.flatMap_nil, List.nil_append, List.append_nil, List.cons_append] at hA ⊢); (try clear hph hyp); first | (refine t_loadx rfl hA ?_; exact ⟨_, E', pe, Env.Le.refl _, mix_mk rfl rfl, hA⟩) | (refine t_loada rfl hA ?_; exact ⟨_, E', pe, Env.Le.refl _, mix_mk rfl rfl, hA⟩)
        case r20_1 =>
          refine' FlowOps.c rfl [] (by decide) [] (by decide) [] rfl [] rfl ?o20_2 ?r20_2
          case o20_2 => intro yy E' Lx w lf hE hph hyp hl hA; simp only [setAll, List.map_cons, List.map_nil, List.set_cons_succ, List.set_cons_zero] at hl; subst hl; (try simp only [List.flatMap_cons, List.flatMap_nil, List.nil_append, List.append_nil, List.cons_append] at hA ⊢); (try clear hph hyp); first | (refine ow_move_v rfl ?_; exact ⟨_, E', pe, Env.Le.refl _, mix_mk rfl rfl, hA⟩)
          case r20_2 =>
            refine' FlowOps.c rfl [] (by decide) [] (by decide) [] rfl [] rfl ?o20_3 ?r20_3
            case o20_3 => intro yy E' Lx w lf hE hph hyp hl hA; simp only [setAll, List.map_cons, List.map_nil, List.set_cons_succ, List.set_cons_zero] at hl; subst hl; (try simp only [List.flatMap_cons, List.flatMap_nil, List.nil_append, List.append_nil, List.cons_append] at hA ⊢); (try clear hph hyp); first | (refine ow_move_v rfl ?_; exact ⟨_, E', pe, Env.Le.refl _, mix_mk rfl rfl, hA⟩)
            case r20_3 =>
              refine' FlowOps.c rfl [(2, 87), (3, 88)] (by decide) [2, 3] (by decide) [9] rfl [] rfl ?o20_4 ?r20_4
              case o20_4 => intro yy E' Lx w lf hE hph hyp hl hA; have e2 := mix_known (hph 2 (by decide)) rfl rfl; have e3 := mix_known (hph 3 (by decide)) rfl rfl; simp only [setAll, List.map_cons, List.map_nil, List.set_cons_succ, List.set_cons_zero, ← e2, ← e3] at hl; subst hl; (try simp only [← e2, ← e3] at hA ⊢); (try simp only [List.flatMap_cons, List.flatMap_nil, List.nil_append, List.append_nil, List.cons_append] at hA ⊢); (try clear hph hyp); refine ow_call Tryd.call88 rfl ((takeT_calls _ _ _ _ _ _ refs _ rfl (by omega) hs hA).mono ?_); clear hA; rintro e w ⟨rfl, hA⟩; exact ⟨_, rfl, _, E', rfl, Env.Le.refl _, mix_mkP rfl (by rw [ha]; rfl), hA⟩
              case r20_4 =>
                refine' FlowOps.c rfl [(4, 89)] (by decide) [2, 3, 4] (by decide) [] rfl [] rfl ?o20_5 ?r20_5
                case o20_5 => intro yy E' Lx w lf hE hph hyp hl hA; have e2 := mix_known (hph 2 (by decide)) rfl rfl; have e3 := mix_known (hph 3 (by decide)) rfl rfl; simp only [setAll, List.map_cons, List.map_nil, List.set_cons_succ, List.set_cons_zero, ← e2, ← e3] at hl; subst hl; have p4 := mix_pred (hph 4 (by decide)) rfl; (try simp only [← e2, ← e3] at hA ⊢); generalize yy 4 = y4 at *; (try simp only [List.flatMap_cons, List.flatMap_nil, List.nil_append, List.append_nil, List.cons_append] at hA ⊢); (try clear hph hyp); have p4 : _ = _ := p4; subst p4; refine t_buildSlice rfl (by decide) rfl hA ?_; clear hA; intro bb w hA; exact ⟨_, E', rfl, Env.Le.refl _, mix_mkP rfl ⟨bb, rfl⟩, hA⟩
                case r20_5 =>
                  refine' FlowOps.c rfl [(1, 86), (5, 90), (4, 89)] (by decide) [0, 2, 3, 1, 5, 4] (by decide) [5, 11] rfl [] rfl ?o20_6 ?r20_6
                  case o20_6 => intro yy E' Lx w lf hE hph hyp hl hA; have e0 := mix_known (hph 0 (by decide)) rfl rfl; have e2 := mix_known (hph 2 (by decide)) rfl rfl; have e3 := mix_known (hph 3 (by decide)) rfl rfl; have e1 := mix_known (hph 1 (by decide)) rfl rfl; simp only [setAll, List.map_cons, List.map_nil, List.set_cons_succ, List.set_cons_zero, ← e0, ← e2, ← e3, ← e1] at hl; subst hl; have p5 := mix_pred (hph 5 (by decide)) rfl; have p4 := mix_pred (hph 4 (by decide)) rfl; (try simp only [← e0, ← e2, ← e3, ← e1] at hA ⊢); generalize yy 5 = y5 at *; generalize yy 4 = y4 at *; (try simp only [List.flatMap_cons, List.flatMap_nil, List.nil_append, List.append_nil, List.cons_append] at hA ⊢); (try clear hph hyp); obtain ⟨bb, rfl⟩ := p5; refine t_append1 1 0 (by decide) (by rfl) rfl rfl hA rfl rfl rfl (by simp [Value.oneCell']) (by unfold maxLen; omega) (by omega) ?_; clear hA; intro v' w hA h1 h2; exact ⟨v', E', rfl, Env.Le.refl _, mix_mkP rfl h1, hA⟩
                  case r20_6 =>
                    refine' FlowOps.c rfl [(0, 85), (1, 86), (2, 87), (3, 88), (4, 89), (5, 90), (6, 91)] (by decide) [0, 1, 2, 3, 4, 5, 6] (by decide) [] rfl [] rfl ?o20_7 ?r20_7
                    case o20_7 => intro yy E' Lx w lf hE hph hyp hl hA; have e0 := mix_known (hph 0 (by decide)) rfl rfl; have e1 := mix_known (hph 1 (by decide)) rfl rfl; have e2 := mix_known (hph 2 (by decide)) rfl rfl; have e3 := mix_known (hph 3 (by decide)) rfl rfl; simp only [setAll, List.map_cons, List.map_nil, List.set_cons_succ, List.set_cons_zero, ← e0, ← e1, ← e2, ← e3] at hl; subst hl; have p4 := mix_pred (hph 4 (by decide)) rfl; have p5 := mix_pred (hph 5 (by decide)) rfl; have p6 := mix_pred (hph 6 (by decide)) rfl; (try simp only [← e0, ← e1, ← e2, ← e3] at hA ⊢); generalize yy 4 = y4 at *; generalize yy 5 = y5 at *; generalize yy 6 = y6 at *; (try simp only [List.flatMap_cons, List.flatMap_nil, List.nil_append, List.append_nil, List.cons_append] at hA ⊢); (try clear hph hyp); first | (refine t_fieldAddr rfl ?_; exact ⟨_, E', pe, Env.Le.refl _, mix_mk rfl rfl, hA⟩)
                    case r20_7 =>
                      refine' FlowOps.c rfl [(7, 92), (6, 91), (0, 85), (1, 86), (2, 87), (3, 88), (4, 89), (5, 90)] (by decide) [7, 6, 0, 1, 2, 3, 4, 5] (by decide) [10] rfl [] rfl ?o20_8 ?r20_8
                      case o20_8 => intro yy E' Lx w lf hE hph hyp hl hA; have hu6 : ∀ v, upd yy 8 v 6 = yy 6 := fun _ => rfl; simp only [Nat.reduceAdd, hu6]; clear hu6; have e7 := mix_known (hph 7 (by decide)) rfl rfl; have e0 := mix_known (hph 0 (by decide)) rfl rfl; have e1 := mix_known (hph 1 (by decide)) rfl rfl; have e2 := mix_known (hph 2 (by decide)) rfl rfl; have e3 := mix_known (hph 3 (by decide)) rfl rfl; simp only [setAll, List.map_cons, List.map_nil, List.set_cons_succ, List.set_cons_zero, ← e7, ← e0, ← e1, ← e2, ← e3] at hl; subst hl; have p6 := mix_pred (hph 6 (by decide)) rfl; have p4 := mix_pred (hph 4 (by decide)) rfl; have p5 := mix_pred (hph 5 (by decide)) rfl; (try simp only [← e7, ← e0, ← e1, ← e2, ← e3] at hA ⊢); generalize yy 6 = y6 at *; generalize yy 4 = y4 at *; generalize yy 5 = y5 at *; (try simp only [List.flatMap_cons, List.flatMap_nil, List.nil_append, List.append_nil, List.cons_append] at hA ⊢); (try clear hph hyp); refine t_store 0 rfl rfl p6 hA rfl (by show 23 < 29; decide) ?_; clear hA; intro w hA; refine h_n hA ?_; clear hA; intro hA; exact ⟨undef, E', rfl, Env.Le.refl _, mix_mkP rfl trivial, hA⟩
                      case r20_8 =>
                        exact FlowOps.nil
    case' k20 => (try clear hA); intro yy E' w lf hE hph hyp hl hA; have e0 := mix_known (hph 0 (by decide)) rfl rfl; have e1 := mix_known (hph 1 (by decide)) rfl rfl; have e2 := mix_known (hph 2 (by decide)) rfl rfl; have e3 := mix_known (hph 3 (by decide)) rfl rfl; have e7 := mix_known (hph 7 (by decide)) rfl rfl; simp only [setAll, List.map_cons, List.map_nil, List.set_cons_succ, List.set_cons_zero, ← e0, ← e1, ← e2, ← e3, ← e7] at hl; subst hl; have p4 := mix_pred (hph 4 (by decide)) rfl; have p5 := mix_pred (hph 5 (by decide)) rfl; have p6 := mix_pred (hph 6 (by decide)) rfl; have p8 := mix_pred (hph 8 (by decide)) rfl; (try simp only [← e0, ← e1, ← e2, ← e3, ← e7] at hA); generalize yy 4 = y4 at *; generalize yy 5 = y5 at *; generalize yy 6 = y6 at *; generalize yy 8 = y8 at *; (try simp only [List.flatMap_cons, List.flatMap_nil, List.nil_append, List.append_nil, List.cons_append] at hA); clear hph hyp
    have hA := hA.le hE
    clear hE
    repeat' (first | refine st ?_ | (refine wc_region ?_) | (refine su ?_; refine rn ?_) | (refine g_conv ?_; refine p_c hA ?_; refine rn ?_) | (refine g_load ?_; (first | refine t_loadx rfl hA ?_ | refine t_loada rfl hA ?_); refine rn ?_) | (refine g_call ?_; refine t_appx rfl rfl hA rfl ?_; clear hA; (try clear w); intro v w hA hone hnil; refine h_n hA ?_; clear hA; intro hA; refine rn ?_) | (refine g_store ?_; (first | refine t_storex rfl rfl hA ?_ | refine t_storea rfl rfl hA ?_); clear hA; (try clear w); intro w hA; refine h_m hA ?_; clear hA; intro hA; refine rn ?_) | (refine g_ow ?_; (first | refine t_alloc hA ?_ | refine ow_box rfl rfl hA ?_ | refine t_buildSlice rfl (by decide) rfl hA ?_); clear hA; (try clear w); intro b w hA; refine h_n hA ?_; clear hA; intro hA; refine rn ?_) | (refine g_ow ?_; refine t_make rfl rfl (by omega) (by omega) hA ?_; clear hA; (try clear w); intro v w hA hone hnil; refine rn ?_) | refine wc_pp rfl (fun h => ?_) (fun h => ?_) | refine wc_nn rfl (fun h => ?_) (fun h => ?_) | refine rl_pp rfl (fun h => o_n ?_) (fun h => rn ?_) | refine rl_qq rfl (fun h => o_n ?_) (fun h => rn ?_) | refine rl_nn rfl (fun h => o_n ?_) (fun h => rn ?_) | refine rl_mm rfl (fun h => o_n ?_) (fun h => rn ?_))
    refine lq_next (q - 1) (by omega) ⟨i + 1, y6, (ex_getD rfl), by omega, p6, ?_⟩
    rw [hstep, List.map_append]
    exact hA.perm ((List.Perm.swap _ _ _).cons _)
  have hie : i = partsN k := by omega
  rw [hie] at hA
  have hnum := ref_zero refs (strm s) p5 (partsN k) (by rcases Nat.eq_zero_or_pos (partsN k) with g | g; exact .inr g; exact .inl (hkr (hpp g))) hr2
  have hlen1 := rep_len (refP refs) (strm s) p5 (partsN k)
  rcases hrl : repP (refP refs) (partsN k) (strm s) p5 with ⟨rl, p6⟩
  rw [hrl] at hA hnum hlen1
  dsimp only at hA hnum hlen1
  have hA' := hA.nilRow 37 2
  clear hA
  have hA := hA'.perm (List.perm_middle (l₁ := [_, _])).symm
  clear hA'
  have hpl := piecesP_le k (vec4 sl)
  generalize hnv : (if 3 ≤ k.toNat ∧ k.toNat ≤ 6 then (piecesP k (vec4 sl)).1 else 0) = nv at hH
  repeat' (first | (refine g_callf 110 ?_; refine ow_call Tryd.call110 rfl ((refParts_calls _ _ _ _ hA).mono ?_); clear hA; (try clear w); rintro e w ⟨rfl, hA⟩; refine ⟨_, rfl, ?_⟩; refine rn ?_) | refine st ?_ | (refine wc_regionS 21 rfl ?_; refine wc_region ?_) | (refine su ?_; refine rn ?_) | (refine g_conv ?_; refine p_c hA ?_; refine rn ?_) | (refine g_load ?_; (first | refine t_loadx rfl hA ?_ | refine t_loada rfl hA ?_); refine rn ?_) | (refine g_call ?_; refine t_appx rfl rfl hA rfl ?_; clear hA; (try clear w); intro v w hA hone hnil; refine h_n hA ?_; clear hA; intro hA; refine rn ?_) | (refine g_store ?_; (first | refine t_storex rfl rfl hA ?_ | refine t_storea rfl rfl hA ?_); clear hA; (try clear w); intro w hA; refine h_m hA ?_; clear hA; intro hA; refine rn ?_) | (refine g_ow ?_; (first | refine t_alloc hA ?_ | refine ow_box rfl rfl hA ?_ | refine t_buildSlice rfl (by decide) rfl hA ?_); clear hA; (try clear w); intro b w hA; refine h_n hA ?_; clear hA; intro hA; refine rn ?_) | (refine g_ow ?_; refine t_make rfl rfl (by omega) (by omega) hA ?_; clear hA; (try clear w); intro v w hA hone hnil; refine rn ?_) | refine wc_pp rfl (fun h => ?_) (fun h => ?_) | refine wc_nn rfl (fun h => ?_) (fun h => ?_) | refine rl_pp rfl (fun h => o_n ?_) (fun h => rn ?_) | refine rl_qq rfl (fun h => o_n ?_) (fun h => rn ?_) | refine rl_nn rfl (fun h => o_n ?_) (fun h => rn ?_) | refine rl_mm rfl (fun h => o_n ?_) (fun h => rn ?_))
  refine wc_region ?_
  refine' rl_v hA ?o21_0 ?k21_0
  case o21_0 => intro w hA; first | (refine t_fieldAddr rfl ?_; exact ⟨pe, hA⟩)
  case' k21_0 => clear hA; intro w hA; refine rn ?_
  refine' rl_v hA ?o21_1 ?k21_1
  case o21_1 => intro w hA; first | (refine t_loadx rfl hA ?_; exact ⟨pe, hA⟩) | (refine t_loada rfl hA ?_; exact ⟨pe, hA⟩)
  case' k21_1 => clear hA; intro w hA; refine rn ?_
  refine' rl_v hA ?o21_2 ?k21_2
  case o21_2 => intro w hA; first | (refine ow_call Tryd.call111 rfl ((inter_calls _ _ _ _ hA).mono ?_); clear hA; rintro e w ⟨rfl, hA⟩; refine ⟨_, rfl, ?_⟩; exact ⟨put_eq (by rfl), hA⟩)
  case' k21_2 => clear hA; intro w hA; refine rn ?_
  refine rl_nil ?_
  refine tq_normal ?_
  refine wc_mid (fun l w => ∃ (vl : List Vec) (p7 : Nat) (q2 : Value), (∃ jk : Nat → Value, l = [.pointer (some ⟨bx, 0, none⟩), .bool intra, vi refs, jk 3, jk 4, jk 5, .pointer (some ⟨b6, 0, none⟩), .pointer (some ⟨b7, 0, none⟩), jk 8, jk 9, jk 10, jk 11, jk 12, jk 13, jk 14, jk 15, jk 16, jk 17, jk 18, jk 19, jk 20, jk 21, jk 22, jk 23, jk 24, jk 25, jk 26, jk 27, jk 28, jk 29, jk 30, jk 31, jk 32, jk 33, jk 34, jk 35, jk 36, jk 37, jk 38, jk 39, jk 40, jk 41, jk 42, jk 43, jk 44, jk 45, jk 46, jk 47, jk 48, jk 49, jk 50, jk 51, jk 52, jk 53, jk 54, jk 55, jk 56, jk 57, jk 58, jk 59, jk 60, jk 61, jk 62, jk 63, jk 64, jk 65, jk 66, jk 67, jk 68, jk 69, jk 70, jk 71, jk 72, jk 73, jk 74, jk 75, jk 76, jk 77, jk 78, jk 79, jk 80, jk 81, jk 82, jk 83, jk 84, jk 85, jk 86, jk 87, jk 88, jk 89, jk 90, jk 91, jk 92, jk 93, jk 94, jk 95, jk 96, jk 97, jk 98, jk 99, jk 100, jk 101, jk 102, jk 103, jk 104, jk 105, jk 106, jk 107, jk 108, jk 109, jk 110, jk 111, jk 112, jk 113, jk 114, jk 115, jk 116, jk 117, jk 118, jk 119, jk 120, jk 121, jk 122, jk 123, jk 124, jk 125, jk 126, jk 127, jk 128, jk 129, jk 130, jk 131, jk 132, jk 133, jk 134, jk 135, jk 136, jk 137, jk 138, jk 139, jk 140, jk 141, jk 142, jk 143, jk 144, jk 145, jk 146, jk 147, jk 148, jk 149, jk 150, jk 151, jk 152]) ∧ repP vecP nv (strm s) p6 = (vl, p7) ∧ q2.oneCell' = true ∧ Sat E (srcT bx s p7 :: cells b7 (fC k mo ch (vec16 pr) (vec4 sl) 0 0 q1 q2 nilV) 28 :: row 37 2 q2 nv (vl.flatMap fun v => [vi v.x, vi v.y]) :: row 3 1 q1 (partsN k) (rl.map vi) :: cells b6 zM 28 :: L) w) ?_ ?_
  · refine wc_bb rfl (fun h => ?_) (fun h => ?_)
    · have hin : 3 ≤ k.toNat ∧ k.toNat ≤ 6 := by simp only [Bool.and_eq_true, decide_eq_true_eq] at h; omega
      rw [if_pos hin] at hnv
      repeat' (first | (refine g_callf 112 ?_; refine ow_call Tryd.call112 rfl ((refPieces_calls _ _ _ k (vec4 sl) hA).mono ?_); clear hA; (try clear w); rintro e w ⟨rfl, hA⟩; refine ⟨_, rfl, ?_⟩; (try rw [hnv]); refine rn ?_) | refine st ?_ | (refine wc_regionS 24 rfl ?_; refine wc_region ?_) | (refine su ?_; refine rn ?_) | (refine g_conv ?_; refine p_c hA ?_; refine rn ?_) | (refine g_load ?_; (first | refine t_loadx rfl hA ?_ | refine t_loada rfl hA ?_); refine rn ?_) | (refine g_call ?_; refine t_appx rfl rfl hA rfl ?_; clear hA; (try clear w); intro v w hA hone hnil; refine h_n hA ?_; clear hA; intro hA; refine rn ?_) | (refine g_store ?_; (first | refine t_storex rfl rfl hA ?_ | refine t_storea rfl rfl hA ?_); clear hA; (try clear w); intro w hA; refine h_m hA ?_; clear hA; intro hA; refine rn ?_) | (refine g_ow ?_; (first | refine t_alloc hA ?_ | refine ow_box rfl rfl hA ?_ | refine t_buildSlice rfl (by decide) rfl hA ?_); clear hA; (try clear w); intro b w hA; refine h_n hA ?_; clear hA; intro hA; refine rn ?_) | (refine g_ow ?_; refine t_make rfl rfl (by omega) (by omega) hA ?_; clear hA; (try clear w); intro v w hA hone hnil; refine rn ?_) | refine wc_pp rfl (fun h => ?_) (fun h => ?_) | refine wc_nn rfl (fun h => ?_) (fun h => ?_) | refine rl_pp rfl (fun h => o_n ?_) (fun h => rn ?_) | refine rl_qq rfl (fun h => o_n ?_) (fun h => rn ?_) | refine rl_nn rfl (fun h => o_n ?_) (fun h => rn ?_) | refine rl_mm rfl (fun h => o_n ?_) (fun h => rn ?_))
      refine wc_loopn (fun q l w => ∃ (j : Nat) (q2 : Value), (∃ jk : Nat → Value, l = [.pointer (some ⟨bx, 0, none⟩), .bool intra, vi refs, jk 3, jk 4, jk 5, .pointer (some ⟨b6, 0, none⟩), .pointer (some ⟨b7, 0, none⟩), jk 8, jk 9, jk 10, vi nv, jk 12, .int .i64 (j : Int), jk 14, jk 15, jk 16, jk 17, jk 18, jk 19, jk 20, jk 21, jk 22, jk 23, jk 24, jk 25, jk 26, jk 27, jk 28, jk 29, jk 30, jk 31, jk 32, jk 33, jk 34, jk 35, jk 36, jk 37, jk 38, jk 39, jk 40, jk 41, jk 42, jk 43, jk 44, jk 45, jk 46, jk 47, jk 48, jk 49, jk 50, jk 51, jk 52, jk 53, jk 54, jk 55, jk 56, jk 57, jk 58, jk 59, jk 60, jk 61, jk 62, jk 63, jk 64, jk 65, jk 66, jk 67, jk 68, jk 69, jk 70, jk 71, jk 72, jk 73, jk 74, jk 75, jk 76, jk 77, jk 78, jk 79, jk 80, jk 81, jk 82, jk 83, jk 84, jk 85, jk 86, jk 87, jk 88, jk 89, jk 90, jk 91, jk 92, jk 93, jk 94, jk 95, jk 96, jk 97, jk 98, jk 99, jk 100, jk 101, jk 102, jk 103, jk 104, jk 105, jk 106, jk 107, jk 108, jk 109, jk 110, jk 111, jk 112, jk 113, jk 114, jk 115, jk 116, jk 117, jk 118, jk 119, jk 120, jk 121, jk 122, jk 123, jk 124, jk 125, jk 126, jk 127, jk 128, jk 129, jk 130, jk 131, jk 132, jk 133, jk 134, jk 135, jk 136, jk 137, jk 138, jk 139, jk 140, jk 141, jk 142, jk 143, jk 144, jk 145, jk 146, jk 147, jk 148, jk 149, jk 150, jk 151, jk 152]) ∧ j + q = nv ∧ q2.oneCell' = true ∧ Sat E (srcT bx s (repP vecP j (strm s) p6).2 :: cells b7 (fC k mo ch (vec16 pr) (vec4 sl) 0 0 q1 q2 nilV) 28 :: row 37 2 q2 j ((repP vecP j (strm s) p6).1.flatMap fun v => [vi v.x, vi v.y]) :: row 3 1 q1 (partsN k) (rl.map vi) :: cells b6 zM 28 :: L) w) nv ⟨0, nilV, (ex_getD rfl), by omega, rfl, hA⟩ ?_
      clear hA
      rintro q l w ⟨j, q2, ⟨jk, rfl⟩, hj, ho2, hA⟩
      by_cases hlt2 : j < nv
      · have hstep : repP vecP (j + 1) (strm s) p6 = ((repP vecP j (strm s) p6).1 ++ [⟨(numP 8192 (strm s) (repP vecP j (strm s) p6).2).1, (numP 8192 (strm s) (numP 8192 (strm s) (repP vecP j (strm s) p6).2).2).1⟩], (numP 8192 (strm s) (numP 8192 (strm s) (repP vecP j (strm s) p6).2).2).2) := rfl
        generalize repP vecP j (strm s) p6 = r at *
        obtain ⟨vl, p8⟩ := r
        dsimp only at hstep hA
        repeat' (first | (refine g_callf 113 ?_; refine ow_call Tryd.call113 rfl ((numberT_calls _ _ _ _ _ _ 8192 (by omega) hs hA).mono ?_); clear hA; (try clear w); rintro e w ⟨rfl, hA⟩; refine ⟨_, rfl, ?_⟩; refine rn ?_) | refine st ?_ | (refine wc_regionS 27 rfl ?_; refine wc_region ?_) | (refine su ?_; refine rn ?_) | (refine g_conv ?_; refine p_c hA ?_; refine rn ?_) | (refine g_load ?_; (first | refine t_loadx rfl hA ?_ | refine t_loada rfl hA ?_); refine rn ?_) | (refine g_call ?_; refine t_appx rfl rfl hA rfl ?_; clear hA; (try clear w); intro v w hA hone hnil; refine h_n hA ?_; clear hA; intro hA; refine rn ?_) | (refine g_store ?_; (first | refine t_storex rfl rfl hA ?_ | refine t_storea rfl rfl hA ?_); clear hA; (try clear w); intro w hA; refine h_m hA ?_; clear hA; intro hA; refine rn ?_) | (refine g_ow ?_; (first | refine t_alloc hA ?_ | refine ow_box rfl rfl hA ?_ | refine t_buildSlice rfl (by decide) rfl hA ?_); clear hA; (try clear w); intro b w hA; refine h_n hA ?_; clear hA; intro hA; refine rn ?_) | (refine g_ow ?_; refine t_make rfl rfl (by omega) (by omega) hA ?_; clear hA; (try clear w); intro v w hA hone hnil; refine rn ?_) | refine wc_pp rfl (fun h => ?_) (fun h => ?_) | refine wc_nn rfl (fun h => ?_) (fun h => ?_) | refine rl_pp rfl (fun h => o_n ?_) (fun h => rn ?_) | refine rl_qq rfl (fun h => o_n ?_) (fun h => rn ?_) | refine rl_nn rfl (fun h => o_n ?_) (fun h => rn ?_) | refine rl_mm rfl (fun h => o_n ?_) (fun h => rn ?_))
        have hA := hA.perm (List.Perm.swap _ _ _)
        generalize hn3 : numP 8192 (strm s) p8 = n3 at *
        obtain ⟨x, p9⟩ := n3
        dsimp only at hstep hA
        generalize hb9 : b = b9 at *
        clear hb9
        repeat' (first | (refine g_callf 113 ?_; refine ow_call Tryd.call113 rfl ((numberT_calls _ _ _ _ _ _ 8192 (by omega) hs hA).mono ?_); clear hA; (try clear w); rintro e w ⟨rfl, hA⟩; refine ⟨_, rfl, ?_⟩; refine rn ?_) | refine st ?_ | (refine wc_regionS 28 rfl ?_; refine wc_region ?_) | (refine su ?_; refine rn ?_) | (refine g_conv ?_; refine p_c hA ?_; refine rn ?_) | (refine g_load ?_; (first | refine t_loadx rfl hA ?_ | refine t_loada rfl hA ?_); refine rn ?_) | (refine g_call ?_; refine t_appx rfl rfl hA rfl ?_; clear hA; (try clear w); intro v w hA hone hnil; refine h_n hA ?_; clear hA; intro hA; refine rn ?_) | (refine g_store ?_; (first | refine t_storex rfl rfl hA ?_ | refine t_storea rfl rfl hA ?_); clear hA; (try clear w); intro w hA; refine h_m hA ?_; clear hA; intro hA; refine rn ?_) | (refine g_ow ?_; (first | refine t_alloc hA ?_ | refine ow_box rfl rfl hA ?_ | refine t_buildSlice rfl (by decide) rfl hA ?_); clear hA; (try clear w); intro b w hA; refine h_n hA ?_; clear hA; intro hA; refine rn ?_) | (refine g_ow ?_; refine t_make rfl rfl (by omega) (by omega) hA ?_; clear hA; (try clear w); intro v w hA hone hnil; refine rn ?_) | refine wc_pp rfl (fun h => ?_) (fun h => ?_) | refine wc_nn rfl (fun h => ?_) (fun h => ?_) | refine rl_pp rfl (fun h => o_n ?_) (fun h => rn ?_) | refine rl_qq rfl (fun h => o_n ?_) (fun h => rn ?_) | refine rl_nn rfl (fun h => o_n ?_) (fun h => rn ?_) | refine rl_mm rfl (fun h => o_n ?_) (fun h => rn ?_))
        generalize hn4 : numP 8192 (strm s) p9 = n4 at *
        obtain ⟨y, p10⟩ := n4
        dsimp only at hstep hA
        repeat' (first | (refine g_call ?_; refine t_append1 4 0 (by decide) (by rfl) rfl rfl hA rfl rfl rfl (by simp [Value.oneCell']) (by unfold maxLen; omega) (by omega) ?_; clear hA; intro v' w hA h1 h2; refine h_n hA ?_; clear hA; intro hA; refine rn ?_) | (refine g_ow ?_; refine t_storex rfl rfl h1 hA ?_; clear hA; intro w hA; refine h_n hA ?_; clear hA; intro hA; refine rn ?_) | refine st ?_ | (refine wc_region ?_) | (refine su ?_; refine rn ?_) | (refine g_conv ?_; refine p_c hA ?_; refine rn ?_) | (refine g_load ?_; (first | refine t_loadx rfl hA ?_ | refine t_loada rfl hA ?_); refine rn ?_) | (refine g_call ?_; refine t_appx rfl rfl hA rfl ?_; clear hA; (try clear w); intro v w hA hone hnil; refine h_n hA ?_; clear hA; intro hA; refine rn ?_) | (refine g_store ?_; (first | refine t_storex rfl rfl hA ?_ | refine t_storea rfl rfl hA ?_); clear hA; (try clear w); intro w hA; refine h_m hA ?_; clear hA; intro hA; refine rn ?_) | (refine g_ow ?_; (first | refine t_alloc hA ?_ | refine ow_box rfl rfl hA ?_ | refine t_buildSlice rfl (by decide) rfl hA ?_); clear hA; (try clear w); intro b w hA; refine h_n hA ?_; clear hA; intro hA; refine rn ?_) | (refine g_ow ?_; refine t_make rfl rfl (by omega) (by omega) hA ?_; clear hA; (try clear w); intro v w hA hone hnil; refine rn ?_) | refine wc_pp rfl (fun h => ?_) (fun h => ?_) | refine wc_nn rfl (fun h => ?_) (fun h => ?_) | refine rl_pp rfl (fun h => o_n ?_) (fun h => rn ?_) | refine rl_qq rfl (fun h => o_n ?_) (fun h => rn ?_) | refine rl_nn rfl (fun h => o_n ?_) (fun h => rn ?_) | refine rl_mm rfl (fun h => o_n ?_) (fun h => rn ?_))
        refine lq_next (q - 1) (by omega) ⟨j + 1, v', (ex_getD rfl), by omega, by assumption, ?_⟩
        rw [hstep, List.flatMap_append]
        exact hA.sub (.cons_cons _ (.cons _ (List.Sublist.refl _)))
      · obtain rfl : j = nv := by omega
        repeat' (first | refine st ?_ | (refine wc_region ?_) | (refine su ?_; refine rn ?_) | (refine g_conv ?_; refine p_c hA ?_; refine rn ?_) | (refine g_load ?_; (first | refine t_loadx rfl hA ?_ | refine t_loada rfl hA ?_); refine rn ?_) | (refine g_call ?_; refine t_appx rfl rfl hA rfl ?_; clear hA; (try clear w); intro v w hA hone hnil; refine h_n hA ?_; clear hA; intro hA; refine rn ?_) | (refine g_store ?_; (first | refine t_storex rfl rfl hA ?_ | refine t_storea rfl rfl hA ?_); clear hA; (try clear w); intro w hA; refine h_m hA ?_; clear hA; intro hA; refine rn ?_) | (refine g_ow ?_; (first | refine t_alloc hA ?_ | refine ow_box rfl rfl hA ?_ | refine t_buildSlice rfl (by decide) rfl hA ?_); clear hA; (try clear w); intro b w hA; refine h_n hA ?_; clear hA; intro hA; refine rn ?_) | (refine g_ow ?_; refine t_make rfl rfl (by omega) (by omega) hA ?_; clear hA; (try clear w); intro v w hA hone hnil; refine rn ?_) | refine wc_pp rfl (fun h => ?_) (fun h => ?_) | refine wc_nn rfl (fun h => ?_) (fun h => ?_) | refine rl_pp rfl (fun h => o_n ?_) (fun h => rn ?_) | refine rl_qq rfl (fun h => o_n ?_) (fun h => rn ?_) | refine rl_nn rfl (fun h => o_n ?_) (fun h => rn ?_) | refine rl_mm rfl (fun h => o_n ?_) (fun h => rn ?_))
        exact mq_normal ⟨_, _, q2, (ex_getD rfl), rfl, ho2, hA⟩
    · have hin : ¬ (3 ≤ k.toNat ∧ k.toNat ≤ 6) := by simp only [Bool.and_eq_false_iff, decide_eq_false_iff_not] at h; omega
      rw [if_neg hin] at hnv
      subst hnv
      repeat' (first | refine st ?_ | (refine wc_region ?_) | (refine su ?_; refine rn ?_) | (refine g_conv ?_; refine p_c hA ?_; refine rn ?_) | (refine g_load ?_; (first | refine t_loadx rfl hA ?_ | refine t_loada rfl hA ?_); refine rn ?_) | (refine g_call ?_; refine t_appx rfl rfl hA rfl ?_; clear hA; (try clear w); intro v w hA hone hnil; refine h_n hA ?_; clear hA; intro hA; refine rn ?_) | (refine g_store ?_; (first | refine t_storex rfl rfl hA ?_ | refine t_storea rfl rfl hA ?_); clear hA; (try clear w); intro w hA; refine h_m hA ?_; clear hA; intro hA; refine rn ?_) | (refine g_ow ?_; (first | refine t_alloc hA ?_ | refine ow_box rfl rfl hA ?_ | refine t_buildSlice rfl (by decide) rfl hA ?_); clear hA; (try clear w); intro b w hA; refine h_n hA ?_; clear hA; intro hA; refine rn ?_) | (refine g_ow ?_; refine t_make rfl rfl (by omega) (by omega) hA ?_; clear hA; (try clear w); intro v w hA hone hnil; refine rn ?_) | refine wc_pp rfl (fun h => ?_) (fun h => ?_) | refine wc_nn rfl (fun h => ?_) (fun h => ?_) | refine rl_pp rfl (fun h => o_n ?_) (fun h => rn ?_) | refine rl_qq rfl (fun h => o_n ?_) (fun h => rn ?_) | refine rl_nn rfl (fun h => o_n ?_) (fun h => rn ?_) | refine rl_mm rfl (fun h => o_n ?_) (fun h => rn ?_))
      exact mq_normal ⟨[], p6, nilV, (ex_getD rfl), rfl, rfl, hA⟩
  clear hA
  rintro l w ⟨vl, p7, q2, ⟨jk, rfl⟩, hvl, ho2, hA⟩
  have hvn := vec_nums (strm s) p6 nv
  have hlen2 := rep_len vecP (strm s) p6 nv
  rw [hvl] at hvn hlen2
  dsimp only at hvn hlen2
  have hmot : motP k refs (strm s) p4 = ((sl, rl, vl), p7) := by
    unfold motP
    simp only [Par.bnd, hH, hrl, hvl]
    rfl
  have hA : Sat E (row 37 2 q2 vl.length (vl.flatMap fun v => [vi v.x, vi v.y]) :: srcT bx s p7 :: cells b7 (fC k mo ch (vec16 pr) (vec4 sl) 0 0 q1 q2 nilV) 28 :: row 3 1 q1 (partsN k) (rl.map vi) :: cells b6 zM 28 :: L) w := by rw [hlen2]; exact hA.perm (List.perm_middle (l₁ := [_, _]))
  obtain ⟨E4, hE4, hA, l2⟩ := hA.freezeListS (R := vecR) (xs := vl) E (Env.Le.refl _) (CsE.of (fun _ => rfl) fun v hv => ⟨rfl, by have := hvn v hv; exact ⟨by omega, by omega⟩, by have := hvn v hv; exact ⟨by omega, by omega⟩⟩)
  have hA : Sat E4 (row 3 1 q1 rl.length (rl.map vi) :: srcT bx s p7 :: cells b7 (fC k mo ch (vec16 pr) (vec4 sl) 0 0 q1 q2 nilV) 28 :: cells b6 zM 28 :: L) w := by rw [hlen1]; exact hA.perm (List.perm_middle (l₁ := [_, _]))
  obtain ⟨E5, hE5, hA, l1⟩ := hA.freezeListS (R := intR) (xs := rl) E hE4 (cseVi hnum)
  have l2 := l2.mono (Env.sub_left E hE5)
  have hE05 := hE4.trans hE5
  cases hcd : codedB k with
  | true =>
    have h27 : ¬ k.toNat = 2 ∧ ¬ k.toNat = 7 := by
      unfold codedB at hcd
      simp only [Bool.and_eq_true, decide_eq_true_eq, Bool.not_eq_true', decide_eq_false_iff_not] at hcd
      omega
    rcases hc : cbpP k (strm s) p7 with ⟨c, p8⟩
    rcases hqp : optP (decide (k.toNat = 1) || !decide (c.toNat = 0)) ((tk 52).bnd fun a => .ret ((a : Int) - 26)) 0 (strm s) p8 with ⟨qp, p9⟩
    rcases hbl : mapP (fun x : Coded => blkP (sizeN x.cat)) (blocksL (mF k mo ch pr sl c qp)) (strm s) p9 with ⟨bl, p10⟩
    have hcod : codP k mo ch pr sl (strm s) p7 = ((c, qp, bl), p10) := by
      unfold codP
      simp only [Par.bnd, hc, hqp, hbl]
      rfl
    rw [mbP_eq h1 h27.1 h27.2 hmo hch hpr0 hmot hc hqp hbl]
    repeat' (first | (refine g_callf 114 ?_; refine ow_call Tryd.call114 rfl ((refCoded_calls _ _ _ _ hA).mono ?_); clear hA; (try clear w); rintro e w ⟨rfl, hA⟩; refine ⟨_, rfl, ?_⟩; (try rw [hcd]); refine rn ?_) | (refine g_callf 115 ?_; refine ow_call Tryd.call115 rfl ((codedT_calls bx b7 s p7 k mo ch pr sl q1 q2 _ _ _ ho1 ho2 hs hA).mono ?_); clear hA; (try clear w); rintro e w ⟨E6, u, rfl, hE6, l3, hq64, hA⟩; refine ⟨_, rfl, ?_⟩; (try rw [hcod] at l3 hq64 hA; have o3 := l3.one); refine rn ?_) | refine st ?_ | (refine wc_regionS 31 rfl ?_; refine wc_region ?_) | (refine su ?_; refine rn ?_) | (refine g_conv ?_; refine p_c hA ?_; refine rn ?_) | (refine g_load ?_; (first | refine t_loadx rfl hA ?_ | refine t_loada rfl hA ?_); refine rn ?_) | (refine g_call ?_; refine t_appx rfl rfl hA rfl ?_; clear hA; (try clear w); intro v w hA hone hnil; refine h_n hA ?_; clear hA; intro hA; refine rn ?_) | (refine g_store ?_; (first | refine t_storex rfl rfl hA ?_ | refine t_storea rfl rfl hA ?_); clear hA; (try clear w); intro w hA; refine h_m hA ?_; clear hA; intro hA; refine rn ?_) | (refine g_ow ?_; (first | refine t_alloc hA ?_ | refine ow_box rfl rfl hA ?_ | refine t_buildSlice rfl (by decide) rfl hA ?_); clear hA; (try clear w); intro b w hA; refine h_n hA ?_; clear hA; intro hA; refine rn ?_) | (refine g_ow ?_; refine t_make rfl rfl (by omega) (by omega) hA ?_; clear hA; (try clear w); intro v w hA hone hnil; refine rn ?_) | refine wc_pp rfl (fun h => ?_) (fun h => ?_) | refine wc_nn rfl (fun h => ?_) (fun h => ?_) | refine rl_pp rfl (fun h => o_n ?_) (fun h => rn ?_) | refine rl_qq rfl (fun h => o_n ?_) (fun h => rn ?_) | refine rl_nn rfl (fun h => o_n ?_) (fun h => rn ?_) | refine rl_mm rfl (fun h => o_n ?_) (fun h => rn ?_))
    dsimp only at l3 hq64 hA
    have h2 := h27.1
    repeat' (first | refine st ?_ | (refine wc_region ?_) | (refine su ?_; refine rn ?_) | (refine g_conv ?_; refine p_c hA ?_; refine rn ?_) | (refine g_load ?_; (first | refine t_loadx rfl hA ?_ | refine t_loada rfl hA ?_); refine rn ?_) | (refine g_call ?_; refine t_appx rfl rfl hA rfl ?_; clear hA; (try clear w); intro v w hA hone hnil; refine h_n hA ?_; clear hA; intro hA; refine rn ?_) | (refine g_store ?_; (first | refine t_storex rfl rfl hA ?_ | refine t_storea rfl rfl hA ?_); clear hA; (try clear w); intro w hA; refine h_m hA ?_; clear hA; intro hA; refine rn ?_) | (refine g_ow ?_; (first | refine t_alloc hA ?_ | refine ow_box rfl rfl hA ?_ | refine t_buildSlice rfl (by decide) rfl hA ?_); clear hA; (try clear w); intro b w hA; refine h_n hA ?_; clear hA; intro hA; refine rn ?_) | (refine g_ow ?_; refine t_make rfl rfl (by omega) (by omega) hA ?_; clear hA; (try clear w); intro v w hA hone hnil; refine rn ?_) | refine wc_pp rfl (fun h => ?_) (fun h => ?_) | refine wc_nn rfl (fun h => ?_) (fun h => ?_) | refine rl_pp rfl (fun h => o_n ?_) (fun h => rn ?_) | refine rl_qq rfl (fun h => o_n ?_) (fun h => rn ?_) | refine rl_nn rfl (fun h => o_n ?_) (fun h => rn ?_) | refine rl_mm rfl (fun h => o_n ?_) (fun h => rn ?_))
    exact fp_ret (resSole rfl (one_cell 2 rfl rfl hA rfl rfl)) ⟨E6, q1, q2, u, rfl, hE05.trans hE6, ⟨l1.mono (Env.sub_left E hE6), l2.mono (Env.sub_left E hE6), l3.mono (Env.sub_right _ hE05), hq64, Nat.zero_le _⟩, hA.sub (.cons_cons _ (.cons _ (.cons _ (List.Sublist.refl _))))⟩
  | false =>
    have h27 : k.toNat = 2 ∨ k.toNat = 7 := by
      unfold codedB at hcd
      simp only [Bool.and_eq_false_iff, decide_eq_false_iff_not, Bool.not_eq_false', decide_eq_true_eq] at hcd
      omega
    have n0 : ¬ k.toNat = 0 := by omega
    have n1 : ¬ k.toNat = 1 := by omega
    have n01 : ¬ k.toNat ≤ 1 := by omega
    unfold optP at hmo hch hpr0
    rw [decide_eq_false n1, if_neg (by decide)] at hmo
    rw [decide_eq_false n01, if_neg (by decide)] at hch
    rw [decide_eq_false n0, if_neg (by decide)] at hpr0
    have hmo : ((0 : UInt8), p1) = (mo, p2) := hmo
    have hch : ((0 : UInt8), p2) = (ch, p3) := hch
    have hpr0 : (([] : List UInt8), p3) = (pr, p4) := hpr0
    have hm0 : motP k refs (strm s) p4 = (([], [], []), p4) := by
      unfold motP motH
      rw [if_neg (by omega), if_neg (by omega), if_neg (by omega)]
      rfl
    rw [hm0] at hmot
    obtain ⟨e1, e2⟩ := Prod.mk.inj hmo
    obtain ⟨e3, e4⟩ := Prod.mk.inj hch
    obtain ⟨e5, e6⟩ := Prod.mk.inj hpr0
    obtain ⟨e7, e8⟩ := Prod.mk.inj hmot
    obtain ⟨e9, e10⟩ := Prod.mk.inj e7
    obtain ⟨e11, e12⟩ := Prod.mk.inj e10
    have ep : p7 = p1 := by rw [← e8, ← e6, ← e4, ← e2]
    have hA : Sat E5 (srcT bx s p1 :: cells b7 (fC k 0 0 (vec16 []) (vec4 []) 0 0 q1 q2 nilV) 28 :: cells b6 zM 28 :: L) w := by rw [ep, ← e1, ← e3, ← e5, ← e9] at hA; exact hA
    have l1 : ListE intR 1 (E5.sub E) q1 [] := by rw [e11]; exact l1
    have l2 : ListE vecR 2 (E5.sub E) q2 [] := by rw [e12]; exact l2
    by_cases h7 : k.toNat = 7
    · rw [mbP_skip h1 h7]
      repeat' (first | (refine g_callf 114 ?_; refine ow_call Tryd.call114 rfl ((refCoded_calls _ _ _ _ hA).mono ?_); clear hA; (try clear w); rintro e w ⟨rfl, hA⟩; refine ⟨_, rfl, ?_⟩; (try rw [hcd]); refine rn ?_) | refine st ?_ | (refine wc_region ?_) | (refine su ?_; refine rn ?_) | (refine g_conv ?_; refine p_c hA ?_; refine rn ?_) | (refine g_load ?_; (first | refine t_loadx rfl hA ?_ | refine t_loada rfl hA ?_); refine rn ?_) | (refine g_call ?_; refine t_appx rfl rfl hA rfl ?_; clear hA; (try clear w); intro v w hA hone hnil; refine h_n hA ?_; clear hA; intro hA; refine rn ?_) | (refine g_store ?_; (first | refine t_storex rfl rfl hA ?_ | refine t_storea rfl rfl hA ?_); clear hA; (try clear w); intro w hA; refine h_m hA ?_; clear hA; intro hA; refine rn ?_) | (refine g_ow ?_; (first | refine t_alloc hA ?_ | refine ow_box rfl rfl hA ?_ | refine t_buildSlice rfl (by decide) rfl hA ?_); clear hA; (try clear w); intro b w hA; refine h_n hA ?_; clear hA; intro hA; refine rn ?_) | (refine g_ow ?_; refine t_make rfl rfl (by omega) (by omega) hA ?_; clear hA; (try clear w); intro v w hA hone hnil; refine rn ?_) | refine wc_pp rfl (fun h => ?_) (fun h => ?_) | refine wc_nn rfl (fun h => ?_) (fun h => ?_) | refine rl_pp rfl (fun h => o_n ?_) (fun h => rn ?_) | refine rl_qq rfl (fun h => o_n ?_) (fun h => rn ?_) | refine rl_nn rfl (fun h => o_n ?_) (fun h => rn ?_) | refine rl_mm rfl (fun h => o_n ?_) (fun h => rn ?_))
      have ek : k = 7 := UInt8.toNat_inj.1 h7
      subst ek
      exact fp_ret (resSole rfl (one_cell 2 rfl rfl hA rfl rfl)) ⟨E5, q1, q2, nilV, rfl, hE05, ⟨l1, l2, ListE.nil, by show I64 0; decide, Nat.zero_le _⟩, hA.sub (.cons_cons _ (.cons _ (.cons _ (List.Sublist.refl _))))⟩
    · have h2 : k.toNat = 2 := by omega
      rw [mbP_pcm h1 h2]
      have ha8 : (tk 256 (strm s) p1).1 < 256 := Nat.mod_lt _ (by decide)
      have hd8 : (tk 256 (strm s) (p1 + 1)).1 < 256 := Nat.mod_lt _ (by decide)
      have hpc : pcmP (strm s) p1 = ((List.range 384).map fun i => UInt8.ofNat ((tk 256 (strm s) p1).1 + (tk 256 (strm s) (p1 + 1)).1 * i), p1 + 1 + 1) := rfl
      have ez : zeroRow [Value.int .u8 0] 384 = (List.replicate 384 (0 : UInt8)).map u8 := by kernel_rfl
      repeat' (first | (refine g_callf 114 ?_; refine ow_call Tryd.call114 rfl ((refCoded_calls _ _ _ _ hA).mono ?_); clear hA; (try clear w); rintro e w ⟨rfl, hA⟩; refine ⟨_, rfl, ?_⟩; (try rw [hcd]); refine rn ?_) | (refine g_callf 88 ?_; refine ow_call Tryd.call88 rfl ((takeT_calls _ _ _ _ _ _ 256 256 rfl (by omega) hs hA).mono ?_); clear hA; (try clear w); rintro e w ⟨rfl, hA⟩; refine ⟨_, rfl, ?_⟩; refine rn ?_) | refine st ?_ | (refine wc_regionS 34 rfl ?_; refine wc_region ?_) | (refine su ?_; refine rn ?_) | (refine g_conv ?_; refine p_c hA ?_; refine rn ?_) | (refine g_load ?_; (first | refine t_loadx rfl hA ?_ | refine t_loada rfl hA ?_); refine rn ?_) | (refine g_call ?_; refine t_appx rfl rfl hA rfl ?_; clear hA; (try clear w); intro v w hA hone hnil; refine h_n hA ?_; clear hA; intro hA; refine rn ?_) | (refine g_store ?_; (first | refine t_storex rfl rfl hA ?_ | refine t_storea rfl rfl hA ?_); clear hA; (try clear w); intro w hA; refine h_m hA ?_; clear hA; intro hA; refine rn ?_) | (refine g_ow ?_; (first | refine t_alloc hA ?_ | refine ow_box rfl rfl hA ?_ | refine t_buildSlice rfl (by decide) rfl hA ?_); clear hA; (try clear w); intro b w hA; refine h_n hA ?_; clear hA; intro hA; refine rn ?_) | (refine g_ow ?_; refine t_make rfl rfl (by omega) (by omega) hA ?_; clear hA; (try clear w); intro v w hA hone hnil; refine rn ?_) | refine wc_pp rfl (fun h => ?_) (fun h => ?_) | refine wc_nn rfl (fun h => ?_) (fun h => ?_) | refine rl_pp rfl (fun h => o_n ?_) (fun h => rn ?_) | refine rl_qq rfl (fun h => o_n ?_) (fun h => rn ?_) | refine rl_nn rfl (fun h => o_n ?_) (fun h => rn ?_) | refine rl_mm rfl (fun h => o_n ?_) (fun h => rn ?_))
      rw [hpc]
      clear hpc
      generalize (tk 256 (strm s) p1).1 = a at *
      generalize (tk 256 (strm s) (p1 + 1)).1 = d at *
      have hf : ∀ i, (List.range (i + 1)).map (fun i => UInt8.ofNat (a + d * i)) = (List.range i).map (fun i => UInt8.ofNat (a + d * i)) ++ [UInt8.ofNat (a + d * i)] := fun i => by rw [List.range_succ, List.map_append]; rfl
      have hfl : ∀ i, ((List.range i).map (fun i => UInt8.ofNat (a + d * i))).length = i := fun i => by simp
      generalize hF : (fun i => (List.range i).map (fun i => UInt8.ofNat (a + d * i))) = F at *
      have hF' : ∀ i, (List.range i).map (fun i => UInt8.ofNat (a + d * i)) = F i := fun i => by rw [← hF]
      simp only [hF'] at hf hfl
      rw [hF']
      repeat' (first | (refine g_ow ?_; refine t_makeN (n := 384) (by rfl) rfl rfl (by omega) (by omega) hA ?_; clear hA; intro v w hA hv1 hv2; rw [ez] at hA; refine rn ?_) | refine st ?_ | (refine wc_regionS 36 rfl ?_; refine wc_region ?_) | (refine su ?_; refine rn ?_) | (refine g_conv ?_; refine p_c hA ?_; refine rn ?_) | (refine g_load ?_; (first | refine t_loadx rfl hA ?_ | refine t_loada rfl hA ?_); refine rn ?_) | (refine g_call ?_; refine t_appx rfl rfl hA rfl ?_; clear hA; (try clear w); intro v w hA hone hnil; refine h_n hA ?_; clear hA; intro hA; refine rn ?_) | (refine g_store ?_; (first | refine t_storex rfl rfl hA ?_ | refine t_storea rfl rfl hA ?_); clear hA; (try clear w); intro w hA; refine h_m hA ?_; clear hA; intro hA; refine rn ?_) | (refine g_ow ?_; (first | refine t_alloc hA ?_ | refine ow_box rfl rfl hA ?_ | refine t_buildSlice rfl (by decide) rfl hA ?_); clear hA; (try clear w); intro b w hA; refine h_n hA ?_; clear hA; intro hA; refine rn ?_) | (refine g_ow ?_; refine t_make rfl rfl (by omega) (by omega) hA ?_; clear hA; (try clear w); intro v w hA hone hnil; refine rn ?_) | refine wc_pp rfl (fun h => ?_) (fun h => ?_) | refine wc_nn rfl (fun h => ?_) (fun h => ?_) | refine rl_pp rfl (fun h => o_n ?_) (fun h => rn ?_) | refine rl_qq rfl (fun h => o_n ?_) (fun h => rn ?_) | refine rl_nn rfl (fun h => o_n ?_) (fun h => rn ?_) | refine rl_mm rfl (fun h => o_n ?_) (fun h => rn ?_))
      have h0 : F 0 = [] := by rw [← hF]; rfl
      have hl0 : Sat E5 (row 5 1 v 384 ((F 0 ++ List.replicate (384 - 0) 0).map u8) :: srcT bx s (p1 + 1 + 1) :: cells b7 (fC k 0 0 (vec16 []) (vec4 []) 0 0 q1 q2 nilV) 28 :: cells b6 zM 28 :: L) w := by rw [h0]; exact hA
      clear hA
      refine wc_loopn (fun q l w => ∃ (i : Nat), (∃ jk : Nat → Value, l = [.pointer (some ⟨bx, 0, none⟩), jk 1, jk 2, jk 3, jk 4, jk 5, .pointer (some ⟨b6, 0, none⟩), .pointer (some ⟨b7, 0, none⟩), jk 8, jk 9, jk 10, jk 11, jk 12, jk 13, jk 14, vi a, vi d, v, .int .i64 (i : Int), jk 19, jk 20, jk 21, jk 22, jk 23, jk 24, jk 25, jk 26, jk 27, jk 28, jk 29, jk 30, jk 31, jk 32, jk 33, jk 34, jk 35, jk 36, jk 37, jk 38, jk 39, jk 40, jk 41, jk 42, jk 43, jk 44, jk 45, jk 46, jk 47, jk 48, jk 49, jk 50, jk 51, jk 52, jk 53, jk 54, jk 55, jk 56, jk 57, jk 58, jk 59, jk 60, jk 61, jk 62, jk 63, jk 64, jk 65, jk 66, jk 67, jk 68, jk 69, jk 70, jk 71, jk 72, jk 73, jk 74, jk 75, jk 76, jk 77, jk 78, jk 79, jk 80, jk 81, jk 82, jk 83, jk 84, jk 85, jk 86, jk 87, jk 88, jk 89, jk 90, jk 91, jk 92, jk 93, jk 94, jk 95, jk 96, jk 97, jk 98, jk 99, jk 100, jk 101, jk 102, jk 103, jk 104, jk 105, jk 106, jk 107, jk 108, jk 109, jk 110, jk 111, jk 112, jk 113, jk 114, jk 115, jk 116, jk 117, jk 118, jk 119, jk 120, jk 121, jk 122, jk 123, jk 124, jk 125, jk 126, jk 127, jk 128, jk 129, jk 130, jk 131, jk 132, jk 133, jk 134, jk 135, jk 136, jk 137, jk 138, jk 139, jk 140, jk 141, jk 142, jk 143, jk 144, jk 145, jk 146, jk 147, jk 148, jk 149, jk 150, jk 151, jk 152]) ∧ i + q = 384 ∧ Sat E5 (row 5 1 v 384 ((F i ++ List.replicate (384 - i) 0).map u8) :: srcT bx s (p1 + 1 + 1) :: cells b7 (fC k 0 0 (vec16 []) (vec4 []) 0 0 q1 q2 nilV) 28 :: cells b6 zM 28 :: L) w) 384 ⟨0, (ex_getD rfl), by omega, hl0⟩ ?_
      clear hl0
      rintro q l w ⟨i, ⟨jk, rfl⟩, hi, hA⟩
      by_cases hlt : i < 384
      · have hdi : d * i ≤ 255 * 384 := Nat.mul_le_mul (by omega) (by omega)
        have hdi2 : (d : Int) * (i : Int) = ((d * i : Nat) : Int) := by push_cast; rfl
        have e8 : Value.int .u8 (IntKind.u8.wrap ((a : Int) + (d : Int) * (i : Int))) = u8 (UInt8.ofNat (a + d * i)) := by
          rw [← u8_of, hdi2]
          congr 2
        repeat' (first | (refine g_call ?_; refine t_lenR 0 rfl hA rfl ?_; refine rn ?_) | (refine g_bin ?_; refine ow_mul64 rfl rfl (by rw [hdi2]; omega) ?_; refine rn ?_) | (refine g_bin ?_; refine ow_add64 rfl rfl (by rw [hdi2]; omega) ?_; refine rn ?_) | (refine g_ow ?_; refine t_conv rfl ?_; rw [e8]; refine rn ?_) | (refine g_ow ?_; refine t_indexAddrR 0 rfl hA rfl rfl (by omega) ?_; refine rn ?_) | (refine g_ow ?_; refine t_store_row 0 rfl rfl rfl hA rfl (by simp [hfl]; omega) ?_; clear hA; intro w hA; refine rn ?_) | refine st ?_ | (refine wc_region ?_) | (refine su ?_; refine rn ?_) | (refine g_conv ?_; refine p_c hA ?_; refine rn ?_) | (refine g_load ?_; (first | refine t_loadx rfl hA ?_ | refine t_loada rfl hA ?_); refine rn ?_) | (refine g_call ?_; refine t_appx rfl rfl hA rfl ?_; clear hA; (try clear w); intro v w hA hone hnil; refine h_n hA ?_; clear hA; intro hA; refine rn ?_) | (refine g_store ?_; (first | refine t_storex rfl rfl hA ?_ | refine t_storea rfl rfl hA ?_); clear hA; (try clear w); intro w hA; refine h_m hA ?_; clear hA; intro hA; refine rn ?_) | (refine g_ow ?_; (first | refine t_alloc hA ?_ | refine ow_box rfl rfl hA ?_ | refine t_buildSlice rfl (by decide) rfl hA ?_); clear hA; (try clear w); intro b w hA; refine h_n hA ?_; clear hA; intro hA; refine rn ?_) | (refine g_ow ?_; refine t_make rfl rfl (by omega) (by omega) hA ?_; clear hA; (try clear w); intro v w hA hone hnil; refine rn ?_) | refine wc_pp rfl (fun h => ?_) (fun h => ?_) | refine wc_nn rfl (fun h => ?_) (fun h => ?_) | refine rl_pp rfl (fun h => o_n ?_) (fun h => rn ?_) | refine rl_qq rfl (fun h => o_n ?_) (fun h => rn ?_) | refine rl_nn rfl (fun h => o_n ?_) (fun h => rn ?_) | refine rl_mm rfl (fun h => o_n ?_) (fun h => rn ?_))
        refine lq_next (q - 1) (by omega) ⟨i + 1, (ex_getD rfl), by omega, ?_⟩
        have hA : Sat E5 (row 5 1 v 384 (((F i ++ List.replicate (384 - i) 0).map u8).set ((i : Int).toNat * 1) (u8 (UInt8.ofNat (a + d * i)))) :: srcT bx s (p1 + 1 + 1) :: cells b7 (fC k 0 0 (vec16 []) (vec4 []) 0 0 q1 q2 nilV) 28 :: cells b6 zM 28 :: L) w := hA
        have hg := fill_setG (F i) (384 - (i + 1)) 0 (UInt8.ofNat (a + d * i))
        rw [hfl] at hg
        rw [Int.toNat_natCast, Nat.mul_one, ← List.map_set, show 384 - i = (384 - (i + 1)) + 1 by omega, hg, ← hf] at hA
        exact hA
      · obtain rfl : i = 384 := by omega
        rw [Nat.sub_self, List.replicate_zero, List.append_nil] at hA
        have ek : k = 2 := UInt8.toNat_inj.1 h2
        subst ek
        repeat' (first | (refine g_call ?_; refine t_lenR 0 rfl hA rfl ?_; refine rn ?_) | (refine g_ow ?_; refine t_bytes_str 0 rfl hA rfl ?_; refine rn ?_) | refine st ?_ | (refine wc_region ?_) | (refine su ?_; refine rn ?_) | (refine g_conv ?_; refine p_c hA ?_; refine rn ?_) | (refine g_load ?_; (first | refine t_loadx rfl hA ?_ | refine t_loada rfl hA ?_); refine rn ?_) | (refine g_call ?_; refine t_appx rfl rfl hA rfl ?_; clear hA; (try clear w); intro v w hA hone hnil; refine h_n hA ?_; clear hA; intro hA; refine rn ?_) | (refine g_store ?_; (first | refine t_storex rfl rfl hA ?_ | refine t_storea rfl rfl hA ?_); clear hA; (try clear w); intro w hA; refine h_m hA ?_; clear hA; intro hA; refine rn ?_) | (refine g_ow ?_; (first | refine t_alloc hA ?_ | refine ow_box rfl rfl hA ?_ | refine t_buildSlice rfl (by decide) rfl hA ?_); clear hA; (try clear w); intro b w hA; refine h_n hA ?_; clear hA; intro hA; refine rn ?_) | (refine g_ow ?_; refine t_make rfl rfl (by omega) (by omega) hA ?_; clear hA; (try clear w); intro v w hA hone hnil; refine rn ?_) | refine wc_pp rfl (fun h => ?_) (fun h => ?_) | refine wc_nn rfl (fun h => ?_) (fun h => ?_) | refine rl_pp rfl (fun h => o_n ?_) (fun h => rn ?_) | refine rl_qq rfl (fun h => o_n ?_) (fun h => rn ?_) | refine rl_nn rfl (fun h => o_n ?_) (fun h => rn ?_) | refine rl_mm rfl (fun h => o_n ?_) (fun h => rn ?_))
        exact fp_ret (resSole rfl (one_cell 3 rfl rfl hA rfl rfl)) ⟨E5, q1, q2, nilV, rfl, hE05, ⟨l1, l2, ListE.nil, by show I64 0; decide, by show (F 384).length ≤ _; rw [hfl]; omega⟩, hA.sub (.cons _ (.cons_cons _ (.cons _ (.cons _ (List.Sublist.refl _)))))⟩
end Go.Proofs.YtomfoaaaeidpnaaDoor
