/-
  script's source: mb, walked.
-/
import Derived.Test.YtomfoaaaeidpnaaDoorS6
import Derived.Test.YtomfoaaaeidpnaaDoorSlF
set_option linter.unusedVariables false
set_option linter.unusedSimpArgs false
namespace Go.Proofs.YtomfoaaaeidpnaaDoor
open Go Go.RowKit
attribute [local irreducible] WC RL OW bodyPostM ThenQ BlockQ LoopQ ScopeQ
def mF (k mo ch : UInt8) (pr sl : List UInt8) (c : UInt8) (qp : Int) : Mb := ⟨k, mo, ch, vec16 pr, vec4 sl, [], [], c, qp, [], []⟩
theorem mM_pred (k mo ch : UInt8) (l : List UInt8) (x : UInt8) (r v u : Value) (hl : l.length < 16) : (mbC (mM k mo ch (vec16 l) []) r v u).set (3 + l.length) (u8 x) = mbC (mM k mo ch (vec16 (l ++ [x])) []) r v u := by
  match l, hl with
  | [], _ => rfl
  | [a0], _ => rfl
  | [a0, a1], _ => rfl
  | [a0, a1, a2], _ => rfl
  | [a0, a1, a2, a3], _ => rfl
  | [a0, a1, a2, a3, a4], _ => rfl
  | [a0, a1, a2, a3, a4, a5], _ => rfl
  | [a0, a1, a2, a3, a4, a5, a6], _ => rfl
  | [a0, a1, a2, a3, a4, a5, a6, a7], _ => rfl
  | [a0, a1, a2, a3, a4, a5, a6, a7, a8], _ => rfl
  | [a0, a1, a2, a3, a4, a5, a6, a7, a8, a9], _ => rfl
  | [a0, a1, a2, a3, a4, a5, a6, a7, a8, a9, a10], _ => rfl
  | [a0, a1, a2, a3, a4, a5, a6, a7, a8, a9, a10, a11], _ => rfl
  | [a0, a1, a2, a3, a4, a5, a6, a7, a8, a9, a10, a11, a12], _ => rfl
  | [a0, a1, a2, a3, a4, a5, a6, a7, a8, a9, a10, a11, a12, a13], _ => rfl
  | [a0, a1, a2, a3, a4, a5, a6, a7, a8, a9, a10, a11, a12, a13, a14], _ => rfl
  | a0 :: a1 :: a2 :: a3 :: a4 :: a5 :: a6 :: a7 :: a8 :: a9 :: a10 :: a11 :: a12 :: a13 :: a14 :: a15 :: rest, h => exact absurd h (by simp only [List.length_cons]; omega)
theorem mbP_pcm {intra : Bool} {refs : Nat} {σ : Nat → UInt8} {p : Nat} {k : UInt8} {p1 : Nat} (h1 : u8P (if intra then 3 else 8) σ p = (k, p1)) (h2 : k.toNat = 2) : mbP intra refs σ p = (pcmM (pcmP σ p1).1, (pcmP σ p1).2) := by
  have : mbP intra refs σ p = (if (u8P (if intra then 3 else 8) σ p).1.toNat = 2 then pcmP.bnd fun s => .ret (pcmM s) else _) σ (u8P (if intra then 3 else 8) σ p).2 := rfl
  rw [this, h1, if_pos h2]
  rfl
theorem mbP_skip {intra : Bool} {refs : Nat} {σ : Nat → UInt8} {p : Nat} {k : UInt8} {p1 : Nat} (h1 : u8P (if intra then 3 else 8) σ p = (k, p1)) (h2 : k.toNat = 7) : mbP intra refs σ p = (mF 7 0 0 [] [] 0 0, p1) := by
  have : mbP intra refs σ p = (if (u8P (if intra then 3 else 8) σ p).1.toNat = 2 then pcmP.bnd fun s => .ret (pcmM s) else if (u8P (if intra then 3 else 8) σ p).1.toNat = 7 then .ret (mF 7 0 0 [] [] 0 0) else _) σ (u8P (if intra then 3 else 8) σ p).2 := rfl
  rw [this, h1, if_neg (by rw [h2]; decide), if_pos h2]
  rfl
theorem mbP_eq {intra : Bool} {refs : Nat} {σ : Nat → UInt8} {p : Nat} {k mo ch c : UInt8} {p1 p2 p3 p4 p5 p6 p7 p8 : Nat} {pr sl : List UInt8} {rl : List Int} {vl : List Vec} {qp : Int} {bl : List (List Int)} (h1 : u8P (if intra then 3 else 8) σ p = (k, p1)) (h2 : ¬ k.toNat = 2) (h7 : ¬ k.toNat = 7)
    (hmo : optP (decide (k.toNat = 1)) (u8P 4) 0 σ p1 = (mo, p2)) (hch : optP (decide (k.toNat ≤ 1)) (u8P 4) 0 σ p2 = (ch, p3)) (hpr : optP (decide (k.toNat = 0)) (repP (u8P 9) 16) [] σ p3 = (pr, p4)) (hmot : motP k refs σ p4 = ((sl, rl, vl), p5)) (hc : cbpP k σ p5 = (c, p6))
    (hqp : optP (decide (k.toNat = 1) || !decide (c.toNat = 0)) ((tk 52).bnd fun a => .ret ((a : Int) - 26)) 0 σ p6 = (qp, p7)) (hbl : mapP (fun x : Coded => blkP (sizeN x.cat)) (blocksL (mF k mo ch pr sl c qp)) σ p7 = (bl, p8)) :
    mbP intra refs σ p = (⟨k, mo, ch, vec16 pr, vec4 sl, rl, vl, c, qp, bl, []⟩, p8) := by
  unfold mbP
  simp only [Par.bnd, h1]
  rw [if_neg h2, if_neg h7]
  simp only [Par.bnd, hmo, hch, hpr, hmot, hc, hqp]
  have hb : mapP (fun x : Coded => blkP (sizeN x.cat)) (blocksL ⟨k, mo, ch, vec16 pr, vec4 sl, rl, vl, c, qp, [], []⟩) σ p7 = (bl, p8) := hbl
  rw [hb]
  rfl
theorem blkLen (m : Mb) : (blocksL m).length ≤ 27 := by
  unfold blocksL
  split
  · have h1 := lumaL_len (if m.kind.toNat = 1 then 1 else 2) m.cbp 16
    have h2 := chacL_len 8
    simp only [List.length_append]
    have h3 : (if m.kind.toNat = 1 then [(⟨0, 0, 0⟩ : Coded)] else []).length ≤ 1 := by split <;> simp
    have h4 : (if 0 < m.cbp.toNat / 16 then [(⟨3, 0, 0⟩ : Coded), ⟨3, 1, 0⟩] else []).length ≤ 2 := by split <;> simp
    have h5 : (if m.cbp.toNat / 16 = 2 then chacL 8 else []).length ≤ 8 := by split <;> simp [h2]
    omega
  · simp
theorem blkCat (m : Mb) : ∀ c ∈ blocksL m, c.cat.toNat < 5 := by
  intro c hc
  unfold blocksL at hc
  split at hc
  · simp only [List.mem_append] at hc
    rcases hc with ((hc | hc) | hc) | hc
    · split at hc
      · rw [List.mem_singleton.1 hc]; decide
      · cases hc
    · unfold lumaL at hc
      obtain ⟨k, _, rfl⟩ := List.mem_map.1 hc
      show (if m.kind.toNat = 1 then (1 : UInt8) else 2).toNat < 5
      split <;> decide
    · split at hc
      · rcases List.mem_cons.1 hc with rfl | hc
        · decide
        · rw [List.mem_singleton.1 hc]; decide
      · cases hc
    · split at hc
      · unfold chacL at hc
        obtain ⟨k, _, rfl⟩ := List.mem_map.1 hc
        show (4 : UInt8).toNat < 5
        decide
      · cases hc
  · cases hc
end Go.Proofs.YtomfoaaaeidpnaaDoor
namespace Go.Proofs.YtomfoaaaeidpnaaDoor
open Go Go.RowKit
attribute [local irreducible] WC RL OW bodyPostM ThenQ BlockQ LoopQ ScopeQ
/-- The table of sizes. -/
abbrev SzG (E : Env) : Prop := ∀ i n, ([16, 15, 16, 4, 15] : List Int)[i]? = some n → E.cell? ⟨0, i, none⟩ = some (vi n)
theorem SzG.mono {E E' : Env} (h : SzG E) (hE : E.Le E') : SzG E' := fun i n hi => hE.cell (h i n hi)
theorem sizeS_calls (c : UInt8) (hc5 : c.toNat < 5) (E : Env) (L : List Item) (w : World) (hA : Sat E L w) (hG : SzG E) :
    Calls Tryd.prog 108 ⟨[u8 c]⟩ w (Ret E L (.tuple ⟨[vi (sizeN c), vi 0]⟩)) := by
  refine enter (fn := Tryd.f108) Tryd.func108 rfl 10 rfl [u8 c, undef, undef, undef, undef, undef, undef, undef, undef, undef] rfl ?_
  have hc : E.cell? ⟨0, ((c.toNat : Int)).toNat * 1, none⟩ = some (vi (sizeN c)) := by
    rw [Int.toNat_natCast, Nat.mul_one]
    exact hG _ _ (size_at c (by omega))
  repeat' (first | (refine g_ow ?_; refine t_conv64 rfl (by omega) ?_; refine rn ?_) | (refine g_ow ?_; refine t_indexAddrA rfl rfl (by omega) ?_; refine rn ?_) | (refine g_ow ?_; refine t_load_env rfl rfl hA hc ?_; refine rn ?_) | refine st ?_ | (refine wc_region ?_) | (refine su ?_; refine rn ?_) | (refine g_conv ?_; refine p_c hA ?_; refine rn ?_) | (refine g_load ?_; (first | refine t_loadx rfl hA ?_ | refine t_loada rfl hA ?_); refine rn ?_) | (refine g_call ?_; refine t_appx rfl rfl hA rfl ?_; clear hA; (try clear w); intro v w hA hone hnil; refine h_n hA ?_; clear hA; intro hA; refine rn ?_) | (refine g_store ?_; (first | refine t_storex rfl rfl hA ?_ | refine t_storea rfl rfl hA ?_); clear hA; (try clear w); intro w hA; refine h_m hA ?_; clear hA; intro hA; refine rn ?_) | (refine g_ow ?_; (first | refine t_alloc hA ?_ | refine ow_box rfl rfl hA ?_ | refine t_buildSlice rfl (by decide) rfl hA ?_); clear hA; (try clear w); intro b w hA; refine h_n hA ?_; clear hA; intro hA; refine rn ?_) | (refine g_ow ?_; refine t_make rfl rfl (by omega) (by omega) hA ?_; clear hA; (try clear w); intro v w hA hone hnil; refine rn ?_) | refine wc_pp rfl (fun h => ?_) (fun h => ?_) | refine wc_nn rfl (fun h => ?_) (fun h => ?_) | refine rl_pp rfl (fun h => o_n ?_) (fun h => rn ?_) | refine rl_qq rfl (fun h => o_n ?_) (fun h => rn ?_) | refine rl_nn rfl (fun h => o_n ?_) (fun h => rn ?_) | refine rl_mm rfl (fun h => o_n ?_) (fun h => rn ?_))
  exact ret2 hA rfl rfl rfl
theorem mapP_len {α β : Type} (f : α → Par β) (l : List α) (σ : Nat → UInt8) : ∀ p, (mapP f l σ p).1.length = l.length := by
  induction l with
  | nil => exact fun p => rfl
  | cons a l ih =>
    intro p
    show ((f a σ p).1 :: (mapP f l σ (f a σ p).2).1).length = _
    rw [List.length_cons, ih, List.length_cons]
abbrev fC (k mo ch : UInt8) (P : Vector UInt8 16) (S : Vector UInt8 4) (c : UInt8) (qp : Int) (r v u : Value) : List Value := [u8 k, u8 mo, u8 ch, u8 P[0], u8 P[1], u8 P[2], u8 P[3], u8 P[4], u8 P[5], u8 P[6], u8 P[7], u8 P[8], u8 P[9], u8 P[10], u8 P[11], u8 P[12], u8 P[13], u8 P[14], u8 P[15], u8 S[0], u8 S[1], u8 S[2], u8 S[3], r, v, u8 c, vi qp, u, vs []]
abbrev zM : List Value := fC 0 0 0 (vec16 []) (vec4 []) 0 0 nilV nilV nilV
set_option maxRecDepth 16000 in
set_option maxHeartbeats 32000000 in
theorem mb_calls (bx : Nat) (s : List UInt8) (p : Nat) (intra : Bool) (refs : Nat) (E : Env) (L : List Item) (w : World) (hir : intra = true ∨ 1 ≤ refs) (hr2 : refs ≤ 1000) (hs : s.length ≤ 1000000) (hA : Sat E (src bx s p :: L) w) (hG : SzG E) :
    Calls Tryd.prog 59 ⟨[.pointer (some ⟨bx, 0, none⟩), .bool intra, vi refs]⟩ w (fun e w' => ∃ E' r v u, e = .returned (.agg ⟨mbC (mbP intra refs (strm s) p).1 r v u⟩) ∧ E.Le E' ∧ MbL (E'.sub E) (mbP intra refs (strm s) p).1 r v u ∧ Sat E' (src bx s (mbP intra refs (strm s) p).2 :: L) w') := by
  refine enter (fn := Tryd.f59) Tryd.func59 rfl 117 rfl [.pointer (some ⟨bx, 0, none⟩), .bool intra, vi refs, undef, undef, undef, undef, undef, undef, undef, undef, undef, undef, undef, undef, undef, undef, undef, undef, undef, undef, undef, undef, undef, undef, undef, undef, undef, undef, undef, undef, undef, undef, undef, undef, undef, undef, undef, undef, undef, undef, undef, undef, undef, undef, undef, undef, undef, undef, undef, undef, undef, undef, undef, undef, undef, undef, undef, undef, undef, undef, undef, undef, undef, undef, undef, undef, undef, undef, undef, undef, undef, undef, undef, undef, undef, undef, undef, undef, undef, undef, undef, undef, undef, undef, undef, undef, undef, undef, undef, undef, undef, undef, undef, undef, undef, undef, undef, undef, undef, undef, undef, undef, undef, undef, undef, undef, undef, undef, undef, undef, undef, undef, undef, undef, undef, undef] rfl ?_
  repeat' (first | refine st ?_ | (refine wc_regionS 2 rfl ?_; refine wc_region ?_) | (refine su ?_; refine rn ?_) | (refine g_conv ?_; refine p_c hA ?_; refine rn ?_) | (refine g_load ?_; (first | refine t_loadx rfl hA ?_ | refine t_loada rfl hA ?_); refine rn ?_) | (refine g_call ?_; refine t_appx rfl rfl hA rfl ?_; clear hA; (try clear w); intro v w hA hone hnil; refine h_n hA ?_; clear hA; intro hA; refine rn ?_) | (refine g_store ?_; (first | refine t_storex rfl rfl hA ?_ | refine t_storea rfl rfl hA ?_); clear hA; (try clear w); intro w hA; refine h_m hA ?_; clear hA; intro hA; refine rn ?_) | (refine g_ow ?_; (first | refine t_alloc hA ?_ | refine ow_box rfl rfl hA ?_ | refine t_buildSlice rfl (by decide) rfl hA ?_); clear hA; (try clear w); intro b w hA; refine h_n hA ?_; clear hA; intro hA; refine rn ?_) | (refine g_ow ?_; refine t_make rfl rfl (by omega) (by omega) hA ?_; clear hA; (try clear w); intro v w hA hone hnil; refine rn ?_) | refine wc_pp rfl (fun h => ?_) (fun h => ?_) | refine wc_nn rfl (fun h => ?_) (fun h => ?_) | refine rl_pp rfl (fun h => o_n ?_) (fun h => rn ?_) | refine rl_qq rfl (fun h => o_n ?_) (fun h => rn ?_) | refine rl_nn rfl (fun h => o_n ?_) (fun h => rn ?_) | refine rl_mm rfl (fun h => o_n ?_) (fun h => rn ?_))
  rename_i b6
  generalize hb7 : b = b7 at *
  clear hb7
  have hA : Sat E (cells b7 zM 28 :: cells b6 zM 28 :: src bx s p :: L) w := hA
  have hA := hA.perm (List.perm_middle (l₁ := [_, _]))
  refine wc_region ?_
  refine' rl_v hA ?o2_0 ?k2_0
  case o2_0 => intro w hA; first | (refine ow_move_v rfl ?_; exact ⟨pe, hA⟩)
  case' k2_0 => clear hA; intro w hA; refine rn ?_
  refine rl_nil ?_
  refine tq_normal ?_
  refine wc_mid (fun l w => ∃ (k : UInt8) (p1 : Nat), (∃ jk : Nat → Value, l = [.pointer (some ⟨bx, 0, none⟩), .bool intra, vi refs, jk 3, jk 4, jk 5, .pointer (some ⟨b6, 0, none⟩), .pointer (some ⟨b7, 0, none⟩), jk 8, jk 9, jk 10, jk 11, jk 12, jk 13, jk 14, jk 15, jk 16, jk 17, jk 18, jk 19, jk 20, jk 21, jk 22, jk 23, jk 24, jk 25, jk 26, jk 27, jk 28, jk 29, jk 30, jk 31, jk 32, jk 33, jk 34, jk 35, jk 36, jk 37, jk 38, jk 39, jk 40, jk 41, jk 42, jk 43, jk 44, jk 45, jk 46, jk 47, jk 48, jk 49, jk 50, jk 51, jk 52, jk 53, jk 54, jk 55, jk 56, jk 57, jk 58, jk 59, jk 60, jk 61, jk 62, jk 63, jk 64, jk 65, jk 66, jk 67, jk 68, jk 69, jk 70, jk 71, jk 72, jk 73, jk 74, jk 75, jk 76, jk 77, jk 78, jk 79, jk 80, jk 81, jk 82, jk 83, jk 84, jk 85, jk 86, jk 87, jk 88, jk 89, jk 90, jk 91, jk 92, jk 93, jk 94, jk 95, jk 96, jk 97, jk 98, jk 99, jk 100, jk 101, jk 102, jk 103, jk 104, jk 105, jk 106, jk 107, jk 108, jk 109, jk 110, jk 111, jk 112, jk 113, jk 114, jk 115, jk 116]) ∧ u8P (if intra then 3 else 8) (strm s) p = (k, p1) ∧ Sat E (src bx s p1 :: cells b7 (fC k 0 0 (vec16 []) (vec4 []) 0 0 nilV nilV nilV) 28 :: cells b6 zM 28 :: L) w) ?_ ?_
  · cases intra with
    | true =>
      have ht : (tk 3 (strm s) p).1 < 3 := Nat.mod_lt _ (by decide)
      repeat' (first | (refine g_callf 84 ?_; refine ow_call Tryd.call84 rfl ((take_calls _ _ _ _ _ _ 3 3 rfl (by omega) hs hA).mono ?_); clear hA; (try clear w); rintro e w ⟨rfl, hA⟩; refine ⟨_, rfl, ?_⟩; refine rn ?_) | (refine g_ow ?_; refine t_conv8 rfl (by omega) ?_; rw [u8_small _ (by omega)]; refine rn ?_) | refine st ?_ | (refine wc_region ?_) | (refine su ?_; refine rn ?_) | (refine g_conv ?_; refine p_c hA ?_; refine rn ?_) | (refine g_load ?_; (first | refine t_loadx rfl hA ?_ | refine t_loada rfl hA ?_); refine rn ?_) | (refine g_call ?_; refine t_appx rfl rfl hA rfl ?_; clear hA; (try clear w); intro v w hA hone hnil; refine h_n hA ?_; clear hA; intro hA; refine rn ?_) | (refine g_store ?_; (first | refine t_storex rfl rfl hA ?_ | refine t_storea rfl rfl hA ?_); clear hA; (try clear w); intro w hA; refine h_m hA ?_; clear hA; intro hA; refine rn ?_) | (refine g_ow ?_; (first | refine t_alloc hA ?_ | refine ow_box rfl rfl hA ?_ | refine t_buildSlice rfl (by decide) rfl hA ?_); clear hA; (try clear w); intro b w hA; refine h_n hA ?_; clear hA; intro hA; refine rn ?_) | (refine g_ow ?_; refine t_make rfl rfl (by omega) (by omega) hA ?_; clear hA; (try clear w); intro v w hA hone hnil; refine rn ?_) | refine wc_pp rfl (fun h => ?_) (fun h => ?_) | refine wc_nn rfl (fun h => ?_) (fun h => ?_) | refine rl_pp rfl (fun h => o_n ?_) (fun h => rn ?_) | refine rl_qq rfl (fun h => o_n ?_) (fun h => rn ?_) | refine rl_nn rfl (fun h => o_n ?_) (fun h => rn ?_) | refine rl_mm rfl (fun h => o_n ?_) (fun h => rn ?_))
      exact mq_normal ⟨_, _, (ex_getD rfl), rfl, hA⟩
    | false =>
      have ht : (tk 8 (strm s) p).1 < 8 := Nat.mod_lt _ (by decide)
      repeat' (first | (refine g_callf 84 ?_; refine ow_call Tryd.call84 rfl ((take_calls _ _ _ _ _ _ 8 8 rfl (by omega) hs hA).mono ?_); clear hA; (try clear w); rintro e w ⟨rfl, hA⟩; refine ⟨_, rfl, ?_⟩; refine rn ?_) | (refine g_ow ?_; refine t_conv8 rfl (by omega) ?_; rw [u8_small _ (by omega)]; refine rn ?_) | refine st ?_ | (refine wc_region ?_) | (refine su ?_; refine rn ?_) | (refine g_conv ?_; refine p_c hA ?_; refine rn ?_) | (refine g_load ?_; (first | refine t_loadx rfl hA ?_ | refine t_loada rfl hA ?_); refine rn ?_) | (refine g_call ?_; refine t_appx rfl rfl hA rfl ?_; clear hA; (try clear w); intro v w hA hone hnil; refine h_n hA ?_; clear hA; intro hA; refine rn ?_) | (refine g_store ?_; (first | refine t_storex rfl rfl hA ?_ | refine t_storea rfl rfl hA ?_); clear hA; (try clear w); intro w hA; refine h_m hA ?_; clear hA; intro hA; refine rn ?_) | (refine g_ow ?_; (first | refine t_alloc hA ?_ | refine ow_box rfl rfl hA ?_ | refine t_buildSlice rfl (by decide) rfl hA ?_); clear hA; (try clear w); intro b w hA; refine h_n hA ?_; clear hA; intro hA; refine rn ?_) | (refine g_ow ?_; refine t_make rfl rfl (by omega) (by omega) hA ?_; clear hA; (try clear w); intro v w hA hone hnil; refine rn ?_) | refine wc_pp rfl (fun h => ?_) (fun h => ?_) | refine wc_nn rfl (fun h => ?_) (fun h => ?_) | refine rl_pp rfl (fun h => o_n ?_) (fun h => rn ?_) | refine rl_qq rfl (fun h => o_n ?_) (fun h => rn ?_) | refine rl_nn rfl (fun h => o_n ?_) (fun h => rn ?_) | refine rl_mm rfl (fun h => o_n ?_) (fun h => rn ?_))
      exact mq_normal ⟨_, _, (ex_getD rfl), rfl, hA⟩
  clear hA
  rintro l w ⟨k, p1, ⟨jk, rfl⟩, h1, hA⟩
  have hk8 : k.toNat < 8 ∧ (intra = true → k.toNat < 3) := by
    have e : k = UInt8.ofNat ((tk (if intra then 3 else 8) (strm s) p).1) := (congrArg Prod.fst h1).symm
    have hlt : (tk (if intra then 3 else 8) (strm s) p).1 < (if intra then 3 else 8) := Nat.mod_lt _ (by split <;> decide)
    generalize (tk (if intra then 3 else 8) (strm s) p).1 = a at *
    have hlt8 : a < 8 := by split at hlt <;> omega
    have ek : k.toNat = a := by rw [e, UInt8.toNat_ofNat', Nat.mod_eq_of_lt (by omega)]
    exact ⟨by omega, fun hi => by rw [hi, if_pos rfl] at hlt; omega⟩
  have hkr : 3 ≤ k.toNat → 1 ≤ refs := fun h => hir.elim (fun hi => absurd (hk8.2 hi) (by omega)) id
  by_cases h2 : k.toNat = 2
  · rw [mbP_pcm h1 h2]
    repeat' (first | (refine g_callf 105 ?_; refine ow_call Tryd.call105 rfl ((pcm_calls _ _ _ _ _ _ hs hA).mono ?_); clear hA; (try clear w); rintro e w ⟨rfl, hA⟩; refine ⟨_, rfl, ?_⟩; refine rn ?_) | refine st ?_ | (refine wc_region ?_) | (refine su ?_; refine rn ?_) | (refine g_conv ?_; refine p_c hA ?_; refine rn ?_) | (refine g_load ?_; (first | refine t_loadx rfl hA ?_ | refine t_loada rfl hA ?_); refine rn ?_) | (refine g_call ?_; refine t_appx rfl rfl hA rfl ?_; clear hA; (try clear w); intro v w hA hone hnil; refine h_n hA ?_; clear hA; intro hA; refine rn ?_) | (refine g_store ?_; (first | refine t_storex rfl rfl hA ?_ | refine t_storea rfl rfl hA ?_); clear hA; (try clear w); intro w hA; refine h_m hA ?_; clear hA; intro hA; refine rn ?_) | (refine g_ow ?_; (first | refine t_alloc hA ?_ | refine ow_box rfl rfl hA ?_ | refine t_buildSlice rfl (by decide) rfl hA ?_); clear hA; (try clear w); intro b w hA; refine h_n hA ?_; clear hA; intro hA; refine rn ?_) | (refine g_ow ?_; refine t_make rfl rfl (by omega) (by omega) hA ?_; clear hA; (try clear w); intro v w hA hone hnil; refine rn ?_) | refine wc_pp rfl (fun h => ?_) (fun h => ?_) | refine wc_nn rfl (fun h => ?_) (fun h => ?_) | refine rl_pp rfl (fun h => o_n ?_) (fun h => rn ?_) | refine rl_qq rfl (fun h => o_n ?_) (fun h => rn ?_) | refine rl_nn rfl (fun h => o_n ?_) (fun h => rn ?_) | refine rl_mm rfl (fun h => o_n ?_) (fun h => rn ?_))
    exact fp_ret (resSole rfl (one_cell 2 rfl rfl hA rfl rfl)) ⟨E, nilV, nilV, nilV, rfl, Env.Le.refl _, ⟨ListE.nil, ListE.nil, ListE.nil, by show I64 0; decide, by show ((pcmP (strm s) p1).1).length ≤ _; rw [show (pcmP (strm s) p1).1.length = 384 by show ((List.range 384).map _).length = 384; rw [List.length_map, List.length_range]]; omega⟩, hA.sub (.cons_cons _ (.cons _ (.cons _ (List.Sublist.refl _))))⟩
  by_cases h7 : k.toNat = 7
  · rw [mbP_skip h1 h7]
    repeat' (first | refine st ?_ | (refine wc_region ?_) | (refine su ?_; refine rn ?_) | (refine g_conv ?_; refine p_c hA ?_; refine rn ?_) | (refine g_load ?_; (first | refine t_loadx rfl hA ?_ | refine t_loada rfl hA ?_); refine rn ?_) | (refine g_call ?_; refine t_appx rfl rfl hA rfl ?_; clear hA; (try clear w); intro v w hA hone hnil; refine h_n hA ?_; clear hA; intro hA; refine rn ?_) | (refine g_store ?_; (first | refine t_storex rfl rfl hA ?_ | refine t_storea rfl rfl hA ?_); clear hA; (try clear w); intro w hA; refine h_m hA ?_; clear hA; intro hA; refine rn ?_) | (refine g_ow ?_; (first | refine t_alloc hA ?_ | refine ow_box rfl rfl hA ?_ | refine t_buildSlice rfl (by decide) rfl hA ?_); clear hA; (try clear w); intro b w hA; refine h_n hA ?_; clear hA; intro hA; refine rn ?_) | (refine g_ow ?_; refine t_make rfl rfl (by omega) (by omega) hA ?_; clear hA; (try clear w); intro v w hA hone hnil; refine rn ?_) | refine wc_pp rfl (fun h => ?_) (fun h => ?_) | refine wc_nn rfl (fun h => ?_) (fun h => ?_) | refine rl_pp rfl (fun h => o_n ?_) (fun h => rn ?_) | refine rl_qq rfl (fun h => o_n ?_) (fun h => rn ?_) | refine rl_nn rfl (fun h => o_n ?_) (fun h => rn ?_) | refine rl_mm rfl (fun h => o_n ?_) (fun h => rn ?_))
    have ek : k = 7 := UInt8.toNat_inj.1 h7
    subst ek
    exact fp_ret (resSole rfl (one_cell 2 rfl rfl hA rfl rfl)) ⟨E, nilV, nilV, nilV, rfl, Env.Le.refl _, ⟨ListE.nil, ListE.nil, ListE.nil, by show I64 0; decide, Nat.zero_le _⟩, hA.sub (.cons_cons _ (.cons _ (.cons _ (List.Sublist.refl _))))⟩
  repeat' (first | refine st ?_ | (refine wc_regionS 9 rfl ?_; refine wc_region ?_) | (refine su ?_; refine rn ?_) | (refine g_conv ?_; refine p_c hA ?_; refine rn ?_) | (refine g_load ?_; (first | refine t_loadx rfl hA ?_ | refine t_loada rfl hA ?_); refine rn ?_) | (refine g_call ?_; refine t_appx rfl rfl hA rfl ?_; clear hA; (try clear w); intro v w hA hone hnil; refine h_n hA ?_; clear hA; intro hA; refine rn ?_) | (refine g_store ?_; (first | refine t_storex rfl rfl hA ?_ | refine t_storea rfl rfl hA ?_); clear hA; (try clear w); intro w hA; refine h_m hA ?_; clear hA; intro hA; refine rn ?_) | (refine g_ow ?_; (first | refine t_alloc hA ?_ | refine ow_box rfl rfl hA ?_ | refine t_buildSlice rfl (by decide) rfl hA ?_); clear hA; (try clear w); intro b w hA; refine h_n hA ?_; clear hA; intro hA; refine rn ?_) | (refine g_ow ?_; refine t_make rfl rfl (by omega) (by omega) hA ?_; clear hA; (try clear w); intro v w hA hone hnil; refine rn ?_) | refine wc_pp rfl (fun h => ?_) (fun h => ?_) | refine wc_nn rfl (fun h => ?_) (fun h => ?_) | refine rl_pp rfl (fun h => o_n ?_) (fun h => rn ?_) | refine rl_qq rfl (fun h => o_n ?_) (fun h => rn ?_) | refine rl_nn rfl (fun h => o_n ?_) (fun h => rn ?_) | refine rl_mm rfl (fun h => o_n ?_) (fun h => rn ?_))
  refine wc_region ?_
  refine' rl_v hA ?o9_0 ?k9_0
  case o9_0 => intro w hA; first | (refine t_fieldAddr rfl ?_; exact ⟨pe, hA⟩)
  case' k9_0 => clear hA; intro w hA; refine rn ?_
  refine' rl_v hA ?o9_1 ?k9_1
  case o9_1 => intro w hA; first | (refine t_loadx rfl hA ?_; exact ⟨pe, hA⟩) | (refine t_loada rfl hA ?_; exact ⟨pe, hA⟩)
  case' k9_1 => clear hA; intro w hA; refine rn ?_
  refine' rl_v hA ?o9_2 ?k9_2
  case o9_2 => intro w hA; first | (refine ow_eql rfl rfl ?_; exact ⟨pe, hA⟩) | (refine ow_eqs rfl rfl ?_; exact ⟨pe, hA⟩) | (refine t_eqlb rfl rfl ?_; exact ⟨pe, hA⟩)
  case' k9_2 => clear hA; intro w hA; refine rn ?_
  refine rl_nil ?_
  refine tq_normal ?_
  refine wc_mid (fun l w => ∃ (mo : UInt8) (p2 : Nat), (∃ jk : Nat → Value, l = [.pointer (some ⟨bx, 0, none⟩), .bool intra, vi refs, jk 3, jk 4, jk 5, .pointer (some ⟨b6, 0, none⟩), .pointer (some ⟨b7, 0, none⟩), jk 8, jk 9, jk 10, jk 11, jk 12, jk 13, jk 14, jk 15, jk 16, jk 17, jk 18, jk 19, jk 20, jk 21, jk 22, jk 23, jk 24, jk 25, jk 26, jk 27, jk 28, jk 29, jk 30, jk 31, jk 32, jk 33, jk 34, jk 35, jk 36, jk 37, jk 38, jk 39, jk 40, jk 41, jk 42, jk 43, jk 44, jk 45, jk 46, jk 47, jk 48, jk 49, jk 50, jk 51, jk 52, jk 53, jk 54, jk 55, jk 56, jk 57, jk 58, jk 59, jk 60, jk 61, jk 62, jk 63, jk 64, jk 65, jk 66, jk 67, jk 68, jk 69, jk 70, jk 71, jk 72, jk 73, jk 74, jk 75, jk 76, jk 77, jk 78, jk 79, jk 80, jk 81, jk 82, jk 83, jk 84, jk 85, jk 86, jk 87, jk 88, jk 89, jk 90, jk 91, jk 92, jk 93, jk 94, jk 95, jk 96, jk 97, jk 98, jk 99, jk 100, jk 101, jk 102, jk 103, jk 104, jk 105, jk 106, jk 107, jk 108, jk 109, jk 110, jk 111, jk 112, jk 113, jk 114, jk 115, jk 116]) ∧ optP (decide (k.toNat = 1)) (u8P 4) 0 (strm s) p1 = (mo, p2) ∧ Sat E (src bx s p2 :: cells b7 (fC k mo 0 (vec16 []) (vec4 []) 0 0 nilV nilV nilV) 28 :: cells b6 zM 28 :: L) w) ?_ ?_
  · refine wc_bb rfl (fun h => ?_) (fun h => ?_)
    · have h' : k.toNat = 1 := by simp only [decide_eq_true_eq] at h; omega
      unfold optP
      rw [decide_eq_true h', if_pos rfl]
      have ht : (tk 4 (strm s) p1).1 < 4 := Nat.mod_lt _ (by decide)
      repeat' (first | (refine g_callf 84 ?_; refine ow_call Tryd.call84 rfl ((take_calls _ _ _ _ _ _ 4 4 rfl (by omega) hs hA).mono ?_); clear hA; (try clear w); rintro e w ⟨rfl, hA⟩; refine ⟨_, rfl, ?_⟩; refine rn ?_) | (refine g_ow ?_; refine t_conv8 rfl (by omega) ?_; rw [u8_small _ (by omega)]; refine rn ?_) | refine st ?_ | (refine wc_region ?_) | (refine su ?_; refine rn ?_) | (refine g_conv ?_; refine p_c hA ?_; refine rn ?_) | (refine g_load ?_; (first | refine t_loadx rfl hA ?_ | refine t_loada rfl hA ?_); refine rn ?_) | (refine g_call ?_; refine t_appx rfl rfl hA rfl ?_; clear hA; (try clear w); intro v w hA hone hnil; refine h_n hA ?_; clear hA; intro hA; refine rn ?_) | (refine g_store ?_; (first | refine t_storex rfl rfl hA ?_ | refine t_storea rfl rfl hA ?_); clear hA; (try clear w); intro w hA; refine h_m hA ?_; clear hA; intro hA; refine rn ?_) | (refine g_ow ?_; (first | refine t_alloc hA ?_ | refine ow_box rfl rfl hA ?_ | refine t_buildSlice rfl (by decide) rfl hA ?_); clear hA; (try clear w); intro b w hA; refine h_n hA ?_; clear hA; intro hA; refine rn ?_) | (refine g_ow ?_; refine t_make rfl rfl (by omega) (by omega) hA ?_; clear hA; (try clear w); intro v w hA hone hnil; refine rn ?_) | refine wc_pp rfl (fun h => ?_) (fun h => ?_) | refine wc_nn rfl (fun h => ?_) (fun h => ?_) | refine rl_pp rfl (fun h => o_n ?_) (fun h => rn ?_) | refine rl_qq rfl (fun h => o_n ?_) (fun h => rn ?_) | refine rl_nn rfl (fun h => o_n ?_) (fun h => rn ?_) | refine rl_mm rfl (fun h => o_n ?_) (fun h => rn ?_))
      exact mq_normal ⟨_, _, (ex_getD rfl), rfl, hA⟩
    · have h' : ¬ (k.toNat = 1) := by simp only [decide_eq_false_iff_not] at h; omega
      unfold optP
      rw [decide_eq_false h', if_neg (by decide)]
      repeat' (first | refine st ?_ | (refine wc_region ?_) | (refine su ?_; refine rn ?_) | (refine g_conv ?_; refine p_c hA ?_; refine rn ?_) | (refine g_load ?_; (first | refine t_loadx rfl hA ?_ | refine t_loada rfl hA ?_); refine rn ?_) | (refine g_call ?_; refine t_appx rfl rfl hA rfl ?_; clear hA; (try clear w); intro v w hA hone hnil; refine h_n hA ?_; clear hA; intro hA; refine rn ?_) | (refine g_store ?_; (first | refine t_storex rfl rfl hA ?_ | refine t_storea rfl rfl hA ?_); clear hA; (try clear w); intro w hA; refine h_m hA ?_; clear hA; intro hA; refine rn ?_) | (refine g_ow ?_; (first | refine t_alloc hA ?_ | refine ow_box rfl rfl hA ?_ | refine t_buildSlice rfl (by decide) rfl hA ?_); clear hA; (try clear w); intro b w hA; refine h_n hA ?_; clear hA; intro hA; refine rn ?_) | (refine g_ow ?_; refine t_make rfl rfl (by omega) (by omega) hA ?_; clear hA; (try clear w); intro v w hA hone hnil; refine rn ?_) | refine wc_pp rfl (fun h => ?_) (fun h => ?_) | refine wc_nn rfl (fun h => ?_) (fun h => ?_) | refine rl_pp rfl (fun h => o_n ?_) (fun h => rn ?_) | refine rl_qq rfl (fun h => o_n ?_) (fun h => rn ?_) | refine rl_nn rfl (fun h => o_n ?_) (fun h => rn ?_) | refine rl_mm rfl (fun h => o_n ?_) (fun h => rn ?_))
      exact mq_normal ⟨0, p1, (ex_getD rfl), rfl, hA⟩
  clear hA
  rintro l w ⟨mo, p2, ⟨jk, rfl⟩, hmo, hA⟩
  repeat' (first | refine st ?_ | (refine wc_regionS 11 rfl ?_; refine wc_region ?_) | (refine su ?_; refine rn ?_) | (refine g_conv ?_; refine p_c hA ?_; refine rn ?_) | (refine g_load ?_; (first | refine t_loadx rfl hA ?_ | refine t_loada rfl hA ?_); refine rn ?_) | (refine g_call ?_; refine t_appx rfl rfl hA rfl ?_; clear hA; (try clear w); intro v w hA hone hnil; refine h_n hA ?_; clear hA; intro hA; refine rn ?_) | (refine g_store ?_; (first | refine t_storex rfl rfl hA ?_ | refine t_storea rfl rfl hA ?_); clear hA; (try clear w); intro w hA; refine h_m hA ?_; clear hA; intro hA; refine rn ?_) | (refine g_ow ?_; (first | refine t_alloc hA ?_ | refine ow_box rfl rfl hA ?_ | refine t_buildSlice rfl (by decide) rfl hA ?_); clear hA; (try clear w); intro b w hA; refine h_n hA ?_; clear hA; intro hA; refine rn ?_) | (refine g_ow ?_; refine t_make rfl rfl (by omega) (by omega) hA ?_; clear hA; (try clear w); intro v w hA hone hnil; refine rn ?_) | refine wc_pp rfl (fun h => ?_) (fun h => ?_) | refine wc_nn rfl (fun h => ?_) (fun h => ?_) | refine rl_pp rfl (fun h => o_n ?_) (fun h => rn ?_) | refine rl_qq rfl (fun h => o_n ?_) (fun h => rn ?_) | refine rl_nn rfl (fun h => o_n ?_) (fun h => rn ?_) | refine rl_mm rfl (fun h => o_n ?_) (fun h => rn ?_))
  refine wc_region ?_
  refine' rl_v hA ?o11_0 ?k11_0
  case o11_0 => intro w hA; first | (refine t_fieldAddr rfl ?_; exact ⟨pe, hA⟩)
  case' k11_0 => clear hA; intro w hA; refine rn ?_
  refine' rl_v hA ?o11_1 ?k11_1
  case o11_1 => intro w hA; first | (refine t_loadx rfl hA ?_; exact ⟨pe, hA⟩) | (refine t_loada rfl hA ?_; exact ⟨pe, hA⟩)
  case' k11_1 => clear hA; intro w hA; refine rn ?_
  refine' rl_v hA ?o11_2 ?k11_2
  case o11_2 => intro w hA; first | (refine ow_leq rfl rfl ?_; exact ⟨pe, hA⟩)
  case' k11_2 => clear hA; intro w hA; refine rn ?_
  refine rl_nil ?_
  refine tq_normal ?_
  refine wc_mid (fun l w => ∃ (ch : UInt8) (p3 : Nat), (∃ jk : Nat → Value, l = [.pointer (some ⟨bx, 0, none⟩), .bool intra, vi refs, jk 3, jk 4, jk 5, .pointer (some ⟨b6, 0, none⟩), .pointer (some ⟨b7, 0, none⟩), jk 8, jk 9, jk 10, jk 11, jk 12, jk 13, jk 14, jk 15, jk 16, jk 17, jk 18, jk 19, jk 20, jk 21, jk 22, jk 23, jk 24, jk 25, jk 26, jk 27, jk 28, jk 29, jk 30, jk 31, jk 32, jk 33, jk 34, jk 35, jk 36, jk 37, jk 38, jk 39, jk 40, jk 41, jk 42, jk 43, jk 44, jk 45, jk 46, jk 47, jk 48, jk 49, jk 50, jk 51, jk 52, jk 53, jk 54, jk 55, jk 56, jk 57, jk 58, jk 59, jk 60, jk 61, jk 62, jk 63, jk 64, jk 65, jk 66, jk 67, jk 68, jk 69, jk 70, jk 71, jk 72, jk 73, jk 74, jk 75, jk 76, jk 77, jk 78, jk 79, jk 80, jk 81, jk 82, jk 83, jk 84, jk 85, jk 86, jk 87, jk 88, jk 89, jk 90, jk 91, jk 92, jk 93, jk 94, jk 95, jk 96, jk 97, jk 98, jk 99, jk 100, jk 101, jk 102, jk 103, jk 104, jk 105, jk 106, jk 107, jk 108, jk 109, jk 110, jk 111, jk 112, jk 113, jk 114, jk 115, jk 116]) ∧ optP (decide (k.toNat ≤ 1)) (u8P 4) 0 (strm s) p2 = (ch, p3) ∧ Sat E (src bx s p3 :: cells b7 (fC k mo ch (vec16 []) (vec4 []) 0 0 nilV nilV nilV) 28 :: cells b6 zM 28 :: L) w) ?_ ?_
  · refine wc_bb rfl (fun h => ?_) (fun h => ?_)
    · have h' : k.toNat ≤ 1 := by simp only [decide_eq_true_eq] at h; omega
      unfold optP
      rw [decide_eq_true h', if_pos rfl]
      have ht : (tk 4 (strm s) p2).1 < 4 := Nat.mod_lt _ (by decide)
      repeat' (first | (refine g_callf 84 ?_; refine ow_call Tryd.call84 rfl ((take_calls _ _ _ _ _ _ 4 4 rfl (by omega) hs hA).mono ?_); clear hA; (try clear w); rintro e w ⟨rfl, hA⟩; refine ⟨_, rfl, ?_⟩; refine rn ?_) | (refine g_ow ?_; refine t_conv8 rfl (by omega) ?_; rw [u8_small _ (by omega)]; refine rn ?_) | refine st ?_ | (refine wc_region ?_) | (refine su ?_; refine rn ?_) | (refine g_conv ?_; refine p_c hA ?_; refine rn ?_) | (refine g_load ?_; (first | refine t_loadx rfl hA ?_ | refine t_loada rfl hA ?_); refine rn ?_) | (refine g_call ?_; refine t_appx rfl rfl hA rfl ?_; clear hA; (try clear w); intro v w hA hone hnil; refine h_n hA ?_; clear hA; intro hA; refine rn ?_) | (refine g_store ?_; (first | refine t_storex rfl rfl hA ?_ | refine t_storea rfl rfl hA ?_); clear hA; (try clear w); intro w hA; refine h_m hA ?_; clear hA; intro hA; refine rn ?_) | (refine g_ow ?_; (first | refine t_alloc hA ?_ | refine ow_box rfl rfl hA ?_ | refine t_buildSlice rfl (by decide) rfl hA ?_); clear hA; (try clear w); intro b w hA; refine h_n hA ?_; clear hA; intro hA; refine rn ?_) | (refine g_ow ?_; refine t_make rfl rfl (by omega) (by omega) hA ?_; clear hA; (try clear w); intro v w hA hone hnil; refine rn ?_) | refine wc_pp rfl (fun h => ?_) (fun h => ?_) | refine wc_nn rfl (fun h => ?_) (fun h => ?_) | refine rl_pp rfl (fun h => o_n ?_) (fun h => rn ?_) | refine rl_qq rfl (fun h => o_n ?_) (fun h => rn ?_) | refine rl_nn rfl (fun h => o_n ?_) (fun h => rn ?_) | refine rl_mm rfl (fun h => o_n ?_) (fun h => rn ?_))
      exact mq_normal ⟨_, _, (ex_getD rfl), rfl, hA⟩
    · have h' : ¬ (k.toNat ≤ 1) := by simp only [decide_eq_false_iff_not] at h; omega
      unfold optP
      rw [decide_eq_false h', if_neg (by decide)]
      repeat' (first | refine st ?_ | (refine wc_region ?_) | (refine su ?_; refine rn ?_) | (refine g_conv ?_; refine p_c hA ?_; refine rn ?_) | (refine g_load ?_; (first | refine t_loadx rfl hA ?_ | refine t_loada rfl hA ?_); refine rn ?_) | (refine g_call ?_; refine t_appx rfl rfl hA rfl ?_; clear hA; (try clear w); intro v w hA hone hnil; refine h_n hA ?_; clear hA; intro hA; refine rn ?_) | (refine g_store ?_; (first | refine t_storex rfl rfl hA ?_ | refine t_storea rfl rfl hA ?_); clear hA; (try clear w); intro w hA; refine h_m hA ?_; clear hA; intro hA; refine rn ?_) | (refine g_ow ?_; (first | refine t_alloc hA ?_ | refine ow_box rfl rfl hA ?_ | refine t_buildSlice rfl (by decide) rfl hA ?_); clear hA; (try clear w); intro b w hA; refine h_n hA ?_; clear hA; intro hA; refine rn ?_) | (refine g_ow ?_; refine t_make rfl rfl (by omega) (by omega) hA ?_; clear hA; (try clear w); intro v w hA hone hnil; refine rn ?_) | refine wc_pp rfl (fun h => ?_) (fun h => ?_) | refine wc_nn rfl (fun h => ?_) (fun h => ?_) | refine rl_pp rfl (fun h => o_n ?_) (fun h => rn ?_) | refine rl_qq rfl (fun h => o_n ?_) (fun h => rn ?_) | refine rl_nn rfl (fun h => o_n ?_) (fun h => rn ?_) | refine rl_mm rfl (fun h => o_n ?_) (fun h => rn ?_))
      exact mq_normal ⟨0, p2, (ex_getD rfl), rfl, hA⟩
  clear hA
  rintro l w ⟨ch, p3, ⟨jk, rfl⟩, hch, hA⟩
  repeat' (first | refine st ?_ | (refine wc_regionS 13 rfl ?_; refine wc_region ?_) | (refine su ?_; refine rn ?_) | (refine g_conv ?_; refine p_c hA ?_; refine rn ?_) | (refine g_load ?_; (first | refine t_loadx rfl hA ?_ | refine t_loada rfl hA ?_); refine rn ?_) | (refine g_call ?_; refine t_appx rfl rfl hA rfl ?_; clear hA; (try clear w); intro v w hA hone hnil; refine h_n hA ?_; clear hA; intro hA; refine rn ?_) | (refine g_store ?_; (first | refine t_storex rfl rfl hA ?_ | refine t_storea rfl rfl hA ?_); clear hA; (try clear w); intro w hA; refine h_m hA ?_; clear hA; intro hA; refine rn ?_) | (refine g_ow ?_; (first | refine t_alloc hA ?_ | refine ow_box rfl rfl hA ?_ | refine t_buildSlice rfl (by decide) rfl hA ?_); clear hA; (try clear w); intro b w hA; refine h_n hA ?_; clear hA; intro hA; refine rn ?_) | (refine g_ow ?_; refine t_make rfl rfl (by omega) (by omega) hA ?_; clear hA; (try clear w); intro v w hA hone hnil; refine rn ?_) | refine wc_pp rfl (fun h => ?_) (fun h => ?_) | refine wc_nn rfl (fun h => ?_) (fun h => ?_) | refine rl_pp rfl (fun h => o_n ?_) (fun h => rn ?_) | refine rl_qq rfl (fun h => o_n ?_) (fun h => rn ?_) | refine rl_nn rfl (fun h => o_n ?_) (fun h => rn ?_) | refine rl_mm rfl (fun h => o_n ?_) (fun h => rn ?_))
  refine wc_region ?_
  refine' rl_v hA ?o13_0 ?k13_0
  case o13_0 => intro w hA; first | (refine t_fieldAddr rfl ?_; exact ⟨pe, hA⟩)
  case' k13_0 => clear hA; intro w hA; refine rn ?_
  refine' rl_v hA ?o13_1 ?k13_1
  case o13_1 => intro w hA; first | (refine t_loadx rfl hA ?_; exact ⟨pe, hA⟩) | (refine t_loada rfl hA ?_; exact ⟨pe, hA⟩)
  case' k13_1 => clear hA; intro w hA; refine rn ?_
  refine' rl_v hA ?o13_2 ?k13_2
  case o13_2 => intro w hA; first | (refine ow_eql rfl rfl ?_; exact ⟨pe, hA⟩) | (refine ow_eqs rfl rfl ?_; exact ⟨pe, hA⟩) | (refine t_eqlb rfl rfl ?_; exact ⟨pe, hA⟩)
  case' k13_2 => clear hA; intro w hA; refine rn ?_
  refine rl_nil ?_
  refine tq_normal ?_
  refine wc_mid (fun l w => ∃ (pr : List UInt8) (p4 : Nat), (∃ jk : Nat → Value, l = [.pointer (some ⟨bx, 0, none⟩), .bool intra, vi refs, jk 3, jk 4, jk 5, .pointer (some ⟨b6, 0, none⟩), .pointer (some ⟨b7, 0, none⟩), jk 8, jk 9, jk 10, jk 11, jk 12, jk 13, jk 14, jk 15, jk 16, jk 17, jk 18, jk 19, jk 20, jk 21, jk 22, jk 23, jk 24, jk 25, jk 26, jk 27, jk 28, jk 29, jk 30, jk 31, jk 32, jk 33, jk 34, jk 35, jk 36, jk 37, jk 38, jk 39, jk 40, jk 41, jk 42, jk 43, jk 44, jk 45, jk 46, jk 47, jk 48, jk 49, jk 50, jk 51, jk 52, jk 53, jk 54, jk 55, jk 56, jk 57, jk 58, jk 59, jk 60, jk 61, jk 62, jk 63, jk 64, jk 65, jk 66, jk 67, jk 68, jk 69, jk 70, jk 71, jk 72, jk 73, jk 74, jk 75, jk 76, jk 77, jk 78, jk 79, jk 80, jk 81, jk 82, jk 83, jk 84, jk 85, jk 86, jk 87, jk 88, jk 89, jk 90, jk 91, jk 92, jk 93, jk 94, jk 95, jk 96, jk 97, jk 98, jk 99, jk 100, jk 101, jk 102, jk 103, jk 104, jk 105, jk 106, jk 107, jk 108, jk 109, jk 110, jk 111, jk 112, jk 113, jk 114, jk 115, jk 116]) ∧ optP (decide (k.toNat = 0)) (repP (u8P 9) 16) [] (strm s) p3 = (pr, p4) ∧ Sat E (src bx s p4 :: cells b7 (fC k mo ch (vec16 pr) (vec4 []) 0 0 nilV nilV nilV) 28 :: cells b6 zM 28 :: L) w) ?_ ?_
  · refine wc_bb rfl (fun h => ?_) (fun h => ?_)
    · have h' : k.toNat = 0 := by simp only [decide_eq_true_eq] at h; omega
      unfold optP
      rw [decide_eq_true h', if_pos rfl]
      repeat' (first | refine st ?_ | (refine wc_regionS 15 rfl ?_; refine wc_region ?_) | (refine su ?_; refine rn ?_) | (refine g_conv ?_; refine p_c hA ?_; refine rn ?_) | (refine g_load ?_; (first | refine t_loadx rfl hA ?_ | refine t_loada rfl hA ?_); refine rn ?_) | (refine g_call ?_; refine t_appx rfl rfl hA rfl ?_; clear hA; (try clear w); intro v w hA hone hnil; refine h_n hA ?_; clear hA; intro hA; refine rn ?_) | (refine g_store ?_; (first | refine t_storex rfl rfl hA ?_ | refine t_storea rfl rfl hA ?_); clear hA; (try clear w); intro w hA; refine h_m hA ?_; clear hA; intro hA; refine rn ?_) | (refine g_ow ?_; (first | refine t_alloc hA ?_ | refine ow_box rfl rfl hA ?_ | refine t_buildSlice rfl (by decide) rfl hA ?_); clear hA; (try clear w); intro b w hA; refine h_n hA ?_; clear hA; intro hA; refine rn ?_) | (refine g_ow ?_; refine t_make rfl rfl (by omega) (by omega) hA ?_; clear hA; (try clear w); intro v w hA hone hnil; refine rn ?_) | refine wc_pp rfl (fun h => ?_) (fun h => ?_) | refine wc_nn rfl (fun h => ?_) (fun h => ?_) | refine rl_pp rfl (fun h => o_n ?_) (fun h => rn ?_) | refine rl_qq rfl (fun h => o_n ?_) (fun h => rn ?_) | refine rl_nn rfl (fun h => o_n ?_) (fun h => rn ?_) | refine rl_mm rfl (fun h => o_n ?_) (fun h => rn ?_))
      have hl0 : Sat E (src bx s (repP (u8P 9) 0 (strm s) p3).2 :: cells b7 (mbC (mM k mo ch (vec16 (repP (u8P 9) 0 (strm s) p3).1) []) nilV nilV nilV) 28 :: cells b6 zM 28 :: L) w := hA
      clear hA
      refine wc_loopn (fun q l w => ∃ (i : Nat), (∃ jk : Nat → Value, l = [.pointer (some ⟨bx, 0, none⟩), .bool intra, vi refs, jk 3, jk 4, jk 5, .pointer (some ⟨b6, 0, none⟩), .pointer (some ⟨b7, 0, none⟩), jk 8, jk 9, jk 10, jk 11, jk 12, jk 13, jk 14, jk 15, jk 16, jk 17, jk 18, jk 19, jk 20, jk 21, jk 22, jk 23, jk 24, jk 25, jk 26, jk 27, jk 28, jk 29, jk 30, jk 31, jk 32, jk 33, jk 34, jk 35, jk 36, jk 37, jk 38, jk 39, jk 40, jk 41, jk 42, jk 43, jk 44, jk 45, jk 46, jk 47, jk 48, .int .i64 (i : Int), jk 50, jk 51, jk 52, jk 53, jk 54, jk 55, jk 56, jk 57, jk 58, jk 59, jk 60, jk 61, jk 62, jk 63, jk 64, jk 65, jk 66, jk 67, jk 68, jk 69, jk 70, jk 71, jk 72, jk 73, jk 74, jk 75, jk 76, jk 77, jk 78, jk 79, jk 80, jk 81, jk 82, jk 83, jk 84, jk 85, jk 86, jk 87, jk 88, jk 89, jk 90, jk 91, jk 92, jk 93, jk 94, jk 95, jk 96, jk 97, jk 98, jk 99, jk 100, jk 101, jk 102, jk 103, jk 104, jk 105, jk 106, jk 107, jk 108, jk 109, jk 110, jk 111, jk 112, jk 113, jk 114, jk 115, jk 116]) ∧ i + q = 16 ∧ Sat E (src bx s (repP (u8P 9) i (strm s) p3).2 :: cells b7 (mbC (mM k mo ch (vec16 (repP (u8P 9) i (strm s) p3).1) []) nilV nilV nilV) 28 :: cells b6 zM 28 :: L) w) 16 ⟨0, (ex_getD rfl), by omega, hl0⟩ ?_
      clear hl0
      rintro q l w ⟨i, ⟨jk, rfl⟩, hi, hA⟩
      have hlen := rep_len (u8P 9) (strm s) p3 i
      by_cases hlt : i < 16
      · have hstep : repP (u8P 9) (i + 1) (strm s) p3 = ((repP (u8P 9) i (strm s) p3).1 ++ [UInt8.ofNat (tk 9 (strm s) (repP (u8P 9) i (strm s) p3).2).1], (repP (u8P 9) i (strm s) p3).2 + 1) := rfl
        generalize repP (u8P 9) i (strm s) p3 = r at *
        have ht9 : (tk 9 (strm s) r.2).1 < 9 := Nat.mod_lt _ (by decide)
        have hset := mM_pred k mo ch r.1 (UInt8.ofNat (tk 9 (strm s) r.2).1) nilV nilV nilV (by omega)
        rw [hlen] at hset
        repeat' (first | (refine g_callf 84 ?_; refine ow_call Tryd.call84 rfl ((take_calls _ _ _ _ _ _ 9 9 rfl (by omega) hs hA).mono ?_); clear hA; (try clear w); rintro e w ⟨rfl, hA⟩; refine ⟨_, rfl, ?_⟩; refine rn ?_) | (refine g_ow ?_; refine t_conv8 rfl (by omega) ?_; rw [u8_small _ (by omega)]; refine rn ?_) | (refine g_ow ?_; refine t_indexAddrA rfl rfl (by omega) ?_; refine rn ?_) | (refine g_ow ?_; refine t_store 1 rfl rfl rfl hA rfl (by show 3 + (i : Int).toNat * 1 < 29; omega) ?_; clear hA; intro w hA; refine rn ?_) | refine st ?_ | (refine wc_region ?_) | (refine su ?_; refine rn ?_) | (refine g_conv ?_; refine p_c hA ?_; refine rn ?_) | (refine g_load ?_; (first | refine t_loadx rfl hA ?_ | refine t_loada rfl hA ?_); refine rn ?_) | (refine g_call ?_; refine t_appx rfl rfl hA rfl ?_; clear hA; (try clear w); intro v w hA hone hnil; refine h_n hA ?_; clear hA; intro hA; refine rn ?_) | (refine g_store ?_; (first | refine t_storex rfl rfl hA ?_ | refine t_storea rfl rfl hA ?_); clear hA; (try clear w); intro w hA; refine h_m hA ?_; clear hA; intro hA; refine rn ?_) | (refine g_ow ?_; (first | refine t_alloc hA ?_ | refine ow_box rfl rfl hA ?_ | refine t_buildSlice rfl (by decide) rfl hA ?_); clear hA; (try clear w); intro b w hA; refine h_n hA ?_; clear hA; intro hA; refine rn ?_) | (refine g_ow ?_; refine t_make rfl rfl (by omega) (by omega) hA ?_; clear hA; (try clear w); intro v w hA hone hnil; refine rn ?_) | refine wc_pp rfl (fun h => ?_) (fun h => ?_) | refine wc_nn rfl (fun h => ?_) (fun h => ?_) | refine rl_pp rfl (fun h => o_n ?_) (fun h => rn ?_) | refine rl_qq rfl (fun h => o_n ?_) (fun h => rn ?_) | refine rl_nn rfl (fun h => o_n ?_) (fun h => rn ?_) | refine rl_mm rfl (fun h => o_n ?_) (fun h => rn ?_))
        have hA : Sat E (src bx s (r.2 + 1) :: cells b7 ((mbC (mM k mo ch (vec16 r.1) []) nilV nilV nilV).set (3 + (i : Int).toNat * 1) (u8 (UInt8.ofNat (tk 9 (strm s) r.2).1))) 28 :: cells b6 zM 28 :: L) w := hA
        rw [Int.toNat_natCast, Nat.mul_one, hset] at hA
        exact lq_next (q - 1) (by omega) ⟨i + 1, (ex_getD rfl), by omega, by rw [hstep]; exact hA⟩
      · obtain rfl : i = 16 := by omega
        repeat' (first | refine st ?_ | (refine wc_region ?_) | (refine su ?_; refine rn ?_) | (refine g_conv ?_; refine p_c hA ?_; refine rn ?_) | (refine g_load ?_; (first | refine t_loadx rfl hA ?_ | refine t_loada rfl hA ?_); refine rn ?_) | (refine g_call ?_; refine t_appx rfl rfl hA rfl ?_; clear hA; (try clear w); intro v w hA hone hnil; refine h_n hA ?_; clear hA; intro hA; refine rn ?_) | (refine g_store ?_; (first | refine t_storex rfl rfl hA ?_ | refine t_storea rfl rfl hA ?_); clear hA; (try clear w); intro w hA; refine h_m hA ?_; clear hA; intro hA; refine rn ?_) | (refine g_ow ?_; (first | refine t_alloc hA ?_ | refine ow_box rfl rfl hA ?_ | refine t_buildSlice rfl (by decide) rfl hA ?_); clear hA; (try clear w); intro b w hA; refine h_n hA ?_; clear hA; intro hA; refine rn ?_) | (refine g_ow ?_; refine t_make rfl rfl (by omega) (by omega) hA ?_; clear hA; (try clear w); intro v w hA hone hnil; refine rn ?_) | refine wc_pp rfl (fun h => ?_) (fun h => ?_) | refine wc_nn rfl (fun h => ?_) (fun h => ?_) | refine rl_pp rfl (fun h => o_n ?_) (fun h => rn ?_) | refine rl_qq rfl (fun h => o_n ?_) (fun h => rn ?_) | refine rl_nn rfl (fun h => o_n ?_) (fun h => rn ?_) | refine rl_mm rfl (fun h => o_n ?_) (fun h => rn ?_))
        exact mq_normal ⟨_, _, (ex_getD rfl), rfl, hA⟩
    · have h' : ¬ k.toNat = 0 := by simp only [decide_eq_false_iff_not] at h; omega
      unfold optP
      rw [decide_eq_false h', if_neg (by decide)]
      repeat' (first | refine st ?_ | (refine wc_region ?_) | (refine su ?_; refine rn ?_) | (refine g_conv ?_; refine p_c hA ?_; refine rn ?_) | (refine g_load ?_; (first | refine t_loadx rfl hA ?_ | refine t_loada rfl hA ?_); refine rn ?_) | (refine g_call ?_; refine t_appx rfl rfl hA rfl ?_; clear hA; (try clear w); intro v w hA hone hnil; refine h_n hA ?_; clear hA; intro hA; refine rn ?_) | (refine g_store ?_; (first | refine t_storex rfl rfl hA ?_ | refine t_storea rfl rfl hA ?_); clear hA; (try clear w); intro w hA; refine h_m hA ?_; clear hA; intro hA; refine rn ?_) | (refine g_ow ?_; (first | refine t_alloc hA ?_ | refine ow_box rfl rfl hA ?_ | refine t_buildSlice rfl (by decide) rfl hA ?_); clear hA; (try clear w); intro b w hA; refine h_n hA ?_; clear hA; intro hA; refine rn ?_) | (refine g_ow ?_; refine t_make rfl rfl (by omega) (by omega) hA ?_; clear hA; (try clear w); intro v w hA hone hnil; refine rn ?_) | refine wc_pp rfl (fun h => ?_) (fun h => ?_) | refine wc_nn rfl (fun h => ?_) (fun h => ?_) | refine rl_pp rfl (fun h => o_n ?_) (fun h => rn ?_) | refine rl_qq rfl (fun h => o_n ?_) (fun h => rn ?_) | refine rl_nn rfl (fun h => o_n ?_) (fun h => rn ?_) | refine rl_mm rfl (fun h => o_n ?_) (fun h => rn ?_))
      exact mq_normal ⟨[], p3, (ex_getD rfl), rfl, hA⟩
  clear hA
  rintro l w ⟨pr, p4, ⟨jk, rfl⟩, hpr, hA⟩
  repeat' (first | (refine g_callf 106 ?_; refine ow_call Tryd.call106 rfl ((motion_calls bx b7 s p4 k mo ch (vec16 pr) refs _ _ _ hkr hr2 hs hA).mono ?_); clear hA; (try clear w); rintro e w ⟨E1, q1, q2, rfl, hE1, l1, l2, hA⟩; refine ⟨_, rfl, ?_⟩; (try have o1 := l1.one; have o2 := l2.one); refine rn ?_) | refine st ?_ | (refine wc_regionS 20 rfl ?_; refine wc_region ?_) | (refine su ?_; refine rn ?_) | (refine g_conv ?_; refine p_c hA ?_; refine rn ?_) | (refine g_load ?_; (first | refine t_loadx rfl hA ?_ | refine t_loada rfl hA ?_); refine rn ?_) | (refine g_call ?_; refine t_appx rfl rfl hA rfl ?_; clear hA; (try clear w); intro v w hA hone hnil; refine h_n hA ?_; clear hA; intro hA; refine rn ?_) | (refine g_store ?_; (first | refine t_storex rfl rfl hA ?_ | refine t_storea rfl rfl hA ?_); clear hA; (try clear w); intro w hA; refine h_m hA ?_; clear hA; intro hA; refine rn ?_) | (refine g_ow ?_; (first | refine t_alloc hA ?_ | refine ow_box rfl rfl hA ?_ | refine t_buildSlice rfl (by decide) rfl hA ?_); clear hA; (try clear w); intro b w hA; refine h_n hA ?_; clear hA; intro hA; refine rn ?_) | (refine g_ow ?_; refine t_make rfl rfl (by omega) (by omega) hA ?_; clear hA; (try clear w); intro v w hA hone hnil; refine rn ?_) | refine wc_pp rfl (fun h => ?_) (fun h => ?_) | refine wc_nn rfl (fun h => ?_) (fun h => ?_) | refine rl_pp rfl (fun h => o_n ?_) (fun h => rn ?_) | refine rl_qq rfl (fun h => o_n ?_) (fun h => rn ?_) | refine rl_nn rfl (fun h => o_n ?_) (fun h => rn ?_) | refine rl_mm rfl (fun h => o_n ?_) (fun h => rn ?_))
  generalize hmot : motP k refs (strm s) p4 = R at *
  obtain ⟨⟨sl, rl, vl⟩, p5⟩ := R
  dsimp only at l1 l2
  have hA : Sat E1 (src bx s p5 :: cells b7 (fC k mo ch (vec16 pr) (vec4 sl) 0 0 q1 q2 nilV) 28 :: cells b6 zM 28 :: L) w := hA
  refine wc_region ?_
  refine' rl_v hA ?o20_0 ?k20_0
  case o20_0 => intro w hA; first | (refine t_fieldAddr rfl ?_; exact ⟨pe, hA⟩)
  case' k20_0 => clear hA; intro w hA; refine rn ?_
  refine' rl_v hA ?o20_1 ?k20_1
  case o20_1 => intro w hA; first | (refine t_loadx rfl hA ?_; exact ⟨pe, hA⟩) | (refine t_loada rfl hA ?_; exact ⟨pe, hA⟩)
  case' k20_1 => clear hA; intro w hA; refine rn ?_
  refine' rl_v hA ?o20_2 ?k20_2
  case o20_2 => intro w hA; first | (refine ow_eql rfl rfl ?_; exact ⟨pe, hA⟩) | (refine ow_eqs rfl rfl ?_; exact ⟨pe, hA⟩) | (refine t_eqlb rfl rfl ?_; exact ⟨pe, hA⟩)
  case' k20_2 => clear hA; intro w hA; refine rn ?_
  refine rl_nil ?_
  refine tq_normal ?_
  refine wc_mid (fun l w => ∃ (c : UInt8) (p6 : Nat), (∃ jk : Nat → Value, l = [.pointer (some ⟨bx, 0, none⟩), .bool intra, vi refs, jk 3, jk 4, jk 5, .pointer (some ⟨b6, 0, none⟩), .pointer (some ⟨b7, 0, none⟩), jk 8, jk 9, jk 10, jk 11, jk 12, jk 13, jk 14, jk 15, jk 16, jk 17, jk 18, jk 19, jk 20, jk 21, jk 22, jk 23, jk 24, jk 25, jk 26, jk 27, jk 28, jk 29, jk 30, jk 31, jk 32, jk 33, jk 34, jk 35, jk 36, jk 37, jk 38, jk 39, jk 40, jk 41, jk 42, jk 43, jk 44, jk 45, jk 46, jk 47, jk 48, jk 49, jk 50, jk 51, jk 52, jk 53, jk 54, jk 55, jk 56, jk 57, jk 58, jk 59, jk 60, jk 61, jk 62, jk 63, jk 64, jk 65, jk 66, jk 67, jk 68, jk 69, jk 70, jk 71, jk 72, jk 73, jk 74, jk 75, jk 76, jk 77, jk 78, jk 79, jk 80, jk 81, jk 82, jk 83, jk 84, jk 85, jk 86, jk 87, jk 88, jk 89, jk 90, jk 91, jk 92, jk 93, jk 94, jk 95, jk 96, jk 97, jk 98, jk 99, jk 100, jk 101, jk 102, jk 103, jk 104, jk 105, jk 106, jk 107, jk 108, jk 109, jk 110, jk 111, jk 112, jk 113, jk 114, jk 115, jk 116]) ∧ cbpP k (strm s) p5 = (c, p6) ∧ Sat E1 (src bx s p6 :: cells b7 (fC k mo ch (vec16 pr) (vec4 sl) c 0 q1 q2 nilV) 28 :: cells b6 zM 28 :: L) w) ?_ ?_
  · refine wc_bb rfl (fun h => ?_) (fun h => ?_)
    · have h' : k.toNat = 1 := by simp only [decide_eq_true_eq] at h; omega
      have hcb : cbpP k (strm s) p5 = (UInt8.ofNat (15 * (tk 2 (strm s) p5).1 + 16 * (tk 3 (strm s) (p5 + 1)).1), p5 + 1 + 1) := by unfold cbpP; rw [if_pos h']; rfl
      have ht2 : (tk 2 (strm s) p5).1 < 2 := Nat.mod_lt _ (by decide)
      have ht3 : (tk 3 (strm s) (p5 + 1)).1 < 3 := Nat.mod_lt _ (by decide)
      generalize hta : (tk 2 (strm s) p5).1 = a at *
      generalize htb : (tk 3 (strm s) (p5 + 1)).1 = b3 at *
      have e15 : (15 : Int) * (a : Int) = ((15 * a : Nat) : Int) := by push_cast; rfl
      have e16 : (16 : Int) * (b3 : Int) = ((16 * b3 : Nat) : Int) := by push_cast; rfl
      have hxa : (UInt8.ofNat (15 * a)).toNat = 15 * a := by rw [UInt8.toNat_ofNat', Nat.mod_eq_of_lt (by omega)]
      have hsum : Value.int .u8 (((UInt8.ofNat (15 * a)).toNat : Int) + (16 : Int) * (b3 : Int)) = u8 (UInt8.ofNat (15 * a + 16 * b3)) := by
        rw [← u8_small _ (by omega), hxa]
        congr 1
      repeat' (first | (refine g_callf 84 ?_; refine ow_call Tryd.call84 rfl ((take_calls _ _ _ _ _ _ 2 2 rfl (by omega) hs hA).mono ?_); clear hA; (try clear w); rintro e w ⟨rfl, hA⟩; refine ⟨_, rfl, ?_⟩; (try rw [hta]); refine rn ?_) | (refine g_bin ?_; refine ow_mul64 rfl rfl (by omega) ?_; refine rn ?_) | (refine g_ow ?_; refine t_conv8 rfl (by omega) ?_; rw [e15, u8_small _ (by omega)]; refine rn ?_) | refine st ?_ | (refine wc_regionS 22 rfl ?_; refine wc_region ?_) | (refine su ?_; refine rn ?_) | (refine g_conv ?_; refine p_c hA ?_; refine rn ?_) | (refine g_load ?_; (first | refine t_loadx rfl hA ?_ | refine t_loada rfl hA ?_); refine rn ?_) | (refine g_call ?_; refine t_appx rfl rfl hA rfl ?_; clear hA; (try clear w); intro v w hA hone hnil; refine h_n hA ?_; clear hA; intro hA; refine rn ?_) | (refine g_store ?_; (first | refine t_storex rfl rfl hA ?_ | refine t_storea rfl rfl hA ?_); clear hA; (try clear w); intro w hA; refine h_m hA ?_; clear hA; intro hA; refine rn ?_) | (refine g_ow ?_; (first | refine t_alloc hA ?_ | refine ow_box rfl rfl hA ?_ | refine t_buildSlice rfl (by decide) rfl hA ?_); clear hA; (try clear w); intro b w hA; refine h_n hA ?_; clear hA; intro hA; refine rn ?_) | (refine g_ow ?_; refine t_make rfl rfl (by omega) (by omega) hA ?_; clear hA; (try clear w); intro v w hA hone hnil; refine rn ?_) | refine wc_pp rfl (fun h => ?_) (fun h => ?_) | refine wc_nn rfl (fun h => ?_) (fun h => ?_) | refine rl_pp rfl (fun h => o_n ?_) (fun h => rn ?_) | refine rl_qq rfl (fun h => o_n ?_) (fun h => rn ?_) | refine rl_nn rfl (fun h => o_n ?_) (fun h => rn ?_) | refine rl_mm rfl (fun h => o_n ?_) (fun h => rn ?_))
      refine' wc_flow' 2 (fun _ => undef) (fun ix => match ix with | 1 => [10] | 3 => [9] | 8 => [10] | _ => []) (fun ix => match ix with | 3 => [9] | 8 => [10] | _ => []) (fun ix => match ix with  | _ => []) (mixPhi [_, _, _, undef, undef, undef, undef, _, undef] (fun ix => match ix with | 3 => some (valV (vi b3)) | 4 => some (valV (.int .i64 ((16 : Int) * (b3 : Int)))) | 5 => some (valV (.int .u8 ((16 : Int) * (b3 : Int)))) | 6 => some (valV (u8 (UInt8.ofNat (15 * a + 16 * b3)))) | 8 => some (trueV) | _ => none)) (fun ix yy => match ix with | 3 => [src bx s (p5 + 1 + 1)] | 8 => [cells b7 (fC k mo ch (vec16 pr) (vec4 sl) (UInt8.ofNat (15 * a + 16 * b3)) 0 q1 q2 nilV) 28] | 9 => [src bx s (p5 + 1)] | 10 => [cells b7 (fC k mo ch (vec16 pr) (vec4 sl) (UInt8.ofNat (15 * a)) 0 q1 q2 nilV) 28] | _ => []) (cells b6 zM 28 :: L) 9 (by kernel_rfl) rfl (by kernel_rfl) [(0, 70), (1, 71), (2, 72), (3, 73), (4, 74), (5, 75), (6, 76), (7, 77)] (by kernel_rfl) [0, 1, 2, 3, 4, 5, 6, 7, 8] (by kernel_rfl) [9, 10] (by kernel_rfl) hA ?itd22 ?phi22 ?ops22 ?k22
      case itd22 => (intro i y y' h; first | rfl | ((try dsimp only at h ⊢); split <;> first | rfl | (simp only [List.mem_cons, List.not_mem_nil, or_false, forall_eq_or_imp, forall_eq] at h; simp only [h]; done)))
      case phi22 => (refine mix_mono fun i p hp E1 E2 v hE h => ?_; split at hp <;> first | (cases hp; done) | (obtain rfl := Option.some.inj hp; first | exact ListE.mono h hE | exact ListE.mono h (Env.sub_left _ hE) | exact PMono.mono hE h | exact PMono.mono (Env.sub_left _ hE) h | exact h))
      case ops22 =>
        refine' FlowOps.c rfl [] (by decide) [] (by decide) [] rfl [] rfl ?o22_0 ?r22_0
        case o22_0 => intro yy E' Lx w lf hE hph hyp hl hA; simp only [setAll, List.map_cons, List.map_nil, List.set_cons_succ, List.set_cons_zero] at hl; subst hl; (try simp only [List.flatMap_cons, List.flatMap_nil, List.nil_append, List.append_nil, List.cons_append] at hA ⊢); (try clear hph hyp); first | (refine t_fieldAddr rfl ?_; exact ⟨_, E', pe, Env.Le.refl _, mix_mk rfl rfl, hA⟩)
        case r22_0 =>
          refine' FlowOps.c rfl [(0, 70)] (by decide) [0] (by decide) [10] rfl [10] rfl ?o22_1 ?r22_1
          case o22_1 => intro yy E' Lx w lf hE hph hyp hl hA; have e0 := mix_known (hph 0 (by decide)) rfl rfl; simp only [setAll, List.map_cons, List.map_nil, List.set_cons_succ, List.set_cons_zero, ← e0] at hl; subst hl; (try simp only [← e0] at hA ⊢); (try simp only [List.flatMap_cons, List.flatMap_nil, List.nil_append, List.append_nil, List.cons_append] at hA ⊢); (try clear hph hyp); first | (refine t_loadx rfl hA ?_; exact ⟨_, E', pe, Env.Le.refl _, mix_mk rfl rfl, hA⟩) | (refine t_loada rfl hA ?_; exact ⟨_, E', pe, Env.Le.refl _, mix_mk rfl rfl, hA⟩)
          case r22_1 =>
            refine' FlowOps.c rfl [] (by decide) [] (by decide) [] rfl [] rfl ?o22_2 ?r22_2
            case o22_2 => intro yy E' Lx w lf hE hph hyp hl hA; simp only [setAll, List.map_cons, List.map_nil, List.set_cons_succ, List.set_cons_zero] at hl; subst hl; (try simp only [List.flatMap_cons, List.flatMap_nil, List.nil_append, List.append_nil, List.cons_append] at hA ⊢); (try clear hph hyp); first | (refine ow_move_v rfl ?_; exact ⟨_, E', pe, Env.Le.refl _, mix_mk rfl rfl, hA⟩)
            case r22_2 =>
              refine' FlowOps.c rfl [(2, 72)] (by decide) [2] (by decide) [9] rfl [] rfl ?o22_3 ?r22_3
              case o22_3 => intro yy E' Lx w lf hE hph hyp hl hA; have e2 := mix_known (hph 2 (by decide)) rfl rfl; simp only [setAll, List.map_cons, List.map_nil, List.set_cons_succ, List.set_cons_zero, ← e2] at hl; subst hl; (try simp only [← e2] at hA ⊢); (try simp only [List.flatMap_cons, List.flatMap_nil, List.nil_append, List.append_nil, List.cons_append] at hA ⊢); (try clear hph hyp); refine ow_call Tryd.call84 rfl ((take_calls _ _ _ _ _ _ 3 3 rfl (by omega) hs hA).mono ?_); clear hA; rintro e w ⟨rfl, hA⟩; exact ⟨_, rfl, _, E', rfl, Env.Le.refl _, mix_mkP rfl (by rw [htb]; rfl), hA⟩
              case r22_3 =>
                refine' FlowOps.c rfl [(3, 73)] (by decide) [2, 3] (by decide) [] rfl [] rfl ?o22_4 ?r22_4
                case o22_4 => intro yy E' Lx w lf hE hph hyp hl hA; have e2 := mix_known (hph 2 (by decide)) rfl rfl; simp only [setAll, List.map_cons, List.map_nil, List.set_cons_succ, List.set_cons_zero, ← e2] at hl; subst hl; have p3 := mix_pred (hph 3 (by decide)) rfl; (try simp only [← e2] at hA ⊢); generalize yy 3 = y3 at *; (try simp only [List.flatMap_cons, List.flatMap_nil, List.nil_append, List.append_nil, List.cons_append] at hA ⊢); (try clear hph hyp); have p3 : _ = _ := p3; subst p3; refine ow_mul64 rfl rfl (by omega) ?_; exact ⟨_, E', rfl, Env.Le.refl _, mix_mkP rfl rfl, hA⟩
                case r22_4 =>
                  refine' FlowOps.c rfl [(4, 74)] (by decide) [2, 3, 4] (by decide) [] rfl [] rfl ?o22_5 ?r22_5
                  case o22_5 => intro yy E' Lx w lf hE hph hyp hl hA; have e2 := mix_known (hph 2 (by decide)) rfl rfl; simp only [setAll, List.map_cons, List.map_nil, List.set_cons_succ, List.set_cons_zero, ← e2] at hl; subst hl; have p3 := mix_pred (hph 3 (by decide)) rfl; have p4 := mix_pred (hph 4 (by decide)) rfl; (try simp only [← e2] at hA ⊢); generalize yy 3 = y3 at *; generalize yy 4 = y4 at *; (try simp only [List.flatMap_cons, List.flatMap_nil, List.nil_append, List.append_nil, List.cons_append] at hA ⊢); (try clear hph hyp); have p4 : _ = _ := p4; subst p4; refine t_conv8 rfl (by omega) ?_; exact ⟨_, E', rfl, Env.Le.refl _, mix_mkP rfl rfl, hA⟩
                  case r22_5 =>
                    refine' FlowOps.c rfl [(1, 71), (5, 75)] (by decide) [0, 2, 3, 4, 1, 5] (by decide) [] rfl [] rfl ?o22_6 ?r22_6
                    case o22_6 => intro yy E' Lx w lf hE hph hyp hl hA; have e0 := mix_known (hph 0 (by decide)) rfl rfl; have e2 := mix_known (hph 2 (by decide)) rfl rfl; have e1 := mix_known (hph 1 (by decide)) rfl rfl; simp only [setAll, List.map_cons, List.map_nil, List.set_cons_succ, List.set_cons_zero, ← e0, ← e2, ← e1] at hl; subst hl; have p3 := mix_pred (hph 3 (by decide)) rfl; have p4 := mix_pred (hph 4 (by decide)) rfl; have p5 := mix_pred (hph 5 (by decide)) rfl; (try simp only [← e0, ← e2, ← e1] at hA ⊢); generalize yy 3 = y3 at *; generalize yy 4 = y4 at *; generalize yy 5 = y5 at *; (try simp only [List.flatMap_cons, List.flatMap_nil, List.nil_append, List.append_nil, List.cons_append] at hA ⊢); (try clear hph hyp); have p5 : _ = _ := p5; subst p5; refine ow_add8 rfl rfl (by omega) ?_; rw [hsum]; exact ⟨_, E', rfl, Env.Le.refl _, mix_mkP rfl rfl, hA⟩
                    case r22_6 =>
                      refine' FlowOps.c rfl [(0, 70), (1, 71), (2, 72), (3, 73), (4, 74), (5, 75), (6, 76)] (by decide) [0, 1, 2, 3, 4, 5, 6] (by decide) [] rfl [] rfl ?o22_7 ?r22_7
                      case o22_7 => intro yy E' Lx w lf hE hph hyp hl hA; have e0 := mix_known (hph 0 (by decide)) rfl rfl; have e1 := mix_known (hph 1 (by decide)) rfl rfl; have e2 := mix_known (hph 2 (by decide)) rfl rfl; simp only [setAll, List.map_cons, List.map_nil, List.set_cons_succ, List.set_cons_zero, ← e0, ← e1, ← e2] at hl; subst hl; have p3 := mix_pred (hph 3 (by decide)) rfl; have p4 := mix_pred (hph 4 (by decide)) rfl; have p5 := mix_pred (hph 5 (by decide)) rfl; have p6 := mix_pred (hph 6 (by decide)) rfl; (try simp only [← e0, ← e1, ← e2] at hA ⊢); generalize yy 3 = y3 at *; generalize yy 4 = y4 at *; generalize yy 5 = y5 at *; generalize yy 6 = y6 at *; (try simp only [List.flatMap_cons, List.flatMap_nil, List.nil_append, List.append_nil, List.cons_append] at hA ⊢); (try clear hph hyp); first | (refine t_fieldAddr rfl ?_; exact ⟨_, E', pe, Env.Le.refl _, mix_mk rfl rfl, hA⟩)
                      case r22_7 =>
                        refine' FlowOps.c rfl [(7, 77), (6, 76), (3, 73), (0, 70), (1, 71), (2, 72), (4, 74), (5, 75)] (by decide) [7, 6, 3, 0, 1, 2, 4, 5] (by decide) [10] rfl [] rfl ?o22_8 ?r22_8
                        case o22_8 => intro yy E' Lx w lf hE hph hyp hl hA; have e7 := mix_known (hph 7 (by decide)) rfl rfl; have e0 := mix_known (hph 0 (by decide)) rfl rfl; have e1 := mix_known (hph 1 (by decide)) rfl rfl; have e2 := mix_known (hph 2 (by decide)) rfl rfl; simp only [setAll, List.map_cons, List.map_nil, List.set_cons_succ, List.set_cons_zero, ← e7, ← e0, ← e1, ← e2] at hl; subst hl; have p6 := mix_pred (hph 6 (by decide)) rfl; have p3 := mix_pred (hph 3 (by decide)) rfl; have p4 := mix_pred (hph 4 (by decide)) rfl; have p5 := mix_pred (hph 5 (by decide)) rfl; (try simp only [← e7, ← e0, ← e1, ← e2] at hA ⊢); generalize yy 6 = y6 at *; generalize yy 3 = y3 at *; generalize yy 4 = y4 at *; generalize yy 5 = y5 at *; (try simp only [List.flatMap_cons, List.flatMap_nil, List.nil_append, List.append_nil, List.cons_append] at hA ⊢); (try clear hph hyp); have p6 : _ = _ := p6; subst p6; refine t_store 0 rfl rfl rfl hA rfl (by show 25 < 29; decide) ?_; clear hA; intro w hA; refine h_n hA ?_; clear hA; intro hA; exact ⟨undef, E', rfl, Env.Le.refl _, mix_mkP rfl trivial, hA⟩
                        case r22_8 =>
                          exact FlowOps.nil
      case' k22 => (try clear hA); intro yy E' w lf hE hph hyp hl hA; have e0 := mix_known (hph 0 (by decide)) rfl rfl; have e1 := mix_known (hph 1 (by decide)) rfl rfl; have e2 := mix_known (hph 2 (by decide)) rfl rfl; have e7 := mix_known (hph 7 (by decide)) rfl rfl; simp only [setAll, List.map_cons, List.map_nil, List.set_cons_succ, List.set_cons_zero, ← e0, ← e1, ← e2, ← e7] at hl; subst hl; have p3 := mix_pred (hph 3 (by decide)) rfl; have p4 := mix_pred (hph 4 (by decide)) rfl; have p5 := mix_pred (hph 5 (by decide)) rfl; have p6 := mix_pred (hph 6 (by decide)) rfl; have p8 := mix_pred (hph 8 (by decide)) rfl; (try simp only [← e0, ← e1, ← e2, ← e7] at hA); generalize yy 3 = y3 at *; generalize yy 4 = y4 at *; generalize yy 5 = y5 at *; generalize yy 6 = y6 at *; generalize yy 8 = y8 at *; (try simp only [List.flatMap_cons, List.flatMap_nil, List.nil_append, List.append_nil, List.cons_append] at hA); clear hph hyp
      have hA := hA.le hE
      clear hE
      repeat' (first | refine st ?_ | (refine wc_region ?_) | (refine su ?_; refine rn ?_) | (refine g_conv ?_; refine p_c hA ?_; refine rn ?_) | (refine g_load ?_; (first | refine t_loadx rfl hA ?_ | refine t_loada rfl hA ?_); refine rn ?_) | (refine g_call ?_; refine t_appx rfl rfl hA rfl ?_; clear hA; (try clear w); intro v w hA hone hnil; refine h_n hA ?_; clear hA; intro hA; refine rn ?_) | (refine g_store ?_; (first | refine t_storex rfl rfl hA ?_ | refine t_storea rfl rfl hA ?_); clear hA; (try clear w); intro w hA; refine h_m hA ?_; clear hA; intro hA; refine rn ?_) | (refine g_ow ?_; (first | refine t_alloc hA ?_ | refine ow_box rfl rfl hA ?_ | refine t_buildSlice rfl (by decide) rfl hA ?_); clear hA; (try clear w); intro b w hA; refine h_n hA ?_; clear hA; intro hA; refine rn ?_) | (refine g_ow ?_; refine t_make rfl rfl (by omega) (by omega) hA ?_; clear hA; (try clear w); intro v w hA hone hnil; refine rn ?_) | refine wc_pp rfl (fun h => ?_) (fun h => ?_) | refine wc_nn rfl (fun h => ?_) (fun h => ?_) | refine rl_pp rfl (fun h => o_n ?_) (fun h => rn ?_) | refine rl_qq rfl (fun h => o_n ?_) (fun h => rn ?_) | refine rl_nn rfl (fun h => o_n ?_) (fun h => rn ?_) | refine rl_mm rfl (fun h => o_n ?_) (fun h => rn ?_))
      exact mq_normal ⟨_, _, (ex_getD rfl), hcb, hA⟩
    · have h' : ¬ k.toNat = 1 := by simp only [decide_eq_false_iff_not] at h; omega
      have hcb : cbpP k (strm s) p5 = (UInt8.ofNat (tk 48 (strm s) p5).1, p5 + 1) := by unfold cbpP; rw [if_neg h']; rfl
      have ht : (tk 48 (strm s) p5).1 < 48 := Nat.mod_lt _ (by decide)
      repeat' (first | (refine g_callf 84 ?_; refine ow_call Tryd.call84 rfl ((take_calls _ _ _ _ _ _ 48 48 rfl (by omega) hs hA).mono ?_); clear hA; (try clear w); rintro e w ⟨rfl, hA⟩; refine ⟨_, rfl, ?_⟩; refine rn ?_) | (refine g_ow ?_; refine t_conv8 rfl (by omega) ?_; rw [u8_small _ (by omega)]; refine rn ?_) | refine st ?_ | (refine wc_region ?_) | (refine su ?_; refine rn ?_) | (refine g_conv ?_; refine p_c hA ?_; refine rn ?_) | (refine g_load ?_; (first | refine t_loadx rfl hA ?_ | refine t_loada rfl hA ?_); refine rn ?_) | (refine g_call ?_; refine t_appx rfl rfl hA rfl ?_; clear hA; (try clear w); intro v w hA hone hnil; refine h_n hA ?_; clear hA; intro hA; refine rn ?_) | (refine g_store ?_; (first | refine t_storex rfl rfl hA ?_ | refine t_storea rfl rfl hA ?_); clear hA; (try clear w); intro w hA; refine h_m hA ?_; clear hA; intro hA; refine rn ?_) | (refine g_ow ?_; (first | refine t_alloc hA ?_ | refine ow_box rfl rfl hA ?_ | refine t_buildSlice rfl (by decide) rfl hA ?_); clear hA; (try clear w); intro b w hA; refine h_n hA ?_; clear hA; intro hA; refine rn ?_) | (refine g_ow ?_; refine t_make rfl rfl (by omega) (by omega) hA ?_; clear hA; (try clear w); intro v w hA hone hnil; refine rn ?_) | refine wc_pp rfl (fun h => ?_) (fun h => ?_) | refine wc_nn rfl (fun h => ?_) (fun h => ?_) | refine rl_pp rfl (fun h => o_n ?_) (fun h => rn ?_) | refine rl_qq rfl (fun h => o_n ?_) (fun h => rn ?_) | refine rl_nn rfl (fun h => o_n ?_) (fun h => rn ?_) | refine rl_mm rfl (fun h => o_n ?_) (fun h => rn ?_))
      exact mq_normal ⟨_, _, (ex_getD rfl), hcb, hA⟩
  clear hA
  rintro l w ⟨c, p6, ⟨jk, rfl⟩, hc, hA⟩
  repeat' (first | refine st ?_ | (refine wc_regionS 24 rfl ?_; refine wc_region ?_) | (refine su ?_; refine rn ?_) | (refine g_conv ?_; refine p_c hA ?_; refine rn ?_) | (refine g_load ?_; (first | refine t_loadx rfl hA ?_ | refine t_loada rfl hA ?_); refine rn ?_) | (refine g_call ?_; refine t_appx rfl rfl hA rfl ?_; clear hA; (try clear w); intro v w hA hone hnil; refine h_n hA ?_; clear hA; intro hA; refine rn ?_) | (refine g_store ?_; (first | refine t_storex rfl rfl hA ?_ | refine t_storea rfl rfl hA ?_); clear hA; (try clear w); intro w hA; refine h_m hA ?_; clear hA; intro hA; refine rn ?_) | (refine g_ow ?_; (first | refine t_alloc hA ?_ | refine ow_box rfl rfl hA ?_ | refine t_buildSlice rfl (by decide) rfl hA ?_); clear hA; (try clear w); intro b w hA; refine h_n hA ?_; clear hA; intro hA; refine rn ?_) | (refine g_ow ?_; refine t_make rfl rfl (by omega) (by omega) hA ?_; clear hA; (try clear w); intro v w hA hone hnil; refine rn ?_) | refine wc_pp rfl (fun h => ?_) (fun h => ?_) | refine wc_nn rfl (fun h => ?_) (fun h => ?_) | refine rl_pp rfl (fun h => o_n ?_) (fun h => rn ?_) | refine rl_qq rfl (fun h => o_n ?_) (fun h => rn ?_) | refine rl_nn rfl (fun h => o_n ?_) (fun h => rn ?_) | refine rl_mm rfl (fun h => o_n ?_) (fun h => rn ?_))
  refine wc_region ?_
  refine' rl_v hA ?o24_0 ?k24_0
  case o24_0 => intro w hA; first | (refine t_fieldAddr rfl ?_; exact ⟨pe, hA⟩)
  case' k24_0 => clear hA; intro w hA; refine rn ?_
  refine' rl_v hA ?o24_1 ?k24_1
  case o24_1 => intro w hA; first | (refine t_loadx rfl hA ?_; exact ⟨pe, hA⟩) | (refine t_loada rfl hA ?_; exact ⟨pe, hA⟩)
  case' k24_1 => clear hA; intro w hA; refine rn ?_
  refine' rl_v hA ?o24_2 ?k24_2
  case o24_2 => intro w hA; first | (refine ow_eql rfl rfl ?_; exact ⟨pe, hA⟩) | (refine ow_eqs rfl rfl ?_; exact ⟨pe, hA⟩) | (refine t_eqlb rfl rfl ?_; exact ⟨pe, hA⟩)
  case' k24_2 => clear hA; intro w hA; refine rn ?_
  refine' rl_v hA ?o24_3 ?k24_3
  case o24_3 => intro w hA; first | (refine ow_move_v rfl ?_; exact ⟨pe, hA⟩)
  case' k24_3 => clear hA; intro w hA; refine rn ?_
  first | refine' rl_F rfl hA ?o24_4 ?k24_4 | refine' rl_Fn rfl hA ?o24_4 ?k24_4
  case o24_4 => intro hg w hA; first | (refine t_fieldAddr opr ?_; exact ⟨pe, hA⟩)
  case' k24_4 => clear hA; intro w hA; refine rn ?_
  first | refine' rl_F rfl hA ?o24_5 ?k24_5 | refine' rl_Fn rfl hA ?o24_5 ?k24_5
  case o24_5 => intro hg w hA; first | (refine t_loadx opr hA ?_; exact ⟨pe, hA⟩) | (refine t_loada opr hA ?_; exact ⟨pe, hA⟩)
  case' k24_5 => clear hA; intro w hA; refine rn ?_
  first | refine' rl_F rfl hA ?o24_6 ?k24_6 | refine' rl_Fn rfl hA ?o24_6 ?k24_6
  case o24_6 => intro hg w hA; first | (refine ow_neq opr opr ?_; exact ⟨pe, hA⟩) | (refine ow_neqs opr opr ?_; exact ⟨pe, hA⟩) | (refine t_neqb opr opr ?_; exact ⟨pe, hA⟩)
  case' k24_6 => clear hA; intro w hA; refine rn ?_
  refine' rl_v hA ?o24_7 ?k24_7
  case o24_7 => intro w hA; first | (refine ow_or rfl rfl (by first | rfl) ?_; exact ⟨pe, hA⟩) | (refine ow_pick rfl rfl rfl ?_; exact ⟨pe, hA⟩)
  case' k24_7 => clear hA; intro w hA; refine rn ?_
  refine rl_nil ?_
  refine tq_normal ?_
  have hcond : (decide ((k.toNat : Int) = 1) || !decide ((c.toNat : Int) = 0)) = (decide (k.toNat = 1) || !decide (c.toNat = 0)) := by
    rw [show decide ((k.toNat : Int) = 1) = decide (k.toNat = 1) from decide_eq_decide.2 (by omega), show decide ((c.toNat : Int) = 0) = decide (c.toNat = 0) from decide_eq_decide.2 (by omega)]
  refine wc_mid (fun l w => ∃ (qp : Int) (p7 : Nat), (∃ jk : Nat → Value, l = [.pointer (some ⟨bx, 0, none⟩), .bool intra, vi refs, jk 3, jk 4, jk 5, .pointer (some ⟨b6, 0, none⟩), .pointer (some ⟨b7, 0, none⟩), jk 8, jk 9, jk 10, jk 11, jk 12, jk 13, jk 14, jk 15, jk 16, jk 17, jk 18, jk 19, jk 20, jk 21, jk 22, jk 23, jk 24, jk 25, jk 26, jk 27, jk 28, jk 29, jk 30, jk 31, jk 32, jk 33, jk 34, jk 35, jk 36, jk 37, jk 38, jk 39, jk 40, jk 41, jk 42, jk 43, jk 44, jk 45, jk 46, jk 47, jk 48, jk 49, jk 50, jk 51, jk 52, jk 53, jk 54, jk 55, jk 56, jk 57, jk 58, jk 59, jk 60, jk 61, jk 62, jk 63, jk 64, jk 65, jk 66, jk 67, jk 68, jk 69, jk 70, jk 71, jk 72, jk 73, jk 74, jk 75, jk 76, jk 77, jk 78, jk 79, jk 80, jk 81, jk 82, jk 83, jk 84, jk 85, jk 86, jk 87, jk 88, jk 89, jk 90, jk 91, jk 92, jk 93, jk 94, jk 95, jk 96, jk 97, jk 98, jk 99, jk 100, jk 101, jk 102, jk 103, jk 104, jk 105, jk 106, jk 107, jk 108, jk 109, jk 110, jk 111, jk 112, jk 113, jk 114, jk 115, jk 116]) ∧ optP (decide (k.toNat = 1) || !decide (c.toNat = 0)) ((tk 52).bnd fun a => .ret ((a : Int) - 26)) 0 (strm s) p6 = (qp, p7) ∧ I64 qp ∧ Sat E1 (src bx s p7 :: cells b7 (fC k mo ch (vec16 pr) (vec4 sl) c qp q1 q2 nilV) 28 :: cells b6 zM 28 :: L) w) ?_ ?_
  · refine wc_bb rfl (fun h => ?_) (fun h => ?_)
    · have h : (decide ((k.toNat : Int) = 1) || !decide ((c.toNat : Int) = 0)) = true := h
      rw [hcond] at h
      unfold optP
      rw [h, if_pos rfl]
      have ht : (tk 52 (strm s) p6).1 < 52 := Nat.mod_lt _ (by decide)
      repeat' (first | (refine g_callf 84 ?_; refine ow_call Tryd.call84 rfl ((take_calls _ _ _ _ _ _ 52 52 rfl (by omega) hs hA).mono ?_); clear hA; (try clear w); rintro e w ⟨rfl, hA⟩; refine ⟨_, rfl, ?_⟩; refine rn ?_) | refine st ?_ | (refine wc_region ?_) | (refine su ?_; refine rn ?_) | (refine g_conv ?_; refine p_c hA ?_; refine rn ?_) | (refine g_load ?_; (first | refine t_loadx rfl hA ?_ | refine t_loada rfl hA ?_); refine rn ?_) | (refine g_call ?_; refine t_appx rfl rfl hA rfl ?_; clear hA; (try clear w); intro v w hA hone hnil; refine h_n hA ?_; clear hA; intro hA; refine rn ?_) | (refine g_store ?_; (first | refine t_storex rfl rfl hA ?_ | refine t_storea rfl rfl hA ?_); clear hA; (try clear w); intro w hA; refine h_m hA ?_; clear hA; intro hA; refine rn ?_) | (refine g_ow ?_; (first | refine t_alloc hA ?_ | refine ow_box rfl rfl hA ?_ | refine t_buildSlice rfl (by decide) rfl hA ?_); clear hA; (try clear w); intro b w hA; refine h_n hA ?_; clear hA; intro hA; refine rn ?_) | (refine g_ow ?_; refine t_make rfl rfl (by omega) (by omega) hA ?_; clear hA; (try clear w); intro v w hA hone hnil; refine rn ?_) | refine wc_pp rfl (fun h => ?_) (fun h => ?_) | refine wc_nn rfl (fun h => ?_) (fun h => ?_) | refine rl_pp rfl (fun h => o_n ?_) (fun h => rn ?_) | refine rl_qq rfl (fun h => o_n ?_) (fun h => rn ?_) | refine rl_nn rfl (fun h => o_n ?_) (fun h => rn ?_) | refine rl_mm rfl (fun h => o_n ?_) (fun h => rn ?_))
      exact mq_normal ⟨_, _, (ex_getD rfl), rfl, ⟨by omega, by omega⟩, hA⟩
    · have h : (decide ((k.toNat : Int) = 1) || !decide ((c.toNat : Int) = 0)) = false := h
      rw [hcond] at h
      unfold optP
      rw [h, if_neg (by decide)]
      repeat' (first | refine st ?_ | (refine wc_region ?_) | (refine su ?_; refine rn ?_) | (refine g_conv ?_; refine p_c hA ?_; refine rn ?_) | (refine g_load ?_; (first | refine t_loadx rfl hA ?_ | refine t_loada rfl hA ?_); refine rn ?_) | (refine g_call ?_; refine t_appx rfl rfl hA rfl ?_; clear hA; (try clear w); intro v w hA hone hnil; refine h_n hA ?_; clear hA; intro hA; refine rn ?_) | (refine g_store ?_; (first | refine t_storex rfl rfl hA ?_ | refine t_storea rfl rfl hA ?_); clear hA; (try clear w); intro w hA; refine h_m hA ?_; clear hA; intro hA; refine rn ?_) | (refine g_ow ?_; (first | refine t_alloc hA ?_ | refine ow_box rfl rfl hA ?_ | refine t_buildSlice rfl (by decide) rfl hA ?_); clear hA; (try clear w); intro b w hA; refine h_n hA ?_; clear hA; intro hA; refine rn ?_) | (refine g_ow ?_; refine t_make rfl rfl (by omega) (by omega) hA ?_; clear hA; (try clear w); intro v w hA hone hnil; refine rn ?_) | refine wc_pp rfl (fun h => ?_) (fun h => ?_) | refine wc_nn rfl (fun h => ?_) (fun h => ?_) | refine rl_pp rfl (fun h => o_n ?_) (fun h => rn ?_) | refine rl_qq rfl (fun h => o_n ?_) (fun h => rn ?_) | refine rl_nn rfl (fun h => o_n ?_) (fun h => rn ?_) | refine rl_mm rfl (fun h => o_n ?_) (fun h => rn ?_))
      exact mq_normal ⟨0, p6, (ex_getD rfl), rfl, by decide, hA⟩
  clear hA
  rintro l w ⟨qp, p7, ⟨jk, rfl⟩, hqp, hqp64, hA⟩
  have hE1G := hG.mono hE1
  have hW27 := blkLen (mF k mo ch pr sl c qp)
  have hcat := blkCat (mF k mo ch pr sl c qp)
  repeat' (first | (refine g_callf 107 ?_; refine ow_call Tryd.call107 rfl ((blocksL_calls (mF k mo ch pr sl c qp) q1 q2 nilV _ _ _ hA).mono ?_); clear hA; (try clear w); rintro e w ⟨E2, wq, rfl, hE2, hwq, hA⟩; refine ⟨_, rfl, ?_⟩; (try obtain ⟨xw, hsw⟩ := hwq.sl); refine rn ?_) | (refine g_call ?_; refine t_lenS rfl hsw ?_; refine rn ?_) | refine st ?_ | (refine wc_regionS 27 rfl ?_; refine wc_region ?_) | (refine su ?_; refine rn ?_) | (refine g_conv ?_; refine p_c hA ?_; refine rn ?_) | (refine g_load ?_; (first | refine t_loadx rfl hA ?_ | refine t_loada rfl hA ?_); refine rn ?_) | (refine g_call ?_; refine t_appx rfl rfl hA rfl ?_; clear hA; (try clear w); intro v w hA hone hnil; refine h_n hA ?_; clear hA; intro hA; refine rn ?_) | (refine g_store ?_; (first | refine t_storex rfl rfl hA ?_ | refine t_storea rfl rfl hA ?_); clear hA; (try clear w); intro w hA; refine h_m hA ?_; clear hA; intro hA; refine rn ?_) | (refine g_ow ?_; (first | refine t_alloc hA ?_ | refine ow_box rfl rfl hA ?_ | refine t_buildSlice rfl (by decide) rfl hA ?_); clear hA; (try clear w); intro b w hA; refine h_n hA ?_; clear hA; intro hA; refine rn ?_) | (refine g_ow ?_; refine t_make rfl rfl (by omega) (by omega) hA ?_; clear hA; (try clear w); intro v w hA hone hnil; refine rn ?_) | refine wc_pp rfl (fun h => ?_) (fun h => ?_) | refine wc_nn rfl (fun h => ?_) (fun h => ?_) | refine rl_pp rfl (fun h => o_n ?_) (fun h => rn ?_) | refine rl_qq rfl (fun h => o_n ?_) (fun h => rn ?_) | refine rl_nn rfl (fun h => o_n ?_) (fun h => rn ?_) | refine rl_mm rfl (fun h => o_n ?_) (fun h => rn ?_))
  have hbl : ∀ bl p8, mapP (fun x : Coded => blkP (sizeN x.cat)) (blocksL (mF k mo ch pr sl c qp)) (strm s) p7 = (bl, p8) → mbP intra refs (strm s) p = (⟨k, mo, ch, vec16 pr, vec4 sl, rl, vl, c, qp, bl, []⟩, p8) := fun bl p8 h => mbP_eq h1 h2 h7 hmo hch hpr hmot hc hqp h
  generalize blocksL (mF k mo ch pr sl c qp) = W at *
  have hG2 := hE1G.mono hE2
  have hE02 := hE1.trans hE2
  have hA' := hA.nilRow 24 1
  clear hA
  have hA := hA'.perm (List.perm_middle (l₁ := [_, _])).symm
  clear hA'
  refine wc_loopn (fun q l w => ∃ (i n : Nat) (E3 : Env) (u : Value) (bc : List Value), (∃ jk : Nat → Value, l = [.pointer (some ⟨bx, 0, none⟩), jk 1, jk 2, jk 3, jk 4, jk 5, .pointer (some ⟨b6, 0, none⟩), .pointer (some ⟨b7, 0, none⟩), jk 8, jk 9, jk 10, jk 11, jk 12, jk 13, jk 14, jk 15, jk 16, jk 17, jk 18, jk 19, jk 20, jk 21, jk 22, jk 23, jk 24, jk 25, jk 26, jk 27, jk 28, jk 29, jk 30, jk 31, jk 32, jk 33, jk 34, jk 35, jk 36, jk 37, jk 38, jk 39, jk 40, jk 41, jk 42, jk 43, jk 44, jk 45, jk 46, jk 47, jk 48, jk 49, jk 50, jk 51, jk 52, jk 53, jk 54, jk 55, jk 56, jk 57, jk 58, jk 59, jk 60, jk 61, jk 62, jk 63, jk 64, jk 65, jk 66, jk 67, jk 68, jk 69, jk 70, jk 71, jk 72, jk 73, jk 74, jk 75, jk 76, jk 77, jk 78, jk 79, jk 80, jk 81, jk 82, jk 83, jk 84, jk 85, jk 86, jk 87, jk 88, jk 89, jk 90, jk 91, jk 92, jk 93, jk 94, wq, .int .i64 (n : Int), .int .i64 (i : Int), jk 98, jk 99, jk 100, jk 101, jk 102, jk 103, jk 104, jk 105, jk 106, jk 107, jk 108, jk 109, jk 110, jk 111, jk 112, jk 113, jk 114, jk 115, jk 116]) ∧ n = W.length ∧ i + q = W.length ∧ E2.Le E3 ∧ u.oneCell' = true ∧ CsE (listR intR 1) 1 (E3.sub E) bc (mapP (fun x : Coded => blkP (sizeN x.cat)) (W.take i) (strm s) p7).1 ∧ Sat E3 (src bx s (mapP (fun x : Coded => blkP (sizeN x.cat)) (W.take i) (strm s) p7).2 :: cells b7 (fC k mo ch (vec16 pr) (vec4 sl) c qp q1 q2 u) 28 :: row 24 1 u i bc :: cells b6 zM 28 :: L) w) W.length ⟨0, W.length, E2, nilV, [], (ex_getD rfl), rfl, by omega, Env.Le.refl _, rfl, CsE.nil, hA⟩ ?_
  clear hA
  rintro q l w ⟨i, n, E3, u, bc, ⟨jk, rfl⟩, hn, hi, hE3, hu, hbc, hA⟩
  by_cases hlt : i < W.length
  · obtain ⟨y, hy⟩ : ∃ y, W[i]? = some y := ⟨_, List.getElem?_eq_getElem hlt⟩
    have hyc := hcat y (List.mem_of_getElem? hy)
    have hsz : 1 ≤ sizeN y.cat ∧ sizeN y.cat ≤ 16 := by unfold sizeN; (repeat' split) <;> omega
    obtain ⟨cs2, hcsl2, ⟨rfl, hcI⟩, hg2⟩ := hwq.get hy
    have pa : ∀ t z, (codedC y)[t]? = some z → E3.cell? ⟨sB wq, sO wq + (i : Int).toNat * 3 + t, none⟩ = some z := fun t z hz => by rw [Int.toNat_natCast]; exact hE3.cell (hg2 t z hz)
    have hts : W.take (i + 1) = W.take i ++ [y] := by rw [List.take_add_one, hy]; rfl
    have hsn := mapP_snoc (fun x : Coded => blkP (sizeN x.cat)) (W.take i) y (strm s) p7
    rw [← hts] at hsn
    generalize mapP (fun x : Coded => blkP (sizeN x.cat)) (W.take i) (strm s) p7 = r at *
    obtain ⟨bl0, p8⟩ := r
    dsimp only at hsn hbc hA
    have hG3 := hG2.mono hE3
    repeat' (first | (refine g_ow ?_; refine t_indexAddrS rfl (hsw.mono hE3) rfl (by omega) ?_; refine rn ?_) | (refine g_ow ?_; refine t_load_agg_env rfl rfl hA pa rfl ?_; refine rn ?_) | (refine g_callf 108 ?_; refine ow_call Tryd.call108 rfl ((sizeS_calls _ hyc _ _ _ hA hG3).mono ?_); clear hA; (try clear w); rintro e w ⟨rfl, hA⟩; refine ⟨_, rfl, ?_⟩; refine rn ?_) | refine st ?_ | (refine wc_regionS 30 rfl ?_; refine wc_region ?_) | (refine su ?_; refine rn ?_) | (refine g_conv ?_; refine p_c hA ?_; refine rn ?_) | (refine g_load ?_; (first | refine t_loadx rfl hA ?_ | refine t_loada rfl hA ?_); refine rn ?_) | (refine g_call ?_; refine t_appx rfl rfl hA rfl ?_; clear hA; (try clear w); intro v w hA hone hnil; refine h_n hA ?_; clear hA; intro hA; refine rn ?_) | (refine g_store ?_; (first | refine t_storex rfl rfl hA ?_ | refine t_storea rfl rfl hA ?_); clear hA; (try clear w); intro w hA; refine h_m hA ?_; clear hA; intro hA; refine rn ?_) | (refine g_ow ?_; (first | refine t_alloc hA ?_ | refine ow_box rfl rfl hA ?_ | refine t_buildSlice rfl (by decide) rfl hA ?_); clear hA; (try clear w); intro b w hA; refine h_n hA ?_; clear hA; intro hA; refine rn ?_) | (refine g_ow ?_; refine t_make rfl rfl (by omega) (by omega) hA ?_; clear hA; (try clear w); intro v w hA hone hnil; refine rn ?_) | refine wc_pp rfl (fun h => ?_) (fun h => ?_) | refine wc_nn rfl (fun h => ?_) (fun h => ?_) | refine rl_pp rfl (fun h => o_n ?_) (fun h => rn ?_) | refine rl_qq rfl (fun h => o_n ?_) (fun h => rn ?_) | refine rl_nn rfl (fun h => o_n ?_) (fun h => rn ?_) | refine rl_mm rfl (fun h => o_n ?_) (fun h => rn ?_))
    generalize hb10 : b = b10 at *
    clear hb10
    have hA := hA.perm (List.perm_middle (l₁ := [_, _, _])).symm
    have hE03 := hE02.trans hE3
    refine' wc_flow' 3 (fun _ => undef) (fun ix => match ix with | 1 => [10] | 4 => [9] | 6 => [5, 11] | 8 => [10] | _ => []) (fun ix => match ix with | 4 => [9] | 6 => [5, 11] | 8 => [10] | _ => []) (fun ix => match ix with | 5 => [4, 5] | 6 => [4, 6] | 8 => [6] | _ => []) (mixPhi [_, _, _, _, undef, undef, undef, _, undef] (fun ix => match ix with | 4 => some (fun E4 v => ListE intR 1 (E4.sub E) v (blkP (sizeN y.cat) (strm s) p8).1) | 5 => some (litW 1) | 6 => some (oneS) | 8 => some (trueV) | _ => none)) (fun ix yy => match ix with | 4 => [src bx s (blkP (sizeN y.cat) (strm s) p8).2] | 5 => [cells (sB (yy 5)) [yy 4] 24] | 6 => [row 24 1 (yy 6) (i + 1) (bc ++ [yy 4])] | 8 => [cells b7 (fC k mo ch (vec16 pr) (vec4 sl) c qp q1 q2 (yy 6)) 28] | 9 => [src bx s p8] | 10 => [cells b7 (fC k mo ch (vec16 pr) (vec4 sl) c qp q1 q2 u) 28] | 11 => [row 24 1 u i bc] | _ => []) (cells b10 (codedC y) 141 :: cells b6 zM 28 :: L) 9 (by kernel_rfl) rfl (by kernel_rfl) [(0, 107), (1, 108), (2, 109), (3, 110), (4, 111), (5, 112), (6, 113), (7, 114)] (by kernel_rfl) [0, 1, 2, 3, 4, 6, 7, 8] (by kernel_rfl) [9, 10, 11] (by kernel_rfl) hA ?itd30 ?phi30 ?ops30 ?k30
    case itd30 => (intro i y y' h; first | rfl | ((try dsimp only at h ⊢); split <;> first | rfl | (simp only [List.mem_cons, List.not_mem_nil, or_false, forall_eq_or_imp, forall_eq] at h; simp only [h]; done)))
    case phi30 => (refine mix_mono fun i p hp E1 E2 v hE h => ?_; split at hp <;> first | (cases hp; done) | (obtain rfl := Option.some.inj hp; first | exact ListE.mono h hE | exact ListE.mono h (Env.sub_left _ hE) | exact PMono.mono hE h | exact PMono.mono (Env.sub_left _ hE) h | exact h))
    case ops30 =>
      refine' FlowOps.c rfl [] (by decide) [] (by decide) [] rfl [] rfl ?o30_0 ?r30_0
      case o30_0 => intro yy E' Lx w lf hE hph hyp hl hA; simp only [setAll, List.map_cons, List.map_nil, List.set_cons_succ, List.set_cons_zero] at hl; subst hl; (try simp only [List.flatMap_cons, List.flatMap_nil, List.nil_append, List.append_nil, List.cons_append] at hA ⊢); (try clear hph hyp); first | (refine t_fieldAddr rfl ?_; exact ⟨_, E', pe, Env.Le.refl _, mix_mk rfl rfl, hA⟩)
      case r30_0 =>
        refine' FlowOps.c rfl [(0, 107)] (by decide) [0] (by decide) [10] rfl [10] rfl ?o30_1 ?r30_1
        case o30_1 => intro yy E' Lx w lf hE hph hyp hl hA; have e0 := mix_known (hph 0 (by decide)) rfl rfl; simp only [setAll, List.map_cons, List.map_nil, List.set_cons_succ, List.set_cons_zero, ← e0] at hl; subst hl; (try simp only [← e0] at hA ⊢); (try simp only [List.flatMap_cons, List.flatMap_nil, List.nil_append, List.append_nil, List.cons_append] at hA ⊢); (try clear hph hyp); first | (refine t_loadx rfl hA ?_; exact ⟨_, E', pe, Env.Le.refl _, mix_mk rfl rfl, hA⟩) | (refine t_loada rfl hA ?_; exact ⟨_, E', pe, Env.Le.refl _, mix_mk rfl rfl, hA⟩)
        case r30_1 =>
          refine' FlowOps.c rfl [] (by decide) [] (by decide) [] rfl [] rfl ?o30_2 ?r30_2
          case o30_2 => intro yy E' Lx w lf hE hph hyp hl hA; simp only [setAll, List.map_cons, List.map_nil, List.set_cons_succ, List.set_cons_zero] at hl; subst hl; (try simp only [List.flatMap_cons, List.flatMap_nil, List.nil_append, List.append_nil, List.cons_append] at hA ⊢); (try clear hph hyp); first | (refine ow_move_v rfl ?_; exact ⟨_, E', pe, Env.Le.refl _, mix_mk rfl rfl, hA⟩)
          case r30_2 =>
            refine' FlowOps.c rfl [] (by decide) [] (by decide) [] rfl [] rfl ?o30_3 ?r30_3
            case o30_3 => intro yy E' Lx w lf hE hph hyp hl hA; simp only [setAll, List.map_cons, List.map_nil, List.set_cons_succ, List.set_cons_zero] at hl; subst hl; (try simp only [List.flatMap_cons, List.flatMap_nil, List.nil_append, List.append_nil, List.cons_append] at hA ⊢); (try clear hph hyp); first | (refine ow_move_v rfl ?_; exact ⟨_, E', pe, Env.Le.refl _, mix_mk rfl rfl, hA⟩)
            case r30_3 =>
              refine' FlowOps.c rfl [(2, 109), (3, 110)] (by decide) [2, 3] (by decide) [9] rfl [] rfl ?o30_4 ?r30_4
              case o30_4 => intro yy E' Lx w lf hE hph hyp hl hA; have e2 := mix_known (hph 2 (by decide)) rfl rfl; have e3 := mix_known (hph 3 (by decide)) rfl rfl; simp only [setAll, List.map_cons, List.map_nil, List.set_cons_succ, List.set_cons_zero, ← e2, ← e3] at hl; subst hl; (try simp only [← e2, ← e3] at hA ⊢); (try simp only [List.flatMap_cons, List.flatMap_nil, List.nil_append, List.append_nil, List.cons_append] at hA ⊢); (try clear hph hyp); refine ow_call Tryd.call109 rfl ((block_calls _ _ _ _ _ _ (sizeN y.cat) hsz hs hA).mono ?_); clear hA; rintro e w ⟨E5, qb, rfl, hE5, hqb, hA⟩; exact ⟨_, rfl, qb, E5, rfl, hE5, mix_mkP rfl (hqb.mono (Env.sub_right _ (hE03.trans hE))), hA⟩
              case r30_4 =>
                refine' FlowOps.c rfl [(4, 111)] (by decide) [2, 3, 4] (by decide) [] rfl [] rfl ?o30_5 ?r30_5
                case o30_5 => intro yy E' Lx w lf hE hph hyp hl hA; have hu4 : ∀ v, upd yy 5 v 4 = yy 4 := fun _ => rfl; simp only [Nat.reduceAdd, hu4]; clear hu4; have e2 := mix_known (hph 2 (by decide)) rfl rfl; have e3 := mix_known (hph 3 (by decide)) rfl rfl; simp only [setAll, List.map_cons, List.map_nil, List.set_cons_succ, List.set_cons_zero, ← e2, ← e3] at hl; subst hl; have p4 := mix_pred (hph 4 (by decide)) rfl; (try simp only [← e2, ← e3] at hA ⊢); generalize yy 4 = y4 at *; (try simp only [List.flatMap_cons, List.flatMap_nil, List.nil_append, List.append_nil, List.cons_append] at hA ⊢); (try clear hph hyp); obtain ⟨x3, hx3⟩ := p4.sl; obtain ⟨a3, c3, rfl⟩ := hx3.shape; refine t_buildSlice rfl (by decide) rfl hA ?_; clear hA; intro bb w hA; exact ⟨_, E', rfl, Env.Le.refl _, mix_mkP rfl ⟨bb, rfl⟩, hA⟩
                case r30_5 =>
                  refine' FlowOps.c rfl [(1, 108), (5, 112), (4, 111)] (by decide) [0, 2, 3, 1, 5, 4] (by decide) [5, 11] rfl [] rfl ?o30_6 ?r30_6
                  case o30_6 => intro yy E' Lx w lf hE hph hyp hl hA; have hu4 : ∀ v, upd yy 6 v 4 = yy 4 := fun _ => rfl; simp only [Nat.reduceAdd, hu4]; clear hu4; have e0 := mix_known (hph 0 (by decide)) rfl rfl; have e2 := mix_known (hph 2 (by decide)) rfl rfl; have e3 := mix_known (hph 3 (by decide)) rfl rfl; have e1 := mix_known (hph 1 (by decide)) rfl rfl; simp only [setAll, List.map_cons, List.map_nil, List.set_cons_succ, List.set_cons_zero, ← e0, ← e2, ← e3, ← e1] at hl; subst hl; have p5 := mix_pred (hph 5 (by decide)) rfl; have p4 := mix_pred (hph 4 (by decide)) rfl; (try simp only [← e0, ← e2, ← e3, ← e1] at hA ⊢); generalize yy 5 = y5 at *; generalize yy 4 = y4 at *; (try simp only [List.flatMap_cons, List.flatMap_nil, List.nil_append, List.append_nil, List.cons_append] at hA ⊢); (try clear hph hyp); have o3 := p4.one; obtain ⟨bb, rfl⟩ := p5; refine t_append1 1 0 (by decide) (by rfl) rfl rfl hA rfl rfl rfl (by simp only [List.mem_cons, List.not_mem_nil, or_false, forall_eq]; exact o3) (by unfold maxLen; omega) (by omega) ?_; clear hA; intro v' w hA h1 h2; exact ⟨v', E', rfl, Env.Le.refl _, mix_mkP rfl h1, hA⟩
                  case r30_6 =>
                    refine' FlowOps.c rfl [(0, 107), (1, 108), (2, 109), (3, 110), (4, 111), (5, 112), (6, 113)] (by decide) [0, 1, 2, 3, 4, 5, 6] (by decide) [] rfl [] rfl ?o30_7 ?r30_7
                    case o30_7 => intro yy E' Lx w lf hE hph hyp hl hA; have e0 := mix_known (hph 0 (by decide)) rfl rfl; have e1 := mix_known (hph 1 (by decide)) rfl rfl; have e2 := mix_known (hph 2 (by decide)) rfl rfl; have e3 := mix_known (hph 3 (by decide)) rfl rfl; simp only [setAll, List.map_cons, List.map_nil, List.set_cons_succ, List.set_cons_zero, ← e0, ← e1, ← e2, ← e3] at hl; subst hl; have p4 := mix_pred (hph 4 (by decide)) rfl; have p5 := mix_pred (hph 5 (by decide)) rfl; have p6 := mix_pred (hph 6 (by decide)) rfl; (try simp only [← e0, ← e1, ← e2, ← e3] at hA ⊢); generalize yy 4 = y4 at *; generalize yy 5 = y5 at *; generalize yy 6 = y6 at *; (try simp only [List.flatMap_cons, List.flatMap_nil, List.nil_append, List.append_nil, List.cons_append] at hA ⊢); (try clear hph hyp); first | (refine t_fieldAddr rfl ?_; exact ⟨_, E', pe, Env.Le.refl _, mix_mk rfl rfl, hA⟩)
                    case r30_7 =>
                      refine' FlowOps.c rfl [(7, 114), (6, 113), (0, 107), (1, 108), (2, 109), (3, 110), (4, 111), (5, 112)] (by decide) [7, 6, 0, 1, 2, 3, 4, 5] (by decide) [10] rfl [] rfl ?o30_8 ?r30_8
                      case o30_8 => intro yy E' Lx w lf hE hph hyp hl hA; have hu6 : ∀ v, upd yy 8 v 6 = yy 6 := fun _ => rfl; simp only [Nat.reduceAdd, hu6]; clear hu6; have e7 := mix_known (hph 7 (by decide)) rfl rfl; have e0 := mix_known (hph 0 (by decide)) rfl rfl; have e1 := mix_known (hph 1 (by decide)) rfl rfl; have e2 := mix_known (hph 2 (by decide)) rfl rfl; have e3 := mix_known (hph 3 (by decide)) rfl rfl; simp only [setAll, List.map_cons, List.map_nil, List.set_cons_succ, List.set_cons_zero, ← e7, ← e0, ← e1, ← e2, ← e3] at hl; subst hl; have p6 := mix_pred (hph 6 (by decide)) rfl; have p4 := mix_pred (hph 4 (by decide)) rfl; have p5 := mix_pred (hph 5 (by decide)) rfl; (try simp only [← e7, ← e0, ← e1, ← e2, ← e3] at hA ⊢); generalize yy 6 = y6 at *; generalize yy 4 = y4 at *; generalize yy 5 = y5 at *; (try simp only [List.flatMap_cons, List.flatMap_nil, List.nil_append, List.append_nil, List.cons_append] at hA ⊢); (try clear hph hyp); refine t_store 0 rfl rfl p6 hA rfl (by show 27 < 29; decide) ?_; clear hA; intro w hA; refine h_n hA ?_; clear hA; intro hA; exact ⟨undef, E', rfl, Env.Le.refl _, mix_mkP rfl trivial, hA⟩
                      case r30_8 =>
                        exact FlowOps.nil
    case' k30 => (try clear hA); intro yy E' w lf hE hph hyp hl hA; have e0 := mix_known (hph 0 (by decide)) rfl rfl; have e1 := mix_known (hph 1 (by decide)) rfl rfl; have e2 := mix_known (hph 2 (by decide)) rfl rfl; have e3 := mix_known (hph 3 (by decide)) rfl rfl; have e7 := mix_known (hph 7 (by decide)) rfl rfl; simp only [setAll, List.map_cons, List.map_nil, List.set_cons_succ, List.set_cons_zero, ← e0, ← e1, ← e2, ← e3, ← e7] at hl; subst hl; have p4 := mix_pred (hph 4 (by decide)) rfl; have p5 := mix_pred (hph 5 (by decide)) rfl; have p6 := mix_pred (hph 6 (by decide)) rfl; have p8 := mix_pred (hph 8 (by decide)) rfl; (try simp only [← e0, ← e1, ← e2, ← e3, ← e7] at hA); generalize yy 4 = y4 at *; generalize yy 5 = y5 at *; generalize yy 6 = y6 at *; generalize yy 8 = y8 at *; (try simp only [List.flatMap_cons, List.flatMap_nil, List.nil_append, List.append_nil, List.cons_append] at hA); clear hph hyp
    repeat' (first | refine st ?_ | (refine wc_region ?_) | (refine su ?_; refine rn ?_) | (refine g_conv ?_; refine p_c hA ?_; refine rn ?_) | (refine g_load ?_; (first | refine t_loadx rfl hA ?_ | refine t_loada rfl hA ?_); refine rn ?_) | (refine g_call ?_; refine t_appx rfl rfl hA rfl ?_; clear hA; (try clear w); intro v w hA hone hnil; refine h_n hA ?_; clear hA; intro hA; refine rn ?_) | (refine g_store ?_; (first | refine t_storex rfl rfl hA ?_ | refine t_storea rfl rfl hA ?_); clear hA; (try clear w); intro w hA; refine h_m hA ?_; clear hA; intro hA; refine rn ?_) | (refine g_ow ?_; (first | refine t_alloc hA ?_ | refine ow_box rfl rfl hA ?_ | refine t_buildSlice rfl (by decide) rfl hA ?_); clear hA; (try clear w); intro b w hA; refine h_n hA ?_; clear hA; intro hA; refine rn ?_) | (refine g_ow ?_; refine t_make rfl rfl (by omega) (by omega) hA ?_; clear hA; (try clear w); intro v w hA hone hnil; refine rn ?_) | refine wc_pp rfl (fun h => ?_) (fun h => ?_) | refine wc_nn rfl (fun h => ?_) (fun h => ?_) | refine rl_pp rfl (fun h => o_n ?_) (fun h => rn ?_) | refine rl_qq rfl (fun h => o_n ?_) (fun h => rn ?_) | refine rl_nn rfl (fun h => o_n ?_) (fun h => rn ?_) | refine rl_mm rfl (fun h => o_n ?_) (fun h => rn ?_))
    refine lq_next (q - 1) (by omega) ⟨i + 1, n, E', y6, bc ++ [y4], (ex_getD rfl), hn, by omega, hE3.trans hE, p6, ?_, ?_⟩
    · rw [hsn]
      exact (hbc.mono (Env.sub_left E hE)).snoc (cs := [y4]) rfl ⟨y4, rfl, p4⟩
    · rw [hsn]
      exact (hA.perm ((List.Perm.swap _ _ _).cons _)).sub (.cons_cons _ (.cons_cons _ (.cons_cons _ (.cons _ (List.Sublist.refl _)))))
  · obtain rfl : i = W.length := by omega
    subst hn
    rw [List.take_of_length_le (Nat.le_refl _)] at hbc hA
    have hbll := mapP_len (fun x : Coded => blkP (sizeN x.cat)) W (strm s) p7
    generalize hbv : mapP (fun x : Coded => blkP (sizeN x.cat)) W (strm s) p7 = bv at *
    obtain ⟨bl, p8⟩ := bv
    rw [hbl bl p8 rfl]
    dsimp only at hbc hA hbll
    have hE03 := hE02.trans hE3
    repeat' (first | refine st ?_ | (refine wc_region ?_) | (refine su ?_; refine rn ?_) | (refine g_conv ?_; refine p_c hA ?_; refine rn ?_) | (refine g_load ?_; (first | refine t_loadx rfl hA ?_ | refine t_loada rfl hA ?_); refine rn ?_) | (refine g_call ?_; refine t_appx rfl rfl hA rfl ?_; clear hA; (try clear w); intro v w hA hone hnil; refine h_n hA ?_; clear hA; intro hA; refine rn ?_) | (refine g_store ?_; (first | refine t_storex rfl rfl hA ?_ | refine t_storea rfl rfl hA ?_); clear hA; (try clear w); intro w hA; refine h_m hA ?_; clear hA; intro hA; refine rn ?_) | (refine g_ow ?_; (first | refine t_alloc hA ?_ | refine ow_box rfl rfl hA ?_ | refine t_buildSlice rfl (by decide) rfl hA ?_); clear hA; (try clear w); intro b w hA; refine h_n hA ?_; clear hA; intro hA; refine rn ?_) | (refine g_ow ?_; refine t_make rfl rfl (by omega) (by omega) hA ?_; clear hA; (try clear w); intro v w hA hone hnil; refine rn ?_) | refine wc_pp rfl (fun h => ?_) (fun h => ?_) | refine wc_nn rfl (fun h => ?_) (fun h => ?_) | refine rl_pp rfl (fun h => o_n ?_) (fun h => rn ?_) | refine rl_qq rfl (fun h => o_n ?_) (fun h => rn ?_) | refine rl_nn rfl (fun h => o_n ?_) (fun h => rn ?_) | refine rl_mm rfl (fun h => o_n ?_) (fun h => rn ?_))
    have hA2 : Sat E3 (row 24 1 u bl.length bc :: src bx s p8 :: cells b7 (fC k mo ch (vec16 pr) (vec4 sl) c qp q1 q2 u) 28 :: cells b6 (fC k mo ch (vec16 pr) (vec4 sl) c qp q1 q2 u) 28 :: L) w := by rw [hbll]; exact hA.perm (List.perm_middle (l₁ := [_, _]))
    obtain ⟨E4, hE4, hA2, l3⟩ := hA2.freezeListS E hE03 hbc
    have hE14 := (hE2.trans hE3).trans hE4
    exact fp_ret (resSole rfl (one_cell 3 rfl rfl hA rfl rfl)) ⟨E4, q1, q2, u, rfl, hE03.trans hE4, ⟨l1.mono (Env.sub_left E hE14), l2.mono (Env.sub_left E hE14), l3, hqp64, Nat.zero_le _⟩, hA2.sub (.cons_cons _ (.cons _ (.cons _ (List.Sublist.refl _))))⟩
end Go.Proofs.YtomfoaaaeidpnaaDoor
