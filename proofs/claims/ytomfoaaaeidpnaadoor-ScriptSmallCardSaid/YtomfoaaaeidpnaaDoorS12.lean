/-
  spindlelaw40.ScriptSmall, walked.
-/
import Derived.Test.YtomfoaaaeidpnaaDoorS10
set_option linter.unusedVariables false
set_option linter.unusedSimpArgs false
namespace Go.Proofs.YtomfoaaaeidpnaaDoor
open Go Go.RowKit
attribute [local irreducible] WC RL OW bodyPostM ThenQ BlockQ LoopQ ScopeQ
def smS (k n : Nat) : List UInt8 := [1, 0, 0, 0, 0, 26, 1, UInt8.ofNat k, UInt8.ofNat n]
def smW (n : Nat) : Int := if n % 2 = 1 then (((n + 1) / 2 : Nat) : Int) else -((n / 2 : Nat) : Int)
def smB (k n : Nat) : List Int := (List.replicate 16 (0 : Int)).set k (smW n)
def smM (k n : Nat) : Mb := ⟨1, 0, 0, vec16 [], vec4 [], [], [], 0, 0, [smB k n], []⟩
theorem small_mb (k n : Nat) (hk : k < 16) (hn : n < 240) : mbP true 0 (strm (smS k n)) 0 = (smM k n, 9) := by
  have hk2 : (UInt8.ofNat k).toNat % 16 = k := by rw [UInt8.toNat_ofNat', Nat.mod_eq_of_lt (by omega)]; omega
  have hn2 : (tk 256 (strm (smS k n)) 8).1 = n := by
    show (UInt8.ofNat n).toNat % 256 = n
    rw [UInt8.toNat_ofNat', Nat.mod_eq_of_lt (by omega)]; omega
  have hw : smallI n (32768 : Nat) = smW n := by
    unfold smallI smW
    dsimp only
    split <;> (rw [if_neg (by omega)])
  have hnum : numP 32768 (strm (smS k n)) 8 = (smW n, 9) := by
    rw [num_small (by rw [hn2]; exact hn), hn2, hw]
  have hbk : blkP 16 (strm (smS k n)) 6 = (smB k n, 9) := by
    have h1 : blkP 16 (strm (smS k n)) 6 = ((List.replicate 16 (0 : Int)).set ((UInt8.ofNat k).toNat % 16) (numP 32768 (strm (smS k n)) 8).1, (numP 32768 (strm (smS k n)) 8).2) := rfl
    rw [h1, hk2, hnum]
    rfl
  refine mbP_eq (k := 1) (mo := 0) (ch := 0) (c := 0) (p1 := 1) (p2 := 2) (p3 := 3) (p4 := 3) (p5 := 3) (p6 := 5) (p7 := 6) (p8 := 9) (pr := []) (sl := []) (rl := []) (vl := []) (qp := 0) (bl := [smB k n]) rfl (by decide) (by decide) rfl rfl rfl rfl rfl rfl ?_
  have hb : blocksL (mF 1 0 0 [] [] 0 0) = [⟨0, 0, 0⟩] := rfl
  rw [hb]
  show ([(blkP 16 (strm (smS k n)) 6).1], (blkP 16 (strm (smS k n)) 6).2) = _
  rw [hbk]
theorem smB_at (k n i : Nat) (hi : i < 16) : (smB k n)[i]? = some (if i = k then smW n else 0) := by
  unfold smB
  rw [List.getElem?_set]
  by_cases h : k = i
  · subst h
    rw [if_pos rfl, if_pos (by rw [List.length_replicate]; exact hi), if_pos rfl]
  · rw [if_neg h, if_neg (fun e => h e.symm), List.getElem?_replicate, if_pos hi]
set_option maxRecDepth 16000 in
set_option maxHeartbeats 16000000 in
theorem scriptSmall_calls (a c : UInt8) (E : Env) (L : List Item) (w : World) (hA : Sat E L w) (hG : SzG E) :
    Calls Tryd.prog 10 ⟨[u8 a, u8 c]⟩ w (Ret E L (.bool true)) := by
  have ha8 := a.toNat_lt
  have hc8 := c.toNat_lt
  obtain ⟨n, hn⟩ : ∃ n, a.toNat % 240 = n := ⟨_, rfl⟩
  obtain ⟨k, hk⟩ : ∃ k, c.toNat % 16 = k := ⟨_, rfl⟩
  have hn240 : n < 240 := by omega
  have hk16 : k < 16 := by omega
  have en : (a.toNat : Int) % 240 = (n : Int) := by omega
  have ek : (c.toNat : Int) % 16 = (k : Int) := by omega
  have hsm := small_mb k n hk16 hn240
  have hsl : (smS k n).map u8 = [.int .u8 1, .int .u8 0, .int .u8 0, .int .u8 0, .int .u8 0, .int .u8 26, .int .u8 1, u8 (UInt8.ofNat k), u8 (UInt8.ofNat n)] := rfl
  refine enter (fn := Tryd.f10) Tryd.func10 rfl 102 rfl [u8 a, u8 c, undef, undef, undef, undef, undef, undef, undef, undef, undef, undef, undef, undef, undef, undef, undef, undef, undef, undef, undef, undef, undef, undef, undef, undef, undef, undef, undef, undef, undef, undef, undef, undef, undef, undef, undef, undef, undef, undef, undef, undef, undef, undef, undef, undef, undef, undef, undef, undef, undef, undef, undef, undef, undef, undef, undef, undef, undef, undef, undef, undef, undef, undef, undef, undef, undef, undef, undef, undef, undef, undef, undef, undef, undef, undef, undef, undef, undef, undef, undef, undef, undef, undef, undef, undef, undef, undef, undef, undef, undef, undef, undef, undef, undef, undef, undef, undef, undef, undef, undef, undef] rfl ?_
  repeat' (first | (refine g_bin ?_; refine ow_remp rfl rfl (by omega) ?_; refine rn ?_) | refine st ?_ | (refine wc_regionS 2 rfl ?_; refine wc_region ?_) | (refine su ?_; refine rn ?_) | (refine g_conv ?_; refine p_c hA ?_; refine rn ?_) | (refine g_load ?_; (first | refine t_loadx rfl hA ?_ | refine t_loada rfl hA ?_); refine rn ?_) | (refine g_call ?_; refine t_appx rfl rfl hA rfl ?_; clear hA; (try clear w); intro v w hA hone hnil; refine h_n hA ?_; clear hA; intro hA; refine rn ?_) | (refine g_store ?_; (first | refine t_storex rfl rfl hA ?_ | refine t_storea rfl rfl hA ?_); clear hA; (try clear w); intro w hA; refine h_m hA ?_; clear hA; intro hA; refine rn ?_) | (refine g_ow ?_; (first | refine t_alloc hA ?_ | refine ow_box rfl rfl hA ?_ | refine t_buildSlice rfl (by decide) rfl hA ?_); clear hA; (try clear w); intro b w hA; refine h_n hA ?_; clear hA; intro hA; refine rn ?_) | (refine g_ow ?_; refine t_make rfl rfl (by omega) (by omega) hA ?_; clear hA; (try clear w); intro v w hA hone hnil; refine rn ?_) | refine wc_pp rfl (fun h => ?_) (fun h => ?_) | refine wc_nn rfl (fun h => ?_) (fun h => ?_) | refine rl_pp rfl (fun h => o_n ?_) (fun h => rn ?_) | refine rl_qq rfl (fun h => o_n ?_) (fun h => rn ?_) | refine rl_nn rfl (fun h => o_n ?_) (fun h => rn ?_) | refine rl_mm rfl (fun h => o_n ?_) (fun h => rn ?_))
  rw [en, ek]
  repeat' (first | (refine g_ow ?_; refine t_conv8 rfl (by omega) ?_; rw [u8_small _ (by omega)]; refine rn ?_) | (refine g_ow ?_; refine t_cells_str 0 (s := smS k n) rfl hA rfl rfl rfl ?_; refine rn ?_) | (refine g_callf 36 ?_; refine ow_call Tryd.call36 rfl ((script_calls (smS k n) true 0 _ _ _ (.inl ⟨rfl, rfl⟩) (by show 9 ≤ 1000000; decide) hA.tail hG).mono ?_); clear hA; (try clear w); rintro e w ⟨E1, r, vv, u, rfl, hE1, hm, hA⟩; refine ⟨_, rfl, ?_⟩; (try rw [hsm] at hm ⊢; have o1 := hm.refs.one; have o2 := hm.mvds.one; have o3 := hm.blocks.one); refine rn ?_) | refine st ?_ | (refine wc_regionS 3 rfl ?_; refine wc_region ?_) | (refine su ?_; refine rn ?_) | (refine g_conv ?_; refine p_c hA ?_; refine rn ?_) | (refine g_load ?_; (first | refine t_loadx rfl hA ?_ | refine t_loada rfl hA ?_); refine rn ?_) | (refine g_call ?_; refine t_appx rfl rfl hA rfl ?_; clear hA; (try clear w); intro v w hA hone hnil; refine h_n hA ?_; clear hA; intro hA; refine rn ?_) | (refine g_store ?_; (first | refine t_storex rfl rfl hA ?_ | refine t_storea rfl rfl hA ?_); clear hA; (try clear w); intro w hA; refine h_m hA ?_; clear hA; intro hA; refine rn ?_) | (refine g_ow ?_; (first | refine t_alloc hA ?_ | refine ow_box rfl rfl hA ?_ | refine t_buildSlice rfl (by decide) rfl hA ?_); clear hA; (try clear w); intro b w hA; refine h_n hA ?_; clear hA; intro hA; refine rn ?_) | (refine g_ow ?_; refine t_make rfl rfl (by omega) (by omega) hA ?_; clear hA; (try clear w); intro v w hA hone hnil; refine rn ?_) | refine wc_pp rfl (fun h => ?_) (fun h => ?_) | refine wc_nn rfl (fun h => ?_) (fun h => ?_) | refine rl_pp rfl (fun h => o_n ?_) (fun h => rn ?_) | refine rl_qq rfl (fun h => o_n ?_) (fun h => rn ?_) | refine rl_nn rfl (fun h => o_n ?_) (fun h => rn ?_) | refine rl_mm rfl (fun h => o_n ?_) (fun h => rn ?_))
  generalize hb7 : b = b7 at *
  clear hb7
  have hm := hm.mono (Env.sub_le _ _)
  dsimp only at hm
  rw [show ((min 9 (smS k n).length : Nat) : Int) = 9 from rfl]
  have hB := hm.blocks
  obtain ⟨xu, hsu⟩ := hB.sl
  obtain ⟨cs, _, ⟨qv, rfl, hq⟩, hg⟩ := hB.get (i := 0) (x := smB k n) rfl
  have p0 : E1.cell? ⟨sB u, sO u + (0 : Int).toNat * 1, none⟩ = some qv := hg 0 _ rfl
  have hlB : (smB k n).length = 16 := by unfold smB; rw [List.length_set, List.length_replicate]
  obtain ⟨xq, hsq⟩ := hq.sl
  rw [hlB] at hsq
  have hsu : SlE E1 1 u 1 xu := hsu
  have hGE := hG.mono hE1
  have hA : Sat E1 (cells b7 ([u8 1, u8 0, u8 0] ++ (mbC (smM k n) r vv u).drop 3) 28 :: L) w := hA
  have hw : Value.int .i64 (if n % 2 = 1 then (((n + 1) / 2 : Nat) : Int) else -((n / 2 : Nat) : Int)) = vi (smW n) := rfl
  repeat' (first | (refine g_bin ?_; refine ow_quo64 rfl rfl (by omega) ?_; refine rn ?_) | (refine g_ow ?_; refine ow_unary64 rfl (by omega) ?_; refine rn ?_) | refine st ?_ | (refine wc_regionS 4 rfl ?_; refine wc_region ?_) | (refine su ?_; refine rn ?_) | (refine g_conv ?_; refine p_c hA ?_; refine rn ?_) | (refine g_load ?_; (first | refine t_loadx rfl hA ?_ | refine t_loada rfl hA ?_); refine rn ?_) | (refine g_call ?_; refine t_appx rfl rfl hA rfl ?_; clear hA; (try clear w); intro v w hA hone hnil; refine h_n hA ?_; clear hA; intro hA; refine rn ?_) | (refine g_store ?_; (first | refine t_storex rfl rfl hA ?_ | refine t_storea rfl rfl hA ?_); clear hA; (try clear w); intro w hA; refine h_m hA ?_; clear hA; intro hA; refine rn ?_) | (refine g_ow ?_; (first | refine t_alloc hA ?_ | refine ow_box rfl rfl hA ?_ | refine t_buildSlice rfl (by decide) rfl hA ?_); clear hA; (try clear w); intro b w hA; refine h_n hA ?_; clear hA; intro hA; refine rn ?_) | (refine g_ow ?_; refine t_make rfl rfl (by omega) (by omega) hA ?_; clear hA; (try clear w); intro v w hA hone hnil; refine rn ?_) | refine wc_pp rfl (fun h => ?_) (fun h => ?_) | refine wc_nn rfl (fun h => ?_) (fun h => ?_) | refine rl_pp rfl (fun h => o_n ?_) (fun h => rn ?_) | refine rl_qq rfl (fun h => o_n ?_) (fun h => rn ?_) | refine rl_nn rfl (fun h => o_n ?_) (fun h => rn ?_) | refine rl_mm rfl (fun h => o_n ?_) (fun h => rn ?_))
  refine wc_region ?_
  refine' rl_v hA ?o4_0 ?k4_0
  case o4_0 => intro w hA; first | (refine ow_remp rfl rfl (by omega) ?_; exact ⟨pe, hA⟩) | (refine ow_move_v rfl ?_; exact ⟨pe, hA⟩)
  case' k4_0 => clear hA; intro w hA; refine rn ?_
  refine' rl_v hA ?o4_1 ?k4_1
  case o4_1 => intro w hA; first | (refine ow_remp rfl rfl (by omega) ?_; exact ⟨pe, hA⟩) | (refine ow_remp rfl rfl (by omega) ?_; exact ⟨pe, hA⟩)
  case' k4_1 => clear hA; intro w hA; refine rn ?_
  refine' rl_v hA ?o4_2 ?k4_2
  case o4_2 => intro w hA; first | (refine ow_remp rfl rfl (by omega) ?_; exact ⟨pe, hA⟩) | (refine ow_eql rfl rfl ?_; exact ⟨pe, hA⟩) | (refine ow_eqs rfl rfl ?_; exact ⟨pe, hA⟩) | (refine t_eqlb rfl rfl ?_; exact ⟨pe, hA⟩)
  case' k4_2 => clear hA; intro w hA; refine rn ?_
  refine rl_nil ?_
  refine tq_normal ?_
  refine wc_mid (fun l w => (∃ jk : Nat → Value, l = [jk 0, jk 1, jk 2, jk 3, jk 4, vi n, vi k, .pointer (some ⟨b7, 0, none⟩), vi 9, vi 0, vi (smW n), jk 11, jk 12, jk 13, jk 14, jk 15, jk 16, jk 17, jk 18, jk 19, jk 20, jk 21, jk 22, jk 23, jk 24, jk 25, jk 26, jk 27, jk 28, jk 29, jk 30, jk 31, jk 32, jk 33, jk 34, jk 35, jk 36, jk 37, jk 38, jk 39, jk 40, jk 41, jk 42, jk 43, jk 44, jk 45, jk 46, jk 47, jk 48, jk 49, jk 50, jk 51, jk 52, jk 53, jk 54, jk 55, jk 56, jk 57, jk 58, jk 59, jk 60, jk 61, jk 62, jk 63, jk 64, jk 65, jk 66, jk 67, jk 68, jk 69, jk 70, jk 71, jk 72, jk 73, jk 74, jk 75, jk 76, jk 77, jk 78, jk 79, jk 80, jk 81, jk 82, jk 83, jk 84, jk 85, jk 86, jk 87, jk 88, jk 89, jk 90, jk 91, jk 92, jk 93, jk 94, jk 95, jk 96, jk 97, jk 98, jk 99, jk 100, jk 101]) ∧ Sat E1 (cells b7 (mbC (smM k n) r vv u) 28 :: L) w) ?_ ?_
  · refine wc_bb rfl (fun h => ?_) (fun h => ?_)
    · have h' : n % 2 = 1 := by simp only [decide_eq_true_eq] at h; omega
      have hw : smW n = ((n : Int) + 1) / 2 := by unfold smW; rw [if_pos h']; push_cast; rfl
      repeat' (first | (refine g_bin ?_; refine ow_quo64 rfl rfl (by omega) ?_; rw [← hw]; refine rn ?_) | refine st ?_ | (refine wc_region ?_) | (refine su ?_; refine rn ?_) | (refine g_conv ?_; refine p_c hA ?_; refine rn ?_) | (refine g_load ?_; (first | refine t_loadx rfl hA ?_ | refine t_loada rfl hA ?_); refine rn ?_) | (refine g_call ?_; refine t_appx rfl rfl hA rfl ?_; clear hA; (try clear w); intro v w hA hone hnil; refine h_n hA ?_; clear hA; intro hA; refine rn ?_) | (refine g_store ?_; (first | refine t_storex rfl rfl hA ?_ | refine t_storea rfl rfl hA ?_); clear hA; (try clear w); intro w hA; refine h_m hA ?_; clear hA; intro hA; refine rn ?_) | (refine g_ow ?_; (first | refine t_alloc hA ?_ | refine ow_box rfl rfl hA ?_ | refine t_buildSlice rfl (by decide) rfl hA ?_); clear hA; (try clear w); intro b w hA; refine h_n hA ?_; clear hA; intro hA; refine rn ?_) | (refine g_ow ?_; refine t_make rfl rfl (by omega) (by omega) hA ?_; clear hA; (try clear w); intro v w hA hone hnil; refine rn ?_) | refine wc_pp rfl (fun h => ?_) (fun h => ?_) | refine wc_nn rfl (fun h => ?_) (fun h => ?_) | refine rl_pp rfl (fun h => o_n ?_) (fun h => rn ?_) | refine rl_qq rfl (fun h => o_n ?_) (fun h => rn ?_) | refine rl_nn rfl (fun h => o_n ?_) (fun h => rn ?_) | refine rl_mm rfl (fun h => o_n ?_) (fun h => rn ?_))
      exact mq_normal ⟨(ex_getD rfl), hA⟩
    · have h' : ¬ n % 2 = 1 := by simp only [decide_eq_false_iff_not] at h; omega
      have hw : smW n = -((n : Int) / 2) := by unfold smW; rw [if_neg h']; push_cast; rfl
      rw [← hw]
      repeat' (first | refine st ?_ | (refine wc_region ?_) | (refine su ?_; refine rn ?_) | (refine g_conv ?_; refine p_c hA ?_; refine rn ?_) | (refine g_load ?_; (first | refine t_loadx rfl hA ?_ | refine t_loada rfl hA ?_); refine rn ?_) | (refine g_call ?_; refine t_appx rfl rfl hA rfl ?_; clear hA; (try clear w); intro v w hA hone hnil; refine h_n hA ?_; clear hA; intro hA; refine rn ?_) | (refine g_store ?_; (first | refine t_storex rfl rfl hA ?_ | refine t_storea rfl rfl hA ?_); clear hA; (try clear w); intro w hA; refine h_m hA ?_; clear hA; intro hA; refine rn ?_) | (refine g_ow ?_; (first | refine t_alloc hA ?_ | refine ow_box rfl rfl hA ?_ | refine t_buildSlice rfl (by decide) rfl hA ?_); clear hA; (try clear w); intro b w hA; refine h_n hA ?_; clear hA; intro hA; refine rn ?_) | (refine g_ow ?_; refine t_make rfl rfl (by omega) (by omega) hA ?_; clear hA; (try clear w); intro v w hA hone hnil; refine rn ?_) | refine wc_pp rfl (fun h => ?_) (fun h => ?_) | refine wc_nn rfl (fun h => ?_) (fun h => ?_) | refine rl_pp rfl (fun h => o_n ?_) (fun h => rn ?_) | refine rl_qq rfl (fun h => o_n ?_) (fun h => rn ?_) | refine rl_nn rfl (fun h => o_n ?_) (fun h => rn ?_) | refine rl_mm rfl (fun h => o_n ?_) (fun h => rn ?_))
      exact mq_normal ⟨(ex_getD rfl), hA⟩
  clear hA
  rintro l w ⟨⟨jk, rfl⟩, hA⟩
  repeat' (first | refine st ?_ | (refine wc_regionS 6 rfl ?_; refine wc_region ?_) | (refine su ?_; refine rn ?_) | (refine g_conv ?_; refine p_c hA ?_; refine rn ?_) | (refine g_load ?_; (first | refine t_loadx rfl hA ?_ | refine t_loada rfl hA ?_); refine rn ?_) | (refine g_call ?_; refine t_appx rfl rfl hA rfl ?_; clear hA; (try clear w); intro v w hA hone hnil; refine h_n hA ?_; clear hA; intro hA; refine rn ?_) | (refine g_store ?_; (first | refine t_storex rfl rfl hA ?_ | refine t_storea rfl rfl hA ?_); clear hA; (try clear w); intro w hA; refine h_m hA ?_; clear hA; intro hA; refine rn ?_) | (refine g_ow ?_; (first | refine t_alloc hA ?_ | refine ow_box rfl rfl hA ?_ | refine t_buildSlice rfl (by decide) rfl hA ?_); clear hA; (try clear w); intro b w hA; refine h_n hA ?_; clear hA; intro hA; refine rn ?_) | (refine g_ow ?_; refine t_make rfl rfl (by omega) (by omega) hA ?_; clear hA; (try clear w); intro v w hA hone hnil; refine rn ?_) | refine wc_pp rfl (fun h => ?_) (fun h => ?_) | refine wc_nn rfl (fun h => ?_) (fun h => ?_) | refine rl_pp rfl (fun h => o_n ?_) (fun h => rn ?_) | refine rl_qq rfl (fun h => o_n ?_) (fun h => rn ?_) | refine rl_nn rfl (fun h => o_n ?_) (fun h => rn ?_) | refine rl_mm rfl (fun h => o_n ?_) (fun h => rn ?_))
  refine wc_region ?_
  refine' rl_v hA ?o6_0 ?k6_0
  case o6_0 => intro w hA; first | (refine ow_move_v rfl ?_; exact ⟨pe, hA⟩)
  case' k6_0 => clear hA; intro w hA; refine rn ?_
  refine' rl_v hA ?o6_1 ?k6_1
  case o6_1 => intro w hA; first | (refine ow_neq rfl rfl ?_; exact ⟨pe, hA⟩) | (refine ow_neqs rfl rfl ?_; exact ⟨pe, hA⟩) | (refine t_neqb rfl rfl ?_; exact ⟨pe, hA⟩)
  case' k6_1 => clear hA; intro w hA; refine rn ?_
  refine' rl_v hA ?o6_2 ?k6_2
  case o6_2 => intro w hA; first | (refine ow_move_v rfl ?_; exact ⟨pe, hA⟩)
  case' k6_2 => clear hA; intro w hA; refine rn ?_
  first | refine' rl_F rfl hA ?o6_3 ?k6_3 | refine' rl_Fn rfl hA ?o6_3 ?k6_3
  case o6_3 => intro hg w hA; first | (refine ow_move_v opr ?_; exact ⟨pe, hA⟩)
  case' k6_3 => clear hA; intro w hA; refine rn ?_
  first | refine' rl_F rfl hA ?o6_4 ?k6_4 | refine' rl_Fn rfl hA ?o6_4 ?k6_4
  case o6_4 => intro hg w hA; first | (refine ow_neq opr opr ?_; exact ⟨pe, hA⟩) | (refine ow_neqs opr opr ?_; exact ⟨pe, hA⟩) | (refine t_neqb opr opr ?_; exact ⟨pe, hA⟩)
  case' k6_4 => clear hA; intro w hA; refine rn ?_
  refine' rl_v hA ?o6_5 ?k6_5
  case o6_5 => intro w hA; first | (refine ow_or rfl rfl (by first | rfl) ?_; exact ⟨pe, hA⟩) | (refine ow_pick rfl rfl rfl ?_; exact ⟨pe, hA⟩)
  case' k6_5 => clear hA; intro w hA; refine rn ?_
  refine' rl_v hA ?o6_6 ?k6_6
  case o6_6 => intro w hA; first | (refine ow_move_v rfl ?_; exact ⟨pe, hA⟩)
  case' k6_6 => clear hA; intro w hA; refine rn ?_
  first | refine' rl_F rfl hA ?o6_7 ?k6_7 | refine' rl_Fn rfl hA ?o6_7 ?k6_7
  case o6_7 => intro hg w hA; first | (refine t_fieldAddr opr ?_; exact ⟨pe, hA⟩)
  case' k6_7 => clear hA; intro w hA; refine rn ?_
  first | refine' rl_F rfl hA ?o6_8 ?k6_8 | refine' rl_Fn rfl hA ?o6_8 ?k6_8
  case o6_8 => intro hg w hA; first | (refine t_loadx opr hA ?_; exact ⟨pe, hA⟩) | (refine t_loada opr hA ?_; exact ⟨pe, hA⟩)
  case' k6_8 => clear hA; intro w hA; refine rn ?_
  first | refine' rl_F rfl hA ?o6_9 ?k6_9 | refine' rl_Fn rfl hA ?o6_9 ?k6_9
  case o6_9 => intro hg w hA; first | (refine ow_neq opr opr ?_; exact ⟨pe, hA⟩) | (refine ow_neqs opr opr ?_; exact ⟨pe, hA⟩) | (refine t_neqb opr opr ?_; exact ⟨pe, hA⟩)
  case' k6_9 => clear hA; intro w hA; refine rn ?_
  refine' rl_v hA ?o6_10 ?k6_10
  case o6_10 => intro w hA; first | (refine ow_or rfl rfl (by first | rfl) ?_; exact ⟨pe, hA⟩) | (refine ow_pick rfl rfl rfl ?_; exact ⟨pe, hA⟩)
  case' k6_10 => clear hA; intro w hA; refine rn ?_
  refine' rl_v hA ?o6_11 ?k6_11
  case o6_11 => intro w hA; first | (refine ow_move_v rfl ?_; exact ⟨pe, hA⟩)
  case' k6_11 => clear hA; intro w hA; refine rn ?_
  first | refine' rl_F rfl hA ?o6_12 ?k6_12 | refine' rl_Fn rfl hA ?o6_12 ?k6_12
  case o6_12 => intro hg w hA; first | (refine t_fieldAddr opr ?_; exact ⟨pe, hA⟩)
  case' k6_12 => clear hA; intro w hA; refine rn ?_
  first | refine' rl_F rfl hA ?o6_13 ?k6_13 | refine' rl_Fn rfl hA ?o6_13 ?k6_13
  case o6_13 => intro hg w hA; first | (refine t_loadx opr hA ?_; exact ⟨pe, hA⟩) | (refine t_loada opr hA ?_; exact ⟨pe, hA⟩)
  case' k6_13 => clear hA; intro w hA; refine rn ?_
  first | refine' rl_F rfl hA ?o6_14 ?k6_14 | refine' rl_Fn rfl hA ?o6_14 ?k6_14
  case o6_14 => intro hg w hA; first | (refine ow_neq opr opr ?_; exact ⟨pe, hA⟩) | (refine ow_neqs opr opr ?_; exact ⟨pe, hA⟩) | (refine t_neqb opr opr ?_; exact ⟨pe, hA⟩)
  case' k6_14 => clear hA; intro w hA; refine rn ?_
  refine' rl_v hA ?o6_15 ?k6_15
  case o6_15 => intro w hA; first | (refine ow_or rfl rfl (by first | rfl) ?_; exact ⟨pe, hA⟩) | (refine ow_pick rfl rfl rfl ?_; exact ⟨pe, hA⟩)
  case' k6_15 => clear hA; intro w hA; refine rn ?_
  refine' rl_v hA ?o6_16 ?k6_16
  case o6_16 => intro w hA; first | (refine ow_move_v rfl ?_; exact ⟨pe, hA⟩)
  case' k6_16 => clear hA; intro w hA; refine rn ?_
  first | refine' rl_F rfl hA ?o6_17 ?k6_17 | refine' rl_Fn rfl hA ?o6_17 ?k6_17
  case o6_17 => intro hg w hA; first | (refine t_fieldAddr opr ?_; exact ⟨pe, hA⟩)
  case' k6_17 => clear hA; intro w hA; refine rn ?_
  first | refine' rl_F rfl hA ?o6_18 ?k6_18 | refine' rl_Fn rfl hA ?o6_18 ?k6_18
  case o6_18 => intro hg w hA; first | (refine t_loadx opr hA ?_; exact ⟨pe, hA⟩) | (refine t_loada opr hA ?_; exact ⟨pe, hA⟩)
  case' k6_18 => clear hA; intro w hA; refine rn ?_
  first | refine' rl_F rfl hA ?o6_19 ?k6_19 | refine' rl_Fn rfl hA ?o6_19 ?k6_19
  case o6_19 => intro hg w hA; first | (refine t_lenS opr hsu ?_; exact ⟨pe, hA⟩) | (refine t_len_str opr ?_; exact ⟨pe, hA⟩) | (refine t_len_slice opr ?_; exact ⟨pe, hA⟩) | (refine t_lenS opr (by assumption) ?_; exact ⟨pe, hA⟩)
  case' k6_19 => clear hA; intro w hA; refine rn ?_
  first | refine' rl_F rfl hA ?o6_20 ?k6_20 | refine' rl_Fn rfl hA ?o6_20 ?k6_20
  case o6_20 => intro hg w hA; first | (refine ow_neq opr opr ?_; exact ⟨pe, hA⟩) | (refine ow_neqs opr opr ?_; exact ⟨pe, hA⟩) | (refine t_neqb opr opr ?_; exact ⟨pe, hA⟩)
  case' k6_20 => clear hA; intro w hA; refine rn ?_
  refine' rl_v hA ?o6_21 ?k6_21
  case o6_21 => intro w hA; first | (refine ow_or rfl rfl (by first | rfl) ?_; exact ⟨pe, hA⟩) | (refine ow_pick rfl rfl rfl ?_; exact ⟨pe, hA⟩)
  case' k6_21 => clear hA; intro w hA; refine rn ?_
  refine' rl_v hA ?o6_22 ?k6_22
  case o6_22 => intro w hA; first | (refine ow_move_v rfl ?_; exact ⟨pe, hA⟩)
  case' k6_22 => clear hA; intro w hA; refine rn ?_
  first | refine' rl_F rfl hA ?o6_23 ?k6_23 | refine' rl_Fn rfl hA ?o6_23 ?k6_23
  case o6_23 => intro hg w hA; first | (refine t_fieldAddr opr ?_; exact ⟨pe, hA⟩)
  case' k6_23 => clear hA; intro w hA; refine rn ?_
  first | refine' rl_F rfl hA ?o6_24 ?k6_24 | refine' rl_Fn rfl hA ?o6_24 ?k6_24
  case o6_24 => intro hg w hA; first | (refine t_loadx opr hA ?_; exact ⟨pe, hA⟩) | (refine t_loada opr hA ?_; exact ⟨pe, hA⟩)
  case' k6_24 => clear hA; intro w hA; refine rn ?_
  first | refine' rl_F rfl hA ?o6_25 ?k6_25 | refine' rl_Fn rfl hA ?o6_25 ?k6_25
  case o6_25 => intro hg w hA; first | (refine t_indexAddrS opr hsu opr (by omega) ?_; exact ⟨pe, hA⟩) | (refine t_indexAddr opr opr (by omega) ?_; exact ⟨pe, hA⟩) | (refine t_indexAddrS opr opr (by omega) ?_; exact ⟨pe, hA⟩)
  case' k6_25 => clear hA; intro w hA; refine rn ?_
  first | refine' rl_F rfl hA ?o6_26 ?k6_26 | refine' rl_Fn rfl hA ?o6_26 ?k6_26
  case o6_26 => intro hg w hA; first | (refine t_load_env rfl opr hA p0 ?_; exact ⟨pe, hA⟩) | (refine t_loadx opr hA ?_; exact ⟨pe, hA⟩) | (refine t_loada opr hA ?_; exact ⟨pe, hA⟩)
  case' k6_26 => clear hA; intro w hA; refine rn ?_
  first | refine' rl_F rfl hA ?o6_27 ?k6_27 | refine' rl_Fn rfl hA ?o6_27 ?k6_27
  case o6_27 => intro hg w hA; first | (refine t_lenS opr hsq ?_; exact ⟨pe, hA⟩) | (refine t_len_str opr ?_; exact ⟨pe, hA⟩) | (refine t_len_slice opr ?_; exact ⟨pe, hA⟩) | (refine t_lenS opr (by assumption) ?_; exact ⟨pe, hA⟩)
  case' k6_27 => clear hA; intro w hA; refine rn ?_
  first | refine' rl_F rfl hA ?o6_28 ?k6_28 | refine' rl_Fn rfl hA ?o6_28 ?k6_28
  case o6_28 => intro hg w hA; first | (refine ow_neq opr opr ?_; exact ⟨pe, hA⟩) | (refine ow_neqs opr opr ?_; exact ⟨pe, hA⟩) | (refine t_neqb opr opr ?_; exact ⟨pe, hA⟩)
  case' k6_28 => clear hA; intro w hA; refine rn ?_
  refine' rl_v hA ?o6_29 ?k6_29
  case o6_29 => intro w hA; first | (refine ow_or rfl rfl (by first | rfl) ?_; exact ⟨pe, hA⟩) | (refine ow_pick rfl rfl rfl ?_; exact ⟨pe, hA⟩)
  case' k6_29 => clear hA; intro w hA; refine rn ?_
  refine rl_nil ?_
  refine tq_normal ?_
  refine wc_bb rfl (fun h => ?_) (fun h => ?_)
  · exfalso
    simp [smM] at h
  clear h
  repeat' (first | refine st ?_ | (refine wc_regionS 9 rfl ?_; refine wc_region ?_) | (refine su ?_; refine rn ?_) | (refine g_conv ?_; refine p_c hA ?_; refine rn ?_) | (refine g_load ?_; (first | refine t_loadx rfl hA ?_ | refine t_loada rfl hA ?_); refine rn ?_) | (refine g_call ?_; refine t_appx rfl rfl hA rfl ?_; clear hA; (try clear w); intro v w hA hone hnil; refine h_n hA ?_; clear hA; intro hA; refine rn ?_) | (refine g_store ?_; (first | refine t_storex rfl rfl hA ?_ | refine t_storea rfl rfl hA ?_); clear hA; (try clear w); intro w hA; refine h_m hA ?_; clear hA; intro hA; refine rn ?_) | (refine g_ow ?_; (first | refine t_alloc hA ?_ | refine ow_box rfl rfl hA ?_ | refine t_buildSlice rfl (by decide) rfl hA ?_); clear hA; (try clear w); intro b w hA; refine h_n hA ?_; clear hA; intro hA; refine rn ?_) | (refine g_ow ?_; refine t_make rfl rfl (by omega) (by omega) hA ?_; clear hA; (try clear w); intro v w hA hone hnil; refine rn ?_) | refine wc_pp rfl (fun h => ?_) (fun h => ?_) | refine wc_nn rfl (fun h => ?_) (fun h => ?_) | refine rl_pp rfl (fun h => o_n ?_) (fun h => rn ?_) | refine rl_qq rfl (fun h => o_n ?_) (fun h => rn ?_) | refine rl_nn rfl (fun h => o_n ?_) (fun h => rn ?_) | refine rl_mm rfl (fun h => o_n ?_) (fun h => rn ?_))
  refine wc_loopn (fun q l w => ∃ (i : Nat), (∃ jk : Nat → Value, l = [jk 0, jk 1, jk 2, jk 3, jk 4, vi n, vi k, .pointer (some ⟨b7, 0, none⟩), jk 8, jk 9, vi (smW n), .int .i64 (i : Int), jk 12, jk 13, jk 14, jk 15, jk 16, jk 17, jk 18, jk 19, jk 20, jk 21, jk 22, jk 23, jk 24, jk 25, jk 26, jk 27, jk 28, jk 29, jk 30, jk 31, jk 32, jk 33, jk 34, jk 35, jk 36, jk 37, jk 38, jk 39, jk 40, jk 41, jk 42, jk 43, jk 44, jk 45, jk 46, jk 47, jk 48, jk 49, jk 50, jk 51, jk 52, jk 53, jk 54, jk 55, jk 56, jk 57, jk 58, jk 59, jk 60, jk 61, jk 62, jk 63, jk 64, jk 65, jk 66, jk 67, jk 68, jk 69, jk 70, jk 71, jk 72, jk 73, jk 74, jk 75, jk 76, jk 77, jk 78, jk 79, jk 80, jk 81, jk 82, jk 83, jk 84, jk 85, jk 86, jk 87, jk 88, jk 89, jk 90, jk 91, jk 92, jk 93, jk 94, jk 95, jk 96, jk 97, jk 98, jk 99, jk 100, jk 101]) ∧ i + q = 16 ∧ Sat E1 (cells b7 (mbC (smM k n) r vv u) 28 :: L) w) 16 ⟨0, (ex_getD rfl), by omega, hA⟩ ?_
  clear hA
  rintro q l w ⟨i, ⟨jk, rfl⟩, hi, hA⟩
  by_cases hlt : i < 16
  · obtain ⟨cs2, _, ⟨rfl, _⟩, hg2⟩ := hq.get (smB_at k n i hlt)
    have pi : E1.cell? ⟨sB qv, sO qv + (i : Int).toNat * 1, none⟩ = some (vi (if i = k then smW n else 0)) := by rw [Int.toNat_natCast]; exact hg2 0 _ rfl
    repeat' (first | refine st ?_ | (refine wc_regionS 11 rfl ?_; refine wc_region ?_) | (refine su ?_; refine rn ?_) | (refine g_conv ?_; refine p_c hA ?_; refine rn ?_) | (refine g_load ?_; (first | refine t_loadx rfl hA ?_ | refine t_loada rfl hA ?_); refine rn ?_) | (refine g_call ?_; refine t_appx rfl rfl hA rfl ?_; clear hA; (try clear w); intro v w hA hone hnil; refine h_n hA ?_; clear hA; intro hA; refine rn ?_) | (refine g_store ?_; (first | refine t_storex rfl rfl hA ?_ | refine t_storea rfl rfl hA ?_); clear hA; (try clear w); intro w hA; refine h_m hA ?_; clear hA; intro hA; refine rn ?_) | (refine g_ow ?_; (first | refine t_alloc hA ?_ | refine ow_box rfl rfl hA ?_ | refine t_buildSlice rfl (by decide) rfl hA ?_); clear hA; (try clear w); intro b w hA; refine h_n hA ?_; clear hA; intro hA; refine rn ?_) | (refine g_ow ?_; refine t_make rfl rfl (by omega) (by omega) hA ?_; clear hA; (try clear w); intro v w hA hone hnil; refine rn ?_) | refine wc_pp rfl (fun h => ?_) (fun h => ?_) | refine wc_nn rfl (fun h => ?_) (fun h => ?_) | refine rl_pp rfl (fun h => o_n ?_) (fun h => rn ?_) | refine rl_qq rfl (fun h => o_n ?_) (fun h => rn ?_) | refine rl_nn rfl (fun h => o_n ?_) (fun h => rn ?_) | refine rl_mm rfl (fun h => o_n ?_) (fun h => rn ?_))
    refine wc_region ?_
    refine' rl_v hA ?o11_0 ?k11_0
    case o11_0 => intro w hA; first | (refine ow_move_v rfl ?_; exact ⟨pe, hA⟩)
    case' k11_0 => clear hA; intro w hA; refine rn ?_
    refine' rl_v hA ?o11_1 ?k11_1
    case o11_1 => intro w hA; first | (refine ow_move_v rfl ?_; exact ⟨pe, hA⟩)
    case' k11_1 => clear hA; intro w hA; refine rn ?_
    refine' rl_v hA ?o11_2 ?k11_2
    case o11_2 => intro w hA; first | (refine ow_eql rfl rfl ?_; exact ⟨pe, hA⟩) | (refine ow_eqs rfl rfl ?_; exact ⟨pe, hA⟩) | (refine t_eqlb rfl rfl ?_; exact ⟨pe, hA⟩)
    case' k11_2 => clear hA; intro w hA; refine rn ?_
    refine' rl_v hA ?o11_3 ?k11_3
    case o11_3 => intro w hA; first | (refine ow_move_v rfl ?_; exact ⟨pe, hA⟩)
    case' k11_3 => clear hA; intro w hA; refine rn ?_
    first | refine' rl_T rfl hA ?o11_4 ?k11_4 | refine' rl_Tn rfl hA ?o11_4 ?k11_4
    case o11_4 => intro hg w hA; first | (refine t_fieldAddr opr ?_; exact ⟨pe, hA⟩)
    case' k11_4 => clear hA; intro w hA; refine rn ?_
    first | refine' rl_T rfl hA ?o11_5 ?k11_5 | refine' rl_Tn rfl hA ?o11_5 ?k11_5
    case o11_5 => intro hg w hA; first | (refine t_loadx opr hA ?_; exact ⟨pe, hA⟩) | (refine t_loada opr hA ?_; exact ⟨pe, hA⟩)
    case' k11_5 => clear hA; intro w hA; refine rn ?_
    first | refine' rl_T rfl hA ?o11_6 ?k11_6 | refine' rl_Tn rfl hA ?o11_6 ?k11_6
    case o11_6 => intro hg w hA; first | (refine t_indexAddrS opr hsu opr (by omega) ?_; exact ⟨pe, hA⟩) | (refine t_indexAddr opr opr (by omega) ?_; exact ⟨pe, hA⟩) | (refine t_indexAddrS opr opr (by omega) ?_; exact ⟨pe, hA⟩)
    case' k11_6 => clear hA; intro w hA; refine rn ?_
    first | refine' rl_T rfl hA ?o11_7 ?k11_7 | refine' rl_Tn rfl hA ?o11_7 ?k11_7
    case o11_7 => intro hg w hA; first | (refine t_load_env rfl opr hA p0 ?_; exact ⟨pe, hA⟩) | (refine t_loadx opr hA ?_; exact ⟨pe, hA⟩) | (refine t_loada opr hA ?_; exact ⟨pe, hA⟩)
    case' k11_7 => clear hA; intro w hA; refine rn ?_
    first | refine' rl_T rfl hA ?o11_8 ?k11_8 | refine' rl_Tn rfl hA ?o11_8 ?k11_8
    case o11_8 => intro hg w hA; first | (refine ow_move_v opr ?_; exact ⟨pe, hA⟩)
    case' k11_8 => clear hA; intro w hA; refine rn ?_
    first | refine' rl_T rfl hA ?o11_9 ?k11_9 | refine' rl_Tn rfl hA ?o11_9 ?k11_9
    case o11_9 => intro hg w hA; first | (refine t_indexAddrS opr hsq opr (by omega) ?_; exact ⟨pe, hA⟩) | (refine t_indexAddr opr opr (by omega) ?_; exact ⟨pe, hA⟩) | (refine t_indexAddrS opr opr (by omega) ?_; exact ⟨pe, hA⟩)
    case' k11_9 => clear hA; intro w hA; refine rn ?_
    first | refine' rl_T rfl hA ?o11_10 ?k11_10 | refine' rl_Tn rfl hA ?o11_10 ?k11_10
    case o11_10 => intro hg w hA; first | (refine t_load_env rfl opr hA pi ?_; exact ⟨pe, hA⟩) | (refine t_loadx opr hA ?_; exact ⟨pe, hA⟩) | (refine t_loada opr hA ?_; exact ⟨pe, hA⟩)
    case' k11_10 => clear hA; intro w hA; refine rn ?_
    first | refine' rl_T rfl hA ?o11_11 ?k11_11 | refine' rl_Tn rfl hA ?o11_11 ?k11_11
    case o11_11 => intro hg w hA; first | (refine ow_move_v opr ?_; exact ⟨pe, hA⟩)
    case' k11_11 => clear hA; intro w hA; refine rn ?_
    first | refine' rl_T rfl hA ?o11_12 ?k11_12 | refine' rl_Tn rfl hA ?o11_12 ?k11_12
    case o11_12 => intro hg w hA; first | (refine ow_neq opr opr ?_; exact ⟨pe, hA⟩) | (refine ow_neqs opr opr ?_; exact ⟨pe, hA⟩) | (refine t_neqb opr opr ?_; exact ⟨pe, hA⟩)
    case' k11_12 => clear hA; intro w hA; refine rn ?_
    refine' rl_v hA ?o11_13 ?k11_13
    case o11_13 => intro w hA; first | (refine ow_and rfl (by first | rfl) rfl ?_; exact ⟨pe, hA⟩) | (refine ow_pick rfl rfl rfl ?_; exact ⟨pe, hA⟩)
    case' k11_13 => clear hA; intro w hA; refine rn ?_
    refine' rl_v hA ?o11_14 ?k11_14
    case o11_14 => intro w hA; first | (refine ow_move_v rfl ?_; exact ⟨pe, hA⟩)
    case' k11_14 => clear hA; intro w hA; refine rn ?_
    first | refine' rl_F rfl hA ?o11_15 ?k11_15 | refine' rl_Fn rfl hA ?o11_15 ?k11_15
    case o11_15 => intro hg w hA; first | (refine ow_move_v opr ?_; exact ⟨pe, hA⟩)
    case' k11_15 => clear hA; intro w hA; refine rn ?_
    first | refine' rl_F rfl hA ?o11_16 ?k11_16 | refine' rl_Fn rfl hA ?o11_16 ?k11_16
    case o11_16 => intro hg w hA; first | (refine ow_move_v opr ?_; exact ⟨pe, hA⟩)
    case' k11_16 => clear hA; intro w hA; refine rn ?_
    first | refine' rl_F rfl hA ?o11_17 ?k11_17 | refine' rl_Fn rfl hA ?o11_17 ?k11_17
    case o11_17 => intro hg w hA; first | (refine ow_neq opr opr ?_; exact ⟨pe, hA⟩) | (refine ow_neqs opr opr ?_; exact ⟨pe, hA⟩) | (refine t_neqb opr opr ?_; exact ⟨pe, hA⟩)
    case' k11_17 => clear hA; intro w hA; refine rn ?_
    first | refine' rl_F rfl hA ?o11_18 ?k11_18 | refine' rl_Fn rfl hA ?o11_18 ?k11_18
    case o11_18 => intro hg w hA; first | (refine ow_move_v opr ?_; exact ⟨pe, hA⟩)
    case' k11_18 => clear hA; intro w hA; refine rn ?_
    first | refine' rl_T rfl hA ?o11_19 ?k11_19 | refine' rl_Tn rfl hA ?o11_19 ?k11_19
    case o11_19 => intro hg w hA; first | (refine t_fieldAddr opr ?_; exact ⟨pe, hA⟩)
    case' k11_19 => clear hA; intro w hA; refine rn ?_
    first | refine' rl_T rfl hA ?o11_20 ?k11_20 | refine' rl_Tn rfl hA ?o11_20 ?k11_20
    case o11_20 => intro hg w hA; first | (refine t_loadx opr hA ?_; exact ⟨pe, hA⟩) | (refine t_loada opr hA ?_; exact ⟨pe, hA⟩)
    case' k11_20 => clear hA; intro w hA; refine rn ?_
    first | refine' rl_T rfl hA ?o11_21 ?k11_21 | refine' rl_Tn rfl hA ?o11_21 ?k11_21
    case o11_21 => intro hg w hA; first | (refine t_indexAddrS opr hsu opr (by omega) ?_; exact ⟨pe, hA⟩) | (refine t_indexAddr opr opr (by omega) ?_; exact ⟨pe, hA⟩) | (refine t_indexAddrS opr opr (by omega) ?_; exact ⟨pe, hA⟩)
    case' k11_21 => clear hA; intro w hA; refine rn ?_
    first | refine' rl_T rfl hA ?o11_22 ?k11_22 | refine' rl_Tn rfl hA ?o11_22 ?k11_22
    case o11_22 => intro hg w hA; first | (refine t_load_env rfl opr hA p0 ?_; exact ⟨pe, hA⟩) | (refine t_loadx opr hA ?_; exact ⟨pe, hA⟩) | (refine t_loada opr hA ?_; exact ⟨pe, hA⟩)
    case' k11_22 => clear hA; intro w hA; refine rn ?_
    first | refine' rl_T rfl hA ?o11_23 ?k11_23 | refine' rl_Tn rfl hA ?o11_23 ?k11_23
    case o11_23 => intro hg w hA; first | (refine ow_move_v opr ?_; exact ⟨pe, hA⟩)
    case' k11_23 => clear hA; intro w hA; refine rn ?_
    first | refine' rl_T rfl hA ?o11_24 ?k11_24 | refine' rl_Tn rfl hA ?o11_24 ?k11_24
    case o11_24 => intro hg w hA; first | (refine t_indexAddrS opr hsq opr (by omega) ?_; exact ⟨pe, hA⟩) | (refine t_indexAddr opr opr (by omega) ?_; exact ⟨pe, hA⟩) | (refine t_indexAddrS opr opr (by omega) ?_; exact ⟨pe, hA⟩)
    case' k11_24 => clear hA; intro w hA; refine rn ?_
    first | refine' rl_T rfl hA ?o11_25 ?k11_25 | refine' rl_Tn rfl hA ?o11_25 ?k11_25
    case o11_25 => intro hg w hA; first | (refine t_load_env rfl opr hA pi ?_; exact ⟨pe, hA⟩) | (refine t_loadx opr hA ?_; exact ⟨pe, hA⟩) | (refine t_loada opr hA ?_; exact ⟨pe, hA⟩)
    case' k11_25 => clear hA; intro w hA; refine rn ?_
    first | refine' rl_T rfl hA ?o11_26 ?k11_26 | refine' rl_Tn rfl hA ?o11_26 ?k11_26
    case o11_26 => intro hg w hA; first | (refine ow_neq opr opr ?_; exact ⟨pe, hA⟩) | (refine ow_neqs opr opr ?_; exact ⟨pe, hA⟩) | (refine t_neqb opr opr ?_; exact ⟨pe, hA⟩)
    case' k11_26 => clear hA; intro w hA; refine rn ?_
    first | refine' rl_F rfl hA ?o11_27 ?k11_27 | refine' rl_Fn rfl hA ?o11_27 ?k11_27
    case o11_27 => intro hg w hA; first | (refine ow_and opr (by first | rfl | exact sel_in rfl hg) rfl ?_; exact ⟨pe, hA⟩) | (refine ow_pick opr opr opr ?_; exact ⟨pe, hA⟩)
    case' k11_27 => clear hA; intro w hA; refine rn ?_
    refine' rl_v hA ?o11_28 ?k11_28
    case o11_28 => intro w hA; first | (refine ow_or rfl rfl (by first | rfl) ?_; exact ⟨pe, hA⟩) | (refine ow_pick rfl rfl rfl ?_; exact ⟨pe, hA⟩)
    case' k11_28 => clear hA; intro w hA; refine rn ?_
    refine rl_nil ?_
    refine tq_normal ?_
    refine wc_bb rfl (fun h => ?_) (fun h => ?_)
    · exfalso
      by_cases hik : i = k
      · subst hik; simp at h
      · have : ¬ (i : Int) = (k : Int) := by omega
        simp [hik, this] at h
    repeat' (first | refine st ?_ | (refine wc_region ?_) | (refine su ?_; refine rn ?_) | (refine g_conv ?_; refine p_c hA ?_; refine rn ?_) | (refine g_load ?_; (first | refine t_loadx rfl hA ?_ | refine t_loada rfl hA ?_); refine rn ?_) | (refine g_call ?_; refine t_appx rfl rfl hA rfl ?_; clear hA; (try clear w); intro v w hA hone hnil; refine h_n hA ?_; clear hA; intro hA; refine rn ?_) | (refine g_store ?_; (first | refine t_storex rfl rfl hA ?_ | refine t_storea rfl rfl hA ?_); clear hA; (try clear w); intro w hA; refine h_m hA ?_; clear hA; intro hA; refine rn ?_) | (refine g_ow ?_; (first | refine t_alloc hA ?_ | refine ow_box rfl rfl hA ?_ | refine t_buildSlice rfl (by decide) rfl hA ?_); clear hA; (try clear w); intro b w hA; refine h_n hA ?_; clear hA; intro hA; refine rn ?_) | (refine g_ow ?_; refine t_make rfl rfl (by omega) (by omega) hA ?_; clear hA; (try clear w); intro v w hA hone hnil; refine rn ?_) | refine wc_pp rfl (fun h => ?_) (fun h => ?_) | refine wc_nn rfl (fun h => ?_) (fun h => ?_) | refine rl_pp rfl (fun h => o_n ?_) (fun h => rn ?_) | refine rl_qq rfl (fun h => o_n ?_) (fun h => rn ?_) | refine rl_nn rfl (fun h => o_n ?_) (fun h => rn ?_) | refine rl_mm rfl (fun h => o_n ?_) (fun h => rn ?_))
    exact lq_next (q - 1) (by omega) ⟨i + 1, (ex_getD rfl), by omega, hA⟩
  · repeat' (first | (refine g_callf 35 ?_; refine ow_call Tryd.call35 rfl ((known_calls _ _ _ hA hGE).mono ?_); clear hA; (try clear w); rintro e w ⟨rfl, hA⟩; refine ⟨_, rfl, ?_⟩; refine rn ?_) | refine st ?_ | (refine wc_region ?_) | (refine su ?_; refine rn ?_) | (refine g_conv ?_; refine p_c hA ?_; refine rn ?_) | (refine g_load ?_; (first | refine t_loadx rfl hA ?_ | refine t_loada rfl hA ?_); refine rn ?_) | (refine g_call ?_; refine t_appx rfl rfl hA rfl ?_; clear hA; (try clear w); intro v w hA hone hnil; refine h_n hA ?_; clear hA; intro hA; refine rn ?_) | (refine g_store ?_; (first | refine t_storex rfl rfl hA ?_ | refine t_storea rfl rfl hA ?_); clear hA; (try clear w); intro w hA; refine h_m hA ?_; clear hA; intro hA; refine rn ?_) | (refine g_ow ?_; (first | refine t_alloc hA ?_ | refine ow_box rfl rfl hA ?_ | refine t_buildSlice rfl (by decide) rfl hA ?_); clear hA; (try clear w); intro b w hA; refine h_n hA ?_; clear hA; intro hA; refine rn ?_) | (refine g_ow ?_; refine t_make rfl rfl (by omega) (by omega) hA ?_; clear hA; (try clear w); intro v w hA hone hnil; refine rn ?_) | refine wc_pp rfl (fun h => ?_) (fun h => ?_) | refine wc_nn rfl (fun h => ?_) (fun h => ?_) | refine rl_pp rfl (fun h => o_n ?_) (fun h => rn ?_) | refine rl_qq rfl (fun h => o_n ?_) (fun h => rn ?_) | refine rl_nn rfl (fun h => o_n ?_) (fun h => rn ?_) | refine rl_mm rfl (fun h => o_n ?_) (fun h => rn ?_))
    exact ret1 ((hA.le hE1).dropN 1) rfl rfl
end Go.Proofs.YtomfoaaaeidpnaaDoor
