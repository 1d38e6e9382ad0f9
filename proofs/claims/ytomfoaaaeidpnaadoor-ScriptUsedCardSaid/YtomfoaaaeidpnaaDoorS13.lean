/-
  spindlelaw40.ScriptUsed, walked.
-/
import Derived.Test.YtomfoaaaeidpnaaDoorS10
set_option linter.unusedVariables false
set_option linter.unusedSimpArgs false
namespace Go.Proofs.YtomfoaaaeidpnaaDoor
open Go Go.RowKit
attribute [local irreducible] WC RL OW bodyPostM ThenQ BlockQ LoopQ ScopeQ
theorem used_cut (intra : Bool) (refs : Nat) (s r : List UInt8) (h : (mbP intra refs (strm s) 0).2 < s.length) : mbP intra refs (strm (s.take (mbP intra refs (strm s) 0).2 ++ r)) 0 = mbP intra refs (strm s) 0 := by
  have hl := (loc_mb intra refs (strm s) 0).2
  generalize mbP intra refs (strm s) 0 = R at *
  refine hl _ fun i _ hi => ?_
  show ((s.take R.2 ++ r)[i]?).getD 0 = (s[i]?).getD 0
  rw [List.getElem?_append_left (by rw [List.length_take]; omega), List.getElem?_take, if_pos hi]
theorem used_zeros (s : List UInt8) (n : Nat) : strm (s ++ List.replicate n 0) = strm s := by
  funext i
  unfold strm
  by_cases h : i < s.length
  · rw [List.getElem?_append_left h]
  · rw [List.getElem?_append_right (by omega), List.getElem?_eq_none (l := s) (by omega), List.getElem?_replicate]
    split <;> rfl
def scrV (m : Mb) (k : Int) : Env → Value → Prop := fun E v => ∃ r q b, v = .tuple ⟨[.agg ⟨mbC m r q b⟩, vi k, vi 0]⟩ ∧ MbL E m r q b
instance {m k} : PMono (scrV m k) := ⟨fun hE ⟨r, q, b, h1, h2⟩ => ⟨r, q, b, h1, h2.mono hE⟩⟩
def mbW (m : Mb) : Env → Value → Prop := fun E v => ∃ r q b, v = .agg ⟨mbC m r q b⟩ ∧ MbL E m r q b
instance {m} : PMono (mbW m) := ⟨fun hE ⟨r, q, b, h1, h2⟩ => ⟨r, q, b, h1, h2.mono hE⟩⟩
def aggS : Value → List Value
  | .agg cs => cs.toList
  | _ => []
set_option maxRecDepth 16000 in
set_option maxHeartbeats 16000000 in
theorem scriptUsed_calls (s t : List UInt8) (intra : Bool) (rf : UInt8) (E : Env) (L : List Item) (w : World) (hA : Sat E L w) (hG : SzG E) :
    Calls Tryd.prog 9 ⟨[vs s, vs t, .bool intra, u8 rf]⟩ w (Ret E L (.bool true)) := by
  have hrf := rf.toNat_lt
  refine enter (fn := Tryd.f9) Tryd.func9 rfl 127 rfl [vs s, vs t, .bool intra, u8 rf, undef, undef, undef, undef, undef, undef, undef, undef, undef, undef, undef, undef, undef, undef, undef, undef, undef, undef, undef, undef, undef, undef, undef, undef, undef, undef, undef, undef, undef, undef, undef, undef, undef, undef, undef, undef, undef, undef, undef, undef, undef, undef, undef, undef, undef, undef, undef, undef, undef, undef, undef, undef, undef, undef, undef, undef, undef, undef, undef, undef, undef, undef, undef, undef, undef, undef, undef, undef, undef, undef, undef, undef, undef, undef, undef, undef, undef, undef, undef, undef, undef, undef, undef, undef, undef, undef, undef, undef, undef, undef, undef, undef, undef, undef, undef, undef, undef, undef, undef, undef, undef, undef, undef, undef, undef, undef, undef, undef, undef, undef, undef, undef, undef, undef, undef, undef, undef, undef, undef, undef, undef, undef, undef] rfl ?_
  repeat' (first | refine st ?_ | (refine wc_regionS 1 rfl ?_; refine wc_region ?_) | (refine su ?_; refine rn ?_) | (refine g_conv ?_; refine p_c hA ?_; refine rn ?_) | (refine g_load ?_; (first | refine t_loadx rfl hA ?_ | refine t_loada rfl hA ?_); refine rn ?_) | (refine g_call ?_; refine t_appx rfl rfl hA rfl ?_; clear hA; (try clear w); intro v w hA hone hnil; refine h_n hA ?_; clear hA; intro hA; refine rn ?_) | (refine g_store ?_; (first | refine t_storex rfl rfl hA ?_ | refine t_storea rfl rfl hA ?_); clear hA; (try clear w); intro w hA; refine h_m hA ?_; clear hA; intro hA; refine rn ?_) | (refine g_ow ?_; (first | refine t_alloc hA ?_ | refine ow_box rfl rfl hA ?_ | refine t_buildSlice rfl (by decide) rfl hA ?_); clear hA; (try clear w); intro b w hA; refine h_n hA ?_; clear hA; intro hA; refine rn ?_) | (refine g_ow ?_; refine t_make rfl rfl (by omega) (by omega) hA ?_; clear hA; (try clear w); intro v w hA hone hnil; refine rn ?_) | refine wc_pp rfl (fun h => ?_) (fun h => ?_) | refine wc_nn rfl (fun h => ?_) (fun h => ?_) | refine rl_pp rfl (fun h => o_n ?_) (fun h => rn ?_) | refine rl_qq rfl (fun h => o_n ?_) (fun h => rn ?_) | refine rl_nn rfl (fun h => o_n ?_) (fun h => rn ?_) | refine rl_mm rfl (fun h => o_n ?_) (fun h => rn ?_))
  refine wc_region ?_
  refine' rl_v hA ?o1_0 ?k1_0
  case o1_0 => intro w hA; first | (refine ow_move_v rfl ?_; exact ⟨pe, hA⟩)
  case' k1_0 => clear hA; intro w hA; refine rn ?_
  refine' rl_v hA ?o1_1 ?k1_1
  case o1_1 => intro w hA; first | (refine t_len_str rfl ?_; exact ⟨pe, hA⟩) | (refine t_len_slice rfl ?_; exact ⟨pe, hA⟩) | (refine t_lenS rfl (by assumption) ?_; exact ⟨pe, hA⟩)
  case' k1_1 => clear hA; intro w hA; refine rn ?_
  refine' rl_v hA ?o1_2 ?k1_2
  case o1_2 => intro w hA; first | (refine ow_gtr rfl rfl ?_; exact ⟨pe, hA⟩)
  case' k1_2 => clear hA; intro w hA; refine rn ?_
  refine' rl_v hA ?o1_3 ?k1_3
  case o1_3 => intro w hA; first | (refine ow_move_v rfl ?_; exact ⟨pe, hA⟩)
  case' k1_3 => clear hA; intro w hA; refine rn ?_
  first | refine' rl_F rfl hA ?o1_4 ?k1_4 | refine' rl_Fn rfl hA ?o1_4 ?k1_4
  case o1_4 => intro hg w hA; first | (refine ow_move_v opr ?_; exact ⟨pe, hA⟩)
  case' k1_4 => clear hA; intro w hA; refine rn ?_
  first | refine' rl_F rfl hA ?o1_5 ?k1_5 | refine' rl_Fn rfl hA ?o1_5 ?k1_5
  case o1_5 => intro hg w hA; first | (refine t_len_str opr ?_; exact ⟨pe, hA⟩) | (refine t_len_slice opr ?_; exact ⟨pe, hA⟩) | (refine t_lenS opr (by assumption) ?_; exact ⟨pe, hA⟩)
  case' k1_5 => clear hA; intro w hA; refine rn ?_
  first | refine' rl_F rfl hA ?o1_6 ?k1_6 | refine' rl_Fn rfl hA ?o1_6 ?k1_6
  case o1_6 => intro hg w hA; first | (refine ow_gtr opr opr ?_; exact ⟨pe, hA⟩)
  case' k1_6 => clear hA; intro w hA; refine rn ?_
  refine' rl_v hA ?o1_7 ?k1_7
  case o1_7 => intro w hA; first | (refine ow_or rfl rfl (by first | rfl) ?_; exact ⟨pe, hA⟩) | (refine ow_pick rfl rfl rfl ?_; exact ⟨pe, hA⟩)
  case' k1_7 => clear hA; intro w hA; refine rn ?_
  refine rl_nil ?_
  refine tq_normal ?_
  refine wc_bb rfl (fun h => ?_) (fun h => ?_)
  · repeat' (first | (refine g_callf 35 ?_; refine ow_call Tryd.call35 rfl ((known_calls _ _ _ hA hG).mono ?_); clear hA; (try clear w); rintro e w ⟨rfl, hA⟩; refine ⟨_, rfl, ?_⟩; refine rn ?_) | refine st ?_ | (refine wc_region ?_) | (refine su ?_; refine rn ?_) | (refine g_conv ?_; refine p_c hA ?_; refine rn ?_) | (refine g_load ?_; (first | refine t_loadx rfl hA ?_ | refine t_loada rfl hA ?_); refine rn ?_) | (refine g_call ?_; refine t_appx rfl rfl hA rfl ?_; clear hA; (try clear w); intro v w hA hone hnil; refine h_n hA ?_; clear hA; intro hA; refine rn ?_) | (refine g_store ?_; (first | refine t_storex rfl rfl hA ?_ | refine t_storea rfl rfl hA ?_); clear hA; (try clear w); intro w hA; refine h_m hA ?_; clear hA; intro hA; refine rn ?_) | (refine g_ow ?_; (first | refine t_alloc hA ?_ | refine ow_box rfl rfl hA ?_ | refine t_buildSlice rfl (by decide) rfl hA ?_); clear hA; (try clear w); intro b w hA; refine h_n hA ?_; clear hA; intro hA; refine rn ?_) | (refine g_ow ?_; refine t_make rfl rfl (by omega) (by omega) hA ?_; clear hA; (try clear w); intro v w hA hone hnil; refine rn ?_) | refine wc_pp rfl (fun h => ?_) (fun h => ?_) | refine wc_nn rfl (fun h => ?_) (fun h => ?_) | refine rl_pp rfl (fun h => o_n ?_) (fun h => rn ?_) | refine rl_qq rfl (fun h => o_n ?_) (fun h => rn ?_) | refine rl_nn rfl (fun h => o_n ?_) (fun h => rn ?_) | refine rl_mm rfl (fun h => o_n ?_) (fun h => rn ?_))
    exact ret1 hA rfl rfl
  have hlen : s.length ≤ 1000 ∧ t.length ≤ 1000 := by
    simp only [Bool.or_eq_false_iff, decide_eq_false_iff_not] at h
    omega
  clear h
  obtain ⟨hs1000, ht1000⟩ := hlen
  repeat' (first | (refine g_ow ?_; refine t_conv64 rfl (by omega) ?_; refine rn ?_) | (refine g_bin ?_; refine ow_remp rfl rfl (by omega) ?_; refine rn ?_) | refine st ?_ | (refine wc_regionS 4 rfl ?_; refine wc_region ?_) | (refine su ?_; refine rn ?_) | (refine g_conv ?_; refine p_c hA ?_; refine rn ?_) | (refine g_load ?_; (first | refine t_loadx rfl hA ?_ | refine t_loada rfl hA ?_); refine rn ?_) | (refine g_call ?_; refine t_appx rfl rfl hA rfl ?_; clear hA; (try clear w); intro v w hA hone hnil; refine h_n hA ?_; clear hA; intro hA; refine rn ?_) | (refine g_store ?_; (first | refine t_storex rfl rfl hA ?_ | refine t_storea rfl rfl hA ?_); clear hA; (try clear w); intro w hA; refine h_m hA ?_; clear hA; intro hA; refine rn ?_) | (refine g_ow ?_; (first | refine t_alloc hA ?_ | refine ow_box rfl rfl hA ?_ | refine t_buildSlice rfl (by decide) rfl hA ?_); clear hA; (try clear w); intro b w hA; refine h_n hA ?_; clear hA; intro hA; refine rn ?_) | (refine g_ow ?_; refine t_make rfl rfl (by omega) (by omega) hA ?_; clear hA; (try clear w); intro v w hA hone hnil; refine rn ?_) | refine wc_pp rfl (fun h => ?_) (fun h => ?_) | refine wc_nn rfl (fun h => ?_) (fun h => ?_) | refine rl_pp rfl (fun h => o_n ?_) (fun h => rn ?_) | refine rl_qq rfl (fun h => o_n ?_) (fun h => rn ?_) | refine rl_nn rfl (fun h => o_n ?_) (fun h => rn ?_) | refine rl_mm rfl (fun h => o_n ?_) (fun h => rn ?_))
  refine wc_region ?_
  refine' rl_v hA ?o4_0 ?k4_0
  case o4_0 => intro w hA; first | (refine ow_move_v rfl ?_; exact ⟨pe, hA⟩)
  case' k4_0 => clear hA; intro w hA; refine rn ?_
  refine rl_nil ?_
  refine tq_normal ?_
  refine wc_mid (fun l w => ∃ (n : Nat), (∃ jk : Nat → Value, l = [vs s, vs t, .bool intra, jk 3, jk 4, jk 5, jk 6, jk 7, .bool false, vi n, jk 10, jk 11, jk 12, jk 13, jk 14, jk 15, jk 16, jk 17, jk 18, jk 19, jk 20, jk 21, jk 22, jk 23, jk 24, jk 25, jk 26, jk 27, jk 28, jk 29, jk 30, jk 31, jk 32, jk 33, jk 34, jk 35, jk 36, jk 37, jk 38, jk 39, jk 40, jk 41, jk 42, jk 43, jk 44, jk 45, jk 46, jk 47, jk 48, jk 49, jk 50, jk 51, jk 52, jk 53, jk 54, jk 55, jk 56, jk 57, jk 58, jk 59, jk 60, jk 61, jk 62, jk 63, jk 64, jk 65, jk 66, jk 67, jk 68, jk 69, jk 70, jk 71, jk 72, jk 73, jk 74, jk 75, jk 76, jk 77, jk 78, jk 79, jk 80, jk 81, jk 82, jk 83, jk 84, jk 85, jk 86, jk 87, jk 88, jk 89, jk 90, jk 91, jk 92, jk 93, jk 94, jk 95, jk 96, jk 97, jk 98, jk 99, jk 100, jk 101, jk 102, jk 103, jk 104, jk 105, jk 106, jk 107, jk 108, jk 109, jk 110, jk 111, jk 112, jk 113, jk 114, jk 115, jk 116, jk 117, jk 118, jk 119, jk 120, jk 121, jk 122, jk 123, jk 124, jk 125, jk 126]) ∧ (intra = true ∧ n = 0 ∨ intra = false ∧ 1 ≤ n ∧ n ≤ 32) ∧ Sat E L w) ?_ ?_
  · cases intra with
    | true =>
      repeat' (first | refine st ?_ | (refine wc_region ?_) | (refine su ?_; refine rn ?_) | (refine g_conv ?_; refine p_c hA ?_; refine rn ?_) | (refine g_load ?_; (first | refine t_loadx rfl hA ?_ | refine t_loada rfl hA ?_); refine rn ?_) | (refine g_call ?_; refine t_appx rfl rfl hA rfl ?_; clear hA; (try clear w); intro v w hA hone hnil; refine h_n hA ?_; clear hA; intro hA; refine rn ?_) | (refine g_store ?_; (first | refine t_storex rfl rfl hA ?_ | refine t_storea rfl rfl hA ?_); clear hA; (try clear w); intro w hA; refine h_m hA ?_; clear hA; intro hA; refine rn ?_) | (refine g_ow ?_; (first | refine t_alloc hA ?_ | refine ow_box rfl rfl hA ?_ | refine t_buildSlice rfl (by decide) rfl hA ?_); clear hA; (try clear w); intro b w hA; refine h_n hA ?_; clear hA; intro hA; refine rn ?_) | (refine g_ow ?_; refine t_make rfl rfl (by omega) (by omega) hA ?_; clear hA; (try clear w); intro v w hA hone hnil; refine rn ?_) | refine wc_pp rfl (fun h => ?_) (fun h => ?_) | refine wc_nn rfl (fun h => ?_) (fun h => ?_) | refine rl_pp rfl (fun h => o_n ?_) (fun h => rn ?_) | refine rl_qq rfl (fun h => o_n ?_) (fun h => rn ?_) | refine rl_nn rfl (fun h => o_n ?_) (fun h => rn ?_) | refine rl_mm rfl (fun h => o_n ?_) (fun h => rn ?_))
      exact mq_normal ⟨0, (ex_getD rfl), .inl ⟨rfl, rfl⟩, hA⟩
    | false =>
      repeat' (first | refine st ?_ | (refine wc_region ?_) | (refine su ?_; refine rn ?_) | (refine g_conv ?_; refine p_c hA ?_; refine rn ?_) | (refine g_load ?_; (first | refine t_loadx rfl hA ?_ | refine t_loada rfl hA ?_); refine rn ?_) | (refine g_call ?_; refine t_appx rfl rfl hA rfl ?_; clear hA; (try clear w); intro v w hA hone hnil; refine h_n hA ?_; clear hA; intro hA; refine rn ?_) | (refine g_store ?_; (first | refine t_storex rfl rfl hA ?_ | refine t_storea rfl rfl hA ?_); clear hA; (try clear w); intro w hA; refine h_m hA ?_; clear hA; intro hA; refine rn ?_) | (refine g_ow ?_; (first | refine t_alloc hA ?_ | refine ow_box rfl rfl hA ?_ | refine t_buildSlice rfl (by decide) rfl hA ?_); clear hA; (try clear w); intro b w hA; refine h_n hA ?_; clear hA; intro hA; refine rn ?_) | (refine g_ow ?_; refine t_make rfl rfl (by omega) (by omega) hA ?_; clear hA; (try clear w); intro v w hA hone hnil; refine rn ?_) | refine wc_pp rfl (fun h => ?_) (fun h => ?_) | refine wc_nn rfl (fun h => ?_) (fun h => ?_) | refine rl_pp rfl (fun h => o_n ?_) (fun h => rn ?_) | refine rl_qq rfl (fun h => o_n ?_) (fun h => rn ?_) | refine rl_nn rfl (fun h => o_n ?_) (fun h => rn ?_) | refine rl_mm rfl (fun h => o_n ?_) (fun h => rn ?_))
      have en : (1 : Int) + (rf.toNat : Int) % 32 = ((1 + rf.toNat % 32 : Nat) : Int) := by omega
      rw [en]
      exact mq_normal ⟨1 + rf.toNat % 32, (ex_getD rfl), .inr ⟨rfl, by omega, by omega⟩, hA⟩
  clear hA
  rintro l w ⟨n, ⟨jk, rfl⟩, hv, hA⟩
  have hcut := used_cut intra n s
  repeat' (first | (refine g_callf 36 ?_; refine ow_call Tryd.call36 rfl ((script_calls s intra n _ _ _ hv (by omega) hA hG).mono ?_); clear hA; (try clear w); rintro e w ⟨E1, r, vv, u, rfl, hE1, hm, hA⟩; refine ⟨_, rfl, ?_⟩; (try have o1 := hm.refs.one; have o2 := hm.mvds.one; have o3 := hm.blocks.one); refine rn ?_) | refine st ?_ | (refine wc_regionS 7 rfl ?_; refine wc_region ?_) | (refine su ?_; refine rn ?_) | (refine g_conv ?_; refine p_c hA ?_; refine rn ?_) | (refine g_load ?_; (first | refine t_loadx rfl hA ?_ | refine t_loada rfl hA ?_); refine rn ?_) | (refine g_call ?_; refine t_appx rfl rfl hA rfl ?_; clear hA; (try clear w); intro v w hA hone hnil; refine h_n hA ?_; clear hA; intro hA; refine rn ?_) | (refine g_store ?_; (first | refine t_storex rfl rfl hA ?_ | refine t_storea rfl rfl hA ?_); clear hA; (try clear w); intro w hA; refine h_m hA ?_; clear hA; intro hA; refine rn ?_) | (refine g_ow ?_; (first | refine t_alloc hA ?_ | refine ow_box rfl rfl hA ?_ | refine t_buildSlice rfl (by decide) rfl hA ?_); clear hA; (try clear w); intro b w hA; refine h_n hA ?_; clear hA; intro hA; refine rn ?_) | (refine g_ow ?_; refine t_make rfl rfl (by omega) (by omega) hA ?_; clear hA; (try clear w); intro v w hA hone hnil; refine rn ?_) | refine wc_pp rfl (fun h => ?_) (fun h => ?_) | refine wc_nn rfl (fun h => ?_) (fun h => ?_) | refine rl_pp rfl (fun h => o_n ?_) (fun h => rn ?_) | refine rl_qq rfl (fun h => o_n ?_) (fun h => rn ?_) | refine rl_nn rfl (fun h => o_n ?_) (fun h => rn ?_) | refine rl_mm rfl (fun h => o_n ?_) (fun h => rn ?_))
  generalize hb1 : b = b1 at *
  clear hb1
  generalize hR : mbP intra n (strm s) 0 = R at *
  obtain ⟨m, K⟩ := R
  dsimp only at hm hA hcut o1 o2 o3
  have hm := hm.mono (Env.sub_le _ _)
  have hG1 := hG.mono hE1
  obtain ⟨ud, hud⟩ : ∃ ud, min K s.length = ud := ⟨_, rfl⟩
  have ht1 : mbP intra n (strm (s.take ud ++ List.replicate 20 0)) 0 = (m, K) := by
    by_cases hK : K < s.length
    · rw [show ud = K by omega]; exact hcut _ hK
    · rw [show ud = s.length by omega, List.take_length, used_zeros]; exact hR
  have hl1 : (s.take ud ++ List.replicate 20 (0 : UInt8)).length = ud + 20 := by rw [List.length_append, List.length_take, List.length_replicate]; omega
  have hk1 : min K (s.take ud ++ List.replicate 20 (0 : UInt8)).length = if K < s.length then ud else min K (ud + 20) := by
    rw [hl1]
    split <;> omega
  have ez : zeroRow [Value.int .u8 0] 20 = (List.replicate 20 (0 : UInt8)).map u8 := by kernel_rfl
  rw [hud]
  refine wc_region ?_
  refine' rl_v hA ?o7_0 ?k7_0
  case o7_0 => intro w hA; first | (refine ow_move_v rfl ?_; exact ⟨pe, hA⟩)
  case' k7_0 => clear hA; intro w hA; refine rn ?_
  refine' rl_v hA ?o7_1 ?k7_1
  case o7_1 => intro w hA; first | (refine ow_neq rfl rfl ?_; exact ⟨pe, hA⟩) | (refine ow_neqs rfl rfl ?_; exact ⟨pe, hA⟩) | (refine t_neqb rfl rfl ?_; exact ⟨pe, hA⟩)
  case' k7_1 => clear hA; intro w hA; refine rn ?_
  refine' rl_v hA ?o7_2 ?k7_2
  case o7_2 => intro w hA; first | (refine ow_move_v rfl ?_; exact ⟨pe, hA⟩)
  case' k7_2 => clear hA; intro w hA; refine rn ?_
  first | refine' rl_F rfl hA ?o7_3 ?k7_3 | refine' rl_Fn rfl hA ?o7_3 ?k7_3
  case o7_3 => intro hg w hA; first | (refine ow_move_v opr ?_; exact ⟨pe, hA⟩)
  case' k7_3 => clear hA; intro w hA; refine rn ?_
  first | refine' rl_F rfl hA ?o7_4 ?k7_4 | refine' rl_Fn rfl hA ?o7_4 ?k7_4
  case o7_4 => intro hg w hA; first | (refine ow_lss opr opr ?_; exact ⟨pe, hA⟩)
  case' k7_4 => clear hA; intro w hA; refine rn ?_
  refine' rl_v hA ?o7_5 ?k7_5
  case o7_5 => intro w hA; first | (refine ow_or rfl rfl (by first | rfl) ?_; exact ⟨pe, hA⟩) | (refine ow_pick rfl rfl rfl ?_; exact ⟨pe, hA⟩)
  case' k7_5 => clear hA; intro w hA; refine rn ?_
  refine' rl_v hA ?o7_6 ?k7_6
  case o7_6 => intro w hA; first | (refine ow_move_v rfl ?_; exact ⟨pe, hA⟩)
  case' k7_6 => clear hA; intro w hA; refine rn ?_
  first | refine' rl_F rfl hA ?o7_7 ?k7_7 | refine' rl_Fn rfl hA ?o7_7 ?k7_7
  case o7_7 => intro hg w hA; first | (refine ow_move_v opr ?_; exact ⟨pe, hA⟩)
  case' k7_7 => clear hA; intro w hA; refine rn ?_
  first | refine' rl_F rfl hA ?o7_8 ?k7_8 | refine' rl_Fn rfl hA ?o7_8 ?k7_8
  case o7_8 => intro hg w hA; first | (refine ow_move_v opr ?_; exact ⟨pe, hA⟩)
  case' k7_8 => clear hA; intro w hA; refine rn ?_
  first | refine' rl_F rfl hA ?o7_9 ?k7_9 | refine' rl_Fn rfl hA ?o7_9 ?k7_9
  case o7_9 => intro hg w hA; first | (refine t_len_str opr ?_; exact ⟨pe, hA⟩) | (refine t_len_slice opr ?_; exact ⟨pe, hA⟩) | (refine t_lenS opr (by assumption) ?_; exact ⟨pe, hA⟩)
  case' k7_9 => clear hA; intro w hA; refine rn ?_
  first | refine' rl_F rfl hA ?o7_10 ?k7_10 | refine' rl_Fn rfl hA ?o7_10 ?k7_10
  case o7_10 => intro hg w hA; first | (refine ow_gtr opr opr ?_; exact ⟨pe, hA⟩)
  case' k7_10 => clear hA; intro w hA; refine rn ?_
  refine' rl_v hA ?o7_11 ?k7_11
  case o7_11 => intro w hA; first | (refine ow_or rfl rfl (by first | rfl) ?_; exact ⟨pe, hA⟩) | (refine ow_pick rfl rfl rfl ?_; exact ⟨pe, hA⟩)
  case' k7_11 => clear hA; intro w hA; refine rn ?_
  refine rl_nil ?_
  refine tq_normal ?_
  refine wc_bb rfl (fun h => ?_) (fun h => ?_)
  · exfalso
    simp at h
    omega
  clear h
  repeat' (first | refine st ?_ | (refine wc_regionS 9 rfl ?_; refine wc_region ?_) | (refine su ?_; refine rn ?_) | (refine g_conv ?_; refine p_c hA ?_; refine rn ?_) | (refine g_load ?_; (first | refine t_loadx rfl hA ?_ | refine t_loada rfl hA ?_); refine rn ?_) | (refine g_call ?_; refine t_appx rfl rfl hA rfl ?_; clear hA; (try clear w); intro v w hA hone hnil; refine h_n hA ?_; clear hA; intro hA; refine rn ?_) | (refine g_store ?_; (first | refine t_storex rfl rfl hA ?_ | refine t_storea rfl rfl hA ?_); clear hA; (try clear w); intro w hA; refine h_m hA ?_; clear hA; intro hA; refine rn ?_) | (refine g_ow ?_; (first | refine t_alloc hA ?_ | refine ow_box rfl rfl hA ?_ | refine t_buildSlice rfl (by decide) rfl hA ?_); clear hA; (try clear w); intro b w hA; refine h_n hA ?_; clear hA; intro hA; refine rn ?_) | (refine g_ow ?_; refine t_make rfl rfl (by omega) (by omega) hA ?_; clear hA; (try clear w); intro v w hA hone hnil; refine rn ?_) | refine wc_pp rfl (fun h => ?_) (fun h => ?_) | refine wc_nn rfl (fun h => ?_) (fun h => ?_) | refine rl_pp rfl (fun h => o_n ?_) (fun h => rn ?_) | refine rl_qq rfl (fun h => o_n ?_) (fun h => rn ?_) | refine rl_nn rfl (fun h => o_n ?_) (fun h => rn ?_) | refine rl_mm rfl (fun h => o_n ?_) (fun h => rn ?_))
  have hs1 : (s.take ((ud : Int)).toNat ++ List.replicate 20 (0 : UInt8)).length ≤ 1000000 := by rw [Int.toNat_natCast, hl1]; omega
  have ht1' : mbP intra n (strm (s.take ((ud : Int)).toNat ++ List.replicate 20 0)) 0 = (m, K) := by rw [Int.toNat_natCast]; exact ht1
  refine' wc_flow' 0 (fun _ => undef) (fun ix => match ix with | 4 => [3] | 14 => [13] | _ => []) (fun ix => match ix with | 14 => [13] | _ => []) (fun ix => match ix with | 3 => [3] | 13 => [13] | 14 => [10, 13] | _ => []) (mixPhi [_, _, _, undef, undef, undef, _, _, undef, undef, undef, _, _, undef, undef, _, _] (fun ix => match ix with | 3 => some (oneS) | 4 => some (valV (vs (List.replicate 20 (0 : UInt8)))) | 5 => some (valV (vs (s.take ((ud : Int)).toNat ++ List.replicate 20 (0 : UInt8)))) | 8 => some (scrV m ((min K (s.take ((ud : Int)).toNat ++ List.replicate 20 (0 : UInt8)).length : Nat) : Int)) | 9 => some (scrV m ((min K (s.take ((ud : Int)).toNat ++ List.replicate 20 (0 : UInt8)).length : Nat) : Int)) | 10 => some (mbW m) | 13 => some (ptrV) | 14 => some (trueV) | _ => none)) (fun ix yy => match ix with | 3 => [row 5 1 (yy 3) 20 ((List.replicate 20 (0 : UInt8)).map u8)] | 13 => [cells (pB (yy 13)) [Go.Value.int Go.IntKind.u8 0, Go.Value.int Go.IntKind.u8 0, Go.Value.int Go.IntKind.u8 0, Go.Value.int Go.IntKind.u8 0, Go.Value.int Go.IntKind.u8 0, Go.Value.int Go.IntKind.u8 0, Go.Value.int Go.IntKind.u8 0, Go.Value.int Go.IntKind.u8 0, Go.Value.int Go.IntKind.u8 0, Go.Value.int Go.IntKind.u8 0, Go.Value.int Go.IntKind.u8 0, Go.Value.int Go.IntKind.u8 0, Go.Value.int Go.IntKind.u8 0, Go.Value.int Go.IntKind.u8 0, Go.Value.int Go.IntKind.u8 0, Go.Value.int Go.IntKind.u8 0, Go.Value.int Go.IntKind.u8 0, Go.Value.int Go.IntKind.u8 0, Go.Value.int Go.IntKind.u8 0, Go.Value.int Go.IntKind.u8 0, Go.Value.int Go.IntKind.u8 0, Go.Value.int Go.IntKind.u8 0, Go.Value.int Go.IntKind.u8 0, Go.Value.slice none 0 0, Go.Value.slice none 0 0, Go.Value.int Go.IntKind.u8 0, Go.Value.int Go.IntKind.i64 0, Go.Value.slice none 0 0, Go.Value.string { data := #[] }] 28] | 14 => [cells (pB (yy 13)) (aggS (yy 10)) 28] | _ => []) (cells b1 (mbC m r vv u) 28 :: L) 17 (by kernel_rfl) rfl (by kernel_rfl) [(0, 54), (1, 55), (2, 56), (3, 57), (4, 58), (5, 59), (6, 60), (7, 61), (8, 62), (9, 53), (10, 63), (11, 64), (12, 65), (13, 13), (15, 14), (16, 15)] (by kernel_rfl) [0, 1, 2, 3, 4, 5, 6, 7, 8, 9, 10, 11, 12, 14, 15, 16] (by kernel_rfl) [] (by kernel_rfl) hA ?itd9 ?phi9 ?ops9 ?k9
  case itd9 => (intro i y y' h; first | rfl | ((try dsimp only at h ⊢); split <;> first | rfl | (simp only [List.mem_cons, List.not_mem_nil, or_false, forall_eq_or_imp, forall_eq] at h; simp only [h]; done)))
  case phi9 => (refine mix_mono fun i p hp E1 E2 v hE h => ?_; split at hp <;> first | (cases hp; done) | (obtain rfl := Option.some.inj hp; first | exact ListE.mono h hE | exact ListE.mono h (Env.sub_left _ hE) | exact PMono.mono hE h | exact PMono.mono (Env.sub_left _ hE) h | exact h))
  case ops9 =>
    refine' FlowOps.c rfl [] (by decide) [] (by decide) [] rfl [] rfl ?o9_0 ?r9_0
    case o9_0 => intro yy E' Lx w lf hE hph hyp hl hA; simp only [setAll, List.map_cons, List.map_nil, List.set_cons_succ, List.set_cons_zero] at hl; subst hl; (try simp only [List.flatMap_cons, List.flatMap_nil, List.nil_append, List.append_nil, List.cons_append] at hA ⊢); (try clear hph hyp); first | (refine ow_move_v rfl ?_; exact ⟨_, E', pe, Env.Le.refl _, mix_mk rfl rfl, hA⟩)
    case r9_0 =>
      refine' FlowOps.c rfl [] (by decide) [] (by decide) [] rfl [] rfl ?o9_1 ?r9_1
      case o9_1 => intro yy E' Lx w lf hE hph hyp hl hA; simp only [setAll, List.map_cons, List.map_nil, List.set_cons_succ, List.set_cons_zero] at hl; subst hl; (try simp only [List.flatMap_cons, List.flatMap_nil, List.nil_append, List.append_nil, List.cons_append] at hA ⊢); (try clear hph hyp); first | (refine ow_move_v rfl ?_; exact ⟨_, E', pe, Env.Le.refl _, mix_mk rfl rfl, hA⟩)
      case r9_1 =>
        refine' FlowOps.c rfl [(0, 54), (1, 55)] (by decide) [0, 1] (by decide) [] rfl [] rfl ?o9_2 ?r9_2
        case o9_2 => intro yy E' Lx w lf hE hph hyp hl hA; have e0 := mix_known (hph 0 (by decide)) rfl rfl; have e1 := mix_known (hph 1 (by decide)) rfl rfl; simp only [setAll, List.map_cons, List.map_nil, List.set_cons_succ, List.set_cons_zero, ← e0, ← e1] at hl; subst hl; (try simp only [← e0, ← e1] at hA ⊢); (try simp only [List.flatMap_cons, List.flatMap_nil, List.nil_append, List.append_nil, List.cons_append] at hA ⊢); (try clear hph hyp); first | (refine t_slice_to rfl rfl (by omega) ?_; exact ⟨_, E', pe, Env.Le.refl _, mix_mk rfl rfl, hA⟩)
        case r9_2 =>
          refine' FlowOps.c rfl [] (by decide) [] (by decide) [] rfl [] rfl ?o9_3 ?r9_3
          case o9_3 => intro yy E' Lx w lf hE hph hyp hl hA; simp only [setAll, List.map_cons, List.map_nil, List.set_cons_succ, List.set_cons_zero] at hl; subst hl; (try simp only [List.flatMap_cons, List.flatMap_nil, List.nil_append, List.append_nil, List.cons_append] at hA ⊢); (try clear hph hyp); refine t_makeN (n := 20) (by rfl) rfl rfl (by omega) (by omega) hA ?_; clear hA; intro v w hA h1 h2; rw [ez] at hA; exact ⟨v, E', rfl, Env.Le.refl _, mix_mkP rfl h1, hA⟩
          case r9_3 =>
            refine' FlowOps.c rfl [(3, 57)] (by decide) [3] (by decide) [3] rfl [3] rfl ?o9_4 ?r9_4
            case o9_4 => intro yy E' Lx w lf hE hph hyp hl hA; simp only [setAll, List.map_cons, List.map_nil, List.set_cons_succ, List.set_cons_zero] at hl; subst hl; have p3 := mix_pred (hph 3 (by decide)) rfl; generalize yy 3 = y3 at *; (try simp only [List.flatMap_cons, List.flatMap_nil, List.nil_append, List.append_nil, List.cons_append] at hA ⊢); (try clear hph hyp); refine t_bytes_str 0 rfl hA rfl ?_; exact ⟨_, E', rfl, Env.Le.refl _, mix_mkP rfl rfl, hA⟩
            case r9_4 =>
              refine' FlowOps.c rfl [(2, 56), (4, 58)] (by decide) [0, 1, 3, 2, 4] (by decide) [] rfl [] rfl ?o9_5 ?r9_5
              case o9_5 => intro yy E' Lx w lf hE hph hyp hl hA; have e0 := mix_known (hph 0 (by decide)) rfl rfl; have e1 := mix_known (hph 1 (by decide)) rfl rfl; have e2 := mix_known (hph 2 (by decide)) rfl rfl; simp only [setAll, List.map_cons, List.map_nil, List.set_cons_succ, List.set_cons_zero, ← e0, ← e1, ← e2] at hl; subst hl; have p3 := mix_pred (hph 3 (by decide)) rfl; have p4 := mix_pred (hph 4 (by decide)) rfl; (try simp only [← e0, ← e1, ← e2] at hA ⊢); generalize yy 3 = y3 at *; generalize yy 4 = y4 at *; (try simp only [List.flatMap_cons, List.flatMap_nil, List.nil_append, List.append_nil, List.cons_append] at hA ⊢); (try clear hph hyp); have p4 : _ = _ := p4; subst p4; refine ow_cat rfl rfl (by simp; omega) ?_; exact ⟨_, E', rfl, Env.Le.refl _, mix_mkP rfl rfl, hA⟩
              case r9_5 =>
                refine' FlowOps.c rfl [] (by decide) [] (by decide) [] rfl [] rfl ?o9_6 ?r9_6
                case o9_6 => intro yy E' Lx w lf hE hph hyp hl hA; simp only [setAll, List.map_cons, List.map_nil, List.set_cons_succ, List.set_cons_zero] at hl; subst hl; (try simp only [List.flatMap_cons, List.flatMap_nil, List.nil_append, List.append_nil, List.cons_append] at hA ⊢); (try clear hph hyp); first | (refine ow_move_v rfl ?_; exact ⟨_, E', pe, Env.Le.refl _, mix_mk rfl rfl, hA⟩)
                case r9_6 =>
                  refine' FlowOps.c rfl [] (by decide) [] (by decide) [] rfl [] rfl ?o9_7 ?r9_7
                  case o9_7 => intro yy E' Lx w lf hE hph hyp hl hA; simp only [setAll, List.map_cons, List.map_nil, List.set_cons_succ, List.set_cons_zero] at hl; subst hl; (try simp only [List.flatMap_cons, List.flatMap_nil, List.nil_append, List.append_nil, List.cons_append] at hA ⊢); (try clear hph hyp); first | (refine ow_move_v rfl ?_; exact ⟨_, E', pe, Env.Le.refl _, mix_mk rfl rfl, hA⟩)
                  case r9_7 =>
                    refine' FlowOps.c rfl [(5, 59), (6, 60), (7, 61)] (by decide) [0, 1, 3, 2, 4, 5, 6, 7] (by decide) [] rfl [] rfl ?o9_8 ?r9_8
                    case o9_8 => intro yy E' Lx w lf hE hph hyp hl hA; have e0 := mix_known (hph 0 (by decide)) rfl rfl; have e1 := mix_known (hph 1 (by decide)) rfl rfl; have e2 := mix_known (hph 2 (by decide)) rfl rfl; have e6 := mix_known (hph 6 (by decide)) rfl rfl; have e7 := mix_known (hph 7 (by decide)) rfl rfl; simp only [setAll, List.map_cons, List.map_nil, List.set_cons_succ, List.set_cons_zero, ← e0, ← e1, ← e2, ← e6, ← e7] at hl; subst hl; have p3 := mix_pred (hph 3 (by decide)) rfl; have p4 := mix_pred (hph 4 (by decide)) rfl; have p5 := mix_pred (hph 5 (by decide)) rfl; (try simp only [← e0, ← e1, ← e2, ← e6, ← e7] at hA ⊢); generalize yy 3 = y3 at *; generalize yy 4 = y4 at *; generalize yy 5 = y5 at *; (try simp only [List.flatMap_cons, List.flatMap_nil, List.nil_append, List.append_nil, List.cons_append] at hA ⊢); (try clear hph hyp); have p5 : _ = _ := p5; subst p5; refine ow_call Tryd.call36 rfl ((script_calls (s.take ((ud : Int)).toNat ++ List.replicate 20 (0 : UInt8)) intra n E' _ w hv hs1 hA (hG1.mono hE)).mono ?_); clear hA; rintro e w ⟨E5, r5, v5, u5, rfl, hE5, hm5, hA⟩; rw [ht1'] at hm5 ⊢; exact ⟨_, rfl, _, E5, rfl, hE5, mix_mkP rfl ⟨r5, v5, u5, rfl, hm5.mono (Env.sub_le _ _)⟩, hA⟩
                    case r9_8 =>
                      refine' FlowOps.c rfl [(8, 62)] (by decide) [0, 1, 3, 2, 4, 5, 6, 7, 8] (by decide) [] rfl [] rfl ?o9_9 ?r9_9
                      case o9_9 => intro yy E' Lx w lf hE hph hyp hl hA; have e0 := mix_known (hph 0 (by decide)) rfl rfl; have e1 := mix_known (hph 1 (by decide)) rfl rfl; have e2 := mix_known (hph 2 (by decide)) rfl rfl; have e6 := mix_known (hph 6 (by decide)) rfl rfl; have e7 := mix_known (hph 7 (by decide)) rfl rfl; simp only [setAll, List.map_cons, List.map_nil, List.set_cons_succ, List.set_cons_zero, ← e0, ← e1, ← e2, ← e6, ← e7] at hl; subst hl; have p3 := mix_pred (hph 3 (by decide)) rfl; have p4 := mix_pred (hph 4 (by decide)) rfl; have p5 := mix_pred (hph 5 (by decide)) rfl; have p8 := mix_pred (hph 8 (by decide)) rfl; (try simp only [← e0, ← e1, ← e2, ← e6, ← e7] at hA ⊢); generalize yy 3 = y3 at *; generalize yy 4 = y4 at *; generalize yy 5 = y5 at *; generalize yy 8 = y8 at *; (try simp only [List.flatMap_cons, List.flatMap_nil, List.nil_append, List.append_nil, List.cons_append] at hA ⊢); (try clear hph hyp); refine ow_move_v rfl ?_; exact ⟨_, E', rfl, Env.Le.refl _, mix_mkP rfl p8, hA⟩
                      case r9_9 =>
                        refine' FlowOps.c rfl [(9, 53)] (by decide) [0, 1, 3, 2, 4, 5, 6, 7, 8, 9] (by decide) [] rfl [] rfl ?o9_10 ?r9_10
                        case o9_10 => intro yy E' Lx w lf hE hph hyp hl hA; have e0 := mix_known (hph 0 (by decide)) rfl rfl; have e1 := mix_known (hph 1 (by decide)) rfl rfl; have e2 := mix_known (hph 2 (by decide)) rfl rfl; have e6 := mix_known (hph 6 (by decide)) rfl rfl; have e7 := mix_known (hph 7 (by decide)) rfl rfl; simp only [setAll, List.map_cons, List.map_nil, List.set_cons_succ, List.set_cons_zero, ← e0, ← e1, ← e2, ← e6, ← e7] at hl; subst hl; have p3 := mix_pred (hph 3 (by decide)) rfl; have p4 := mix_pred (hph 4 (by decide)) rfl; have p5 := mix_pred (hph 5 (by decide)) rfl; have p8 := mix_pred (hph 8 (by decide)) rfl; have p9 := mix_pred (hph 9 (by decide)) rfl; (try simp only [← e0, ← e1, ← e2, ← e6, ← e7] at hA ⊢); generalize yy 3 = y3 at *; generalize yy 4 = y4 at *; generalize yy 5 = y5 at *; generalize yy 8 = y8 at *; generalize yy 9 = y9 at *; (try simp only [List.flatMap_cons, List.flatMap_nil, List.nil_append, List.append_nil, List.cons_append] at hA ⊢); (try clear hph hyp); obtain ⟨r5, v5, u5, rfl, hm5⟩ := p9; refine ow_extract rfl rfl ?_; exact ⟨_, E', rfl, Env.Le.refl _, mix_mkP rfl ⟨r5, v5, u5, rfl, hm5⟩, hA⟩
                        case r9_10 =>
                          refine' FlowOps.c rfl [(9, 53)] (by decide) [0, 1, 3, 2, 4, 5, 6, 7, 8, 9] (by decide) [] rfl [] rfl ?o9_11 ?r9_11
                          case o9_11 => intro yy E' Lx w lf hE hph hyp hl hA; have e0 := mix_known (hph 0 (by decide)) rfl rfl; have e1 := mix_known (hph 1 (by decide)) rfl rfl; have e2 := mix_known (hph 2 (by decide)) rfl rfl; have e6 := mix_known (hph 6 (by decide)) rfl rfl; have e7 := mix_known (hph 7 (by decide)) rfl rfl; simp only [setAll, List.map_cons, List.map_nil, List.set_cons_succ, List.set_cons_zero, ← e0, ← e1, ← e2, ← e6, ← e7] at hl; subst hl; have p3 := mix_pred (hph 3 (by decide)) rfl; have p4 := mix_pred (hph 4 (by decide)) rfl; have p5 := mix_pred (hph 5 (by decide)) rfl; have p8 := mix_pred (hph 8 (by decide)) rfl; have p9 := mix_pred (hph 9 (by decide)) rfl; (try simp only [← e0, ← e1, ← e2, ← e6, ← e7] at hA ⊢); generalize yy 3 = y3 at *; generalize yy 4 = y4 at *; generalize yy 5 = y5 at *; generalize yy 8 = y8 at *; generalize yy 9 = y9 at *; (try simp only [List.flatMap_cons, List.flatMap_nil, List.nil_append, List.append_nil, List.cons_append] at hA ⊢); (try clear hph hyp); first | (obtain ⟨r5, v5, u5, rfl, hm5⟩ := p9; refine ow_extract rfl rfl ?_; exact ⟨_, E', pe, Env.Le.refl _, mix_mk rfl rfl, hA⟩) | (refine ow_extract rfl rfl ?_; exact ⟨_, E', pe, Env.Le.refl _, mix_mk rfl rfl, hA⟩)
                          case r9_11 =>
                            refine' FlowOps.c rfl [(9, 53)] (by decide) [0, 1, 3, 2, 4, 5, 6, 7, 8, 9] (by decide) [] rfl [] rfl ?o9_12 ?r9_12
                            case o9_12 => intro yy E' Lx w lf hE hph hyp hl hA; have e0 := mix_known (hph 0 (by decide)) rfl rfl; have e1 := mix_known (hph 1 (by decide)) rfl rfl; have e2 := mix_known (hph 2 (by decide)) rfl rfl; have e6 := mix_known (hph 6 (by decide)) rfl rfl; have e7 := mix_known (hph 7 (by decide)) rfl rfl; simp only [setAll, List.map_cons, List.map_nil, List.set_cons_succ, List.set_cons_zero, ← e0, ← e1, ← e2, ← e6, ← e7] at hl; subst hl; have p3 := mix_pred (hph 3 (by decide)) rfl; have p4 := mix_pred (hph 4 (by decide)) rfl; have p5 := mix_pred (hph 5 (by decide)) rfl; have p8 := mix_pred (hph 8 (by decide)) rfl; have p9 := mix_pred (hph 9 (by decide)) rfl; (try simp only [← e0, ← e1, ← e2, ← e6, ← e7] at hA ⊢); generalize yy 3 = y3 at *; generalize yy 4 = y4 at *; generalize yy 5 = y5 at *; generalize yy 8 = y8 at *; generalize yy 9 = y9 at *; (try simp only [List.flatMap_cons, List.flatMap_nil, List.nil_append, List.append_nil, List.cons_append] at hA ⊢); (try clear hph hyp); first | (obtain ⟨r5, v5, u5, rfl, hm5⟩ := p9; refine ow_extract rfl rfl ?_; exact ⟨_, E', pe, Env.Le.refl _, mix_mk rfl rfl, hA⟩) | (refine ow_extract rfl rfl ?_; exact ⟨_, E', pe, Env.Le.refl _, mix_mk rfl rfl, hA⟩)
                            case r9_12 =>
                              refine' FlowOps.c rfl [] (by decide) [] (by decide) [] rfl [] rfl ?o9_13 ?r9_13
                              case o9_13 => intro yy E' Lx w lf hE hph hyp hl hA; simp only [setAll, List.map_cons, List.map_nil, List.set_cons_succ, List.set_cons_zero] at hl; subst hl; (try simp only [List.flatMap_cons, List.flatMap_nil, List.nil_append, List.append_nil, List.cons_append] at hA ⊢); (try clear hph hyp); refine t_alloc hA ?_; clear hA; intro bb w hA; exact ⟨_, E', rfl, Env.Le.refl _, mix_mkP rfl ⟨bb, rfl⟩, hA⟩
                              case r9_13 =>
                                refine' FlowOps.c rfl [(13, 13), (10, 63), (8, 62), (0, 54), (1, 55), (2, 56), (3, 57), (4, 58), (5, 59), (6, 60), (7, 61), (9, 53)] (by decide) [13, 10, 8, 0, 1, 2, 3, 4, 5, 6, 7, 9] (by decide) [13] rfl [] rfl ?o9_14 ?r9_14
                                case o9_14 => intro yy E' Lx w lf hE hph hyp hl hA; have hu10 : ∀ v, upd yy 14 v 10 = yy 10 := fun _ => rfl; have hu13 : ∀ v, upd yy 14 v 13 = yy 13 := fun _ => rfl; simp only [Nat.reduceAdd, hu10, hu13]; clear hu10 hu13; have e0 := mix_known (hph 0 (by decide)) rfl rfl; have e1 := mix_known (hph 1 (by decide)) rfl rfl; have e2 := mix_known (hph 2 (by decide)) rfl rfl; have e6 := mix_known (hph 6 (by decide)) rfl rfl; have e7 := mix_known (hph 7 (by decide)) rfl rfl; simp only [setAll, List.map_cons, List.map_nil, List.set_cons_succ, List.set_cons_zero, ← e0, ← e1, ← e2, ← e6, ← e7] at hl; subst hl; have p13 := mix_pred (hph 13 (by decide)) rfl; have p10 := mix_pred (hph 10 (by decide)) rfl; have p8 := mix_pred (hph 8 (by decide)) rfl; have p3 := mix_pred (hph 3 (by decide)) rfl; have p4 := mix_pred (hph 4 (by decide)) rfl; have p5 := mix_pred (hph 5 (by decide)) rfl; have p9 := mix_pred (hph 9 (by decide)) rfl; (try simp only [← e0, ← e1, ← e2, ← e6, ← e7] at hA ⊢); generalize yy 13 = y13 at *; generalize yy 10 = y10 at *; generalize yy 8 = y8 at *; generalize yy 3 = y3 at *; generalize yy 4 = y4 at *; generalize yy 5 = y5 at *; generalize yy 9 = y9 at *; (try simp only [List.flatMap_cons, List.flatMap_nil, List.nil_append, List.append_nil, List.cons_append] at hA ⊢); (try clear hph hyp); obtain ⟨b4, rfl⟩ := p13; obtain ⟨r5, v5, u5, rfl, hm5⟩ := p10; have o1 := hm5.refs.one; have o2 := hm5.mvds.one; have o3 := hm5.blocks.one; refine t_store_agg 0 rfl rfl (by simp only [List.mem_cons, List.not_mem_nil, or_false, forall_eq_or_imp, forall_eq]; (repeat' apply And.intro) <;> first | rfl | assumption) rfl hA rfl (Nat.le_of_ble_eq_true rfl) ?_; clear hA; intro w hA; (try simp only [List.drop_zero, List.drop_nil, List.drop_succ_cons, List.take_succ_cons, List.take_zero, List.length_cons, List.length_nil, Nat.zero_add, Nat.reduceAdd] at hA); refine h_n hA ?_; clear hA; intro hA; exact ⟨undef, E', rfl, Env.Le.refl _, mix_mkP rfl trivial, hA⟩
                                case r9_14 =>
                                  refine' FlowOps.c rfl [(11, 64), (0, 54), (1, 55), (2, 56), (3, 57), (4, 58), (5, 59), (6, 60), (7, 61), (8, 62), (9, 53), (10, 63), (13, 13)] (by decide) [11, 14, 0, 1, 2, 3, 4, 5, 6, 7, 8, 9, 10, 13] (by decide) [] rfl [] rfl ?o9_15 ?r9_15
                                  case o9_15 => intro yy E' Lx w lf hE hph hyp hl hA; have e11 := mix_known (hph 11 (by decide)) rfl rfl; have e0 := mix_known (hph 0 (by decide)) rfl rfl; have e1 := mix_known (hph 1 (by decide)) rfl rfl; have e2 := mix_known (hph 2 (by decide)) rfl rfl; have e6 := mix_known (hph 6 (by decide)) rfl rfl; have e7 := mix_known (hph 7 (by decide)) rfl rfl; simp only [setAll, List.map_cons, List.map_nil, List.set_cons_succ, List.set_cons_zero, ← e11, ← e0, ← e1, ← e2, ← e6, ← e7] at hl; subst hl; have p14 := mix_pred (hph 14 (by decide)) rfl; have p3 := mix_pred (hph 3 (by decide)) rfl; have p4 := mix_pred (hph 4 (by decide)) rfl; have p5 := mix_pred (hph 5 (by decide)) rfl; have p8 := mix_pred (hph 8 (by decide)) rfl; have p9 := mix_pred (hph 9 (by decide)) rfl; have p10 := mix_pred (hph 10 (by decide)) rfl; have p13 := mix_pred (hph 13 (by decide)) rfl; (try simp only [← e11, ← e0, ← e1, ← e2, ← e6, ← e7] at hA ⊢); generalize yy 14 = y14 at *; generalize yy 3 = y3 at *; generalize yy 4 = y4 at *; generalize yy 5 = y5 at *; generalize yy 8 = y8 at *; generalize yy 9 = y9 at *; generalize yy 10 = y10 at *; generalize yy 13 = y13 at *; (try simp only [List.flatMap_cons, List.flatMap_nil, List.nil_append, List.append_nil, List.cons_append] at hA ⊢); (try clear hph hyp); first | (refine ow_assign_v rfl ?_; exact ⟨_, E', pe, Env.Le.refl _, mix_mk rfl rfl, hA⟩)
                                  case r9_15 =>
                                    refine' FlowOps.c rfl [(12, 65), (15, 14), (0, 54), (1, 55), (2, 56), (3, 57), (4, 58), (5, 59), (6, 60), (7, 61), (8, 62), (9, 53), (10, 63), (11, 64), (13, 13)] (by decide) [12, 15, 0, 1, 2, 3, 4, 5, 6, 7, 8, 9, 10, 11, 13, 14] (by decide) [] rfl [] rfl ?o9_16 ?r9_16
                                    case o9_16 => intro yy E' Lx w lf hE hph hyp hl hA; have e12 := mix_known (hph 12 (by decide)) rfl rfl; have e15 := mix_known (hph 15 (by decide)) rfl rfl; have e0 := mix_known (hph 0 (by decide)) rfl rfl; have e1 := mix_known (hph 1 (by decide)) rfl rfl; have e2 := mix_known (hph 2 (by decide)) rfl rfl; have e6 := mix_known (hph 6 (by decide)) rfl rfl; have e7 := mix_known (hph 7 (by decide)) rfl rfl; have e11 := mix_known (hph 11 (by decide)) rfl rfl; simp only [setAll, List.map_cons, List.map_nil, List.set_cons_succ, List.set_cons_zero, ← e12, ← e15, ← e0, ← e1, ← e2, ← e6, ← e7, ← e11] at hl; subst hl; have p3 := mix_pred (hph 3 (by decide)) rfl; have p4 := mix_pred (hph 4 (by decide)) rfl; have p5 := mix_pred (hph 5 (by decide)) rfl; have p8 := mix_pred (hph 8 (by decide)) rfl; have p9 := mix_pred (hph 9 (by decide)) rfl; have p10 := mix_pred (hph 10 (by decide)) rfl; have p13 := mix_pred (hph 13 (by decide)) rfl; have p14 := mix_pred (hph 14 (by decide)) rfl; (try simp only [← e12, ← e15, ← e0, ← e1, ← e2, ← e6, ← e7, ← e11] at hA ⊢); generalize yy 3 = y3 at *; generalize yy 4 = y4 at *; generalize yy 5 = y5 at *; generalize yy 8 = y8 at *; generalize yy 9 = y9 at *; generalize yy 10 = y10 at *; generalize yy 13 = y13 at *; generalize yy 14 = y14 at *; (try simp only [List.flatMap_cons, List.flatMap_nil, List.nil_append, List.append_nil, List.cons_append] at hA ⊢); (try clear hph hyp); first | (refine ow_assign_v rfl ?_; exact ⟨_, E', pe, Env.Le.refl _, mix_mk rfl rfl, hA⟩)
                                    case r9_16 =>
                                      exact FlowOps.nil
  case' k9 => (try clear hA); intro yy E' w lf hE hph hyp hl hA; have e0 := mix_known (hph 0 (by decide)) rfl rfl; have e1 := mix_known (hph 1 (by decide)) rfl rfl; have e2 := mix_known (hph 2 (by decide)) rfl rfl; have e6 := mix_known (hph 6 (by decide)) rfl rfl; have e7 := mix_known (hph 7 (by decide)) rfl rfl; have e11 := mix_known (hph 11 (by decide)) rfl rfl; have e12 := mix_known (hph 12 (by decide)) rfl rfl; have e15 := mix_known (hph 15 (by decide)) rfl rfl; have e16 := mix_known (hph 16 (by decide)) rfl rfl; simp only [setAll, List.map_cons, List.map_nil, List.set_cons_succ, List.set_cons_zero, ← e0, ← e1, ← e2, ← e6, ← e7, ← e11, ← e12, ← e15, ← e16] at hl; subst hl; have p3 := mix_pred (hph 3 (by decide)) rfl; have p4 := mix_pred (hph 4 (by decide)) rfl; have p5 := mix_pred (hph 5 (by decide)) rfl; have p8 := mix_pred (hph 8 (by decide)) rfl; have p9 := mix_pred (hph 9 (by decide)) rfl; have p10 := mix_pred (hph 10 (by decide)) rfl; have p13 := mix_pred (hph 13 (by decide)) rfl; have p14 := mix_pred (hph 14 (by decide)) rfl; (try simp only [← e0, ← e1, ← e2, ← e6, ← e7, ← e11, ← e12, ← e15, ← e16] at hA); generalize yy 3 = y3 at *; generalize yy 4 = y4 at *; generalize yy 5 = y5 at *; generalize yy 8 = y8 at *; generalize yy 9 = y9 at *; generalize yy 10 = y10 at *; generalize yy 13 = y13 at *; generalize yy 14 = y14 at *; (try simp only [List.flatMap_cons, List.flatMap_nil, List.nil_append, List.append_nil, List.cons_append] at hA); clear hph hyp
  obtain ⟨b2, rfl⟩ := p13
  obtain ⟨r2, v2, u2, rfl, hm2⟩ := p10
  simp only [aggS, pB] at hA
  have hA := hA.tail
  have hm1 := hm.mono hE
  have hG2 := hG1.mono hE
  have hE02 := hE1.trans hE
  clear p3 p4 p5 p8 p9 p14
  have hk1' : min K (s.take ((ud : Int)).toNat ++ List.replicate 20 (0 : UInt8)).length = if K < s.length then ud else min K (ud + 20) := by rw [Int.toNat_natCast]; exact hk1
  generalize min K (s.take ((ud : Int)).toNat ++ List.replicate 20 (0 : UInt8)).length = k1 at *
  have hkA : K < s.length → k1 = ud := fun h => by rw [hk1', if_pos h]
  clear hk1 hk1'
  repeat' (first | refine st ?_ | (refine wc_regionS 10 rfl ?_; refine wc_region ?_) | (refine su ?_; refine rn ?_) | (refine g_conv ?_; refine p_c hA ?_; refine rn ?_) | (refine g_load ?_; (first | refine t_loadx rfl hA ?_ | refine t_loada rfl hA ?_); refine rn ?_) | (refine g_call ?_; refine t_appx rfl rfl hA rfl ?_; clear hA; (try clear w); intro v w hA hone hnil; refine h_n hA ?_; clear hA; intro hA; refine rn ?_) | (refine g_store ?_; (first | refine t_storex rfl rfl hA ?_ | refine t_storea rfl rfl hA ?_); clear hA; (try clear w); intro w hA; refine h_m hA ?_; clear hA; intro hA; refine rn ?_) | (refine g_ow ?_; (first | refine t_alloc hA ?_ | refine ow_box rfl rfl hA ?_ | refine t_buildSlice rfl (by decide) rfl hA ?_); clear hA; (try clear w); intro b w hA; refine h_n hA ?_; clear hA; intro hA; refine rn ?_) | (refine g_ow ?_; refine t_make rfl rfl (by omega) (by omega) hA ?_; clear hA; (try clear w); intro v w hA hone hnil; refine rn ?_) | refine wc_pp rfl (fun h => ?_) (fun h => ?_) | refine wc_nn rfl (fun h => ?_) (fun h => ?_) | refine rl_pp rfl (fun h => o_n ?_) (fun h => rn ?_) | refine rl_qq rfl (fun h => o_n ?_) (fun h => rn ?_) | refine rl_nn rfl (fun h => o_n ?_) (fun h => rn ?_) | refine rl_mm rfl (fun h => o_n ?_) (fun h => rn ?_))
  refine wc_region ?_
  refine' rl_v hA ?o10_0 ?k10_0
  case o10_0 => intro w hA; first | (refine ow_move_v rfl ?_; exact ⟨pe, hA⟩)
  case' k10_0 => clear hA; intro w hA; refine rn ?_
  refine' rl_v hA ?o10_1 ?k10_1
  case o10_1 => intro w hA; first | (refine ow_neq rfl rfl ?_; exact ⟨pe, hA⟩) | (refine ow_neqs rfl rfl ?_; exact ⟨pe, hA⟩) | (refine t_neqb rfl rfl ?_; exact ⟨pe, hA⟩)
  case' k10_1 => clear hA; intro w hA; refine rn ?_
  refine' rl_v hA ?o10_2 ?k10_2
  case o10_2 => intro w hA; first | (refine ow_move_v rfl ?_; exact ⟨pe, hA⟩)
  case' k10_2 => clear hA; intro w hA; refine rn ?_
  first | refine' rl_F rfl hA ?o10_3 ?k10_3 | refine' rl_Fn rfl hA ?o10_3 ?k10_3
  case o10_3 => intro hg w hA; first | (refine ow_move_v opr ?_; exact ⟨pe, hA⟩)
  case' k10_3 => clear hA; intro w hA; refine rn ?_
  first | refine' rl_F rfl hA ?o10_4 ?k10_4 | refine' rl_Fn rfl hA ?o10_4 ?k10_4
  case o10_4 => intro hg w hA; first | (refine ow_move_v opr ?_; exact ⟨pe, hA⟩)
  case' k10_4 => clear hA; intro w hA; refine rn ?_
  first | refine' rl_F rfl hA ?o10_5 ?k10_5 | refine' rl_Fn rfl hA ?o10_5 ?k10_5
  case o10_5 => intro hg w hA; first | (refine t_len_str opr ?_; exact ⟨pe, hA⟩) | (refine t_len_slice opr ?_; exact ⟨pe, hA⟩) | (refine t_lenS opr (by assumption) ?_; exact ⟨pe, hA⟩)
  case' k10_5 => clear hA; intro w hA; refine rn ?_
  first | refine' rl_F rfl hA ?o10_6 ?k10_6 | refine' rl_Fn rfl hA ?o10_6 ?k10_6
  case o10_6 => intro hg w hA; first | (refine ow_lss opr opr ?_; exact ⟨pe, hA⟩)
  case' k10_6 => clear hA; intro w hA; refine rn ?_
  first | refine' rl_F rfl hA ?o10_7 ?k10_7 | refine' rl_Fn rfl hA ?o10_7 ?k10_7
  case o10_7 => intro hg w hA; first | (refine ow_move_v opr ?_; exact ⟨pe, hA⟩)
  case' k10_7 => clear hA; intro w hA; refine rn ?_
  first | refine' rl_T rfl hA ?o10_8 ?k10_8 | refine' rl_Tn rfl hA ?o10_8 ?k10_8
  case o10_8 => intro hg w hA; first | (refine ow_move_v opr ?_; exact ⟨pe, hA⟩)
  case' k10_8 => clear hA; intro w hA; refine rn ?_
  first | refine' rl_T rfl hA ?o10_9 ?k10_9 | refine' rl_Tn rfl hA ?o10_9 ?k10_9
  case o10_9 => intro hg w hA; first | (refine ow_move_v opr ?_; exact ⟨pe, hA⟩)
  case' k10_9 => clear hA; intro w hA; refine rn ?_
  first | refine' rl_T rfl hA ?o10_10 ?k10_10 | refine' rl_Tn rfl hA ?o10_10 ?k10_10
  case o10_10 => intro hg w hA; first | (refine ow_neq opr opr ?_; exact ⟨pe, hA⟩) | (refine ow_neqs opr opr ?_; exact ⟨pe, hA⟩) | (refine t_neqb opr opr ?_; exact ⟨pe, hA⟩)
  case' k10_10 => clear hA; intro w hA; refine rn ?_
  first | refine' rl_T rfl hA ?o10_11 ?k10_11 | refine' rl_Tn rfl hA ?o10_11 ?k10_11
  case o10_11 => intro hg w hA; first | (refine ow_move_v opr ?_; exact ⟨pe, hA⟩)
  case' k10_11 => clear hA; intro w hA; refine rn ?_
  first | refine' rl_F rfl hA ?o10_12 ?k10_12 | refine' rl_Fn rfl hA ?o10_12 ?k10_12
  case o10_12 => intro hg w hA; first | (refine t_loadx opr hA ?_; exact ⟨pe, hA⟩) | (refine t_loada opr hA ?_; exact ⟨pe, hA⟩)
  case' k10_12 => clear hA; intro w hA; refine rn ?_
  first | refine' rl_F rfl hA ?o10_13 ?k10_13 | refine' rl_Fn rfl hA ?o10_13 ?k10_13
  case o10_13 => intro hg w hA; first | (refine t_loadx opr hA ?_; exact ⟨pe, hA⟩) | (refine t_loada opr hA ?_; exact ⟨pe, hA⟩)
  case' k10_13 => clear hA; intro w hA; refine rn ?_
  first | refine' rl_F rfl hA ?o10_14 ?k10_14 | refine' rl_Fn rfl hA ?o10_14 ?k10_14
  case o10_14 => intro hg w hA; first | (refine ow_call Tryd.call23 (evs2 opr opr) ((equalMb_calls m m r2 v2 u2 r vv u _ _ _ hA hm2 hm1).mono ?_); clear hA; rintro e w ⟨rfl, hA⟩; refine ⟨_, rfl, ?_⟩; exact ⟨put_eq (by rfl), hA⟩)
  case' k10_14 => clear hA; intro w hA; refine rn ?_
  first | refine' rl_F rfl hA ?o10_15 ?k10_15 | refine' rl_Fn rfl hA ?o10_15 ?k10_15
  case o10_15 => intro hg w hA; first | (refine ow_not opr ?_; exact ⟨pe, hA⟩) | (refine ow_neg opr ?_; exact ⟨pe, hA⟩)
  case' k10_15 => clear hA; intro w hA; refine rn ?_
  first | refine' rl_T rfl hA ?o10_16 ?k10_16 | refine' rl_Tn rfl hA ?o10_16 ?k10_16
  case o10_16 => intro hg w hA; first | (refine ow_or opr rfl (by first | rfl | exact sel_in rfl hg) ?_; exact ⟨pe, hA⟩) | (refine ow_pick opr opr opr ?_; exact ⟨pe, hA⟩)
  case' k10_16 => clear hA; intro w hA; refine rn ?_
  first | refine' rl_F rfl hA ?o10_17 ?k10_17 | refine' rl_Fn rfl hA ?o10_17 ?k10_17
  case o10_17 => intro hg w hA; first | (refine ow_and opr (by first | rfl | exact sel_in rfl hg) rfl ?_; exact ⟨pe, hA⟩) | (refine ow_pick opr opr opr ?_; exact ⟨pe, hA⟩)
  case' k10_17 => clear hA; intro w hA; refine rn ?_
  refine' rl_v hA ?o10_18 ?k10_18
  case o10_18 => intro w hA; first | (refine ow_or rfl rfl (by first | rfl) ?_; exact ⟨pe, hA⟩) | (refine ow_pick rfl rfl rfl ?_; exact ⟨pe, hA⟩)
  case' k10_18 => clear hA; intro w hA; refine rn ?_
  refine' rl_v hA ?o10_19 ?k10_19
  case o10_19 => intro w hA; first | (refine ow_move_v rfl ?_; exact ⟨pe, hA⟩)
  case' k10_19 => clear hA; intro w hA; refine rn ?_
  first | refine' rl_F rfl hA ?o10_20 ?k10_20 | refine' rl_Fn rfl hA ?o10_20 ?k10_20
  case o10_20 => intro hg w hA; first | (refine ow_move_v opr ?_; exact ⟨pe, hA⟩)
  case' k10_20 => clear hA; intro w hA; refine rn ?_
  first | refine' rl_F rfl hA ?o10_21 ?k10_21 | refine' rl_Fn rfl hA ?o10_21 ?k10_21
  case o10_21 => intro hg w hA; first | (refine ow_move_v opr ?_; exact ⟨pe, hA⟩)
  case' k10_21 => clear hA; intro w hA; refine rn ?_
  first | refine' rl_F rfl hA ?o10_22 ?k10_22 | refine' rl_Fn rfl hA ?o10_22 ?k10_22
  case o10_22 => intro hg w hA; first | (refine t_len_str opr ?_; exact ⟨pe, hA⟩) | (refine t_len_slice opr ?_; exact ⟨pe, hA⟩) | (refine t_lenS opr (by assumption) ?_; exact ⟨pe, hA⟩)
  case' k10_22 => clear hA; intro w hA; refine rn ?_
  first | refine' rl_F rfl hA ?o10_23 ?k10_23 | refine' rl_Fn rfl hA ?o10_23 ?k10_23
  case o10_23 => intro hg w hA; first | (refine ow_eql opr opr ?_; exact ⟨pe, hA⟩) | (refine ow_eqs opr opr ?_; exact ⟨pe, hA⟩) | (refine t_eqlb opr opr ?_; exact ⟨pe, hA⟩)
  case' k10_23 => clear hA; intro w hA; refine rn ?_
  first | refine' rl_F rfl hA ?o10_24 ?k10_24 | refine' rl_Fn rfl hA ?o10_24 ?k10_24
  case o10_24 => intro hg w hA; first | (refine ow_move_v opr ?_; exact ⟨pe, hA⟩)
  case' k10_24 => clear hA; intro w hA; refine rn ?_
  first | refine' rl_T rfl hA ?o10_25 ?k10_25 | refine' rl_Tn rfl hA ?o10_25 ?k10_25
  case o10_25 => intro hg w hA; first | (refine t_loadx opr hA ?_; exact ⟨pe, hA⟩) | (refine t_loada opr hA ?_; exact ⟨pe, hA⟩)
  case' k10_25 => clear hA; intro w hA; refine rn ?_
  first | refine' rl_T rfl hA ?o10_26 ?k10_26 | refine' rl_Tn rfl hA ?o10_26 ?k10_26
  case o10_26 => intro hg w hA; first | (refine t_loadx opr hA ?_; exact ⟨pe, hA⟩) | (refine t_loada opr hA ?_; exact ⟨pe, hA⟩)
  case' k10_26 => clear hA; intro w hA; refine rn ?_
  first | refine' rl_T rfl hA ?o10_27 ?k10_27 | refine' rl_Tn rfl hA ?o10_27 ?k10_27
  case o10_27 => intro hg w hA; first | (refine ow_call Tryd.call23 (evs2 opr opr) ((equalMb_calls m m r2 v2 u2 r vv u _ _ _ hA hm2 hm1).mono ?_); clear hA; rintro e w ⟨rfl, hA⟩; refine ⟨_, rfl, ?_⟩; exact ⟨put_eq (by rfl), hA⟩)
  case' k10_27 => clear hA; intro w hA; refine rn ?_
  first | refine' rl_T rfl hA ?o10_28 ?k10_28 | refine' rl_Tn rfl hA ?o10_28 ?k10_28
  case o10_28 => intro hg w hA; first | (refine ow_not opr ?_; exact ⟨pe, hA⟩) | (refine ow_neg opr ?_; exact ⟨pe, hA⟩)
  case' k10_28 => clear hA; intro w hA; refine rn ?_
  first | refine' rl_F rfl hA ?o10_29 ?k10_29 | refine' rl_Fn rfl hA ?o10_29 ?k10_29
  case o10_29 => intro hg w hA; first | (refine ow_and opr (by first | rfl | exact sel_in rfl hg) rfl ?_; exact ⟨pe, hA⟩) | (refine ow_pick opr opr opr ?_; exact ⟨pe, hA⟩)
  case' k10_29 => clear hA; intro w hA; refine rn ?_
  refine' rl_v hA ?o10_30 ?k10_30
  case o10_30 => intro w hA; first | (refine ow_or rfl rfl (by first | rfl) ?_; exact ⟨pe, hA⟩) | (refine ow_pick rfl rfl rfl ?_; exact ⟨pe, hA⟩)
  case' k10_30 => clear hA; intro w hA; refine rn ?_
  refine rl_nil ?_
  refine tq_normal ?_
  refine wc_bb rfl (fun h => ?_) (fun h => ?_)
  · exfalso
    simp at h
    omega
  clear h
  by_cases hult : ud < s.length
  · have hKl : K < s.length := by omega
    have hKu : K = ud := by omega
    have ht2 : mbP intra n (strm (s.take ((ud : Int)).toNat ++ t)) 0 = (m, K) := by rw [Int.toNat_natCast, ← hKu]; exact hcut t hKl
    have hl2 : (s.take ((ud : Int)).toNat ++ t).length = ud + t.length := by rw [Int.toNat_natCast, List.length_append, List.length_take]; omega
    have hmin2 : ((min K (s.take ((ud : Int)).toNat ++ t).length : Nat) : Int) = (ud : Int) := by rw [hl2]; omega
    repeat' (first | (refine g_ow ?_; refine t_slice_to rfl rfl (by omega) ?_; refine rn ?_) | (refine g_bin ?_; refine ow_cat rfl rfl (by rw [List.length_take]; omega) ?_; refine rn ?_) | (refine g_callf 36 ?_; refine ow_call Tryd.call36 rfl ((script_calls (s.take ((ud : Int)).toNat ++ t) intra n _ _ _ hv (by omega) hA hG2).mono ?_); clear hA; (try clear w); rintro e w ⟨E3, r3, v3, u3, rfl, hE3, hm3, hA⟩; refine ⟨_, rfl, ?_⟩; (try rw [ht2] at hm3 ⊢; dsimp only at hm3 ⊢; rw [hmin2]; have o4 := hm3.refs.one; have o5 := hm3.mvds.one; have o6 := hm3.blocks.one); refine rn ?_) | refine st ?_ | (refine wc_regionS 14 rfl ?_; refine wc_region ?_) | (refine su ?_; refine rn ?_) | (refine g_conv ?_; refine p_c hA ?_; refine rn ?_) | (refine g_load ?_; (first | refine t_loadx rfl hA ?_ | refine t_loada rfl hA ?_); refine rn ?_) | (refine g_call ?_; refine t_appx rfl rfl hA rfl ?_; clear hA; (try clear w); intro v w hA hone hnil; refine h_n hA ?_; clear hA; intro hA; refine rn ?_) | (refine g_store ?_; (first | refine t_storex rfl rfl hA ?_ | refine t_storea rfl rfl hA ?_); clear hA; (try clear w); intro w hA; refine h_m hA ?_; clear hA; intro hA; refine rn ?_) | (refine g_ow ?_; (first | refine t_alloc hA ?_ | refine ow_box rfl rfl hA ?_ | refine t_buildSlice rfl (by decide) rfl hA ?_); clear hA; (try clear w); intro b w hA; refine h_n hA ?_; clear hA; intro hA; refine rn ?_) | (refine g_ow ?_; refine t_make rfl rfl (by omega) (by omega) hA ?_; clear hA; (try clear w); intro v w hA hone hnil; refine rn ?_) | refine wc_pp rfl (fun h => ?_) (fun h => ?_) | refine wc_nn rfl (fun h => ?_) (fun h => ?_) | refine rl_pp rfl (fun h => o_n ?_) (fun h => rn ?_) | refine rl_qq rfl (fun h => o_n ?_) (fun h => rn ?_) | refine rl_nn rfl (fun h => o_n ?_) (fun h => rn ?_) | refine rl_mm rfl (fun h => o_n ?_) (fun h => rn ?_))
    generalize hb3 : b = b3 at *
    clear hb3
    have hm3' := hm3.mono (Env.sub_le _ _)
    refine wc_region ?_
    refine' rl_v hA ?o14_0 ?k14_0
    case o14_0 => intro w hA; first | (refine ow_move_v rfl ?_; exact ⟨pe, hA⟩)
    case' k14_0 => clear hA; intro w hA; refine rn ?_
    refine' rl_v hA ?o14_1 ?k14_1
    case o14_1 => intro w hA; first | (refine ow_neq rfl rfl ?_; exact ⟨pe, hA⟩) | (refine ow_neqs rfl rfl ?_; exact ⟨pe, hA⟩) | (refine t_neqb rfl rfl ?_; exact ⟨pe, hA⟩)
    case' k14_1 => clear hA; intro w hA; refine rn ?_
    refine' rl_v hA ?o14_2 ?k14_2
    case o14_2 => intro w hA; first | (refine ow_move_v rfl ?_; exact ⟨pe, hA⟩)
    case' k14_2 => clear hA; intro w hA; refine rn ?_
    first | refine' rl_F rfl hA ?o14_3 ?k14_3 | refine' rl_Fn rfl hA ?o14_3 ?k14_3
    case o14_3 => intro hg w hA; first | (refine ow_move_v opr ?_; exact ⟨pe, hA⟩)
    case' k14_3 => clear hA; intro w hA; refine rn ?_
    first | refine' rl_F rfl hA ?o14_4 ?k14_4 | refine' rl_Fn rfl hA ?o14_4 ?k14_4
    case o14_4 => intro hg w hA; first | (refine ow_move_v opr ?_; exact ⟨pe, hA⟩)
    case' k14_4 => clear hA; intro w hA; refine rn ?_
    first | refine' rl_F rfl hA ?o14_5 ?k14_5 | refine' rl_Fn rfl hA ?o14_5 ?k14_5
    case o14_5 => intro hg w hA; first | (refine ow_neq opr opr ?_; exact ⟨pe, hA⟩) | (refine ow_neqs opr opr ?_; exact ⟨pe, hA⟩) | (refine t_neqb opr opr ?_; exact ⟨pe, hA⟩)
    case' k14_5 => clear hA; intro w hA; refine rn ?_
    refine' rl_v hA ?o14_6 ?k14_6
    case o14_6 => intro w hA; first | (refine ow_or rfl rfl (by first | rfl) ?_; exact ⟨pe, hA⟩) | (refine ow_pick rfl rfl rfl ?_; exact ⟨pe, hA⟩)
    case' k14_6 => clear hA; intro w hA; refine rn ?_
    refine' rl_v hA ?o14_7 ?k14_7
    case o14_7 => intro w hA; first | (refine ow_move_v rfl ?_; exact ⟨pe, hA⟩)
    case' k14_7 => clear hA; intro w hA; refine rn ?_
    first | refine' rl_F rfl hA ?o14_8 ?k14_8 | refine' rl_Fn rfl hA ?o14_8 ?k14_8
    case o14_8 => intro hg w hA; first | (refine t_loadx opr hA ?_; exact ⟨pe, hA⟩) | (refine t_loada opr hA ?_; exact ⟨pe, hA⟩)
    case' k14_8 => clear hA; intro w hA; refine rn ?_
    first | refine' rl_F rfl hA ?o14_9 ?k14_9 | refine' rl_Fn rfl hA ?o14_9 ?k14_9
    case o14_9 => intro hg w hA; first | (refine t_loadx opr hA ?_; exact ⟨pe, hA⟩) | (refine t_loada opr hA ?_; exact ⟨pe, hA⟩)
    case' k14_9 => clear hA; intro w hA; refine rn ?_
    first | refine' rl_F rfl hA ?o14_10 ?k14_10 | refine' rl_Fn rfl hA ?o14_10 ?k14_10
    case o14_10 => intro hg w hA; first | (refine ow_call Tryd.call23 (evs2 opr opr) ((equalMb_calls m m r3 v3 u3 r vv u _ _ _ hA hm3' (hm1.mono hE3)).mono ?_); clear hA; rintro e w ⟨rfl, hA⟩; refine ⟨_, rfl, ?_⟩; exact ⟨put_eq (by rfl), hA⟩)
    case' k14_10 => clear hA; intro w hA; refine rn ?_
    first | refine' rl_F rfl hA ?o14_11 ?k14_11 | refine' rl_Fn rfl hA ?o14_11 ?k14_11
    case o14_11 => intro hg w hA; first | (refine ow_not opr ?_; exact ⟨pe, hA⟩) | (refine ow_neg opr ?_; exact ⟨pe, hA⟩)
    case' k14_11 => clear hA; intro w hA; refine rn ?_
    refine' rl_v hA ?o14_12 ?k14_12
    case o14_12 => intro w hA; first | (refine ow_or rfl rfl (by first | rfl) ?_; exact ⟨pe, hA⟩) | (refine ow_pick rfl rfl rfl ?_; exact ⟨pe, hA⟩)
    case' k14_12 => clear hA; intro w hA; refine rn ?_
    refine rl_nil ?_
    refine tq_normal ?_
    refine wc_bb rfl (fun h => ?_) (fun h => ?_)
    · exfalso
      simp at h
    clear h
    repeat' (first | (refine g_callf 35 ?_; refine ow_call Tryd.call35 rfl ((known_calls _ _ _ hA (hG2.mono hE3)).mono ?_); clear hA; (try clear w); rintro e w ⟨rfl, hA⟩; refine ⟨_, rfl, ?_⟩; refine rn ?_) | refine st ?_ | (refine wc_region ?_) | (refine su ?_; refine rn ?_) | (refine g_conv ?_; refine p_c hA ?_; refine rn ?_) | (refine g_load ?_; (first | refine t_loadx rfl hA ?_ | refine t_loada rfl hA ?_); refine rn ?_) | (refine g_call ?_; refine t_appx rfl rfl hA rfl ?_; clear hA; (try clear w); intro v w hA hone hnil; refine h_n hA ?_; clear hA; intro hA; refine rn ?_) | (refine g_store ?_; (first | refine t_storex rfl rfl hA ?_ | refine t_storea rfl rfl hA ?_); clear hA; (try clear w); intro w hA; refine h_m hA ?_; clear hA; intro hA; refine rn ?_) | (refine g_ow ?_; (first | refine t_alloc hA ?_ | refine ow_box rfl rfl hA ?_ | refine t_buildSlice rfl (by decide) rfl hA ?_); clear hA; (try clear w); intro b w hA; refine h_n hA ?_; clear hA; intro hA; refine rn ?_) | (refine g_ow ?_; refine t_make rfl rfl (by omega) (by omega) hA ?_; clear hA; (try clear w); intro v w hA hone hnil; refine rn ?_) | refine wc_pp rfl (fun h => ?_) (fun h => ?_) | refine wc_nn rfl (fun h => ?_) (fun h => ?_) | refine rl_pp rfl (fun h => o_n ?_) (fun h => rn ?_) | refine rl_qq rfl (fun h => o_n ?_) (fun h => rn ?_) | refine rl_nn rfl (fun h => o_n ?_) (fun h => rn ?_) | refine rl_mm rfl (fun h => o_n ?_) (fun h => rn ?_))
    exact ret1 ((hA.le (hE02.trans hE3)).dropN 3) rfl rfl
  · repeat' (first | (refine g_callf 35 ?_; refine ow_call Tryd.call35 rfl ((known_calls _ _ _ hA hG2).mono ?_); clear hA; (try clear w); rintro e w ⟨rfl, hA⟩; refine ⟨_, rfl, ?_⟩; refine rn ?_) | refine st ?_ | (refine wc_region ?_) | (refine su ?_; refine rn ?_) | (refine g_conv ?_; refine p_c hA ?_; refine rn ?_) | (refine g_load ?_; (first | refine t_loadx rfl hA ?_ | refine t_loada rfl hA ?_); refine rn ?_) | (refine g_call ?_; refine t_appx rfl rfl hA rfl ?_; clear hA; (try clear w); intro v w hA hone hnil; refine h_n hA ?_; clear hA; intro hA; refine rn ?_) | (refine g_store ?_; (first | refine t_storex rfl rfl hA ?_ | refine t_storea rfl rfl hA ?_); clear hA; (try clear w); intro w hA; refine h_m hA ?_; clear hA; intro hA; refine rn ?_) | (refine g_ow ?_; (first | refine t_alloc hA ?_ | refine ow_box rfl rfl hA ?_ | refine t_buildSlice rfl (by decide) rfl hA ?_); clear hA; (try clear w); intro b w hA; refine h_n hA ?_; clear hA; intro hA; refine rn ?_) | (refine g_ow ?_; refine t_make rfl rfl (by omega) (by omega) hA ?_; clear hA; (try clear w); intro v w hA hone hnil; refine rn ?_) | refine wc_pp rfl (fun h => ?_) (fun h => ?_) | refine wc_nn rfl (fun h => ?_) (fun h => ?_) | refine rl_pp rfl (fun h => o_n ?_) (fun h => rn ?_) | refine rl_qq rfl (fun h => o_n ?_) (fun h => rn ?_) | refine rl_nn rfl (fun h => o_n ?_) (fun h => rn ?_) | refine rl_mm rfl (fun h => o_n ?_) (fun h => rn ?_))
    exact ret1 ((hA.le hE02).dropN 2) rfl rfl
end Go.Proofs.YtomfoaaaeidpnaaDoor
