/-
  spindlelaw40.ScriptKinds, walked.
-/
import Derived.Test.YtomfoaaaeidpnaaDoorS10
set_option linter.unusedVariables false
set_option linter.unusedSimpArgs false
namespace Go.Proofs.YtomfoaaaeidpnaaDoor
open Go Go.RowKit
attribute [local irreducible] WC RL OW bodyPostM ThenQ BlockQ LoopQ ScopeQ
theorem kind_nat (intra : Bool) (refs : Nat) (f : UInt8) (s : List UInt8) : ((mbP intra refs (strm (f :: s)) 0).1.kind.toNat : Int) = (f.toNat : Int) % (if intra then 3 else 8) := by
  have hf := f.toNat_lt
  rw [mbP_kind]
  show ((UInt8.ofNat ((strm (f :: s) 0).toNat % _)).toNat : Int) = _
  rw [show strm (f :: s) 0 = f from rfl, UInt8.toNat_ofNat']
  cases intra
  · show ((f.toNat % 8 % 256 : Nat) : Int) = (f.toNat : Int) % 8
    omega
  · show ((f.toNat % 3 % 256 : Nat) : Int) = (f.toNat : Int) % 3
    omega
set_option maxRecDepth 16000 in
set_option maxHeartbeats 8000000 in
theorem scriptKinds_calls (f : UInt8) (s : List UInt8) (E : Env) (L : List Item) (w : World) (hA : Sat E L w) (hG : SzG E) :
    Calls Tryd.prog 11 ⟨[u8 f, vs s]⟩ w (Ret E L (.bool true)) := by
  have hf := f.toNat_lt
  have hk1 := kind_nat true 0 f s
  have hk2 := kind_nat false 1 f s
  rw [if_pos rfl] at hk1
  rw [if_neg (by decide)] at hk2
  refine enter (fn := Tryd.f11) Tryd.func11 rfl 56 rfl [u8 f, vs s, undef, undef, undef, undef, undef, undef, undef, undef, undef, undef, undef, undef, undef, undef, undef, undef, undef, undef, undef, undef, undef, undef, undef, undef, undef, undef, undef, undef, undef, undef, undef, undef, undef, undef, undef, undef, undef, undef, undef, undef, undef, undef, undef, undef, undef, undef, undef, undef, undef, undef, undef, undef, undef, undef] rfl ?_
  by_cases h500 : 500 < s.length
  · repeat' (first | (refine g_callf 35 ?_; refine ow_call Tryd.call35 rfl ((known_calls _ _ _ hA hG).mono ?_); clear hA; (try clear w); rintro e w ⟨rfl, hA⟩; refine ⟨_, rfl, ?_⟩; refine rn ?_) | refine st ?_ | (refine wc_region ?_) | (refine su ?_; refine rn ?_) | (refine g_conv ?_; refine p_c hA ?_; refine rn ?_) | (refine g_load ?_; (first | refine t_loadx rfl hA ?_ | refine t_loada rfl hA ?_); refine rn ?_) | (refine g_call ?_; refine t_appx rfl rfl hA rfl ?_; clear hA; (try clear w); intro v w hA hone hnil; refine h_n hA ?_; clear hA; intro hA; refine rn ?_) | (refine g_store ?_; (first | refine t_storex rfl rfl hA ?_ | refine t_storea rfl rfl hA ?_); clear hA; (try clear w); intro w hA; refine h_m hA ?_; clear hA; intro hA; refine rn ?_) | (refine g_ow ?_; (first | refine t_alloc hA ?_ | refine ow_box rfl rfl hA ?_ | refine t_buildSlice rfl (by decide) rfl hA ?_); clear hA; (try clear w); intro b w hA; refine h_n hA ?_; clear hA; intro hA; refine rn ?_) | (refine g_ow ?_; refine t_make rfl rfl (by omega) (by omega) hA ?_; clear hA; (try clear w); intro v w hA hone hnil; refine rn ?_) | refine wc_pp rfl (fun h => ?_) (fun h => ?_) | refine wc_nn rfl (fun h => ?_) (fun h => ?_) | refine rl_pp rfl (fun h => o_n ?_) (fun h => rn ?_) | refine rl_qq rfl (fun h => o_n ?_) (fun h => rn ?_) | refine rl_nn rfl (fun h => o_n ?_) (fun h => rn ?_) | refine rl_mm rfl (fun h => o_n ?_) (fun h => rn ?_))
    exact ret1 hA rfl rfl
  have hs : (f :: s).length ≤ 1000000 := by rw [List.length_cons]; omega
  repeat' (first | (refine g_ow ?_; refine t_cells_str 0 (s := [f]) rfl hA rfl rfl rfl ?_; refine rn ?_) | (refine g_bin ?_; refine ow_cat rfl rfl (by simp; omega) ?_; refine rn ?_) | refine st ?_ | (refine wc_regionS 4 rfl ?_; refine wc_region ?_) | (refine su ?_; refine rn ?_) | (refine g_conv ?_; refine p_c hA ?_; refine rn ?_) | (refine g_load ?_; (first | refine t_loadx rfl hA ?_ | refine t_loada rfl hA ?_); refine rn ?_) | (refine g_call ?_; refine t_appx rfl rfl hA rfl ?_; clear hA; (try clear w); intro v w hA hone hnil; refine h_n hA ?_; clear hA; intro hA; refine rn ?_) | (refine g_store ?_; (first | refine t_storex rfl rfl hA ?_ | refine t_storea rfl rfl hA ?_); clear hA; (try clear w); intro w hA; refine h_m hA ?_; clear hA; intro hA; refine rn ?_) | (refine g_ow ?_; (first | refine t_alloc hA ?_ | refine ow_box rfl rfl hA ?_ | refine t_buildSlice rfl (by decide) rfl hA ?_); clear hA; (try clear w); intro b w hA; refine h_n hA ?_; clear hA; intro hA; refine rn ?_) | (refine g_ow ?_; refine t_make rfl rfl (by omega) (by omega) hA ?_; clear hA; (try clear w); intro v w hA hone hnil; refine rn ?_) | refine wc_pp rfl (fun h => ?_) (fun h => ?_) | refine wc_nn rfl (fun h => ?_) (fun h => ?_) | refine rl_pp rfl (fun h => o_n ?_) (fun h => rn ?_) | refine rl_qq rfl (fun h => o_n ?_) (fun h => rn ?_) | refine rl_nn rfl (fun h => o_n ?_) (fun h => rn ?_) | refine rl_mm rfl (fun h => o_n ?_) (fun h => rn ?_))
  have hA := hA.tail
  repeat' (first | (refine g_callf 36 ?_; refine ow_call Tryd.call36 rfl ((script_calls (f :: s) true 0 _ _ _ (.inl ⟨rfl, rfl⟩) hs hA hG).mono ?_); clear hA; (try clear w); rintro e w ⟨E1, r, vv, u, rfl, hE1, hm, hA⟩; refine ⟨_, rfl, ?_⟩; (try have o1 := hm.refs.one; have o2 := hm.mvds.one; have o3 := hm.blocks.one); refine rn ?_) | refine st ?_ | (refine wc_regionS 5 rfl ?_; refine wc_region ?_) | (refine su ?_; refine rn ?_) | (refine g_conv ?_; refine p_c hA ?_; refine rn ?_) | (refine g_load ?_; (first | refine t_loadx rfl hA ?_ | refine t_loada rfl hA ?_); refine rn ?_) | (refine g_call ?_; refine t_appx rfl rfl hA rfl ?_; clear hA; (try clear w); intro v w hA hone hnil; refine h_n hA ?_; clear hA; intro hA; refine rn ?_) | (refine g_store ?_; (first | refine t_storex rfl rfl hA ?_ | refine t_storea rfl rfl hA ?_); clear hA; (try clear w); intro w hA; refine h_m hA ?_; clear hA; intro hA; refine rn ?_) | (refine g_ow ?_; (first | refine t_alloc hA ?_ | refine ow_box rfl rfl hA ?_ | refine t_buildSlice rfl (by decide) rfl hA ?_); clear hA; (try clear w); intro b w hA; refine h_n hA ?_; clear hA; intro hA; refine rn ?_) | (refine g_ow ?_; refine t_make rfl rfl (by omega) (by omega) hA ?_; clear hA; (try clear w); intro v w hA hone hnil; refine rn ?_) | refine wc_pp rfl (fun h => ?_) (fun h => ?_) | refine wc_nn rfl (fun h => ?_) (fun h => ?_) | refine rl_pp rfl (fun h => o_n ?_) (fun h => rn ?_) | refine rl_qq rfl (fun h => o_n ?_) (fun h => rn ?_) | refine rl_nn rfl (fun h => o_n ?_) (fun h => rn ?_) | refine rl_mm rfl (fun h => o_n ?_) (fun h => rn ?_))
  generalize hb1 : b = b1 at *
  clear hb1
  generalize mbP true 0 (strm (f :: s)) 0 = R1 at *
  obtain ⟨m1, n1⟩ := R1
  dsimp only at hm hA hk1 o1 o2 o3
  have hG1 := hG.mono hE1
  repeat' (first | (refine g_callf 36 ?_; refine ow_call Tryd.call36 rfl ((script_calls (f :: s) false 1 _ _ _ (.inr ⟨rfl, by decide, by decide⟩) hs hA hG1).mono ?_); clear hA; (try clear w); rintro e w ⟨E2, r2, vv2, u2, rfl, hE2, hm2, hA⟩; refine ⟨_, rfl, ?_⟩; (try have o4 := hm2.refs.one; have o5 := hm2.mvds.one; have o6 := hm2.blocks.one); refine rn ?_) | refine st ?_ | (refine wc_regionS 6 rfl ?_; refine wc_region ?_) | (refine su ?_; refine rn ?_) | (refine g_conv ?_; refine p_c hA ?_; refine rn ?_) | (refine g_load ?_; (first | refine t_loadx rfl hA ?_ | refine t_loada rfl hA ?_); refine rn ?_) | (refine g_call ?_; refine t_appx rfl rfl hA rfl ?_; clear hA; (try clear w); intro v w hA hone hnil; refine h_n hA ?_; clear hA; intro hA; refine rn ?_) | (refine g_store ?_; (first | refine t_storex rfl rfl hA ?_ | refine t_storea rfl rfl hA ?_); clear hA; (try clear w); intro w hA; refine h_m hA ?_; clear hA; intro hA; refine rn ?_) | (refine g_ow ?_; (first | refine t_alloc hA ?_ | refine ow_box rfl rfl hA ?_ | refine t_buildSlice rfl (by decide) rfl hA ?_); clear hA; (try clear w); intro b w hA; refine h_n hA ?_; clear hA; intro hA; refine rn ?_) | (refine g_ow ?_; refine t_make rfl rfl (by omega) (by omega) hA ?_; clear hA; (try clear w); intro v w hA hone hnil; refine rn ?_) | refine wc_pp rfl (fun h => ?_) (fun h => ?_) | refine wc_nn rfl (fun h => ?_) (fun h => ?_) | refine rl_pp rfl (fun h => o_n ?_) (fun h => rn ?_) | refine rl_qq rfl (fun h => o_n ?_) (fun h => rn ?_) | refine rl_nn rfl (fun h => o_n ?_) (fun h => rn ?_) | refine rl_mm rfl (fun h => o_n ?_) (fun h => rn ?_))
  generalize hb2 : b = b2 at *
  clear hb2
  generalize mbP false 1 (strm (f :: s)) 0 = R2 at *
  obtain ⟨m2, n2⟩ := R2
  dsimp only at hm2 hA hk2 o4 o5 o6
  have hG2 := hG1.mono hE2
  refine wc_region ?_
  refine' rl_v hA ?o6_0 ?k6_0
  case o6_0 => intro w hA; first | (refine ow_move_v rfl ?_; exact ⟨pe, hA⟩)
  case' k6_0 => clear hA; intro w hA; refine rn ?_
  refine' rl_v hA ?o6_1 ?k6_1
  case o6_1 => intro w hA; first | (refine ow_eql rfl rfl ?_; exact ⟨pe, hA⟩) | (refine ow_eqs rfl rfl ?_; exact ⟨pe, hA⟩) | (refine t_eqlb rfl rfl ?_; exact ⟨pe, hA⟩)
  case' k6_1 => clear hA; intro w hA; refine rn ?_
  refine' rl_v hA ?o6_2 ?k6_2
  case o6_2 => intro w hA; first | (refine ow_move_v rfl ?_; exact ⟨pe, hA⟩)
  case' k6_2 => clear hA; intro w hA; refine rn ?_
  first | refine' rl_T rfl hA ?o6_3 ?k6_3 | refine' rl_Tn rfl hA ?o6_3 ?k6_3
  case o6_3 => intro hg w hA; first | (refine ow_move_v opr ?_; exact ⟨pe, hA⟩)
  case' k6_3 => clear hA; intro w hA; refine rn ?_
  first | refine' rl_T rfl hA ?o6_4 ?k6_4 | refine' rl_Tn rfl hA ?o6_4 ?k6_4
  case o6_4 => intro hg w hA; first | (refine ow_eql opr opr ?_; exact ⟨pe, hA⟩) | (refine ow_eqs opr opr ?_; exact ⟨pe, hA⟩) | (refine t_eqlb opr opr ?_; exact ⟨pe, hA⟩)
  case' k6_4 => clear hA; intro w hA; refine rn ?_
  refine' rl_v hA ?o6_5 ?k6_5
  case o6_5 => intro w hA; first | (refine ow_and rfl (by first | rfl) rfl ?_; exact ⟨pe, hA⟩) | (refine ow_pick rfl rfl rfl ?_; exact ⟨pe, hA⟩)
  case' k6_5 => clear hA; intro w hA; refine rn ?_
  refine' rl_v hA ?o6_6 ?k6_6
  case o6_6 => intro w hA; first | (refine ow_move_v rfl ?_; exact ⟨pe, hA⟩)
  case' k6_6 => clear hA; intro w hA; refine rn ?_
  first | refine' rl_T rfl hA ?o6_7 ?k6_7 | refine' rl_Tn rfl hA ?o6_7 ?k6_7
  case o6_7 => intro hg w hA; first | (refine t_fieldAddr opr ?_; exact ⟨pe, hA⟩)
  case' k6_7 => clear hA; intro w hA; refine rn ?_
  first | refine' rl_T rfl hA ?o6_8 ?k6_8 | refine' rl_Tn rfl hA ?o6_8 ?k6_8
  case o6_8 => intro hg w hA; first | (refine t_loadx opr hA ?_; exact ⟨pe, hA⟩) | (refine t_loada opr hA ?_; exact ⟨pe, hA⟩)
  case' k6_8 => clear hA; intro w hA; refine rn ?_
  first | refine' rl_T rfl hA ?o6_9 ?k6_9 | refine' rl_Tn rfl hA ?o6_9 ?k6_9
  case o6_9 => intro hg w hA; first | (refine ow_move_v opr ?_; exact ⟨pe, hA⟩)
  case' k6_9 => clear hA; intro w hA; refine rn ?_
  first | refine' rl_T rfl hA ?o6_10 ?k6_10 | refine' rl_Tn rfl hA ?o6_10 ?k6_10
  case o6_10 => intro hg w hA; first | (refine ow_remp opr opr (by omega) ?_; exact ⟨pe, hA⟩)
  case' k6_10 => clear hA; intro w hA; refine rn ?_
  first | refine' rl_T rfl hA ?o6_11 ?k6_11 | refine' rl_Tn rfl hA ?o6_11 ?k6_11
  case o6_11 => intro hg w hA; first | (refine ow_eql opr opr ?_; exact ⟨pe, hA⟩) | (refine ow_eqs opr opr ?_; exact ⟨pe, hA⟩) | (refine t_eqlb opr opr ?_; exact ⟨pe, hA⟩)
  case' k6_11 => clear hA; intro w hA; refine rn ?_
  refine' rl_v hA ?o6_12 ?k6_12
  case o6_12 => intro w hA; first | (refine ow_and rfl (by first | rfl) rfl ?_; exact ⟨pe, hA⟩) | (refine ow_pick rfl rfl rfl ?_; exact ⟨pe, hA⟩)
  case' k6_12 => clear hA; intro w hA; refine rn ?_
  refine' rl_v hA ?o6_13 ?k6_13
  case o6_13 => intro w hA; first | (refine ow_move_v rfl ?_; exact ⟨pe, hA⟩)
  case' k6_13 => clear hA; intro w hA; refine rn ?_
  first | refine' rl_T rfl hA ?o6_14 ?k6_14 | refine' rl_Tn rfl hA ?o6_14 ?k6_14
  case o6_14 => intro hg w hA; first | (refine t_fieldAddr opr ?_; exact ⟨pe, hA⟩)
  case' k6_14 => clear hA; intro w hA; refine rn ?_
  first | refine' rl_T rfl hA ?o6_15 ?k6_15 | refine' rl_Tn rfl hA ?o6_15 ?k6_15
  case o6_15 => intro hg w hA; first | (refine t_loadx opr hA ?_; exact ⟨pe, hA⟩) | (refine t_loada opr hA ?_; exact ⟨pe, hA⟩)
  case' k6_15 => clear hA; intro w hA; refine rn ?_
  first | refine' rl_T rfl hA ?o6_16 ?k6_16 | refine' rl_Tn rfl hA ?o6_16 ?k6_16
  case o6_16 => intro hg w hA; first | (refine ow_move_v opr ?_; exact ⟨pe, hA⟩)
  case' k6_16 => clear hA; intro w hA; refine rn ?_
  first | refine' rl_T rfl hA ?o6_17 ?k6_17 | refine' rl_Tn rfl hA ?o6_17 ?k6_17
  case o6_17 => intro hg w hA; first | (refine ow_remp opr opr (by omega) ?_; exact ⟨pe, hA⟩)
  case' k6_17 => clear hA; intro w hA; refine rn ?_
  first | refine' rl_T rfl hA ?o6_18 ?k6_18 | refine' rl_Tn rfl hA ?o6_18 ?k6_18
  case o6_18 => intro hg w hA; first | (refine ow_eql opr opr ?_; exact ⟨pe, hA⟩) | (refine ow_eqs opr opr ?_; exact ⟨pe, hA⟩) | (refine t_eqlb opr opr ?_; exact ⟨pe, hA⟩)
  case' k6_18 => clear hA; intro w hA; refine rn ?_
  refine' rl_v hA ?o6_19 ?k6_19
  case o6_19 => intro w hA; first | (refine ow_and rfl (by first | rfl) rfl ?_; exact ⟨pe, hA⟩) | (refine ow_pick rfl rfl rfl ?_; exact ⟨pe, hA⟩)
  case' k6_19 => clear hA; intro w hA; refine rn ?_
  refine' rl_v hA ?o6_20 ?k6_20
  case o6_20 => intro w hA; first | (refine ow_move_v rfl ?_; exact ⟨pe, hA⟩)
  case' k6_20 => clear hA; intro w hA; refine rn ?_
  first | refine' rl_T rfl hA ?o6_21 ?k6_21 | refine' rl_Tn rfl hA ?o6_21 ?k6_21
  case o6_21 => intro hg w hA; first | (refine ow_call Tryd.call35 rfl ((known_calls _ _ _ hA hG2).mono ?_); clear hA; rintro e w ⟨rfl, hA⟩; refine ⟨_, rfl, ?_⟩; exact ⟨put_eq (by rfl), hA⟩)
  case' k6_21 => clear hA; intro w hA; refine rn ?_
  refine' rl_v hA ?o6_22 ?k6_22
  case o6_22 => intro w hA; first | (refine ow_and rfl (by first | rfl) rfl ?_; exact ⟨pe, hA⟩) | (refine ow_pick rfl rfl rfl ?_; exact ⟨pe, hA⟩)
  case' k6_22 => clear hA; intro w hA; refine rn ?_
  refine' rl_v hA ?o6_23 ?k6_23
  case o6_23 => intro w hA; first | (refine ow_assign_v rfl ?_; exact ⟨pe, hA⟩)
  case' k6_23 => clear hA; intro w hA; refine rn ?_
  refine rl_nil ?_
  repeat' (first | refine st ?_ | (refine wc_region ?_) | (refine su ?_; refine rn ?_) | (refine g_conv ?_; refine p_c hA ?_; refine rn ?_) | (refine g_load ?_; (first | refine t_loadx rfl hA ?_ | refine t_loada rfl hA ?_); refine rn ?_) | (refine g_call ?_; refine t_appx rfl rfl hA rfl ?_; clear hA; (try clear w); intro v w hA hone hnil; refine h_n hA ?_; clear hA; intro hA; refine rn ?_) | (refine g_store ?_; (first | refine t_storex rfl rfl hA ?_ | refine t_storea rfl rfl hA ?_); clear hA; (try clear w); intro w hA; refine h_m hA ?_; clear hA; intro hA; refine rn ?_) | (refine g_ow ?_; (first | refine t_alloc hA ?_ | refine ow_box rfl rfl hA ?_ | refine t_buildSlice rfl (by decide) rfl hA ?_); clear hA; (try clear w); intro b w hA; refine h_n hA ?_; clear hA; intro hA; refine rn ?_) | (refine g_ow ?_; refine t_make rfl rfl (by omega) (by omega) hA ?_; clear hA; (try clear w); intro v w hA hone hnil; refine rn ?_) | refine wc_pp rfl (fun h => ?_) (fun h => ?_) | refine wc_nn rfl (fun h => ?_) (fun h => ?_) | refine rl_pp rfl (fun h => o_n ?_) (fun h => rn ?_) | refine rl_qq rfl (fun h => o_n ?_) (fun h => rn ?_) | refine rl_nn rfl (fun h => o_n ?_) (fun h => rn ?_) | refine rl_mm rfl (fun h => o_n ?_) (fun h => rn ?_))
  exact ret1 ((hA.le (hE1.trans hE2)).dropN 2) rfl (by show Value.bool _ = Value.bool true; simp [hk1, hk2])
end Go.Proofs.YtomfoaaaeidpnaaDoor
