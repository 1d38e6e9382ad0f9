/-
  spindlelaw40.known, walked.
-/
import Derived.Test.YtomfoaaaeidpnaaDoorS9
import Derived.Test.YtomfoaaaeidpnaaDoorK3
import Derived.Test.YtomfoaaaeidpnaaDoorSlH
set_option linter.unusedVariables false
set_option linter.unusedSimpArgs false
namespace Go.Proofs.YtomfoaaaeidpnaaDoor
open Go Go.RowKit
attribute [local irreducible] WC RL OW bodyPostM ThenQ BlockQ LoopQ ScopeQ
def kM : Mb := ⟨3, 0, 0, vec16 [], vec4 [], [0], [⟨1, -1⟩], 0, 0, [], []⟩
theorem known_mb : mbP false 1 (strm [3, 0, 1, 2, 0]) 0 = (kM, 5) := by kernel_rfl
theorem mbP_kind (intra : Bool) (refs : Nat) (σ : Nat → UInt8) (p : Nat) : (mbP intra refs σ p).1.kind = (u8P (if intra then 3 else 8) σ p).1 := by
  unfold mbP
  simp only [Par.bnd]
  generalize u8P (if intra then 3 else 8) σ p = k
  split
  · rename_i h
    exact (UInt8.toNat_inj.1 (h.trans rfl)).symm
  · split
    · rename_i h
      exact (UInt8.toNat_inj.1 (h.trans rfl)).symm
    · rfl
theorem min55 : ((min 5 [(3 : UInt8), 0, 1, 2, 0].length : Nat) : Int) = 5 := rfl
set_option maxRecDepth 16000 in
set_option maxHeartbeats 8000000 in
theorem known_calls (E : Env) (L : List Item) (w : World) (hA : Sat E L w) (hG : SzG E) :
    Calls Tryd.prog 35 ⟨[]⟩ w (Ret E L (.bool true)) := by
  refine enter (fn := Tryd.f35) Tryd.func35 rfl 23 rfl [undef, undef, undef, undef, undef, undef, undef, undef, undef, undef, undef, undef, undef, undef, undef, undef, undef, undef, undef, undef, undef, undef, undef] rfl ?_
  repeat' (first | (refine g_callf 36 ?_; refine ow_call Tryd.call36 rfl ((script_calls [3, 0, 1, 2, 0] false 1 _ _ _ (.inr ⟨rfl, by decide, by decide⟩) (by decide) hA hG).mono ?_); clear hA; (try clear w); rintro e w ⟨E1, r, vv, u, rfl, hE1, hm, hA⟩; refine ⟨_, rfl, ?_⟩; (try rw [known_mb] at hm ⊢; dsimp only at hm ⊢; rw [min55]; have o1 := hm.refs.one; have o2 := hm.mvds.one; have o3 := hm.blocks.one); refine rn ?_) | refine st ?_ | (refine wc_regionS 2 rfl ?_; refine wc_region ?_) | (refine su ?_; refine rn ?_) | (refine g_conv ?_; refine p_c hA ?_; refine rn ?_) | (refine g_load ?_; (first | refine t_loadx rfl hA ?_ | refine t_loada rfl hA ?_); refine rn ?_) | (refine g_call ?_; refine t_appx rfl rfl hA rfl ?_; clear hA; (try clear w); intro v w hA hone hnil; refine h_n hA ?_; clear hA; intro hA; refine rn ?_) | (refine g_store ?_; (first | refine t_storex rfl rfl hA ?_ | refine t_storea rfl rfl hA ?_); clear hA; (try clear w); intro w hA; refine h_m hA ?_; clear hA; intro hA; refine rn ?_) | (refine g_ow ?_; (first | refine t_alloc hA ?_ | refine ow_box rfl rfl hA ?_ | refine t_buildSlice rfl (by decide) rfl hA ?_); clear hA; (try clear w); intro b w hA; refine h_n hA ?_; clear hA; intro hA; refine rn ?_) | (refine g_ow ?_; refine t_make rfl rfl (by omega) (by omega) hA ?_; clear hA; (try clear w); intro v w hA hone hnil; refine rn ?_) | refine wc_pp rfl (fun h => ?_) (fun h => ?_) | refine wc_nn rfl (fun h => ?_) (fun h => ?_) | refine rl_pp rfl (fun h => o_n ?_) (fun h => rn ?_) | refine rl_qq rfl (fun h => o_n ?_) (fun h => rn ?_) | refine rl_nn rfl (fun h => o_n ?_) (fun h => rn ?_) | refine rl_mm rfl (fun h => o_n ?_) (fun h => rn ?_))
  generalize hb1 : b = b1 at *
  clear hb1
  have hm := hm.mono (Env.sub_le _ _)
  repeat' (first | (refine g_ow ?_; refine t_buildSlice rfl (by decide) rfl hA ?_; clear hA; intro bb w hA; obtain ⟨E2, hE2, hA, l1⟩ := hA.freezeLitE (R := intR) (xs := [0]) 0 rfl (cseVi (E := E1) (xs := [0]) (by decide)) (Nat.le_of_ble_eq_true rfl); replace hA : Sat E2 (cells b1 (mbC kM r vv u) 28 :: L) w := hA; simp only [List.length_cons, List.length_nil, Nat.zero_add] at l1; refine rn ?_) | (refine g_ow ?_; refine t_buildSlice rfl (by decide) rfl hA ?_; clear hA; intro bb w hA; obtain ⟨E3, hE3, hA, l2⟩ := hA.freezeLitE (R := vecR) (xs := [⟨1, -1⟩]) 0 rfl (CsE.of (R := vecR) (sz := 2) (f := fun v : Vec => [vi v.x, vi v.y]) (xs := [⟨1, -1⟩]) (fun _ => rfl) (by intro x hx; rw [List.mem_singleton.1 hx]; exact ⟨rfl, by decide, by decide⟩)) (Nat.le_of_ble_eq_true rfl); replace hA : Sat E3 (cells b1 (mbC kM r vv u) 28 :: L) w := hA; simp only [List.length_cons, List.length_nil, Nat.zero_add] at l2; have hE13 := hE2.trans hE3; have hmk : MbL E3 kM _ _ nilV := ⟨l1.mono hE3, l2, ListE.nil, by show I64 0; decide, Nat.zero_le _⟩; refine rn ?_) | (refine g_callf 23 ?_; refine ow_call Tryd.call23 rfl ((equalMb_calls kM kM r vv u _ _ nilV _ _ _ hA (hm.mono hE13) hmk).mono ?_); clear hA; (try clear w); rintro e w ⟨rfl, hA⟩; refine ⟨_, rfl, ?_⟩; (try rw [decide_eq_true (rfl : kM = kM)]); refine rn ?_) | refine st ?_ | (refine wc_regionS 3 rfl ?_; refine wc_region ?_) | (refine su ?_; refine rn ?_) | (refine g_conv ?_; refine p_c hA ?_; refine rn ?_) | (refine g_load ?_; (first | refine t_loadx rfl hA ?_ | refine t_loada rfl hA ?_); refine rn ?_) | (refine g_call ?_; refine t_appx rfl rfl hA rfl ?_; clear hA; (try clear w); intro v w hA hone hnil; refine h_n hA ?_; clear hA; intro hA; refine rn ?_) | (refine g_store ?_; (first | refine t_storex rfl rfl hA ?_ | refine t_storea rfl rfl hA ?_); clear hA; (try clear w); intro w hA; refine h_m hA ?_; clear hA; intro hA; refine rn ?_) | (refine g_ow ?_; (first | refine t_alloc hA ?_ | refine ow_box rfl rfl hA ?_ | refine t_buildSlice rfl (by decide) rfl hA ?_); clear hA; (try clear w); intro b w hA; refine h_n hA ?_; clear hA; intro hA; refine rn ?_) | (refine g_ow ?_; refine t_make rfl rfl (by omega) (by omega) hA ?_; clear hA; (try clear w); intro v w hA hone hnil; refine rn ?_) | refine wc_pp rfl (fun h => ?_) (fun h => ?_) | refine wc_nn rfl (fun h => ?_) (fun h => ?_) | refine rl_pp rfl (fun h => o_n ?_) (fun h => rn ?_) | refine rl_qq rfl (fun h => o_n ?_) (fun h => rn ?_) | refine rl_nn rfl (fun h => o_n ?_) (fun h => rn ?_) | refine rl_mm rfl (fun h => o_n ?_) (fun h => rn ?_))
  exact ret1 ((hA.le (hE1.trans hE13)).dropN 1) rfl rfl
end Go.Proofs.YtomfoaaaeidpnaaDoor
