/-
  Copies of lists of numbers, walked.
-/
import Derived.Test.YteeeabnfgpolgaaDoorK4
import Derived.Test.YteeeabnfgpolgaaDoorSlF
import Derived.Test.YteeeabnfgpolgaaDoorSlC
import Derived.Test.YteeeabnfgpolgaaDoorSlD
set_option linter.unusedVariables false
set_option linter.unusedSimpArgs false
namespace Go.Proofs.YteeeabnfgpolgaaDoor
open Go Go.RowKit
attribute [local irreducible] WC RL OW bodyPostM ThenQ BlockQ LoopQ
def mbV (x : Mb) : Env → Value → Prop := fun E v => ∃ r q b, v = .agg ⟨mbC x r q b⟩ ∧ MbL E x r q b
instance (x : Mb) : PMono (mbV x) := ⟨fun hE ⟨r, q, b, h1, h2⟩ => ⟨r, q, b, h1, h2.mono hE⟩⟩
theorem cloneInts_own (v : Value) (xs : List Int) (cells : List Value) (E : Env) (L : List Item) (w : World) (hA : Sat E L w) (hc : CsE intR 1 E cells xs) (hs : SlE E 1 v xs.length cells) (hb : xs.length ≤ 17592186044416) :
    Calls Tryd.prog 78 ⟨[v]⟩ w (fun e w' => ∃ v', e = .returned v' ∧ v'.oneCell' = true ∧ Sat E (row 3 1 v' xs.length cells :: L) w') := by
  obtain ⟨a, c, hv⟩ := hs.shape
  refine enter (fn := Tryd.f78) Tryd.func78 rfl 8 rfl [v, undef, undef, undef, undef, undef, undef, undef] rfl ?_
  repeat' (first | (refine g_bin ?_; refine t_eqNil rfl hv rfl ?_; refine rn ?_) | (refine wc_bb rfl (fun h => ?_) (fun h => ?_)) | (refine g_ow ?_; refine t_lay0 hA ?_; clear hA; intro ve w hA h1 h2; refine rn ?_) | (refine g_call ?_; refine t_append 0 (by exact Ty.und) (.inl ⟨_, rfl⟩) (by decide) (by rfl) rfl rfl hA rfl (src_E hA hs hc.one) (by unfold maxLen; omega) (by rw [Nat.zero_add]; omega) ?_; clear hA; intro v' w hA h3 h4; refine rn ?_) | refine st ?_ | (refine wc_region ?_) | (refine su ?_; refine rn ?_) | (refine g_conv ?_; refine p_c hA ?_; refine rn ?_) | (refine g_load ?_; (first | refine t_loadx rfl hA ?_ | refine t_loada rfl hA ?_); refine rn ?_) | (refine g_call ?_; refine t_appx rfl rfl hA rfl ?_; clear hA; (try clear w); intro v w hA hone hnil; refine h_n hA ?_; clear hA; intro hA; refine rn ?_) | (refine g_store ?_; (first | refine t_storex rfl rfl hA ?_ | refine t_storea rfl rfl hA ?_); clear hA; (try clear w); intro w hA; refine h_m hA ?_; clear hA; intro hA; refine rn ?_) | (refine g_ow ?_; (first | refine t_alloc hA ?_ | refine ow_box rfl rfl hA ?_ | refine t_buildSlice rfl (by decide) rfl hA ?_); clear hA; (try clear w); intro b w hA; refine h_n hA ?_; clear hA; intro hA; refine rn ?_) | (refine g_ow ?_; refine t_make rfl rfl (by omega) (by omega) hA ?_; clear hA; (try clear w); intro v w hA hone hnil; refine rn ?_) | refine wc_pp rfl (fun h => ?_) (fun h => ?_) | refine wc_nn rfl (fun h => ?_) (fun h => ?_) | refine rl_pp rfl (fun h => o_n ?_) (fun h => rn ?_) | refine rl_qq rfl (fun h => o_n ?_) (fun h => rn ?_) | refine rl_nn rfl (fun h => o_n ?_) (fun h => rn ?_) | refine rl_mm rfl (fun h => o_n ?_) (fun h => rn ?_))
  · have e : a = none := by cases a <;> simp_all
    subst e
    have e0 : xs.length = 0 := by
      rcases hs.sh with ⟨h0, _⟩ | ⟨c', h0⟩
      · exact h0
      · rw [hv] at h0; cases h0
    have e1 : cells = [] := List.eq_nil_of_length_eq_zero (by have := hs.len; omega)
    refine fp_ret (res1 rfl rfl) ⟨_, rfl, rfl, ?_⟩
    rw [e0, e1]
    exact hA.nilRow _ _
  · rw [Nat.zero_add, List.nil_append] at hA
    exact fp_ret (res1 rfl rfl) ⟨v', rfl, h3, hA⟩
theorem cloneInts_calls (v : Value) (xs : List Int) (E : Env) (L : List Item) (w : World) (hA : Sat E L w) (hx : ListE intR 1 E v xs) (hb : xs.length ≤ 17592186044416) :
    Calls Tryd.prog 78 ⟨[v]⟩ w (fun e w' => ∃ E' v', e = .returned v' ∧ E.Le E' ∧ ListE intR 1 (E'.sub E) v' xs ∧ Sat E' L w') := by
  obtain ⟨cells, hc, hs⟩ := hx.cs
  refine (cloneInts_own v xs cells E L w hA hc hs hb).mono fun e w' ⟨v', he, h1, hS⟩ => ?_
  obtain ⟨E', h2, h3, h4⟩ := hS.freezeListS E (Env.Le.refl _) (hc.ints _)
  exact ⟨E', v', he, h2, h4, h3⟩
def oneV : Env → Value → Prop := fun _ v => v.oneCell' = true
instance : PMono oneV := ⟨fun _ h => h⟩
end Go.Proofs.YteeeabnfgpolgaaDoor
