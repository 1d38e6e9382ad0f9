/- The law NalEncodes, for every input: it answers true, and what it was handed reads as before. No condition stands ahead of it. -/
import Derived.Test.YtpakamobancgeaaRows
import Derived.Test.YtpakamobancgeaaW7
import Derived.Test.YtpakamobancgeaaSlR
import Derived.WalkKit
import Derived.ProofKit
import Derived.OpenShut
import Derived.ShutString
import Derived.ChangeOld
import Derived.Below
import Derived.Carry
import Derived.SizedLaws
import Derived.Lib.SmallJoins
namespace Go.Proofs.Ytpakamobancgeaa.nalEncodes
open Go Go.ChangeShapes Go.WideShapes Go.ChangeAt Go.RowKit Go.Joins
open Go.ChangeMaps (open_string shut_string)
set_option linter.unusedVariables false
theorem own : ownKnob Try.prog.godebug = none := by kernel_rfl
theorem laidOut : laidOutB Try.prog = true := by kernel_rfl
set_option maxRecDepth 100000 in
theorem lifted (os : Os) (started : os.Started) (H : Type) (enc : TypeId × Value → H) :
    ReturnsInHanded {} Try.checked os 3 .any (Rows.nalEncodesSpec.pre6 enc Try.prog Try.f3 Rows.nalEncodesRow.domain false) (Rows.nalEncodesSpec.post enc Try.prog Try.f3 false true false false) := by
  refine returnsInHanded_of_change_sized (C := Try.checked) own started (by kernel_rfl) Try.func3
    (ChangeSpec.witness6 (enc := enc) (C := Try.checked) false ⟨#[], #[.agg #[.int .u8 0, .int .u8 0, .string ByteArray.empty]], []⟩ 8 (by kernel_rfl) (by kernel_rfl) (by kernel_rfl) (by kernel_rfl)) ?_
  intro W base args ds gs before hval0 hW hcnd hsz0 _
  have hval : ∀ (j : Nat) t v, Try.f3.params[j]? = some t → args[j]? = some v → Value.okWide Try.prog W .any base t v := hval0
  have hW' := hW
  obtain ⟨p, q, hA0, hV, rfl, hfz, hnd⟩ := hW
  have hA : DataW.TrodAll enc Try.prog W 0 (fun _ => true) true Try.f3.params.toList args.toList ds p := hA0
  rw [Try.params3] at hA hval
  obtain ⟨v0, vs0, d0, ds0, p0, q0, hargs, rfl, rfl, h0, r0⟩ := trodAll_cons hA
  obtain ⟨rfl, rfl, rfl⟩ := trodAll_nil r0
  obtain rfl : args = #[v0] := by cases args; simp_all
  obtain ⟨rfl, rfl⟩ := trodVars_none hV
  have k0 := h0
  obtain ⟨c0_0, c0_1, c0_2, y0_0, y0_1, y0_2, m0, rfl, rfl, rfl, hy0_0, hy0_1, hy0_2⟩ := open_agg3 Try.underlying23 (by kernel_rfl) (by kernel_rfl) (hval 0 23 v0 rfl rfl) h0
  obtain ⟨x0, e0_0, rfl, hx0⟩ := DataW.trod_int Try.underlying5 hy0_0
  obtain ⟨s0, rfl⟩ := u8_ex hx0
  obtain rfl := List.head_eq_of_cons_eq e0_0
  obtain ⟨x1, e0_1, rfl, hx1⟩ := DataW.trod_int Try.underlying5 hy0_1
  obtain ⟨s1, rfl⟩ := u8_ex hx1
  obtain rfl := List.head_eq_of_cons_eq e0_1
  obtain ⟨x2, e0_2, rfl, hx2⟩ := DataW.trod_string Try.underlying9 hy0_2
  obtain ⟨s2, rfl⟩ := bs_ex x2
  obtain rfl := List.head_eq_of_cons_eq e0_2
  have lt0 := trod_lts k0
  clear hA0 hval0 hsz0
  refine (nalEncodes_calls s0 s1 s2 (envOf W) [] W (sat_start W)).mono fun e W' ⟨he, hS⟩ => ?_
  have bel := hS.below (Env.Le.refl _)
  subst he
  exact ⟨_, rfl, _, _, _, [], _, [], hW', trodAll_mk1 (shut_bool Try.underlying4 _), (trodAll_cons_mk (Below.trod laidOut (by kernel_rfl) (of_decide_eq_true (by kernel_rfl)) k0 bel lt0) trodAll_mk0), rfl, bel.frame _, fun h => by cases h⟩
theorem over : Rows.nalEncodesRow.holds Try.pinned (OpenSpec.ofChange Rows.nalEncodesSpec) :=
  OpenClaim.holds_of_wide 3 Try.f3 rfl rfl rfl rfl rfl rfl rfl ⟨rfl, rfl, rfl, rfl, rfl⟩ rfl rfl rfl rfl rfl (by kernel_rfl) Try.func3 (by kernel_rfl)
    (of_decide_eq_true (by kernel_rfl)) (by unfold Func.isWrapper; first | (rw [if_pos (by decide +kernel)]; kernel_rfl) | (rw [if_neg (by decide +kernel)]; exact ⟨rfl, rfl⟩))
    (fun os started H enc _ => lifted os started H enc)
theorem proved : Rows.NalEncodesSaid := over
#print axioms proved
end Go.Proofs.Ytpakamobancgeaa.nalEncodes
namespace Go.Proofs.Ytpakamobancgeaa
/-- The row, under a short name, for the claim. -/
theorem nalEncodes_holds : Rows.NalEncodesSaid := nalEncodes.proved
end Go.Proofs.Ytpakamobancgeaa
