/- The law NalUnits, for every input: it answers true, and what it was handed reads as before. No condition stands ahead of it. -/
import Derived.Test.YtpakamobancgeaaRows
import Derived.Test.YtpakamobancgeaaW17
import Derived.Test.YtpakamobancgeaaSlR
import Derived.WalkKit
import Derived.ProofKit
import Derived.OpenShut
import Derived.ShutString
import Derived.ChangeOld
import Derived.Below
import Derived.Carry
import Derived.SizedLaws
import Derived.Lib.SmallJoins
namespace Go.Proofs.Ytpakamobancgeaa.nalUnits
open Go Go.ChangeShapes Go.WideShapes Go.ChangeAt Go.RowKit Go.Joins
open Go.ChangeMaps (open_string shut_string)
set_option linter.unusedVariables false
theorem own : ownKnob Try.prog.godebug = none := by kernel_rfl
theorem laidOut : laidOutB Try.prog = true := by kernel_rfl
set_option maxRecDepth 100000 in
theorem lifted (os : Os) (started : os.Started) (H : Type) (enc : TypeId × Value → H) :
    ReturnsInHanded {} Try.checked os 10 .any (Rows.nalUnitsSpec.pre6 enc Try.prog Try.f10 Rows.nalUnitsRow.domain false) (Rows.nalUnitsSpec.post enc Try.prog Try.f10 false true false false) := by
  refine returnsInHanded_of_change_sized (C := Try.checked) own started (by kernel_rfl) Try.func10
    (ChangeSpec.witness6 (enc := enc) (C := Try.checked) false ⟨#[], #[.int .u8 0, .int .u8 0, .string ByteArray.empty, .string ByteArray.empty], []⟩ 8 (by kernel_rfl) (by kernel_rfl) (by kernel_rfl) (by kernel_rfl)) ?_
  intro W base args ds gs before hval0 hW hcnd hsz0 _
  have hval : ∀ (j : Nat) t v, Try.f10.params[j]? = some t → args[j]? = some v → Value.okWide Try.prog W .any base t v := hval0
  have hW' := hW
  obtain ⟨p, q, hA0, hV, rfl, hfz, hnd⟩ := hW
  have hA : DataW.TrodAll enc Try.prog W 0 (fun _ => true) true Try.f10.params.toList args.toList ds p := hA0
  rw [Try.params10] at hA hval
  obtain ⟨v0, vs0, d0, ds0, p0, q0, hargs, rfl, rfl, h0, r0⟩ := trodAll_cons hA
  obtain ⟨v1, vs1, d1, ds1, p1, q1, rfl, rfl, rfl, h1, r1⟩ := trodAll_cons r0
  obtain ⟨v2, vs2, d2, ds2, p2, q2, rfl, rfl, rfl, h2, r2⟩ := trodAll_cons r1
  obtain ⟨v3, vs3, d3, ds3, p3, q3, rfl, rfl, rfl, h3, r3⟩ := trodAll_cons r2
  obtain ⟨rfl, rfl, rfl⟩ := trodAll_nil r3
  obtain rfl : args = #[v0, v1, v2, v3] := by cases args; simp_all
  obtain ⟨rfl, rfl⟩ := trodVars_none hV
  have k0 := h0
  obtain ⟨fu0, hf0⟩ := h0
  obtain ⟨x0, rfl, rfl, rfl, hx0⟩ := open_int Try.underlying5 (hval 0 5 v0 rfl rfl) k0
  obtain ⟨s0, rfl⟩ := u8_ex hx0
  have lt0 := trod_lts k0
  have k1 := h1
  obtain ⟨fu1, hf1⟩ := h1
  obtain ⟨x1, rfl, rfl, rfl, hx1⟩ := open_int Try.underlying5 (hval 1 5 v1 rfl rfl) k1
  obtain ⟨s1, rfl⟩ := u8_ex hx1
  have lt1 := trod_lts k1
  have k2 := h2
  obtain ⟨fu2, hf2⟩ := h2
  obtain ⟨x2, rfl, rfl, rfl, hx2⟩ := open_string Try.underlying9 (hval 2 9 v2 rfl rfl) k2
  obtain ⟨s2, rfl⟩ := bs_ex x2
  have lt2 := trod_lts k2
  have k3 := h3
  obtain ⟨fu3, hf3⟩ := h3
  obtain ⟨x3, rfl, rfl, rfl, hx3⟩ := open_string Try.underlying9 (hval 3 9 v3 rfl rfl) k3
  obtain ⟨s3, rfl⟩ := bs_ex x3
  have lt3 := trod_lts k3
  clear hA0 hval0 hsz0
  refine (nalUnits_calls s0 s1 s2 s3 (envOf W) [] W (sat_start W)).mono fun e W' ⟨he, hS⟩ => ?_
  have bel := hS.below (Env.Le.refl _)
  subst he
  exact ⟨_, rfl, _, _, _, [], _, [], hW', trodAll_mk1 (shut_bool Try.underlying4 _), (trodAll_cons_mk (Below.trod laidOut (by kernel_rfl) (of_decide_eq_true (by kernel_rfl)) k0 bel lt0) (trodAll_cons_mk (Below.trod laidOut (by kernel_rfl) (of_decide_eq_true (by kernel_rfl)) k1 bel lt1) (trodAll_cons_mk (Below.trod laidOut (by kernel_rfl) (of_decide_eq_true (by kernel_rfl)) k2 bel lt2) (trodAll_cons_mk (Below.trod laidOut (by kernel_rfl) (of_decide_eq_true (by kernel_rfl)) k3 bel lt3) trodAll_mk0)))), rfl, bel.frame _, fun h => by cases h⟩
theorem over : Rows.nalUnitsRow.holds Try.pinned (OpenSpec.ofChange Rows.nalUnitsSpec) :=
  OpenClaim.holds_of_wide 10 Try.f10 rfl rfl rfl rfl rfl rfl rfl ⟨rfl, rfl, rfl, rfl, rfl⟩ rfl rfl rfl rfl rfl (by kernel_rfl) Try.func10 (by kernel_rfl)
    (of_decide_eq_true (by kernel_rfl)) (by unfold Func.isWrapper; first | (rw [if_pos (by decide +kernel)]; kernel_rfl) | (rw [if_neg (by decide +kernel)]; exact ⟨rfl, rfl⟩))
    (fun os started H enc _ => lifted os started H enc)
theorem proved : Rows.NalUnitsSaid := over
#print axioms proved
end Go.Proofs.Ytpakamobancgeaa.nalUnits
namespace Go.Proofs.Ytpakamobancgeaa
/-- The row, under a short name, for the claim. -/
theorem nalUnits_holds : Rows.NalUnitsSaid := nalUnits.proved
end Go.Proofs.Ytpakamobancgeaa
