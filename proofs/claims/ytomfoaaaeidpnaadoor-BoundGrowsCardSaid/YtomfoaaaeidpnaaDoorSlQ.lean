/-
  Scopes with labels that nothing jumps to; an element of an array.
-/
import Derived.Test.YtomfoaaaeidpnaaDoorSlU
set_option linter.unusedVariables false
set_option linter.unusedSimpArgs false
namespace Go.Proofs.YtomfoaaaeidpnaaDoor
open Go Go.RowKit
def ScopeQ (Q : Exit → Act → World → Prop) : Exit → Act → World → Prop
  | .goto _, _, _ => False
  | e, a, w => Q e a w
section
variable {F : Fence} {n : Nat} {P : Program} {Q : Exit → Act → World → Prop} {a : Act} {w : World} {b : Frame} {k : List Go.Item} {cs : List Frame}
theorem stepR_scope {c : Code} : step P (lone (b.atR a (.code (.scope c) :: k)) cs w) = .next (lone (b.atR a (.code c :: .inScope c :: k)) cs w) :=
  step_lone_go (by simp [stepG, stepG.exec, Frame.atR])
theorem stepR_inScope {c : Code} : step P (lone (b.atR a (.inScope c :: k)) cs w) = .next (lone (b.atR a k) cs w) :=
  step_lone_go (by simp [stepG, stepG.exec, Frame.atR])
theorem wpIn_scope {c : Code} (h : c.wpIn F n P (ScopeQ Q) a w) : (Code.scope c).wpIn F n P Q a w := by
  intro b k cs hro hb hr
  have h0 : (lone (b.atR a (.code (.scope c) :: k)) cs w).fenced P F := fenced_calm hb hr rfl
  obtain ⟨e, a₁, w₁, hq, harr⟩ := h b (.inScope c :: k) cs hro hb hr
  cases e with
  | normal => exact ⟨.normal, a₁, w₁, hq, .head h0 stepR_scope (StepsIn.trans harr (.one (fenced_calm hb hr rfl) stepR_inScope))⟩
  | exit id' =>
    have hx : exitTo id' (.inScope c :: k) = exitTo id' k := by simp [exitTo]
    exact ⟨.exit id', a₁, w₁, hq, fun k' hk => .head h0 stepR_scope (harr.1 k' (by rw [hx]; exact hk)),
      fun hr' hk => let ⟨k₁, h1, h2⟩ := harr.2 hr' (by rw [hx]; exact hk); ⟨k₁, h1, .head h0 stepR_scope h2⟩⟩
  | goto l => exact hq.elim
  | ret => exact ⟨_, a₁, w₁, hq, .of_steps (.one h0 stepR_scope) harr⟩
  | panic ch => exact ⟨_, a₁, w₁, hq, .of_steps (.one h0 stepR_scope) harr⟩
  | outgrown => exact ⟨_, a₁, w₁, hq, .of_steps (.one h0 stepR_scope) harr⟩
end
section
variable {ro : Option Nat} {P : Program} {l : List Value} {ds : List Deferred} {w : World} {next : List Value → World → Prop} {Q : Exit → Act → World → Prop} {a : Act}
variable {d : Option Tmp} {ty : TypeId} {pos : String} {aft : Array Edge} {g : Option (Nat × Bool)} {T T' T'' : TypeId} {X Y Z : Operand} {u u' : TypeDesc} {z z' : Value} {zs zs' : List Value} {sz sz' by_ by' : Nat}
theorem wc_scope {c : Code} (h : WC ro P c (ScopeQ Q) l ds w) : WC ro P (.scope c) Q l ds w := wpIn_scope h
theorem sq_normal (h : Q .normal a w) : ScopeQ Q .normal a w := h
theorem sq_exit {k : Nat} (h : Q (.exit k) a w) : ScopeQ Q (.exit k) a w := h
theorem sq_ret (h : Q .ret a w) : ScopeQ Q .ret a w := h
theorem t_index_arr {n : Nat} {e : TypeId} {cs : List Value} {k : IntKind} {i : Int} {v : Value} [t : Ty P T (.array n e) z zs sz by_] [t' : Ty P e u' z' zs' 1 by'] (hu : plainT u' = true) (hx : ev l X = .agg ⟨cs⟩) (hi : ev l Y = .int k i) (h0 : 0 ≤ i ∧ i < n) (hv : cs[i.toNat]? = some v)
    (h : next (put l d v) w) : OW ro P ⟨d, .index T X Y, ty, pos, aft, g⟩ l ds w next Q := by
  obtain ⟨ii, hii, hss⟩ := Option.map_eq_some_iff.1 t'.size
  refine ow_run (v := v) ?_ rfl h
  simp [execOp, hx, hi, Instr.index, asIntOf, underlying, t.und, h0, part, plain_isAgg t'.und hu, sizeOf, typeInfo, hii, hss, hv]
theorem t_buildArr {m : Nat} {e : TypeId} {cs : List Value} {parts : Array (Nat × Operand)} [t : Ty P T (.array m e) z zs sz by_] [t' : Ty P e u' z' zs' sz' by'] (hf : fillL (fun i => some (i * sz', sz')) zs (parts.toList.map fun p => (p.1, ev l p.2)) = some cs)
    (h : next (put l d (.agg ⟨cs⟩)) w) : OW ro P ⟨d, .build T parts, ty, pos, aft, g⟩ l ds w next Q := by
  obtain ⟨ii, hii, hz'⟩ := Option.bind_eq_some_iff.1 t.zero
  obtain ⟨jj, hjj, hss⟩ := Option.map_eq_some_iff.1 t'.size
  refine ow_run (v := .agg ⟨cs⟩) ?_ rfl h
  have hparts : (parts.map fun (i, x) => (i, ev l x)).toList = parts.toList.map fun p => (p.1, ev l p.2) := by simp
  have hfill := fill_eq _ _ hf
  rw [← hparts] at hfill
  simp only [execOp, Instr.build, Sem.run_bind, zeroValue, typeInfo, sizeOf, run_program, Result.andThen_ok, hii, hjj, hss, Sem.run_pure, hz', underlying, t.und, t.zc]
  rw [hfill]
  simp
/-- s[i:j] -/
theorem t_slice_mid {s : List UInt8} {k k' : IntKind} {i j : Int} [t : Ty P T .string z zs sz by_] (hx : ev l X = .string (bs s)) (hi : ev l Y = .int k i) (hj : ev l Z = .int k' j) (h0 : 0 ≤ i ∧ i ≤ j ∧ j ≤ s.length)
    (h : next (put l d (.string (bs ((s.drop i.toNat).take (j.toNat - i.toNat))))) w) : OW ro P ⟨d, .slice T X (some Y) (some Z) none, ty, pos, aft, g⟩ l ds w next Q := by
  refine ow_run (v := .string (bs ((s.drop i.toNat).take (j.toNat - i.toNat)))) ?_ rfl h
  have h1 : j ≤ ((bs s).size : Int) := by rw [bs_size]; exact h0.2.2
  have h2 : 0 ≤ j := by omega
  have e : (bs s).extract i.toNat j.toNat = bs ((s.drop i.toNat).take (j.toNat - i.toNat)) := by rw [bs_extract]
  have h3 : i ≤ (j.toNat : Int) := by omega
  simp [execOp, hx, hi, hj, Instr.sliceAt, Instr.slice, Instr.sliceBounds, Instr.sliceBound, asIntOf, underlying, t.und, h0.1, h0.2.1, h1, h2, e, h3]
  intro hmax
  exfalso
  omega
end
end Go.Proofs.YtomfoaaaeidpnaaDoor
