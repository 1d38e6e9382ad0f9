/-
  What is known of a type.
-/
import Derived.Test.YtomfoaaaeidpnaaDoorSl4
namespace Go.Proofs.YtomfoaaaeidpnaaDoor
open Go
class Ty (P : Program) (T : Nat) (d : outParam TypeDesc) (z : outParam Value) (zs : outParam (List Value)) (sz : outParam Nat) (by_ : outParam Nat) : Prop where
  und : P.underlying T = some d
  inf : (P.info? T).map (fun i => (i.zero, i.size, i.bytes)) = some (some z, sz, by_)
  zc : z.cells = ⟨zs⟩
theorem Ty.zero {P : Program} {T : Nat} {d : TypeDesc} {z : Value} {zs : List Value} {sz by_ : Nat} (h : Ty P T d z zs sz by_) : (P.info? T).bind (·.zero) = some z := by
  obtain ⟨i, hi, e⟩ := Option.map_eq_some_iff.1 h.inf
  simp only [Prod.mk.injEq] at e
  rw [hi]; exact e.1
theorem Ty.size {P : Program} {T : Nat} {d : TypeDesc} {z : Value} {zs : List Value} {sz by_ : Nat} (h : Ty P T d z zs sz by_) : (P.info? T).map (·.size) = some sz := by
  obtain ⟨i, hi, e⟩ := Option.map_eq_some_iff.1 h.inf
  simp only [Prod.mk.injEq] at e
  rw [hi]; exact congrArg some e.2.1
class Fd (P : Program) (T f : Nat) (off : outParam Nat) : Prop where
  ex : ∃ fs fl n, P.underlying T = some (.struct fs) ∧ fs[f]? = some fl ∧ (P.info? fl.type).map (·.size) = some (n + 1) ∧ fl.offset = off
theorem Fd.of {P : Program} {T f off n : Nat} {fs : Array Field} {fl : Field} (h1 : P.underlying T = some (.struct fs)) (h2 : fs[f]? = some fl) (h3 : (P.info? fl.type).map (·.size) = some (n + 1)) (h4 : fl.offset = off) : Fd P T f off := ⟨fs, fl, n, h1, h2, h3, h4⟩
end Go.Proofs.YtomfoaaaeidpnaaDoor
