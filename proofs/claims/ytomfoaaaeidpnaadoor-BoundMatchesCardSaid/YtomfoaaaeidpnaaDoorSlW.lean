/-
  Results that stand in cells; structs compared.
-/
import Derived.Test.YtomfoaaaeidpnaaDoorSlV
import Derived.Test.YtomfoaaaeidpnaaDoorSlU
import Derived.DeepKeys
set_option linter.unusedVariables false
set_option linter.unusedSimpArgs false
namespace Go.Proofs.YtomfoaaaeidpnaaDoor
open Go Go.RowKit
section
variable {P : Program} {w : World} {l : List Value}
/-- What one result stands for. -/
def resOne (l : List Value) : ResultVar → Sem Value
  | .tmp t => pure ((⟨l⟩ : Array Value).getD t undef)
  | .cell a t => do loadVar t (← asAddr ((⟨l⟩ : Array Value).getD a undef))
theorem results_eq (fn : Func) : results fn ⟨l⟩ = (do let vs ← fn.results.mapM (resOne l); pure (if h : vs.size = 1 then vs[0] else .tuple vs)) := by
  unfold results; congr 1
theorem one_tmp {t : Tmp} {v : Value} (h : l.getD t undef = v) : (resOne l (.tmp t)).run P w = .ok v w := by
  subst h; simp [resOne, List.getD]
theorem one_cell {E : Env} {L : List Item} {a : Tmp} {T : TypeId} {b : Nat} {cs : List Value} {S : TypeId} {u : TypeDesc} {z : Value} {zs : List Value} {sz by_ : Nat} [t : Ty P T u z zs sz by_] (i : Nat) (hu : plainT u = false)
    (hx : l.getD a undef = .pointer (some ⟨b, 0, none⟩)) (hA : Sat E L w) (hi : L[i]? = some (cells b cs S)) (hk : cs.length = sz) : (resOne l (.cell a T)).run P w = .ok (.agg ⟨cs⟩) w := by
  obtain ⟨ii, hii, hss⟩ := Option.map_eq_some_iff.1 t.size
  have hl := run_loadCells_list (P := P) w ⟨b, 0, none⟩ cs (fun j v hj => by rw [add_plain, hA.cellOwn hi, Nat.zero_add]; exact hj)
  have hag : (isAgg T).run P w = .ok true w := by
    unfold isAgg
    have := t.und
    cases u <;> first | (simp [underlying, this]; done) | cases hu
  rw [hk] at hl
  have hx' : (⟨l⟩ : Array Value).getD a undef = .pointer (some ⟨b, 0, none⟩) := by simpa [List.getD] using hx
  simp [resOne, hx', asAddr, loadVar, hag, sizeOf, typeInfo, hii, hss, hl]
theorem resTwo {fn : Func} {r r' : ResultVar} {v v' : Value} (h : fn.results = #[r, r']) (h1 : (resOne l r).run P w = .ok v w) (h2 : (resOne l r').run P w = .ok v' w) : (results fn ⟨l⟩).run P w = .ok (.tuple ⟨[v, v']⟩) w := by
  rw [results_eq, h]; simp [h1, h2]
theorem resSole {fn : Func} {r : ResultVar} {v : Value} (h : fn.results = #[r]) (h1 : (resOne l r).run P w = .ok v w) : (results fn ⟨l⟩).run P w = .ok v w := by
  rw [results_eq, h]; simp [h1]
/-- A struct in a cell, and one more. -/
theorem ret2c {E E1 : Env} {L L1 : List Item} {fn : Func} {a t' : Tmp} {T : TypeId} {b : Nat} {cs : List Value} {S : TypeId} {u : TypeDesc} {z v' : Value} {zs : List Value} {sz by_ : Nat} [t : Ty P T u z zs sz by_] (i : Nat)
    (h : fn.results = #[.cell a T, .tmp t']) (hu : plainT u = false) (hx : l.getD a undef = .pointer (some ⟨b, 0, none⟩)) (hA : Sat E1 L1 w) (hi : L1[i]? = some (cells b cs S)) (hk : cs.length = sz) (hv : l.getD t' undef = v') (hB : Sat E L w) :
    FP P fn (Ret E L (.tuple ⟨[.agg ⟨cs⟩, v']⟩)) .ret (A l []) w := fp_ret (resTwo h (one_cell i hu hx hA hi hk) (one_tmp hv)) ⟨rfl, hB⟩
end
section
variable {ro : Option Nat} {P : Program} {l : List Value} {ds : List Deferred} {w : World} {next : List Value → World → Prop} {Q : Exit → Act → World → Prop}
variable {d : Option Tmp} {ty : TypeId} {pos : String} {aft : Array Edge} {g : Option (Nat × Bool)} {T T' : TypeId} {X Y Z : Operand}
theorem equal_agg {T : TypeId} {xs ys : List Value} {la lb : List Lit} {m D D' : Nat} (hk : P.keyTypeAt m T = true) (hm : m ≤ 10000) (fx : (Value.agg ⟨xs⟩).formed P T = true) (fy : (Value.agg ⟨ys⟩).formed P T = true)
    (ha : P.keyLits D T xs = some la) (hb : P.keyLits D' T ys = some lb) : ∃ r : Bool, (Op.equal T (.agg ⟨xs⟩) (.agg ⟨ys⟩)).run P w = .ok r w ∧ (r = true ↔ la = lb) := by
  have e : Op.maxDepth = (10000 - m) + m := by unfold Op.maxDepth; omega
  have := run_equalIn_deep (P := P) (10000 - m) m T hk w D D' (.agg ⟨xs⟩) (.agg ⟨ys⟩) la lb fx fy ha hb
  unfold Op.equal; rw [e]; exact this
theorem ow_eqa {xs ys : List Value} {la lb : List Lit} {m D D' : Nat} (hk : P.keyTypeAt m T = true) (hm : m ≤ 10000) (hg : P.eqGuardType P.depth T = false) (hx : ev l X = .agg ⟨xs⟩) (hy : ev l Y = .agg ⟨ys⟩) (fx : (Value.agg ⟨xs⟩).formed P T = true) (fy : (Value.agg ⟨ys⟩).formed P T = true)
    (ha : P.keyLits D T xs = some la) (hb : P.keyLits D' T ys = some lb) (h : ∀ r : Bool, (r = true ↔ la = lb) → next (put l d (.bool r)) w) : OW ro P ⟨d, .binOp .eql T X Y T', ty, pos, aft, g⟩ l ds w next Q := by
  obtain ⟨r, hr, hi⟩ := equal_agg (w := w) hk hm fx fy ha hb
  exact ow_run (v := .bool r) (by simp [execOp, hx, hy, eqGuard, binOp, hg, hr]) rfl (h r hi)
theorem ow_nea {xs ys : List Value} {la lb : List Lit} {m D D' : Nat} (hk : P.keyTypeAt m T = true) (hm : m ≤ 10000) (hg : P.eqGuardType P.depth T = false) (hx : ev l X = .agg ⟨xs⟩) (hy : ev l Y = .agg ⟨ys⟩) (fx : (Value.agg ⟨xs⟩).formed P T = true) (fy : (Value.agg ⟨ys⟩).formed P T = true)
    (ha : P.keyLits D T xs = some la) (hb : P.keyLits D' T ys = some lb) (h : ∀ r : Bool, (r = true ↔ la = lb) → next (put l d (.bool (!r))) w) : OW ro P ⟨d, .binOp .neq T X Y T', ty, pos, aft, g⟩ l ds w next Q := by
  obtain ⟨r, hr, hi⟩ := equal_agg (w := w) hk hm fx fy ha hb
  exact ow_run (v := .bool (!r)) (by simp [execOp, hx, hy, eqGuard, binOp, hg, hr]) rfl (h r hi)
end
end Go.Proofs.YtomfoaaaeidpnaaDoor
