/-
  The operations, each by one law.
-/
import Derived.Test.YtomfoaaaeidpnaaDoorSl2
import Derived.IntWalk
set_option linter.unusedVariables false
set_option linter.unusedSimpArgs false
namespace Go.Proofs.YtomfoaaaeidpnaaDoor
open Go Go.RowKit

section
variable {ro : Option Nat} {P : Program} {l : List Value} {ds : List Deferred} {w : World} {next : List Value → World → Prop} {Q : Exit → Act → World → Prop}
variable {d : Option Tmp} {ty : TypeId} {pos : String} {aft : Array Edge} {g : Option (Nat × Bool)} {T T' T'' : TypeId} {X Y Z : Operand}

theorem ow_move (h : next (put l d (ev l X)) w) : OW ro P ⟨d, .move X, ty, pos, aft, g⟩ l ds w next Q :=
  ow_run (v := ev l X) (by simp [execOp]) rfl h
theorem ow_assign (h : next (put l d (ev l X)) w) : OW ro P ⟨d, .assign X, ty, pos, aft, g⟩ l ds w next Q :=
  ow_run (v := ev l X) (by simp [execOp]) rfl h
theorem ow_pick_t (hc : ev l X = .bool true) (h : next (put l d (ev l Y)) w) : OW ro P ⟨d, .pick X Y Z, ty, pos, aft, g⟩ l ds w next Q :=
  ow_run (v := ev l Y) (by simp [execOp, hc, asBool]) rfl h
theorem ow_pick_f (hc : ev l X = .bool false) (h : next (put l d (ev l Z)) w) : OW ro P ⟨d, .pick X Y Z, ty, pos, aft, g⟩ l ds w next Q :=
  ow_run (v := ev l Z) (by simp [execOp, hc, asBool]) rfl h
theorem ow_pick {c : Bool} {a b : Value} (hc : ev l X = .bool c) (ha : ev l Y = a) (hb : ev l Z = b) (h : next (put l d (if c then a else b)) w) : OW ro P ⟨d, .pick X Y Z, ty, pos, aft, g⟩ l ds w next Q :=
  ow_run (v := if c then a else b) (by simp [execOp, hc, ha, hb, asBool]) rfl h
theorem ow_extract {vs : List Value} {k : Nat} {v : Value} (hx : ev l X = .tuple ⟨vs⟩) (hv : vs[k]? = some v) (h : next (put l d v) w) : OW ro P ⟨d, .extract X k, ty, pos, aft, g⟩ l ds w next Q :=
  ow_run (v := v) (by simp [execOp, hx, Instr.extract, hv]) rfl h
theorem ow_nilCheck {a : Addr} (hx : ev l X = .pointer (some a)) (h : next (put l d (.pointer (some a))) w) : OW ro P ⟨d, .nilCheck X, ty, pos, aft, g⟩ l ds w next Q :=
  ow_run (v := .pointer (some a)) (by simp [execOp, hx]) rfl h
theorem ow_makeFunc {fn : Fn} {fi ca : Array Operand} {vfi vca : List Value} (hfi : fi.toList.map (ev l) = vfi) (hca : ca.toList.map (ev l) = vca) (h : next (put l d (.func fn ⟨vfi⟩ ⟨vca⟩)) w) :
    OW ro P ⟨d, .makeFunc fn fi ca, ty, pos, aft, g⟩ l ds w next Q :=
  ow_run (v := .func fn ⟨vfi⟩ ⟨vca⟩) (by
    have e1 : fi.map (ev l) = ⟨vfi⟩ := by rw [← hfi]; apply Array.ext'; simp
    have e2 : ca.map (ev l) = ⟨vca⟩ := by rw [← hca]; apply Array.ext'; simp
    simp [execOp, Instr.makeFunc, e1, e2]) rfl h

/-! Whole numbers -/
theorem ow_add {k : IntKind} {x y : Int} (hx : ev l X = .int k x) (hy : ev l Y = .int k y) (h : next (put l d (.int k (k.wrap (x + y)))) w) : OW ro P ⟨d, .binOp .add T X Y T', ty, pos, aft, g⟩ l ds w next Q :=
  ow_run (v := .int k (k.wrap (x + y))) (by simp [execOp, hx, hy, eqGuard, binOp, Op.intArith]) rfl h
theorem ow_sub {k : IntKind} {x y : Int} (hx : ev l X = .int k x) (hy : ev l Y = .int k y) (h : next (put l d (.int k (k.wrap (x - y)))) w) : OW ro P ⟨d, .binOp .sub T X Y T', ty, pos, aft, g⟩ l ds w next Q :=
  ow_run (v := .int k (k.wrap (x - y))) (by simp [execOp, hx, hy, eqGuard, binOp, Op.intArith]) rfl h
theorem ow_mul {k : IntKind} {x y : Int} (hx : ev l X = .int k x) (hy : ev l Y = .int k y) (h : next (put l d (.int k (k.wrap (x * y)))) w) : OW ro P ⟨d, .binOp .mul T X Y T', ty, pos, aft, g⟩ l ds w next Q :=
  ow_run (v := .int k (k.wrap (x * y))) (by simp [execOp, hx, hy, eqGuard, binOp, Op.intArith]) rfl h
theorem ow_add64 {x y : Int} (hx : ev l X = .int .i64 x) (hy : ev l Y = .int .i64 y) (hr : -9223372036854775808 ≤ x + y ∧ x + y ≤ 9223372036854775807) (h : next (put l d (.int .i64 (x + y))) w) : OW ro P ⟨d, .binOp .add T X Y T', ty, pos, aft, g⟩ l ds w next Q :=
  ow_add hx hy (by rw [IntWalk.i64_in _ hr]; exact h)
theorem ow_sub64 {x y : Int} (hx : ev l X = .int .i64 x) (hy : ev l Y = .int .i64 y) (hr : -9223372036854775808 ≤ x - y ∧ x - y ≤ 9223372036854775807) (h : next (put l d (.int .i64 (x - y))) w) : OW ro P ⟨d, .binOp .sub T X Y T', ty, pos, aft, g⟩ l ds w next Q :=
  ow_sub hx hy (by rw [IntWalk.i64_in _ hr]; exact h)
theorem ow_mul64 {x y : Int} (hx : ev l X = .int .i64 x) (hy : ev l Y = .int .i64 y) (hr : -9223372036854775808 ≤ x * y ∧ x * y ≤ 9223372036854775807) (h : next (put l d (.int .i64 (x * y))) w) : OW ro P ⟨d, .binOp .mul T X Y T', ty, pos, aft, g⟩ l ds w next Q :=
  ow_mul hx hy (by rw [IntWalk.i64_in _ hr]; exact h)
theorem ow_add8 {x y : Int} (hx : ev l X = .int .u8 x) (hy : ev l Y = .int .u8 y) (hr : 0 ≤ x + y ∧ x + y ≤ 255) (h : next (put l d (.int .u8 (x + y))) w) : OW ro P ⟨d, .binOp .add T X Y T', ty, pos, aft, g⟩ l ds w next Q :=
  ow_add hx hy (by rw [IntWalk.u8_in _ hr]; exact h)
theorem ow_sub8 {x y : Int} (hx : ev l X = .int .u8 x) (hy : ev l Y = .int .u8 y) (hr : 0 ≤ x - y ∧ x - y ≤ 255) (h : next (put l d (.int .u8 (x - y))) w) : OW ro P ⟨d, .binOp .sub T X Y T', ty, pos, aft, g⟩ l ds w next Q :=
  ow_sub hx hy (by rw [IntWalk.u8_in _ hr]; exact h)
theorem ow_mul8 {x y : Int} (hx : ev l X = .int .u8 x) (hy : ev l Y = .int .u8 y) (hr : 0 ≤ x * y ∧ x * y ≤ 255) (h : next (put l d (.int .u8 (x * y))) w) : OW ro P ⟨d, .binOp .mul T X Y T', ty, pos, aft, g⟩ l ds w next Q :=
  ow_mul hx hy (by rw [IntWalk.u8_in _ hr]; exact h)
theorem ow_quo {k : IntKind} {x y : Int} (hx : ev l X = .int k x) (hy : ev l Y = .int k y) (h0 : y ≠ 0) (h : next (put l d (.int k (k.wrap (x.tdiv y)))) w) : OW ro P ⟨d, .binOp .quo T X Y T', ty, pos, aft, g⟩ l ds w next Q :=
  ow_run (v := .int k (k.wrap (x.tdiv y))) (by simp [execOp, hx, hy, eqGuard, binOp, Op.intDiv, h0]) rfl h
theorem ow_rem {k : IntKind} {x y : Int} (hx : ev l X = .int k x) (hy : ev l Y = .int k y) (h0 : y ≠ 0) (h : next (put l d (.int k (x.tmod y))) w) : OW ro P ⟨d, .binOp .rem T X Y T', ty, pos, aft, g⟩ l ds w next Q :=
  ow_run (v := .int k (x.tmod y)) (by simp [execOp, hx, hy, eqGuard, binOp, Op.intDiv, h0]) rfl h
theorem ow_quo64 {x y : Int} (hx : ev l X = .int .i64 x) (hy : ev l Y = .int .i64 y) (hr : 0 ≤ x ∧ x ≤ 9223372036854775807 ∧ 1 ≤ y) (h : next (put l d (.int .i64 (x / y))) w) : OW ro P ⟨d, .binOp .quo T X Y T', ty, pos, aft, g⟩ l ds w next Q :=
  ow_quo hx hy (by omega) (by rw [IntWalk.i64_quo _ _ hr]; exact h)
theorem ow_quo8 {x y : Int} (hx : ev l X = .int .u8 x) (hy : ev l Y = .int .u8 y) (hr : 0 ≤ x ∧ x ≤ 255 ∧ 1 ≤ y) (h : next (put l d (.int .u8 (x / y))) w) : OW ro P ⟨d, .binOp .quo T X Y T', ty, pos, aft, g⟩ l ds w next Q :=
  ow_quo hx hy (by omega) (by rw [IntWalk.u8_quo _ _ hr]; exact h)
theorem ow_remp {k : IntKind} {x y : Int} (hx : ev l X = .int k x) (hy : ev l Y = .int k y) (hr : 0 ≤ x ∧ 1 ≤ y) (h : next (put l d (.int k (x % y))) w) : OW ro P ⟨d, .binOp .rem T X Y T', ty, pos, aft, g⟩ l ds w next Q :=
  ow_rem hx hy (by omega) (by rw [IntWalk.rem_in _ _ hr.1]; exact h)
theorem ow_bits_and {k : IntKind} {x y : Int} (hx : ev l X = .int k x) (hy : ev l Y = .int k y) (h : next (put l d (.int k (k.wrap ((BitVec.ofInt k.bits x &&& BitVec.ofInt k.bits y).toNat)))) w) : OW ro P ⟨d, .binOp .and T X Y T', ty, pos, aft, g⟩ l ds w next Q :=
  ow_run (by simp [execOp, hx, hy, eqGuard, binOp, Op.intBits]) rfl h
theorem ow_bits_or {k : IntKind} {x y : Int} (hx : ev l X = .int k x) (hy : ev l Y = .int k y) (h : next (put l d (.int k (k.wrap ((BitVec.ofInt k.bits x ||| BitVec.ofInt k.bits y).toNat)))) w) : OW ro P ⟨d, .binOp .or T X Y T', ty, pos, aft, g⟩ l ds w next Q :=
  ow_run (by simp [execOp, hx, hy, eqGuard, binOp, Op.intBits]) rfl h
theorem ow_shl {k j : IntKind} {x y : Int} (hx : ev l X = .int k x) (hy : ev l Y = .int j y) (h0 : 0 ≤ y) (h : next (put l d (.int k (k.wrap (x * 2 ^ (min y.toNat k.bits))))) w) : OW ro P ⟨d, .binOp .shl T X Y T', ty, pos, aft, g⟩ l ds w next Q :=
  ow_run (v := .int k (k.wrap (x * 2 ^ (min y.toNat k.bits)))) (by simp [execOp, hx, hy, eqGuard, binOp, Op.shift, show ¬ y < 0 by omega]) rfl h
theorem ow_shr {k j : IntKind} {x y : Int} (hx : ev l X = .int k x) (hy : ev l Y = .int j y) (h0 : 0 ≤ y) (h : next (put l d (.int k (x.fdiv (2 ^ (min y.toNat k.bits))))) w) : OW ro P ⟨d, .binOp .shr T X Y T', ty, pos, aft, g⟩ l ds w next Q :=
  ow_run (v := .int k (x.fdiv (2 ^ (min y.toNat k.bits)))) (by simp [execOp, hx, hy, eqGuard, binOp, Op.shift, show ¬ y < 0 by omega]) rfl h
theorem ow_eql {k : IntKind} {x y : Int} (hx : ev l X = .int k x) (hy : ev l Y = .int k y) (h : next (put l d (.bool (decide (x = y)))) w) : OW ro P ⟨d, .binOp .eql T X Y T', ty, pos, aft, g⟩ l ds w next Q :=
  ow_run (v := .bool (decide (x = y))) (by simp [execOp, hx, hy, eqGuard, binOp, Op.intCmp]; rfl) rfl h
theorem ow_neq {k : IntKind} {x y : Int} (hx : ev l X = .int k x) (hy : ev l Y = .int k y) (h : next (put l d (.bool (!decide (x = y)))) w) : OW ro P ⟨d, .binOp .neq T X Y T', ty, pos, aft, g⟩ l ds w next Q :=
  ow_run (v := .bool (!decide (x = y))) (by simp [execOp, hx, hy, eqGuard, binOp, Op.intCmp]; rfl) rfl h
theorem ow_lss {k : IntKind} {x y : Int} (hx : ev l X = .int k x) (hy : ev l Y = .int k y) (h : next (put l d (.bool (decide (x < y)))) w) : OW ro P ⟨d, .binOp .lss T X Y T', ty, pos, aft, g⟩ l ds w next Q :=
  ow_run (v := .bool (decide (x < y))) (by simp [execOp, hx, hy, eqGuard, binOp, Op.intCmp]) rfl h
theorem ow_leq {k : IntKind} {x y : Int} (hx : ev l X = .int k x) (hy : ev l Y = .int k y) (h : next (put l d (.bool (decide (x ≤ y)))) w) : OW ro P ⟨d, .binOp .leq T X Y T', ty, pos, aft, g⟩ l ds w next Q :=
  ow_run (v := .bool (decide (x ≤ y))) (by simp [execOp, hx, hy, eqGuard, binOp, Op.intCmp]) rfl h
theorem ow_gtr {k : IntKind} {x y : Int} (hx : ev l X = .int k x) (hy : ev l Y = .int k y) (h : next (put l d (.bool (decide (y < x)))) w) : OW ro P ⟨d, .binOp .gtr T X Y T', ty, pos, aft, g⟩ l ds w next Q :=
  ow_run (v := .bool (decide (y < x))) (by simp [execOp, hx, hy, eqGuard, binOp, Op.intCmp]) rfl h
theorem ow_geq {k : IntKind} {x y : Int} (hx : ev l X = .int k x) (hy : ev l Y = .int k y) (h : next (put l d (.bool (decide (y ≤ x)))) w) : OW ro P ⟨d, .binOp .geq T X Y T', ty, pos, aft, g⟩ l ds w next Q :=
  ow_run (v := .bool (decide (y ≤ x))) (by simp [execOp, hx, hy, eqGuard, binOp, Op.intCmp]) rfl h
theorem run_equal_bool {x y : Bool} (ht : P.underlying T = some .bool) (w : World) : (Op.equal T (.bool x) (.bool y)).run P w = .ok (decide (x = y)) w := by
  show (Op.equalIn (9999 + 1) T (.bool x) (.bool y)).run P w = _
  unfold Op.equalIn
  simp [underlying, ht]
  cases x <;> cases y <;> rfl
theorem ow_eqlb {x y : Bool} (ht : P.underlying T = some .bool) (hx : ev l X = .bool x) (hy : ev l Y = .bool y) (h : next (put l d (.bool (decide (x = y)))) w) : OW ro P ⟨d, .binOp .eql T X Y T', ty, pos, aft, g⟩ l ds w next Q :=
  ow_run (v := .bool (decide (x = y))) (by simp [execOp, hx, hy, eqGuard, binOp, run_equal_bool ht]) rfl h
theorem ow_neqb {x y : Bool} (ht : P.underlying T = some .bool) (hx : ev l X = .bool x) (hy : ev l Y = .bool y) (h : next (put l d (.bool (!decide (x = y)))) w) : OW ro P ⟨d, .binOp .neq T X Y T', ty, pos, aft, g⟩ l ds w next Q :=
  ow_run (v := .bool (!decide (x = y))) (by simp [execOp, hx, hy, eqGuard, binOp, run_equal_bool ht]) rfl h
theorem ow_not {x : Bool} (hx : ev l X = .bool x) (h : next (put l d (.bool (!x))) w) : OW ro P ⟨d, .unOp .not T X, ty, pos, aft, g⟩ l ds w next Q :=
  ow_run (v := .bool (!x)) (by simp [execOp, hx, Op.unary]) rfl h
theorem ow_neg {k : IntKind} {x : Int} (hx : ev l X = .int k x) (h : next (put l d (.int k (k.wrap (-x)))) w) : OW ro P ⟨d, .unOp .neg T X, ty, pos, aft, g⟩ l ds w next Q :=
  ow_run (v := .int k (k.wrap (-x))) (by simp [execOp, hx, Op.unary, Op.intArith]) rfl h
theorem ow_conv {k k' : IntKind} {n : Int} {du : TypeDesc} (hs : P.underlying T = some du) (ht : P.underlying T' = some (.int k')) (hx : ev l X = .int k n) (h : next (put l d (.int k' (k'.wrap n))) w) :
    OW ro P ⟨d, .convert T T' X, ty, pos, aft, g⟩ l ds w next Q :=
  ow_run (v := .int k' (k'.wrap n)) (by simp [execOp, hx, convert, underlying, hs, ht, Conv.intToInt]) rfl h
theorem ow_conv64 {k : IntKind} {n : Int} {du : TypeDesc} (hs : P.underlying T = some du) (ht : P.underlying T' = some (.int .i64)) (hx : ev l X = .int k n) (hr : -9223372036854775808 ≤ n ∧ n ≤ 9223372036854775807) (h : next (put l d (.int .i64 n)) w) :
    OW ro P ⟨d, .convert T T' X, ty, pos, aft, g⟩ l ds w next Q :=
  ow_conv hs ht hx (by rw [IntWalk.i64_in _ hr]; exact h)
theorem ow_conv8 {k : IntKind} {n : Int} {du : TypeDesc} (hs : P.underlying T = some du) (ht : P.underlying T' = some (.int .u8)) (hx : ev l X = .int k n) (hr : 0 ≤ n ∧ n ≤ 255) (h : next (put l d (.int .u8 n)) w) :
    OW ro P ⟨d, .convert T T' X, ty, pos, aft, g⟩ l ds w next Q :=
  ow_conv hs ht hx (by rw [IntWalk.u8_in _ hr]; exact h)
end
end Go.Proofs.YtomfoaaaeidpnaaDoor
