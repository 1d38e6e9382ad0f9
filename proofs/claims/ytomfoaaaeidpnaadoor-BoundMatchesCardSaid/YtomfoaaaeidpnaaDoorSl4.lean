/-
  Strings, cells, slices: each operation by one law.
-/
import Derived.Test.YtomfoaaaeidpnaaDoorSl3
import Derived.Laws.Concat
import Derived.Laws.BytesString
import Derived.Lib.Strings
set_option linter.unusedVariables false
set_option linter.unusedSimpArgs false
namespace Go.Proofs.YtomfoaaaeidpnaaDoor
open Go Go.RowKit

/-- A string of bytes. -/
abbrev bs (s : List UInt8) : ByteArray := ⟨⟨s⟩⟩
/-- A byte as a value. -/
abbrev u8 (b : UInt8) : Value := .int .u8 (b.toNat : Int)
theorem bs_data (s : ByteArray) : bs s.data.toList = s := rfl
theorem bs_size (s : List UInt8) : (bs s).size = s.length := rfl
theorem bs_toList (s : List UInt8) : (bs s).toList = s := ByteArray.toList_eq _
theorem bs_append (s t : List UInt8) : bs s ++ bs t = bs (s ++ t) := ByteArray.mk_append_mk s t
theorem bs_extract (s : List UInt8) (a b : Nat) : (bs s).extract a b = bs ((s.drop a).take (b - a)) := Lib.extract_eq (bs s) a b
theorem bs_get (s : List UInt8) (i : Nat) : (bs s)[i]? = s[i]? := by
  simp [getElem?_def]; rfl
theorem beq_dec (s t : List UInt8) : (s == t) = decide (s = t) := by by_cases h : s = t <;> simp [h]
theorem bs_inj {s t : List UInt8} : bs s = bs t ↔ s = t := by constructor <;> intro h <;> (first | (cases h; rfl) | (subst h; rfl))

section
variable {ro : Option Nat} {P : Program} {l : List Value} {ds : List Deferred} {w : World} {next : List Value → World → Prop} {Q : Exit → Act → World → Prop}
variable {d : Option Tmp} {ty : TypeId} {pos : String} {aft : Array Edge} {g : Option (Nat × Bool)} {T T' T'' : TypeId} {X Y Z : Operand}
variable {E : Env} {L : List Item}

/-! ### Strings -/
theorem ow_len_str {s : List UInt8} (ht : P.underlying T = some .string) (hx : ev l X = .string (bs s)) (h : next (put l d (.int .i64 (s.length : Int))) w) :
    OW ro P ⟨d, .call { callee := .builtin .len, args := #[X], argTypes := #[T] }, ty, pos, aft, g⟩ l ds w next Q :=
  ow_run (v := .int .i64 (s.length : Int)) (by simp [execOp, resolve, invoke, builtin, Builtin.len_, underlying, ht, hx, goInt, bs_size]) rfl h
theorem ow_len_slice {e : TypeId} {a : Option Addr} {n c : Nat} (ht : P.underlying T = some (.slice e)) (hx : ev l X = .slice a n c) (h : next (put l d (.int .i64 (n : Int))) w) :
    OW ro P ⟨d, .call { callee := .builtin .len, args := #[X], argTypes := #[T] }, ty, pos, aft, g⟩ l ds w next Q :=
  ow_run (v := .int .i64 (n : Int)) (by simp [execOp, resolve, invoke, builtin, Builtin.len_, underlying, ht, hx, goInt]) rfl h
theorem ow_index_str {s : List UInt8} {k : IntKind} {i : Int} {b : UInt8} (ht : P.underlying T = some .string) (hx : ev l X = .string (bs s)) (hi : ev l Y = .int k i) (h0 : 0 ≤ i) (hb : s[i.toNat]? = some b)
    (h : next (put l d (u8 b)) w) : OW ro P ⟨d, .index T X Y, ty, pos, aft, g⟩ l ds w next Q :=
  ow_run (v := u8 b) (by simp [execOp, hx, hi, Instr.index, asIntOf, underlying, ht, h0, bs_get, hb]) rfl h
theorem ow_cat {s t : List UInt8} (hx : ev l X = .string (bs s)) (hy : ev l Y = .string (bs t)) (hr : s.length + t.length ≤ 9223372036854775807) (h : next (put l d (.string (bs (s ++ t)))) w) :
    OW ro P ⟨d, .binOp .add T X Y T', ty, pos, aft, g⟩ l ds w next Q :=
  ow_run (v := .string (bs (s ++ t))) (by
    have := run_string_add_sum (P := P) w (bs s) (bs t) (by simpa [bs_size] using hr)
    simp [execOp, hx, hy, eqGuard, binOp, this, bs_append]) rfl h
theorem ow_eqs {s t : List UInt8} (hx : ev l X = .string (bs s)) (hy : ev l Y = .string (bs t)) (h : next (put l d (.bool (decide (s = t)))) w) : OW ro P ⟨d, .binOp .eql T X Y T', ty, pos, aft, g⟩ l ds w next Q :=
  ow_run (v := .bool (decide (s = t))) (by simp [execOp, hx, hy, eqGuard, binOp, Op.stringOp, bs_toList, beq_dec]) rfl h
theorem ow_neqs {s t : List UInt8} (hx : ev l X = .string (bs s)) (hy : ev l Y = .string (bs t)) (h : next (put l d (.bool (!decide (s = t)))) w) : OW ro P ⟨d, .binOp .neq T X Y T', ty, pos, aft, g⟩ l ds w next Q :=
  ow_run (v := .bool (!decide (s = t))) (by simp [execOp, hx, hy, eqGuard, binOp, Op.stringOp, bs_toList, beq_dec]) rfl h
/-- s[i:] -/
theorem ow_slice_from {s : List UInt8} {k : IntKind} {i : Int} (ht : P.underlying T = some .string) (hx : ev l X = .string (bs s)) (hi : ev l Y = .int k i) (h0 : 0 ≤ i ∧ i ≤ s.length)
    (h : next (put l d (.string (bs (s.drop i.toNat)))) w) : OW ro P ⟨d, .slice T X (some Y) none none, ty, pos, aft, g⟩ l ds w next Q :=
  ow_run (v := .string (bs (s.drop i.toNat))) (by
    have h1 : i ≤ ((bs s).size : Int) := by simpa [bs_size] using h0.2
    have e : (bs s).extract i.toNat (bs s).size = bs (s.drop i.toNat) := by
      rw [bs_extract, bs_size, List.take_of_length_le (by simp)]
    simp [execOp, hx, hi, Instr.sliceAt, Instr.slice, Instr.sliceBounds, Instr.sliceBound, asIntOf, underlying, ht, h0.1, h1, e]) rfl h
/-- s[:i] -/
theorem ow_slice_to {s : List UInt8} {k : IntKind} {i : Int} (ht : P.underlying T = some .string) (hx : ev l X = .string (bs s)) (hi : ev l Y = .int k i) (h0 : 0 ≤ i ∧ i ≤ s.length)
    (h : next (put l d (.string (bs (s.take i.toNat)))) w) : OW ro P ⟨d, .slice T X none (some Y) none, ty, pos, aft, g⟩ l ds w next Q :=
  ow_run (v := .string (bs (s.take i.toNat))) (by
    have h1 : i ≤ ((bs s).size : Int) := by simpa [bs_size] using h0.2
    have e : (bs s).extract 0 i.toNat = bs (s.take i.toNat) := by rw [bs_extract]; simp
    simp [execOp, hx, hi, Instr.sliceAt, Instr.slice, Instr.sliceBounds, Instr.sliceBound, asIntOf, underlying, ht, h0.1, h1, e]) rfl h

/-! ### Cells -/
def plainT : TypeDesc → Bool
  | .struct _ | .array _ _ => false
  | _ => true
theorem plain_isAgg {u : TypeDesc} (ht : P.underlying T = some u) (hu : plainT u = true) (w : World) : (isAgg T).run P w = .ok false w :=
  run_isAgg_plain ht (by cases u <;> first | rfl | cases hu) w
theorem ow_alloc {z : Value} {zs : List Value} (hz : (P.info? T).bind (·.zero) = some z) (hzs : z.cells = ⟨zs⟩) (hA : Sat E L w)
    (h : ∀ b w', Sat E (cells b zs T :: L) w' → next (put l d (.pointer (some ⟨b, 0, none⟩))) w') : OW ro P ⟨d, .alloc T, ty, pos, aft, g⟩ l ds w next Q := by
  obtain ⟨i, hi, hz'⟩ := Option.bind_eq_some_iff.1 hz
  have hs := hA.alloc (.cells z.cells T)
  rw [hzs] at hs
  refine ow_run (v := .pointer (some ⟨w.heap.size, 0, none⟩)) (w' := { w with heap := w.heap.push (.cells ⟨zs⟩ T) }) ?_ rfl (h _ _ hs)
  simp [execOp, Instr.alloc, zeroValue, typeInfo, hi, hz', newVar, newRow, hzs]
theorem ow_box {v : Value} {vs : List Value} (hx : ev l X = v) (hvs : v.cells = ⟨vs⟩) (hA : Sat E L w)
    (h : ∀ b w', Sat E (cells b vs T :: L) w' → next (put l d (.pointer (some ⟨b, 0, none⟩))) w') : OW ro P ⟨d, .box T X, ty, pos, aft, g⟩ l ds w next Q := by
  have hs := hA.alloc (.cells v.cells T)
  rw [hvs] at hs
  refine ow_run (v := .pointer (some ⟨w.heap.size, 0, none⟩)) (w' := { w with heap := w.heap.push (.cells ⟨vs⟩ T) }) ?_ rfl (h _ _ hs)
  simp [execOp, hx, Instr.box, newVar, newRow, hvs]

theorem ow_load_w {a : Addr} {v : Value} {u : TypeDesc} (ht : P.underlying T = some u) (hu : plainT u = true) (hx : ev l X = .pointer (some a)) (hc : w.cell? a = some v)
    (h : next (put l d v) w) : OW ro P ⟨d, .load T X, ty, pos, aft, g⟩ l ds w next Q :=
  ow_run (v := v) (by simp [execOp, hx, Instr.loadAt, Instr.sureAddr, loadVar, plain_isAgg ht hu, hc]) rfl h
/-- From the call's own. -/
theorem ow_load (i : Nat) {b k : Nat} {cs : List Value} {S : TypeId} {v : Value} {u : TypeDesc} (ht : P.underlying T = some u) (hu : plainT u = true)
    (hx : ev l X = .pointer (some ⟨b, k, none⟩)) (hA : Sat E L w) (hi : L[i]? = some (cells b cs S)) (hv : cs[k]? = some v) (h : next (put l d v) w) : OW ro P ⟨d, .load T X, ty, pos, aft, g⟩ l ds w next Q :=
  ow_load_w ht hu hx ((hA.cellOwn hi k).trans hv) h
/-- From what stays. -/
theorem ow_load_env {a : Addr} {v : Value} {u : TypeDesc} (ht : P.underlying T = some u) (hu : plainT u = true)
    (hx : ev l X = .pointer (some a)) (hA : Sat E L w) (hv : E.cell? a = some v) (h : next (put l d v) w) : OW ro P ⟨d, .load T X, ty, pos, aft, g⟩ l ds w next Q :=
  ow_load_w ht hu hx (hA.cell hv) h

theorem add_plain (g j k : Nat) : (⟨g, j, none⟩ : Addr).add k = ⟨g, j + k, none⟩ := by unfold Addr.add; split <;> simp_all

/-- A struct or an array, loaded whole. -/
theorem ow_load_agg (i : Nat) {b k sz : Nat} {cs : List Value} {S : TypeId} {u : TypeDesc} (ht : P.underlying T = some u) (hu : plainT u = false) (hsz : (P.info? T).map (·.size) = some sz)
    (hx : ev l X = .pointer (some ⟨b, k, none⟩)) (hA : Sat E L w) (hi : L[i]? = some (cells b cs S)) (hk : k + sz ≤ cs.length) (h : next (put l d (.agg ⟨(cs.drop k).take sz⟩)) w) :
    OW ro P ⟨d, .load T X, ty, pos, aft, g⟩ l ds w next Q := by
  obtain ⟨ii, hii, hss⟩ := Option.map_eq_some_iff.1 hsz
  have hl := run_loadCells_list (P := P) w ⟨b, k, none⟩ ((cs.drop k).take sz) (fun j v hj => by
    rw [add_plain, hA.cellOwn hi]
    rw [List.getElem?_take] at hj
    split at hj
    · simpa using hj
    · cases hj)
  have hlen : ((cs.drop k).take sz).length = sz := by simp; omega
  rw [hlen] at hl
  have hag : (isAgg T).run P w = .ok true w := by
    unfold isAgg
    cases u <;> first | (simp [underlying, ht]; done) | cases hu
  refine ow_run (v := .agg ⟨(cs.drop k).take sz⟩) ?_ rfl h
  simp [execOp, hx, Instr.loadAt, Instr.sureAddr, loadVar, hag, sizeOf, typeInfo, hii, hss, hl]

theorem Sat.store (hA : Sat E L w) {i b k : Nat} {cs : List Value} {S : TypeId} (hi : L[i]? = some (cells b cs S)) (v : Value) (hk : k < cs.length) :
    w.cell? ⟨b, k, none⟩ = some cs[k] ∧ w.frozen? ⟨b, k, none⟩ = false ∧ Sat E (L.set i (cells b (cs.set k v) S)) (w.setCell ⟨b, k, none⟩ v) := by
  have hb := hA.at_ hi
  simp only [obj] at hb
  refine ⟨by rw [hA.cellOwn hi]; simp [hk], by simp [World.frozen?, hb], ?_⟩
  refine hA.changeAt i hi rfl rfl rfl (by simp [World.setCell]) (fun c hc hne => ?_) ?_ (by simp [obj]) (by simp [obj])
  · have hne' : b ≠ c := fun e => hne (by simp [obj, e])
    simp [World.setCell, Array.getElem?_modify, hne']
  · simp [obj, World.setCell, Array.getElem?_modify, hb]
theorem ow_store (i : Nat) {b k : Nat} {cs : List Value} {S : TypeId} {v : Value} (hx : ev l X = .pointer (some ⟨b, k, none⟩)) (hy : ev l Y = v) (h1 : v.oneCell' = true) (hsz : (P.info? T).map (·.size) = some 1)
    (hA : Sat E L w) (hi : L[i]? = some (cells b cs S)) (hk : k < cs.length) (h : ∀ w', Sat E (L.set i (cells b (cs.set k v) S)) w' → next (put l d undef) w') :
    OW ro P ⟨d, .store T X Y, ty, pos, aft, g⟩ l ds w next Q := by
  obtain ⟨ii, hii, hss⟩ := Option.map_eq_some_iff.1 hsz
  obtain ⟨h2, h3, h4⟩ := hA.store hi v hk
  have hv : v.cells = #[v] := by cases v <;> simp_all [Value.cells, Value.oneCell']
  refine ow_skip ?_ rfl (h _ h4)
  simp [execOp, hx, hy, Instr.storeAt, Instr.sureAddr, storeVar, hv, sizeOf, typeInfo, hii, hss, storeCells, run_store P w _ v _ h1, h2, h3, Addr.add]

/-- A struct or an array, stored whole. -/
theorem ow_store_agg (i : Nat) {b k : Nat} {cs vs : List Value} {S : TypeId} (hx : ev l X = .pointer (some ⟨b, k, none⟩)) (hy : ev l Y = .agg ⟨vs⟩) (h1 : ∀ v ∈ vs, v.oneCell' = true) (hsz : (P.info? T).map (·.size) = some vs.length)
    (hA : Sat E L w) (hi : L[i]? = some (cells b cs S)) (hk : k + vs.length ≤ cs.length) (h : ∀ w', Sat E (L.set i (cells b (cs.take k ++ vs ++ cs.drop (k + vs.length)) S)) w' → next (put l d undef) w') :
    OW ro P ⟨d, .store T X Y, ty, pos, aft, g⟩ l ds w next Q := by
  obtain ⟨ii, hii, hss⟩ := Option.map_eq_some_iff.1 hsz
  have hb := hA.at_ hi
  simp only [obj] at hb
  have hst := run_storeCells_at P b k S vs 0 ⟨cs⟩ w hb (by simpa using hk) h1
  refine ow_skip (w' := w.setRow b (cs.take k ++ vs ++ cs.drop (k + vs.length)).toArray) ?_ rfl (h _ ?_)
  · simp only [Nat.add_zero] at hst
    simp [execOp, hx, hy, Instr.storeAt, Instr.sureAddr, storeVar, Value.cells, sizeOf, typeInfo, hii, hss]
    simp at hst
    simp [hst]
  · refine hA.changeAt i hi rfl rfl rfl (by simp) (fun c hc hne => ?_) ?_ (by simp [obj]) (by simp [obj])
    · exact setRow_other w b c _ (fun e => hne (by simp [obj, e]))
    · exact setRow_heap w b _ _ S _ hb

theorem ow_fieldAddr {fs : Array Field} {f : Nat} {fl : Field} {a : Addr} {n : Nat} (ht : P.underlying T = some (.struct fs)) (hf : fs[f]? = some fl) (hsz : (P.info? fl.type).map (·.size) = some (n + 1)) (hx : ev l X = .pointer (some a))
    (h : next (put l d (.pointer (some (a.add fl.offset)))) w) : OW ro P ⟨d, .fieldAddr T X f, ty, pos, aft, g⟩ l ds w next Q := by
  obtain ⟨ii, hii, hss⟩ := Option.map_eq_some_iff.1 hsz
  refine ow_run (v := .pointer (some (a.add fl.offset))) ?_ rfl h
  simp [execOp, hx, Instr.fieldAt, Instr.sureAddr, underlying, ht, hf, fieldPlace, sizeOf, typeInfo, hii, hss]
end
end Go.Proofs.YtomfoaaaeidpnaaDoor
