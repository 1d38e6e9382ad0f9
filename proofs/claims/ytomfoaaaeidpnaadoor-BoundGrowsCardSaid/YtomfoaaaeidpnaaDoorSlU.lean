/-
  The operations again, what is known of the types being found by itself.
-/
import Derived.Test.YtomfoaaaeidpnaaDoorSlB
import Derived.Test.YtomfoaaaeidpnaaDoorSlT
set_option linter.unusedVariables false
set_option linter.unusedSimpArgs false
namespace Go.Proofs.YtomfoaaaeidpnaaDoor
open Go Go.RowKit

section
variable {ro : Option Nat} {P : Program} {l : List Value} {ds : List Deferred} {w : World} {next : List Value → World → Prop} {Q : Exit → Act → World → Prop}
variable {d : Option Tmp} {ty : TypeId} {pos : String} {aft : Array Edge} {g : Option (Nat × Bool)} {T T' T'' : TypeId} {X Y Z : Operand}
variable {E : Env} {L : List Item} {z z' z'' : Value} {zs zs' zs'' : List Value} {sz sz' sz'' by_ by' by'' : Nat} {u u' : TypeDesc}

theorem t_eqlb {x y : Bool} [t : Ty P T .bool z zs sz by_] (hx : ev l X = .bool x) (hy : ev l Y = .bool y) (h : next (put l d (.bool (decide (x = y)))) w) : OW ro P ⟨d, .binOp .eql T X Y T', ty, pos, aft, g⟩ l ds w next Q := ow_eqlb t.und hx hy h
theorem t_neqb {x y : Bool} [t : Ty P T .bool z zs sz by_] (hx : ev l X = .bool x) (hy : ev l Y = .bool y) (h : next (put l d (.bool (!decide (x = y)))) w) : OW ro P ⟨d, .binOp .neq T X Y T', ty, pos, aft, g⟩ l ds w next Q := ow_neqb t.und hx hy h
theorem t_conv {k k' : IntKind} {n : Int} [t : Ty P T u z zs sz by_] [t' : Ty P T' (.int k') z' zs' sz' by'] (hx : ev l X = .int k n) (h : next (put l d (.int k' (k'.wrap n))) w) : OW ro P ⟨d, .convert T T' X, ty, pos, aft, g⟩ l ds w next Q := ow_conv t.und t'.und hx h
theorem t_conv64 {k : IntKind} {n : Int} [t : Ty P T u z zs sz by_] [t' : Ty P T' (.int .i64) z' zs' sz' by'] (hx : ev l X = .int k n) (hr : -9223372036854775808 ≤ n ∧ n ≤ 9223372036854775807) (h : next (put l d (.int .i64 n)) w) : OW ro P ⟨d, .convert T T' X, ty, pos, aft, g⟩ l ds w next Q := ow_conv64 t.und t'.und hx hr h
theorem t_conv8 {k : IntKind} {n : Int} [t : Ty P T u z zs sz by_] [t' : Ty P T' (.int .u8) z' zs' sz' by'] (hx : ev l X = .int k n) (hr : 0 ≤ n ∧ n ≤ 255) (h : next (put l d (.int .u8 n)) w) : OW ro P ⟨d, .convert T T' X, ty, pos, aft, g⟩ l ds w next Q := ow_conv8 t.und t'.und hx hr h
theorem t_len_str {s : List UInt8} [t : Ty P T .string z zs sz by_] (hx : ev l X = .string (bs s)) (h : next (put l d (.int .i64 (s.length : Int))) w) : OW ro P ⟨d, .call { callee := .builtin .len, args := #[X], argTypes := #[T] }, ty, pos, aft, g⟩ l ds w next Q := ow_len_str t.und hx h
theorem t_len_slice {e : TypeId} {a : Option Addr} {n c : Nat} [t : Ty P T (.slice e) z zs sz by_] (hx : ev l X = .slice a n c) (h : next (put l d (.int .i64 (n : Int))) w) : OW ro P ⟨d, .call { callee := .builtin .len, args := #[X], argTypes := #[T] }, ty, pos, aft, g⟩ l ds w next Q := ow_len_slice t.und hx h
theorem t_index_str {s : List UInt8} {k : IntKind} {i : Int} {b : UInt8} [t : Ty P T .string z zs sz by_] (hx : ev l X = .string (bs s)) (hi : ev l Y = .int k i) (h0 : 0 ≤ i) (hb : s[i.toNat]? = some b) (h : next (put l d (u8 b)) w) : OW ro P ⟨d, .index T X Y, ty, pos, aft, g⟩ l ds w next Q := ow_index_str t.und hx hi h0 hb h
theorem t_slice_from {s : List UInt8} {k : IntKind} {i : Int} [t : Ty P T .string z zs sz by_] (hx : ev l X = .string (bs s)) (hi : ev l Y = .int k i) (h0 : 0 ≤ i ∧ i ≤ s.length) (h : next (put l d (.string (bs (s.drop i.toNat)))) w) : OW ro P ⟨d, .slice T X (some Y) none none, ty, pos, aft, g⟩ l ds w next Q := ow_slice_from t.und hx hi h0 h
theorem t_slice_to {s : List UInt8} {k : IntKind} {i : Int} [t : Ty P T .string z zs sz by_] (hx : ev l X = .string (bs s)) (hi : ev l Y = .int k i) (h0 : 0 ≤ i ∧ i ≤ s.length) (h : next (put l d (.string (bs (s.take i.toNat)))) w) : OW ro P ⟨d, .slice T X none (some Y) none, ty, pos, aft, g⟩ l ds w next Q := ow_slice_to t.und hx hi h0 h
theorem t_alloc [t : Ty P T u z zs sz by_] (hA : Sat E L w) (h : ∀ b w', Sat E (cells b zs T :: L) w' → next (put l d (.pointer (some ⟨b, 0, none⟩))) w') : OW ro P ⟨d, .alloc T, ty, pos, aft, g⟩ l ds w next Q := ow_alloc t.zero t.zc hA h
theorem t_load (i : Nat) {b k : Nat} {cs : List Value} {S : TypeId} {v : Value} [t : Ty P T u z zs sz by_] (hu : plainT u = true) (hx : ev l X = .pointer (some ⟨b, k, none⟩)) (hA : Sat E L w) (hi : L[i]? = some (cells b cs S)) (hv : cs[k]? = some v) (h : next (put l d v) w) : OW ro P ⟨d, .load T X, ty, pos, aft, g⟩ l ds w next Q := ow_load i t.und hu hx hA hi hv h
theorem t_load_env {a : Addr} {v : Value} [t : Ty P T u z zs sz by_] (hu : plainT u = true) (hx : ev l X = .pointer (some a)) (hA : Sat E L w) (hv : E.cell? a = some v) (h : next (put l d v) w) : OW ro P ⟨d, .load T X, ty, pos, aft, g⟩ l ds w next Q := ow_load_env t.und hu hx hA hv h
theorem t_load_agg (i : Nat) {b k : Nat} {cs vs : List Value} {S : TypeId} [t : Ty P T u z zs sz by_] (hu : plainT u = false) (hx : ev l X = .pointer (some ⟨b, k, none⟩)) (hA : Sat E L w) (hi : L[i]? = some (cells b cs S)) (hk : k + sz ≤ cs.length) (hvs : (cs.drop k).take sz = vs) (h : next (put l d (.agg ⟨vs⟩)) w) : OW ro P ⟨d, .load T X, ty, pos, aft, g⟩ l ds w next Q := ow_load_agg i t.und hu t.size hx hA hi hk (by rw [hvs]; exact h)
theorem t_store (i : Nat) {b k : Nat} {cs : List Value} {S : TypeId} {v : Value} [t : Ty P T u z zs 1 by_] (hx : ev l X = .pointer (some ⟨b, k, none⟩)) (hy : ev l Y = v) (h1 : v.oneCell' = true) (hA : Sat E L w) (hi : L[i]? = some (cells b cs S)) (hk : k < cs.length) (h : ∀ w', Sat E (L.set i (cells b (cs.set k v) S)) w' → next (put l d undef) w') : OW ro P ⟨d, .store T X Y, ty, pos, aft, g⟩ l ds w next Q := ow_store i hx hy h1 t.size hA hi hk h
theorem t_store_agg (i : Nat) {b k : Nat} {cs vs : List Value} {S : TypeId} [t : Ty P T u z zs sz by_] (hx : ev l X = .pointer (some ⟨b, k, none⟩)) (hy : ev l Y = .agg ⟨vs⟩) (h1 : ∀ v ∈ vs, v.oneCell' = true) (hl : vs.length = sz) (hA : Sat E L w) (hi : L[i]? = some (cells b cs S)) (hk : k + vs.length ≤ cs.length) (h : ∀ w', Sat E (L.set i (cells b (cs.take k ++ vs ++ cs.drop (k + vs.length)) S)) w' → next (put l d undef) w') : OW ro P ⟨d, .store T X Y, ty, pos, aft, g⟩ l ds w next Q := ow_store_agg i hx hy h1 (by rw [hl]; exact t.size) hA hi hk h
theorem t_fieldAddr {f b k off : Nat} [t : Fd P T f off] (hx : ev l X = .pointer (some ⟨b, k, none⟩)) (h : next (put l d (.pointer (some ⟨b, k + off, none⟩))) w) : OW ro P ⟨d, .fieldAddr T X f, ty, pos, aft, g⟩ l ds w next Q := by
  obtain ⟨fs, fl, n, h1, h2, h3, rfl⟩ := t.ex
  exact ow_fieldAddr h1 h2 h3 hx (by rw [add_plain]; exact h)
theorem t_append (i : Nat) {e : TypeId} {v x : Value} {n m : Nat} {xs news : List Value} [t : Ty P T (.slice e) z zs sz by_] [t' : Ty P e u' z' zs' sz' by'] (hu : P.underlying T' = some u) (hdu : (∃ e', u = .slice e') ∨ u = .string) (hsz : 0 < sz') (hzl : zs'.length = sz')
    (hx : ev l X = v) (hy : ev l Y = x) (hA : Sat E L w) (hi : L[i]? = some (row e sz' v n xs)) (hsrc : Src P sz' x m news w) (hr : n + m ≤ maxLen) (hb : (n + m) * by' ≤ 140737488355328)
    (h : ∀ v' w', Sat E (L.set i (row e sz' v' (n + m) (xs ++ news))) w' → v'.oneCell' = true → (v' = .slice none 0 0 ↔ v = .slice none 0 0 ∧ m = 0) → next (put l d v') w') :
    OW ro P ⟨d, .call { callee := .builtin .append, args := #[X, Y], argTypes := #[T, T'] }, ty, pos, aft, g⟩ l ds w next Q := ow_append i t.und hu hdu t'.inf (by rw [t'.zc]; exact hzl) hsz hx hy hA hi hsrc hr hb h
theorem t_append1 (i j : Nat) {e : TypeId} {b : Nat} {v : Value} {n c m : Nat} {xs news : List Value} {S : TypeId} [t : Ty P T (.slice e) z zs sz by_] [t' : Ty P e u' z' zs' sz' by'] (hsz : 0 < sz') (hzl : zs'.length = sz')
    (hx : ev l X = v) (hy : ev l Y = .slice (some ⟨b, 0, none⟩) m c) (hA : Sat E L w) (hi : L[i]? = some (row e sz' v n xs)) (hj : L[j]? = some (cells b news S)) (hl : news.length = m * sz') (ho : ∀ u ∈ news, u.oneCell' = true)
    (hr : n + m ≤ maxLen) (hb : (n + m) * by' ≤ 140737488355328)
    (h : ∀ v' w', Sat E ((L.set i (row e sz' v' (n + m) (xs ++ news))).eraseIdx j) w' → v'.oneCell' = true → (v' = .slice none 0 0 ↔ v = .slice none 0 0 ∧ m = 0) → next (put l d v') w') :
    OW ro P ⟨d, .call { callee := .builtin .append, args := #[X, Y], argTypes := #[T, T] }, ty, pos, aft, g⟩ l ds w next Q := ow_append1 i j t.und t'.inf (by rw [t'.zc]; exact hzl) hsz hx hy hA hi hj hl ho hr hb h
theorem t_make {e : TypeId} {kl kc : IntKind} {n : Int} [t : Ty P T (.slice e) z zs sz by_] [t' : Ty P e u' z' zs' sz' by'] (hx : ev l X = .int kl 0) (hy : ev l Y = .int kc n) (hn : 0 ≤ n ∧ n ≤ 9223372036854775807) (hb : (by' : Int) * n ≤ 281474976710656) (hA : Sat E L w)
    (h : ∀ v w', Sat E (row e sz' v 0 [] :: L) w' → v.oneCell' = true → v ≠ .slice none 0 0 → next (put l d v) w') : OW ro P ⟨d, .makeSlice T X Y, ty, pos, aft, g⟩ l ds w next Q := ow_make t.und t'.inf hx hy hn hb hA h
theorem t_bytes_str (i : Nat) {e : TypeId} {v : Value} {n : Nat} {s : List UInt8} [t : Ty P T (.slice e) z zs sz by_] [t' : Ty P e (.int .u8) z' zs' sz' by'] [t'' : Ty P T' .string z'' zs'' sz'' by''] (hx : ev l X = v) (hA : Sat E L w) (hi : L[i]? = some (row e 1 v n (s.map u8))) (h : next (put l d (.string (bs s))) w) : OW ro P ⟨d, .convert T T' X, ty, pos, aft, g⟩ l ds w next Q := ow_bytes_str i t.und t'.und t''.und hx hA hi h
theorem t_bytes_str' (i : Nat) (s : List UInt8) {e : TypeId} {v : Value} {n : Nat} {xs : List Value} [t : Ty P T (.slice e) z zs sz by_] [t' : Ty P e (.int .u8) z' zs' sz' by'] [t'' : Ty P T' .string z'' zs'' sz'' by''] (hx : ev l X = v) (hA : Sat E L w) (hi : L[i]? = some (row e 1 v n xs)) (hs : xs = s.map u8) (h : next (put l d (.string (bs s))) w) : OW ro P ⟨d, .convert T T' X, ty, pos, aft, g⟩ l ds w next Q := by
  subst hs; exact t_bytes_str i hx hA hi h
/-- Bytes made a string: a row of cells. -/
theorem t_cells_str (i : Nat) {e S : TypeId} {b n c : Nat} {vs : List Value} {s : List UInt8} [t : Ty P T (.slice e) z zs sz by_] [t' : Ty P e (.int .u8) z' zs' sz' by'] [t'' : Ty P T' .string z'' zs'' sz'' by''] (hx : ev l X = .slice (some ⟨b, 0, none⟩) n c) (hA : Sat E L w) (hi : L[i]? = some (cells b vs S)) (hs : vs = s.map u8) (hn : n = s.length) (h : next (put l d (.string (bs s))) w) : OW ro P ⟨d, .convert T T' X, ty, pos, aft, g⟩ l ds w next Q := by
  subst hs hn
  refine ow_run (v := .string (bs s)) ?_ rfl h
  have hload := run_loadCells_list (P := P) w ⟨b, 0, none⟩ (s.map u8) (fun j u hj => by rw [add_plain, Nat.zero_add, hA.cellOwn hi]; exact hj)
  simp only [List.length_map] at hload
  have hm : (s.map fun b => (b.toNat : Int)).map (Value.int .u8) = s.map u8 := by simp
  have hr := run_bytesToString (P := P) w ⟨b, 0, none⟩ s.length c (s.map fun b => (b.toNat : Int)) (by rw [hm]; exact hload)
  have hf := fold_push s []
  simp only [List.nil_append] at hf
  rw [show ByteArray.empty = bs [] from rfl, hf] at hr
  simp [execOp, hx, convert, underlying, t.und, t''.und, t'.und, hr]
theorem t_build {fs : Array Field} {cs : List Value} {pls : List (Nat × Option Nat)} {parts : Array (Nat × Operand)} [t : Ty P T (.struct fs) z zs sz by_]
    (hpl : fs.toList.map (fun f => (f.offset, (P.info? f.type).map (·.size))) = pls) (hf : fillL (fun i => (pls[i]?).bind fun p => p.2.map fun n => (p.1, n)) zs (parts.toList.map fun p => (p.1, ev l p.2)) = some cs)
    (hok : (pls.all fun p => p.2.isSome) = true) (h : next (put l d (.agg ⟨cs⟩)) w) : OW ro P ⟨d, .build T parts, ty, pos, aft, g⟩ l ds w next Q := ow_build t.und t.zero t.zc hpl hf hok h
theorem t_buildSlice {e : TypeId} {cs : List Value} {n : Nat} {parts : Array (Nat × Operand)} [t : Ty P T (.slice e) z zs sz by_] [t' : Ty P e u' z' zs' sz' by'] (hzl : zs'.length = sz')
    (hn : 0 < n * sz' ∧ n * sz' ≤ 16777216) (hf : fillL (fun i => some (i * sz', sz')) (zeroRow zs' n) (parts.toList.map fun p => (p.1, ev l p.2)) = some cs) (hA : Sat E L w)
    (h : ∀ b w', Sat E (cells b cs e :: L) w' → next (put l d (.slice (some ⟨b, 0, none⟩) n n)) w') : OW ro P ⟨d, .buildSlice T n parts, ty, pos, aft, g⟩ l ds w next Q :=
  ow_buildSlice t.und (by have := t'.inf; cases hi : P.info? e with | none => rw [hi] at this; cases this | some i => rw [hi] at this; simp at this; simp [this.1, this.2.1]) t'.zc hzl hn hf hA h
end
end Go.Proofs.YtomfoaaaeidpnaaDoor
