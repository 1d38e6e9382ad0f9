/-
  Rows made whole, copied into, written to in one cell; elements of a list replaced.
-/
import Derived.Test.YtomfoaaaeidpnaaDoorSlZ
import Derived.Laws.CopyRow
import Derived.WalkSpells
set_option linter.unusedVariables false
set_option linter.unusedSimpArgs false
namespace Go.Proofs.YtomfoaaaeidpnaaDoor
open Go Go.RowKit
section
variable {ro : Option Nat} {P : Program} {l : List Value} {ds : List Deferred} {w : World} {next : List Value → World → Prop} {Q : Exit → Act → World → Prop}
variable {d : Option Tmp} {ty : TypeId} {pos : String} {aft : Array Edge} {g : Option (Nat × Bool)} {T T' : TypeId} {X Y Z : Operand}
variable {E E0 : Env} {L : List Item} {u u' : TypeDesc} {z z' : Value} {zs zs' : List Value} {sz sz' by_ by' : Nat}
/-- make([]T, n) -/
theorem t_makeN {e : TypeId} {kl kc : IntKind} {n : Nat} [t : Ty P T (.slice e) z zs sz by_] [t' : Ty P e u' z' zs' sz' by'] (hzl : zs'.length = sz') (hx : ev l X = .int kl n) (hy : ev l Y = .int kc n) (hn : n ≤ 9223372036854775807) (hb : by' * n ≤ 281474976710656) (hA : Sat E L w)
    (h : ∀ v w', Sat E (row e sz' v n (zeroRow zs' n) :: L) w' → v.oneCell' = true → v ≠ .slice none 0 0 → next (put l d v) w') : OW ro P ⟨d, .makeSlice T X Y, ty, pos, aft, g⟩ l ds w next Q := by
  obtain ⟨ii, hii, hzz⟩ := Option.map_eq_some_iff.1 t'.inf
  simp only [Prod.mk.injEq] at hzz
  obtain ⟨hz, hsz, hby⟩ := hzz
  subst hby
  have hrun := run_make (P := P) w T e ii z' t.und hii hz kl kc (n : Int) n (by omega) (Int.le_refl _) (by have := hb; omega) (by omega)
  simp only [Int.toNat_natCast] at hrun
  have hmc : (madeCells z'.cells (n * ii.size)).toList = zeroRow zs' n := by
    have h1 : z'.cells.size = ii.size := by rw [t'.zc, hsz, ← hzl]; rfl
    have h2 := zeros_eq z' n
    rw [h1] at h2
    unfold madeCells
    rw [h1, h2, t'.zc]
  have hs := hA.alloc (.cells (madeCells z'.cells (n * ii.size)) e)
  have hlen : (zeroRow zs' n).length = n * sz' := by rw [zeroRow_length, hzl]
  have hown : (w.alloc (.cells (madeCells z'.cells (n * ii.size)) e)).ownsRow 0 e sz' (.slice (some ⟨w.heap.size, 0, none⟩) n n) n (zeroRow zs' n) := by
    refine ⟨hlen, .inr ⟨w.heap.size, n, madeCells z'.cells (n * ii.size), rfl, Nat.zero_le _, by show (w.heap.push _)[w.heap.size]? = _; simp, Nat.le_refl _, by unfold maxLen; omega, by rw [size_madeCells, hsz], ?_⟩⟩
    rw [hmc, List.take_of_length_le (by omega)]
  refine ow_run (v := .slice (some ⟨w.heap.size, 0, none⟩) n n) (w' := w.alloc (.cells (madeCells z'.cells (n * ii.size)) e)) ?_ rfl (h _ _ ?_ rfl (by simp))
  · simp [execOp, hx, hy, hrun]
  · exact hs.change (it' := row e sz' (.slice (some ⟨w.heap.size, 0, none⟩) n n) n (zeroRow zs' n)) (w' := w.alloc (.cells (madeCells z'.cells (n * ii.size)) e)) rfl rfl rfl (Nat.le_refl _) (fun _ _ _ => rfl) hown (by simp [row, obj, Value.ownBlock]) (by simp [row, Value.ownBlock])
/-- []T{} -/
theorem t_lay0 {e : TypeId} [t : Ty P T (.slice e) z zs sz by_] [t' : Ty P e u' z' zs' sz' by'] (hA : Sat E L w)
    (h : ∀ v w', Sat E (row e sz' v 0 [] :: L) w' → v.oneCell' = true → v ≠ .slice none 0 0 → next (put l d v) w') : OW ro P ⟨d, .buildSlice T 0 #[], ty, pos, aft, g⟩ l ds w next Q := by
  obtain ⟨ii, hii, hss⟩ := Option.map_eq_some_iff.1 t'.size
  have hs := hA.alloc (.cells #[] e)
  have hown : (w.alloc (.cells #[] e)).ownsRow 0 e sz' (.slice (some ⟨w.heap.size, 0, none⟩) 0 0) 0 [] :=
    ⟨by simp, .inr ⟨w.heap.size, 0, #[], rfl, Nat.zero_le _, by show (w.heap.push _)[w.heap.size]? = _; simp, Nat.le_refl _, by unfold maxLen; omega, by simp, by simp⟩⟩
  refine ow_run (v := .slice (some ⟨w.heap.size, 0, none⟩) 0 0) (w' := w.alloc (.cells #[] e)) ?_ rfl (h _ _ ?_ rfl (by simp))
  · simp [execOp, Instr.buildSlice, underlying, t.und, sizeOf, typeInfo, hii, Instr.fill, newRow, World.alloc_eq, Array.range_zero']
  · exact hs.change (it' := row e sz' (.slice (some ⟨w.heap.size, 0, none⟩) 0 0) 0 []) (w' := w.alloc (.cells #[] e)) rfl rfl rfl (Nat.le_refl _) (fun _ _ _ => rfl) hown (by simp [row, obj, Value.ownBlock]) (by simp [row, Value.ownBlock])
theorem t_eqNil {e : TypeId} {v : Value} {a : Option Addr} {n c n' c' : Nat} [t : Ty P T (.slice e) z zs sz by_] (hx : ev l X = v) (hv : v = .slice a n c) (hy : ev l Y = .slice none n' c') (h : next (put l d (.bool a.isNone)) w) : OW ro P ⟨d, .binOp .eql T X Y T', ty, pos, aft, g⟩ l ds w next Q := by
  subst hv
  exact ow_run (v := .bool a.isNone) (by simp [execOp, hx, hy, eqGuard, Lib.run_eql_slice_nil w T e a n c n' c' t.und]) rfl h
/-- copy(dst, src): as many elements. -/
theorem t_copy (i : Nat) {e : TypeId} {n : Nat} {v s : Value} {xs ys : List Value} [t : Ty P T (.slice e) z zs sz by_] [t' : Ty P e u' z' zs' sz' by'] (hx : ev l X = v) (hy : ev l Y = s) (hA : Sat E L w) (hi : L[i]? = some (row e sz' v n xs)) (hs : SlE E sz' s n ys) (ho : ∀ r ∈ ys, r.oneCell' = true)
    (h : ∀ w', Sat E (L.set i (row e sz' v n ys)) w' → next (put l d (.int .i64 (n : Int))) w') : OW ro P ⟨d, .call { callee := .builtin .copy, args := #[X, Y], argTypes := #[T, T'] }, ty, pos, aft, g⟩ l ds w next Q := by
  have hown : w.ownsRow 0 e sz' v n xs := hA.at_ hi
  obtain ⟨ii, hii, hss⟩ := Option.map_eq_some_iff.1 t'.size
  have hmin : Nat.min n n = n := Nat.min_self n
  rcases row_shape hown with ⟨rfl, rfl, rfl⟩ | ⟨gb, cap, cur, hv, h1, h2, h4, h5, h6⟩
  · have : ys = [] := List.eq_nil_of_length_eq_zero (by simpa using hs.len)
    subst this
    have e1 : L.set i (row e sz' (.slice none 0 0) 0 []) = L := by
      apply List.ext_getElem? fun k => ?_
      rw [List.getElem?_set]
      split
      · rename_i hk; subst hk
        have := (List.getElem?_eq_some_iff.1 hi)
        rw [if_pos this.1, hi]
      · rfl
    rw [e1] at h
    obtain ⟨a, c, rfl⟩ := hs.shape
    have hl : ∀ (x : Addr), (loadCells x 0).run P w = .ok #[] w := fun x => by simpa using run_loadCells_list (P := P) w x [] (by simp)
    refine ow_run (v := .int .i64 ((0 : Nat) : Int)) ?_ rfl (h w hA)
    cases a <;> simp [execOp, resolve, invoke, builtin, hx, hy, Builtin.copy_, run_underlying t.und, Builtin.lenOf, Builtin.firstCells, sizeOf, typeInfo, hii, storeCells, hl, goInt]
  · subst hv
    have hlen := hown.1
    have hcur : n * sz' ≤ cur.size := by rw [h4]; exact Nat.mul_le_mul_right _ h2
    have hst := run_storeCells_at P gb 0 e ys 0 cur w h1 (by have := hs.len; omega) ho
    rw [Nat.add_zero] at hst
    have hnew : Sat E (L.set i (row e sz' (.slice (some ⟨gb, 0, none⟩) n cap) n ys)) (w.setRow gb (cur.toList.take 0 ++ ys ++ cur.toList.drop (0 + ys.length)).toArray) := by
      refine hA.changeAt i hi rfl rfl rfl (by simp) (fun c hc hne => ?_) ?_ (fun b hb => .inl hb) (by simp [row, Value.ownBlock])
      · exact setRow_other w gb c _ (fun e => hne (by simp [row, Value.ownBlock, e]))
      · have hh := setRow_heap w gb cur (cur.toList.take 0 ++ ys ++ cur.toList.drop (0 + ys.length)).toArray e (0, 0) h1
        refine ⟨hs.len, .inr ⟨gb, cap, _, rfl, Nat.zero_le _, hh, h2, h6, ?_, ?_⟩⟩
        · have := hs.len; simp; omega
        · have := hs.len
          simp only [List.take_zero, List.nil_append, List.toList_toArray]
          rw [List.take_append_of_le_length (by omega), List.take_of_length_le (by omega)]
    refine ow_run (v := .int .i64 (n : Int)) (w' := w.setRow gb (cur.toList.take 0 ++ ys ++ cur.toList.drop (0 + ys.length)).toArray) ?_ rfl (h _ hnew)
    rcases hs.sh with ⟨rfl, a, c, hsv⟩ | ⟨c, hsv⟩
    · have : ys = [] := List.eq_nil_of_length_eq_zero (by simpa using hs.len)
      subst this
      have hl : ∀ (x : Addr), (loadCells x 0).run P w = .ok #[] w := fun x => by simpa using run_loadCells_list (P := P) w x [] (by simp)
      have hst' : (storeCells ⟨gb, 0, none⟩ ([] : List Value) 0).run P w = .ok () (w.setRow gb (cur.toList.take 0 ++ [] ++ cur.toList.drop (0 + ([] : List Value).length)).toArray) := hst
      cases a <;> (simp [execOp, resolve, invoke, builtin, hx, hy, hsv, Builtin.copy_, run_underlying t.und, Builtin.lenOf, Builtin.firstCells, sizeOf, typeInfo, hii, hl, goInt]; simp at hst'; simp [hst'])
    · have hl := run_loadCells_list (P := P) w ⟨sB s, sO s, none⟩ ys (fun j r hj => by rw [add_plain]; exact hA.cell (hs.at_ j r hj))
      rw [hs.len] at hl
      rw [hsv] at hy
      simp at hst
      simp [execOp, resolve, invoke, builtin, hx, hy, Builtin.copy_, run_underlying t.und, Builtin.lenOf, Builtin.firstCells, sizeOf, typeInfo, hii, hss, hmin, hl, hst, goInt]
/-- An element of several cells, stored into a row. -/
theorem t_store_agg_row (i k : Nat) {e : TypeId} {n off sz0 : Nat} {v : Value} {xs vs : List Value} [t : Ty P T u z zs sz by_] (hx : ev l X = .pointer (some ⟨sB v, off, none⟩)) (he : off = sO v + k) (hy : ev l Y = .agg ⟨vs⟩) (h1 : ∀ r ∈ vs, r.oneCell' = true) (hl : vs.length = sz) (hA : Sat E L w) (hi : L[i]? = some (row e sz0 v n xs)) (hk : k + vs.length ≤ xs.length) (h0 : 0 < vs.length)
    (h : ∀ w', Sat E (L.set i (row e sz0 v n (xs.take k ++ vs ++ xs.drop (k + vs.length)))) w' → next (put l d undef) w') : OW ro P ⟨d, .store T X Y, ty, pos, aft, g⟩ l ds w next Q := by
  subst he
  have hown : w.ownsRow 0 e sz0 v n xs := hA.at_ hi
  obtain ⟨ii, hii, hss⟩ := Option.map_eq_some_iff.1 t.size
  rcases row_shape hown with ⟨rfl, rfl, rfl⟩ | ⟨gb, cap, cur, hv, g1, g2, g4, g5, g6⟩
  · exact absurd hk (by simp only [List.length_nil]; omega)
  · subst hv
    have hlen := hown.1
    have hxc : xs.length ≤ cur.size := by rw [← g5]; simp only [List.length_take, Array.length_toList]; omega
    have hst := run_storeCells_at P gb k e vs 0 cur w g1 (by omega) h1
    rw [Nat.add_zero] at hst
    have hnew : Sat E (L.set i (row e sz0 (.slice (some ⟨gb, 0, none⟩) n cap) n (xs.take k ++ vs ++ xs.drop (k + vs.length)))) (w.setRow gb (cur.toList.take k ++ vs ++ cur.toList.drop (k + vs.length)).toArray) := by
      refine hA.changeAt i hi rfl rfl rfl (by simp) (fun c hc hne => ?_) ?_ (fun b hb => .inl hb) (by simp [row, Value.ownBlock])
      · exact setRow_other w gb c _ (fun e => hne (by simp [row, Value.ownBlock, e]))
      · have hh := setRow_heap w gb cur (cur.toList.take k ++ vs ++ cur.toList.drop (k + vs.length)).toArray e (0, 0) g1
        refine ⟨by simp; omega, .inr ⟨gb, cap, _, rfl, Nat.zero_le _, hh, g2, g6, by simp; omega, ?_⟩⟩
        rw [← g5]
        simp only [List.toList_toArray]
        rw [List.take_append, List.take_append, List.take_take, List.drop_take]
        have q1 : min (n * sz0) k = k := by rw [← g5] at hlen hk; simp at hk; omega
        have q2 : n * sz0 - (cur.toList.take k).length - vs.length = n * sz0 - (k + vs.length) := by simp; omega
        have q3 : List.take (n * sz0 - (cur.toList.take k).length) vs = vs := List.take_of_length_le (by simp; omega)
        have q4 : min k (n * sz0) = k := by omega
        rw [q1, q3, List.take_take, q4]
        congr 2
        simp only [List.length_append, List.length_take, Array.length_toList]
        omega
    refine ow_skip (w' := w.setRow gb (cur.toList.take k ++ vs ++ cur.toList.drop (k + vs.length)).toArray) ?_ rfl (h _ hnew)
    simp at hst
    simp [execOp, hx, hy, Instr.storeAt, Instr.sureAddr, storeVar, Value.cells, sizeOf, typeInfo, hii, hss, sB, sO, hl, hst]
theorem t_store_row' (i k : Nat) {e : TypeId} {n sz0 off : Nat} {v r : Value} {xs : List Value} [t : Ty P T u z zs 1 by_] (hx : ev l X = .pointer (some ⟨sB v, off, none⟩)) (he : off = sO v + k) (hy : ev l Y = r) (h1 : r.oneCell' = true) (hA : Sat E L w) (hi : L[i]? = some (row e sz0 v n xs)) (hk : k < xs.length)
    (h : ∀ w', Sat E (L.set i (row e sz0 v n (xs.set k r))) w' → next (put l d undef) w') : OW ro P ⟨d, .store T X Y, ty, pos, aft, g⟩ l ds w next Q := by
  subst he; exact t_store_row i hx hy h1 hA hi hk h
theorem t_load_row' (i k : Nat) {e : TypeId} {n off sz0 : Nat} {v r : Value} {xs : List Value} [t : Ty P T u z zs sz by_] (hu : plainT u = true) (hx : ev l X = .pointer (some ⟨sB v, off, none⟩)) (he : off = sO v + k) (hA : Sat E L w) (hi : L[i]? = some (row e sz0 v n xs)) (hk : xs[k]? = some r)
    (h : next (put l d r) w) : OW ro P ⟨d, .load T X, ty, pos, aft, g⟩ l ds w next Q := by
  subst he; exact t_load_row i hu hx hA hi hk h
theorem t_load_agg_row' (i k : Nat) {e : TypeId} {n off sz0 : Nat} {v : Value} {xs cs : List Value} [t : Ty P T u z zs sz by_] (hu : plainT u = false) (hx : ev l X = .pointer (some ⟨sB v, off, none⟩)) (he : off = sO v + k) (hA : Sat E L w) (hi : L[i]? = some (row e sz0 v n xs)) (hc : ∀ j, j < sz → xs[k + j]? = cs[j]?) (hl : cs.length = sz)
    (h : next (put l d (.agg ⟨cs⟩)) w) : OW ro P ⟨d, .load T X, ty, pos, aft, g⟩ l ds w next Q := by
  subst he; exact t_load_agg_row i hu hx hA hi hc hl h
theorem t_load_env' {b off k : Nat} {r : Value} [t : Ty P T u z zs sz by_] (hu : plainT u = true) (hx : ev l X = .pointer (some ⟨b, off, none⟩)) (he : off = k) (hA : Sat E L w) (hv : E.cell? ⟨b, k, none⟩ = some r) (h : next (put l d r) w) : OW ro P ⟨d, .load T X, ty, pos, aft, g⟩ l ds w next Q := by
  subst he; exact t_load_env hu hx hA hv h
end
section
variable {α : Type} {R : Rd α} {sz : Nat} {E : Env} {xs : List α} {cells : List Value}
theorem flat_set {css : List (List Value)} (hl : ∀ cs ∈ css, cs.length = sz) : ∀ {i : Nat} {cs : List Value} (k : Nat) (u : Value), css[i]? = some cs → k < sz → css.flatten.set (i * sz + k) u = (css.set i (cs.set k u)).flatten := by
  induction css with
  | nil => intro i cs k u h; simp at h
  | cons c css ih =>
    intro i cs k u h hk
    have hc := hl c (List.mem_cons_self ..)
    cases i with
    | zero =>
      simp only [List.getElem?_cons_zero, Option.some.injEq] at h
      subst h
      rw [Nat.zero_mul, Nat.zero_add, List.flatten_cons, List.set_cons_zero, List.flatten_cons, List.set_append_left _ _ (by omega)]
    | succ i =>
      have := ih (fun c hc => hl c (List.mem_cons_of_mem _ hc)) k u (by simpa using h) hk
      rw [List.flatten_cons, List.set_cons_succ, List.flatten_cons, List.set_append_right _ _ (by rw [hc, Nat.add_mul]; omega), ← this]
      congr 2
      rw [hc, Nat.add_mul]; omega
theorem CsE.set1 (h : CsE R sz E cells xs) {i k : Nat} {x x' : α} {u : Value} (hx : xs[i]? = some x) (hk : k < sz) (hR : ∀ cs, cs.length = sz → R E cs x → R E (cs.set k u) x') : CsE R sz E (cells.set (i * sz + k) u) (xs.set i x') := by
  obtain ⟨css, rfl, h2, h3, h4⟩ := h
  have hi : i < xs.length := (List.getElem?_eq_some_iff.1 hx).1
  obtain ⟨cs, hc⟩ : ∃ cs, css[i]? = some cs := ⟨_, List.getElem?_eq_getElem (by omega)⟩
  have hcl := h3 cs (List.mem_of_getElem? hc)
  refine ⟨css.set i (cs.set k u), flat_set h3 k u hc hk, by simp [h2], ?_, ?_⟩
  · intro c hm
    rcases List.mem_or_eq_of_mem_set hm with hm | rfl
    · exact h3 c hm
    · simp [hcl]
  · intro j c y hcj hyj
    rw [List.getElem?_set] at hcj hyj
    by_cases hij : i = j
    · subst hij
      rw [if_pos rfl, if_pos (by omega)] at hcj
      rw [if_pos rfl, if_pos hi] at hyj
      cases hcj; cases hyj
      exact hR cs hcl (h4 i cs x hc hx)
    · rw [if_neg hij] at hcj hyj
      exact h4 j c y hcj hyj
theorem CsE.setE (h : CsE R sz E cells xs) {i : Nat} (hi : i < xs.length) {cs : List Value} {x' : α} (hl : cs.length = sz) (hR : R E cs x') : CsE R sz E (cells.take (i * sz) ++ cs ++ cells.drop (i * sz + cs.length)) (xs.set i x') := by
  obtain ⟨css, rfl, h2, h3, h4⟩ := h
  have key : ∀ (css : List (List Value)) (i : Nat), (∀ c ∈ css, c.length = sz) → i < css.length → css.flatten.take (i * sz) ++ cs ++ css.flatten.drop (i * sz + cs.length) = (css.set i cs).flatten := by
    intro css
    induction css with
    | nil => intro i _ h; simp at h
    | cons c css ih =>
      intro i hc hi
      have hcl := hc c (List.mem_cons_self ..)
      cases i with
      | zero => simp [hl, ← hcl]
      | succ i =>
        have := ih i (fun c h => hc c (List.mem_cons_of_mem _ h)) (by simpa using hi)
        rw [List.flatten_cons, List.set_cons_succ, List.flatten_cons, ← this, List.take_append, List.drop_append]
        have q1 : (i + 1) * sz - c.length = i * sz := by rw [hcl, Nat.add_mul]; omega
        have q2 : (i + 1) * sz + cs.length - c.length = i * sz + cs.length := by rw [hcl, Nat.add_mul]; omega
        have q3 : c.take ((i + 1) * sz) = c := List.take_of_length_le (by rw [hcl, Nat.add_mul]; omega)
        have q4 : c.drop ((i + 1) * sz + cs.length) = [] := List.drop_eq_nil_of_le (by rw [hcl, Nat.add_mul]; omega)
        rw [q1, q2, q3, q4]
        simp
  refine ⟨css.set i cs, key css i h3 (by omega), by simp [h2], ?_, ?_⟩
  · intro c hm
    rcases List.mem_or_eq_of_mem_set hm with hm | rfl
    · exact h3 c hm
    · exact hl
  · intro j c y hcj hyj
    rw [List.getElem?_set] at hcj hyj
    by_cases hij : i = j
    · subst hij
      rw [if_pos rfl, if_pos (by omega)] at hcj
      rw [if_pos rfl, if_pos hi] at hyj
      cases hcj; cases hyj
      exact hR
    · rw [if_neg hij] at hcj hyj
      exact h4 j c y hcj hyj
theorem set_self {i : Nat} {x : α} (h : xs[i]? = some x) : xs.set i x = xs := by
  apply List.ext_getElem? fun k => ?_
  rw [List.getElem?_set]
  split
  · rename_i hk; subst hk
    rw [if_pos (List.getElem?_eq_some_iff.1 h).1, h]
  · rfl
theorem CsE.zero (f : List Value) (x : α) (hf : f.length = sz) (hR : R E f x) : ∀ n, CsE R sz E (zeroRow f n) (List.replicate n x) := by
  intro n
  induction n with
  | zero => exact CsE.nil
  | succ n ih =>
    obtain ⟨css, h1, h2, h3, h4⟩ := ih
    refine ⟨f :: css, by simp [zeroRow, h1], by simp [h2], ?_, ?_⟩
    · intro c hc
      rcases List.mem_cons.1 hc with rfl | hc
      · exact hf
      · exact h3 c hc
    · intro i c y hc hy
      cases i with
      | zero => simp [List.replicate_succ] at hc hy; subst hc hy; exact hR
      | succ i => exact h4 i c y (by simpa using hc) (by simpa [List.replicate_succ] using hy)
end
end Go.Proofs.YtomfoaaaeidpnaaDoor
