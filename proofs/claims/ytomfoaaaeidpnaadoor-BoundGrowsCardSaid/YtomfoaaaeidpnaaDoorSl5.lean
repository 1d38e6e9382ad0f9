/-
  Slices of the call's own: made, appended to, read; calls; loops over functions.
-/
import Derived.Test.YtomfoaaaeidpnaaDoorSl4
import Derived.Laws.MakeOwn
set_option linter.unusedVariables false
set_option linter.unusedSimpArgs false
namespace Go.Proofs.YtomfoaaaeidpnaaDoor
open Go Go.RowKit

/-- What is appended: m elements, whose cells are 'news'. -/
structure Src (P : Program) (sz : Nat) (x : Value) (m : Nat) (news : List Value) (w : World) : Prop where
  len : ∀ W, (Builtin.lenOf x).run P W = .ok m W
  cells : ∀ W : World, W.heap = w.heap → (Builtin.firstCells sz m x).run P W = .ok ⟨news⟩ W
  size : news.length = m * sz
  one : ∀ u ∈ news, u.oneCell' = true

theorem cell_heap {w W : World} (h : W.heap = w.heap) (a : Addr) : W.cell? a = w.cell? a := by simp [World.cell?, h]

theorem src_slice {P : Program} {sz m c : Nat} {a : Addr} {news : List Value} {w : World} (hs : news.length = m * sz) (ho : ∀ u ∈ news, u.oneCell' = true) (hc : ∀ j v, news[j]? = some v → w.cell? (a.add j) = some v) :
    Src P sz (.slice (some a) m c) m news w :=
  ⟨fun W => by simp [Builtin.lenOf], fun W hW => run_firstCells_some (P := P) W sz m a m c news hs (fun j v h => by rw [cell_heap hW]; exact hc j v h), hs, ho⟩
theorem src_nil {P : Program} {sz c : Nat} {w : World} : Src P sz (.slice none 0 c) 0 [] w :=
  ⟨fun W => by simp [Builtin.lenOf], fun W _ => run_firstCells_none (P := P) W sz 0 0 c, by simp, by simp⟩
theorem src_str {P : Program} {s : List UInt8} {w : World} : Src P 1 (.string (bs s)) s.length (s.map u8) w :=
  ⟨fun W => by simp [Builtin.lenOf, bs_size], fun W _ => by
      have e : (bs s).extract 0 s.length = bs s := by rw [bs_extract]; simp
      simp only [Builtin.firstCells, e]
      simp [Sem.run, pure], by simp, by intro u hu; obtain ⟨_, _, rfl⟩ := List.mem_map.1 hu; rfl⟩
theorem src_cells {P : Program} {sz m c b : Nat} {news : List Value} {w : World} {E : Env} {L : List Item} {S : TypeId} (hA : Sat E L w) {j : Nat} (hj : L[j]? = some (cells b news S)) (hs : news.length = m * sz) (ho : ∀ u ∈ news, u.oneCell' = true) :
    Src P sz (.slice (some ⟨b, 0, none⟩) m c) m news w :=
  src_slice hs ho fun k v hk => by rw [add_plain, Nat.zero_add, hA.cellOwn hj]; exact hk

theorem run_append_src {P : Program} (w : World) (t u ty e : TypeId) {du : TypeDesc} (i : TypeInfo) (z : Value) (ht : P.underlying t = some (.slice e)) (hu : P.underlying u = some du) (hdu : (∃ e', du = .slice e') ∨ du = .string)
    (hi : P.info? e = some i) (hz : i.zero = some z) (hzs : z.cells.size = i.size) (hsz : 0 < i.size)
    (v : Value) (n : Nat) (xs : List Value) (hown : w.ownsRow 0 e i.size v n xs) (x : Value) (m : Nat) (news : List Value) (hsrc : Src P i.size x m news w)
    (h63 : n + m ≤ maxLen) (hbytes : (n + m) * i.bytes ≤ 140737488355328) :
    ∃ v' w', (Builtin.append_ #[t, u] ty #[v, x]).run P w = .ok v' w' ∧ w'.ownsRow 0 e i.size v' (n + m) (xs ++ news) ∧ w.grownBy w' v.ownBlock ∧
      (∀ b, v'.ownBlock = some b → v.ownBlock = some b ∨ w.heap.size ≤ b) ∧ (v' = .slice none 0 0 ↔ v = .slice none 0 0 ∧ m = 0) := by
  have hlen : (xs ++ news).length = (n + m) * i.size := by rw [List.length_append, hown.1, hsrc.size, Nat.add_mul]
  have grown : ∀ (old : Nat), old < n + m →
      (w.drew.alloc (.cells (xs.toArray ++ news.toArray ++ Builtin.zeroCells z.cells (grownCap w (n + m) old e - (n + m))) e)).ownsRow 0 e i.size
        (.slice (some ⟨w.heap.size, 0, none⟩) (n + m) (grownCap w (n + m) old e)) (n + m) (xs ++ news) ∧
      ∀ row, w.grownBy (w.drew.alloc (.cells (xs.toArray ++ news.toArray ++ Builtin.zeroCells z.cells (grownCap w (n + m) old e - (n + m))) e)) row := by
    intro old ho
    have hge := grownCap_ge w (n + m) old e
    have hcm : grownCap w (n + m) old e ≤ maxLen := grownCap_le_maxLen w (n + m) old e h63
    refine ⟨⟨hlen, .inr ⟨w.heap.size, _, _, rfl, Nat.zero_le _, heap_alloc_new w.drew _, hge, hcm, ?_, ?_⟩⟩, fun row => ⟨rfl, rfl, rfl, by simp, fun k hk _ => heap_alloc_old w.drew _ k hk⟩⟩
    · simp only [Array.size_append, List.size_toArray, size_zeroCells, hzs, hown.1, hsrc.size, ← Nat.add_mul]
      congr 1
      omega
    · simp only [Array.toList_append, List.append_assoc]
      rw [← List.append_assoc, ← hlen]
      exact List.take_left
  have hm63 : ((n + m : Nat) : Int) ≤ 9223372036854775807 := by simp only [maxLen] at h63; omega
  rcases hown.2 with ⟨rfl, rfl⟩ | ⟨g, cap, cur, rfl, hbg, hg, hnc, hcm, hcs, htake⟩
  · have hx : xs = [] := List.eq_nil_of_length_eq_zero (by simpa using hown.1)
    subst hx
    by_cases hm : m = 0
    · subst hm
      have hn : news = [] := List.eq_nil_of_length_eq_zero (by simpa using hsrc.size)
      subst hn
      refine ⟨.slice none 0 0, w, ?_, World.ownsRow_nil w 0 e i.size, ⟨rfl, rfl, rfl, Nat.le_refl _, fun _ _ _ => rfl⟩, by simp [Value.ownBlock], by simp⟩
      have h1 := hsrc.len w
      have h2 := hsrc.cells w rfl
      rcases hdu with ⟨e', rfl⟩ | rfl <;> simp [Builtin.append_, run_underlying ht, run_underlying hu, sizeOf, typeInfo, hi, h1, h2]
    · have hgr := grown 0 (by omega)
      have h1 := hsrc.len w
      have h2 := hsrc.cells w.drew rfl
      have h48' : ¬ (281474976710656 < Builtin.nextslicecap m 0 * i.bytes) := by
        rw [nextslicecap_zero (by omega)]; simp only [Nat.zero_add] at hbytes; omega
      have h63' : ¬ (9223372036854775807 < (m : Int)) := by simp only [Nat.zero_add] at hm63; omega
      simp only [Nat.zero_add] at hgr hm63 ⊢
      refine ⟨_, _, ?_, hgr.1, hgr.2 _, by simp [Value.ownBlock], by simp [hm]⟩
      rcases hdu with ⟨e', rfl⟩ | rfl <;> simp [Builtin.append_, run_underlying ht, run_underlying hu, sizeOf, typeInfo, zeroValue, hi, hz, h1, hm, h48', h63', Question.forced, run_firstCells_none, h2, newRow, grownCap]
  · by_cases hroom : n + m ≤ cap
    · have hfit : n * i.size + news.length ≤ cur.size := by rw [hsrc.size, hcs, ← Nat.add_mul]; exact Nat.mul_le_mul_right _ hroom
      have hst := run_storeCells_at P g (n * i.size) e news 0 cur w hg (by simpa using hfit) hsrc.one
      simp only [Nat.add_zero] at hst
      have h1 := hsrc.len w
      have h2 := hsrc.cells w rfl
      refine ⟨.slice (some ⟨g, 0, none⟩) (n + m) cap, w.setRow g (cur.toList.take (n * i.size) ++ news ++ cur.toList.drop (n * i.size + news.length)).toArray, ?_, ⟨hlen, .inr ⟨g, cap, _, rfl, hbg, setRow_heap w g cur _ e _ hg, hroom, hcm, ?_, ?_⟩⟩, ?_, by simp [Value.ownBlock], by simp⟩
      · rcases hdu with ⟨e', rfl⟩ | rfl <;> simp [Builtin.append_, run_underlying ht, run_underlying hu, sizeOf, typeInfo, hi, h1, hroom, h2, Addr.add_lit, hst]
      · simp only [List.size_toArray, List.length_append, List.length_take, List.length_drop, Array.length_toList]
        omega
      · rw [htake, ← hlen]
        exact List.take_left
      · exact ⟨rfl, rfl, rfl, by simp, fun k _ hk => setRow_other w g k _ (fun e => hk (by simp [Value.ownBlock, e]))⟩
    · have hgr := grown cap (by omega)
      have h1 := hsrc.len w
      have h2 := hsrc.cells w.drew rfl
      have holds : ∀ j u, xs[j]? = some u → w.drew.cell? ((⟨g, 0, none⟩ : Addr).add j) = some u := fun j u h => hown.cells (g := g) rfl j u h
      have hfo := run_firstCells_some (P := P) w.drew i.size n ⟨g, 0, none⟩ n cap xs hown.1 holds
      have h48' : ¬ (281474976710656 < Builtin.nextslicecap (n + m) cap * i.bytes) := by
        have := growslice_fits (need := n + m) (old := cap) (bytes := i.bytes) (by omega) hbytes; omega
      have h63' : ¬ (9223372036854775807 < ((n : Int) + (m : Int))) := by omega
      refine ⟨_, _, ?_, hgr.1, hgr.2 _, by simp [Value.ownBlock], by simp⟩
      rcases hdu with ⟨e', rfl⟩ | rfl <;> simp [Builtin.append_, run_underlying ht, run_underlying hu, sizeOf, typeInfo, zeroValue, hi, hz, h1, hroom, h63', h48', Question.forced, hfo, h2, newRow, grownCap]
      all_goals
        congr 2
        apply Array.ext'
        simp [List.append_assoc]

section
variable {ro : Option Nat} {P : Program} {l : List Value} {ds : List Deferred} {w : World} {next : List Value → World → Prop} {Q : Exit → Act → World → Prop}
variable {d : Option Tmp} {ty : TypeId} {pos : String} {aft : Array Edge} {g : Option (Nat × Bool)} {T T' T'' : TypeId} {X Y Z : Operand}
variable {E : Env} {L : List Item}

theorem Sat.row_grown (hA : Sat E L w) {w' : World} {i : Nat} {e : TypeId} {sz n n' : Nat} {v v' : Value} {xs xs' : List Value} (hi : L[i]? = some (row e sz v n xs)) (hg : w.grownBy w' v.ownBlock)
    (hp : w'.ownsRow 0 e sz v' n' xs') (hk : ∀ b, v'.ownBlock = some b → v.ownBlock = some b ∨ w.heap.size ≤ b) : Sat E (L.set i (row e sz v' n' xs')) w' :=
  hA.changeAt i hi hg.os hg.tape hg.output hg.size (fun b hb hne => hg.block b hb (fun e => hne (by simp [row, ← e]))) hp
    (fun b hb => by simpa [row] using hk b (by simpa [row] using hb)) (by cases h : v'.ownBlock <;> simp [row, h])

theorem row_one {e : TypeId} {sz n : Nat} {v : Value} {xs : List Value} (h : w.ownsRow 0 e sz v n xs) : v.oneCell' = true := by
  rcases h.2 with ⟨rfl, _⟩ | ⟨_, _, _, rfl, _⟩ <;> rfl
theorem ow_append (i : Nat) {e : TypeId} {du : TypeDesc} {sz by_ : Nat} {z v x : Value} {n m : Nat} {xs news : List Value} (ht : P.underlying T = some (.slice e)) (hu : P.underlying T' = some du) (hdu : (∃ e', du = .slice e') ∨ du = .string)
    (hinfo : (P.info? e).map (fun i => (i.zero, i.size, i.bytes)) = some (some z, sz, by_)) (hzs : z.cells.size = sz) (hsz : 0 < sz)
    (hx : ev l X = v) (hy : ev l Y = x) (hA : Sat E L w) (hi : L[i]? = some (row e sz v n xs)) (hsrc : Src P sz x m news w) (hr : n + m ≤ maxLen) (hb : (n + m) * by_ ≤ 140737488355328)
    (h : ∀ v' w', Sat E (L.set i (row e sz v' (n + m) (xs ++ news))) w' → v'.oneCell' = true → (v' = .slice none 0 0 ↔ v = .slice none 0 0 ∧ m = 0) → next (put l d v') w') :
    OW ro P ⟨d, .call { callee := .builtin .append, args := #[X, Y], argTypes := #[T, T'] }, ty, pos, aft, g⟩ l ds w next Q := by
  obtain ⟨ii, hii, hzz⟩ := Option.map_eq_some_iff.1 hinfo
  simp only [Prod.mk.injEq] at hzz
  obtain ⟨hz, rfl, rfl⟩ := hzz
  obtain ⟨v', w', hrun, hown, hg, hk, hn⟩ := run_append_src (P := P) w T T' ty e ii z ht hu hdu hii hz hzs hsz v n xs (hA.at_ hi) x m news hsrc hr hb
  refine ow_run (v := v') (w' := w') ?_ rfl (h _ _ (hA.row_grown hi hg hown hk) (row_one hown) hn)
  simp [execOp, resolve, invoke, builtin, hx, hy, hrun]

/-- append(out, x): the one cell that x was laid into is dropped behind it. -/
theorem ow_append1 (i j : Nat) {e : TypeId} {sz by_ b : Nat} {z v : Value} {n c m : Nat} {xs news : List Value} {S : TypeId} (ht : P.underlying T = some (.slice e))
    (hinfo : (P.info? e).map (fun i => (i.zero, i.size, i.bytes)) = some (some z, sz, by_)) (hzs : z.cells.size = sz) (hsz : 0 < sz)
    (hx : ev l X = v) (hy : ev l Y = .slice (some ⟨b, 0, none⟩) m c) (hA : Sat E L w) (hi : L[i]? = some (row e sz v n xs)) (hj : L[j]? = some (cells b news S)) (hl : news.length = m * sz) (ho : ∀ u ∈ news, u.oneCell' = true)
    (hr : n + m ≤ maxLen) (hb : (n + m) * by_ ≤ 140737488355328)
    (h : ∀ v' w', Sat E ((L.set i (row e sz v' (n + m) (xs ++ news))).eraseIdx j) w' → v'.oneCell' = true → (v' = .slice none 0 0 ↔ v = .slice none 0 0 ∧ m = 0) → next (put l d v') w') :
    OW ro P ⟨d, .call { callee := .builtin .append, args := #[X, Y], argTypes := #[T, T] }, ty, pos, aft, g⟩ l ds w next Q :=
  ow_append i ht ht (.inl ⟨_, rfl⟩) hinfo hzs hsz hx hy hA hi (src_cells hA hj hl ho) hr hb fun v' w' hs h1 hn => h v' w' (hs.sub (List.eraseIdx_sublist _ _)) h1 hn

theorem ow_make {e : TypeId} {z : Value} {sz by_ : Nat} {kl kc : IntKind} {n : Int} (ht : P.underlying T = some (.slice e)) (hinfo : (P.info? e).map (fun i => (i.zero, i.size, i.bytes)) = some (some z, sz, by_))
    (hx : ev l X = .int kl 0) (hy : ev l Y = .int kc n) (hn : 0 ≤ n ∧ n ≤ 9223372036854775807) (hb : (by_ : Int) * n ≤ 281474976710656) (hA : Sat E L w)
    (h : ∀ v w', Sat E (row e sz v 0 [] :: L) w' → v.oneCell' = true → v ≠ .slice none 0 0 → next (put l d v) w') : OW ro P ⟨d, .makeSlice T X Y, ty, pos, aft, g⟩ l ds w next Q := by
  obtain ⟨ii, hii, hzz⟩ := Option.map_eq_some_iff.1 hinfo
  simp only [Prod.mk.injEq] at hzz
  obtain ⟨hz, rfl, rfl⟩ := hzz
  have hrun := run_make (P := P) w T e ii z ht hii hz kl kc 0 n (Int.le_refl _) hn.1 hb hn.2
  have hs := hA.alloc (.cells (madeCells z.cells (n.toNat * ii.size)) e)
  have hown := World.ownsRow_made (base := 0) (e := e) (size := ii.size) w (madeCells z.cells (n.toNat * ii.size)) n.toNat (Nat.zero_le _) (by simp [maxLen]; omega) (size_madeCells _ _)
  refine ow_run (v := .slice (some ⟨w.heap.size, 0, none⟩) 0 n.toNat) (w' := w.alloc (.cells (madeCells z.cells (n.toNat * ii.size)) e)) ?_ rfl (h _ _ ?_ rfl (by simp))
  · simp [execOp, hx, hy, hrun]
  · have := hs.change (it' := row e ii.size (.slice (some ⟨w.heap.size, 0, none⟩) 0 n.toNat) 0 []) (w' := w.alloc (.cells (madeCells z.cells (n.toNat * ii.size)) e)) rfl rfl rfl (Nat.le_refl _) (fun _ _ _ => rfl) hown (by simp [row, obj, Value.ownBlock]) (by simp [row, Value.ownBlock])
    exact this

theorem bs_push (s : List UInt8) (b : UInt8) : (bs s).push b = bs (s ++ [b]) := by
  simp [ByteArray.push]
theorem fold_push (s : List UInt8) : ∀ a : List UInt8, (s.map fun b => (b.toNat : Int)).foldl (fun r n => r.push (UInt8.ofNat n.toNat)) (bs a) = bs (a ++ s) := by
  induction s with
  | nil => intro a; simp
  | cons b s ih => intro a; simp only [List.map_cons, List.foldl_cons, Int.toNat_natCast, UInt8.ofNat_toNat, bs_push]; rw [ih]; simp
/-- Bytes made a string: all that the slice holds. -/
theorem ow_bytes_str (i : Nat) {e : TypeId} {v : Value} {n : Nat} {s : List UInt8} (ht : P.underlying T = some (.slice e)) (he : P.underlying e = some (.int .u8)) (ht' : P.underlying T' = some .string)
    (hx : ev l X = v) (hA : Sat E L w) (hi : L[i]? = some (row e 1 v n (s.map u8))) (h : next (put l d (.string (bs s))) w) : OW ro P ⟨d, .convert T T' X, ty, pos, aft, g⟩ l ds w next Q := by
  have hown := hA.at_ hi
  have hown : w.ownsRow 0 e 1 v n (s.map u8) := hown
  refine ow_run (v := .string (bs s)) ?_ rfl h
  rcases hown.2 with ⟨rfl, rfl⟩ | ⟨g', cap, cur, rfl, _, hg', hnc, _, hcs, htake⟩
  · have : s = [] := List.eq_nil_of_length_eq_zero (by simpa using hown.1)
    subst this
    simp [execOp, hx, convert, underlying, ht, ht', he, Conv.bytesToString]
    rfl
  · have hl : s.length = n := by simpa using hown.1
    have hcells : ∀ j u, (s.map u8)[j]? = some u → w.cell? ((⟨g', 0, none⟩ : Addr).add j) = some u := hown.cells (g := g') rfl
    have hload := run_loadCells_list (P := P) w ⟨g', 0, none⟩ (s.map u8) hcells
    simp only [List.length_map, hl] at hload
    have hm : (s.map fun b => (b.toNat : Int)).map (Value.int .u8) = s.map u8 := by simp
    have hr := run_bytesToString (P := P) w ⟨g', 0, none⟩ n cap (s.map fun b => (b.toNat : Int)) (by rw [hm]; exact hload)
    have hf := fold_push s []
    simp only [List.nil_append] at hf
    rw [show ByteArray.empty = bs [] from rfl, hf] at hr
    simp [execOp, hx, convert, underlying, ht, ht', he, hr]

/-! ### Calls -/
theorem ow_call {f : FuncId} {args : Array Operand} {tys : Array TypeId} {vs : List Value} (he : Enters P f) (hv : args.toList.map (ev l) = vs)
    (hc : Calls P f ⟨vs⟩ w fun e w' => ∃ v, e = .returned v ∧ next (put l d v) w') : OW ro P ⟨d, .call { callee := .value (.func f), args := args, argTypes := tys }, ty, pos, aft, g⟩ l ds w next Q := by
  have e1 : args.map (ev l) = ⟨vs⟩ := by rw [← hv]; apply Array.ext'; simp
  refine ow_enter (w' := w) (f := f) (args := ⟨vs⟩) ?_ rfl hc
  simp [execOp, resolve, Deferred.ofValue, ev, e1, invoke]
  exact he _ _
/-- A function value that is known. -/
theorem ow_callv {f : FuncId} {args : Array Operand} {tys : Array TypeId} {vs fi ca : List Value} (hx : ev l X = .func (.func f) ⟨fi⟩ ⟨ca⟩) (he : Enters P f) (hv : fi ++ args.toList.map (ev l) ++ ca = vs)
    (hc : Calls P f ⟨vs⟩ w fun e w' => ∃ v, e = .returned v ∧ next (put l d v) w') : OW ro P ⟨d, .call { callee := .value X, args := args, argTypes := tys }, ty, pos, aft, g⟩ l ds w next Q := by
  have e1 : (⟨fi⟩ : Array Value) ++ args.map (ev l) ++ ⟨ca⟩ = ⟨vs⟩ := by rw [← hv]; apply Array.ext'; simp
  refine ow_enter (w' := w) (f := f) (args := ⟨vs⟩) ?_ rfl hc
  simp [execOp, resolve, Deferred.ofValue, hx, invoke, e1]
  exact he _ _
theorem Calls.ret {f : FuncId} {args : Array Value} {E' : Env} {L' : List Item} {v : Value} (h : Calls P f args w (Ret E' L' v)) {R : Ending → World → Prop} (hR : ∀ w', Sat E' L' w' → R (.returned v) w') : Calls P f args w R :=
  h.mono fun e w' ⟨he, hs⟩ => he ▸ hR w' hs
end
end Go.Proofs.YtomfoaaaeidpnaaDoor
