/-
  Bytes made of a string: a block of the call's own that bears the run-time's mark; one byte put behind them; read back.
-/
import Derived.Test.YtlgkdnnjligcaaaDoorA9
import Derived.Laws.IdiomStrings
set_option linter.unusedVariables false
set_option linter.unusedSimpArgs false
namespace Go.Proofs.YtlgkdnnjligcaaaDoor
open Go Go.RowKit
def markO (cs : List Value) (e : TypeId) : Obj := .cells ⟨cs⟩ e (cs.length, cs.length + 1)
abbrev bytesM (g : Nat) (cs : List Value) (e : TypeId) : Item := obj g (markO cs e)
/-- What can be read at the head of a block. -/
def readI (g : Nat) (xs : List Value) : Item :=
  ⟨[g], fun w => (∃ o, w.heap[g]? = some o) ∧ ∀ j u, xs[j]? = some u → w.cell? ⟨g, j, none⟩ = some u, fun w w' h ⟨⟨o, ho⟩, hp⟩ => by
    have hg : w'.heap[g]? = w.heap[g]? := h g (by simp)
    refine ⟨⟨o, hg.trans ho⟩, fun j u hu => ?_⟩
    rw [← hp j u hu]
    simp only [World.cell?, hg], fun w ⟨⟨o, ho⟩, _⟩ b hb => by
    rw [List.mem_singleton.1 hb]
    exact (Array.getElem?_eq_some_iff.1 ho).1⟩
section
variable {ro : Option Nat} {P : Program} {l : List Value} {ds : List Deferred} {w : World} {next : List Value → World → Prop} {Q : Exit → Act → World → Prop}
variable {d : Option Tmp} {ty : TypeId} {pos : String} {aft : Array Edge} {gd : Option (Nat × Bool)} {T T' : TypeId} {X Y : Operand}
variable {E : Env} {L : List Item} {u : TypeDesc} {z z' z'' : Value} {zs zs' zs'' : List Value} {sz by_ sz' by' sz'' by'' : Nat}
theorem t_str_bytes {e : TypeId} {s : List UInt8} [t : Ty P T .string z zs sz by_] [t' : Ty P T' (.slice e) z' zs' sz' by'] [t'' : Ty P e (.int .u8) z'' zs'' sz'' by''] (hx : ev l X = .string (bs s)) (hA : Sat E L w)
    (h : ∀ g cs w', s.length ≤ cs.length → cs.take s.length = s.map u8 → Sat E (bytesM g cs e :: L) w' → next (put l d (.slice (some ⟨g, 0, none⟩) s.length cs.length)) w') :
    OW ro P ⟨d, .convert T T' X, ty, pos, aft, gd⟩ l ds w next Q := by
  have hrun := run_bytes_of_string (P := P) w T T' e (bs s) t.und t'.und t''.und
  have hge := grownCap_ge w (bs s).size 0 e
  rw [bs_size] at hge hrun
  generalize grownCap w s.length 0 e = c at hrun hge
  obtain ⟨cs, hcs⟩ : ∃ cs, bytesRow (bs s) c = ⟨cs⟩ := ⟨_, rfl⟩
  have hl : cs = s.map u8 ++ List.replicate (c - s.length) (.int .u8 0) := by
    have := congrArg Array.toList hcs
    simp only [bytesRow, bs_size] at this
    rw [← this]
    simp
  have hcl : cs.length = c := by rw [hl]; simp; omega
  rw [hcs] at hrun
  have hsz : ({ toList := cs } : Array Value).size = cs.length := rfl
  rw [hsz, hcl] at hrun
  have hS := (hA.drew (w.drawn + 1)).alloc (markO cs e)
  have hn := h w.heap.size cs { w with drawn := w.drawn + 1, heap := w.heap.push (markO cs e) } (by omega) (by rw [hl, List.take_left' (by simp)]) hS
  rw [hcl] at hn
  refine ow_run (v := .slice (some ⟨w.heap.size, 0, none⟩) s.length c) ?_ rfl hn
  simp only [execOp, hx, Sem.run_bind, hrun, Result.andThen_ok, markO, hcl]
  rfl
theorem Sat.cellM {i g k : Nat} {cs : List Value} {e : TypeId} {r : Value} (hA : Sat E L w) (hi : L[i]? = some (bytesM g cs e)) (hk : cs[k]? = some r) : w.cell? ⟨g, k, none⟩ = some r ∧ w.frozen? ⟨g, k, none⟩ = false := by
  have h1 : w.heap[g]? = some (markO cs e) := hA.at_ hi
  have h2 := (List.getElem?_eq_some_iff.1 hk).1
  refine ⟨by simp [World.cell?, h1, markO, hk], ?_⟩
  simp [World.frozen?, h1, markO]
  omega
theorem t_load_m (i k : Nat) {g off : Nat} {cs : List Value} {e : TypeId} {r : Value} [t : Ty P T u z zs sz by_] (hu : plainT u = true) (hx : ev l X = .pointer (some ⟨g, off, none⟩)) (he : off = k) (hA : Sat E L w) (hi : L[i]? = some (bytesM g cs e)) (hk : cs[k]? = some r)
    (h : next (put l d r) w) : OW ro P ⟨d, .load T X, ty, pos, aft, gd⟩ l ds w next Q := by
  subst he; exact ow_load_w t.und hu hx (hA.cellM hi hk).1 h
theorem Sat.putM {i g k : Nat} {cs : List Value} {e : TypeId} {r : Value} (hA : Sat E L w) (hi : L[i]? = some (bytesM g cs e)) (hk : k < cs.length) : Sat E (L.set i (bytesM g (cs.set k r) e)) (w.setCell ⟨g, k, none⟩ r) := by
  have h1 : w.heap[g]? = some (markO cs e) := hA.at_ hi
  refine hA.changeAt i hi rfl rfl rfl (by simp [World.setCell]) (fun c hc hne => ?_) ?_ (fun b hb => .inl hb) (by simp [obj])
  · have hne' : g ≠ c := fun e' => hne (by subst e'; simp [obj])
    simp [World.setCell, Array.getElem?_modify, hne']
  · show (w.setCell ⟨g, k, none⟩ r).heap[g]? = some (markO (cs.set k r) e)
    simp [World.setCell, Array.getElem?_modify, h1, markO]
theorem t_store_m (i k : Nat) {g off : Nat} {cs : List Value} {e : TypeId} {r : Value} [t : Ty P T u z zs 1 by_] (hx : ev l X = .pointer (some ⟨g, off, none⟩)) (he : off = k) (hy : ev l Y = r) (h1 : r.oneCell' = true) (hA : Sat E L w) (hi : L[i]? = some (bytesM g cs e)) (hk : k < cs.length)
    (h : ∀ w', Sat E (L.set i (bytesM g (cs.set k r) e)) w' → next (put l d undef) w') : OW ro P ⟨d, .store T X Y, ty, pos, aft, gd⟩ l ds w next Q := by
  subst he
  obtain ⟨ii, hii, hss⟩ := Option.map_eq_some_iff.1 t.size
  obtain ⟨h2, h3⟩ := hA.cellM hi (List.getElem?_eq_getElem hk)
  have h4 := hA.putM (r := r) hi hk
  have hv' : r.cells = #[r] := by cases r <;> simp_all [Value.cells, Value.oneCell']
  refine ow_skip ?_ rfl (h _ h4)
  simp [execOp, hx, hy, Instr.storeAt, Instr.sureAddr, storeVar, hv', sizeOf, typeInfo, hii, hss, storeCells, run_store P w _ r _ h1, h2, h3, Addr.add]
theorem t_read_str {i g n c : Nat} {xs : List Value} (s : List UInt8) {e : TypeId} [t : Ty P T (.slice e) z zs sz by_] [t' : Ty P e (.int .u8) z' zs' sz' by'] [t'' : Ty P T' .string z'' zs'' sz'' by''] (hx : ev l X = .slice (some ⟨g, 0, none⟩) n c) (hA : Sat E L w) (hi : L[i]? = some (readI g xs)) (hn : n = s.length) (hs : xs = s.map u8)
    (h : next (put l d (.string (bs s))) w) : OW ro P ⟨d, .convert T T' X, ty, pos, aft, gd⟩ l ds w next Q := by
  subst hn hs
  have hp : (readI g (s.map u8)).p w := hA.at_ hi
  have hrun := run_convert_bytes_back (P := P) w T T' e ⟨g, 0, none⟩ c s t.und t'.und t''.und (fun j hj => by
    rw [add_plain, Nat.zero_add]
    exact hp.2 j _ (by simp [hj]))
  refine ow_run (v := .string (bs s)) ?_ rfl h
  simp only [execOp, hx, Sem.run_bind, hrun, Result.andThen_ok]
  rfl
/-- append(b, x), b in a marked block: in place, or in a new block. -/
theorem run_append_m (w : World) (t ty e : TypeId) (i : TypeInfo) (zv : Value) (ht : P.underlying t = some (.slice e)) (hi : P.info? e = some i) (hz : i.zero = some zv) (hzs : zv.cells.size = i.size) (hs1 : i.size = 1)
    (g n : Nat) (cs : List Value) (r : Value) (hg : w.heap[g]? = some (markO cs e)) (hn : n ≤ cs.length) (hr : r.oneCell' = true) (x : Value) (hsrc : Src P 1 x 1 [r] w) (h63 : n + 1 ≤ maxLen) (hbytes : (n + 1) * i.bytes ≤ 140737488355328) :
    ∃ g' c' w', (Builtin.append_ #[t, t] ty #[.slice (some ⟨g, 0, none⟩) n cs.length, x]).run P w = .ok (.slice (some ⟨g', 0, none⟩) (n + 1) c') w' ∧ w'.os = w.os ∧ w'.tape = w.tape ∧ w'.output = w.output ∧ w.heap.size ≤ w'.heap.size ∧
      (∀ b, b < w.heap.size → b ≠ g → w'.heap[b]? = w.heap[b]?) ∧ (g' = g ∨ w.heap.size ≤ g') ∧ (readI g' (cs.take n ++ [r])).p w' := by
  have hglt : g < w.heap.size := (Array.getElem?_eq_some_iff.1 hg).1
  have hcell : ∀ k v, cs[k]? = some v → w.cell? ⟨g, k, none⟩ = some v := fun k v hk => by simp [World.cell?, hg, markO, hk]
  by_cases hroom : n + 1 ≤ cs.length
  · have h1 := hsrc.len w
    have h2 := hsrc.cells w rfl
    have hc := hcell n _ (List.getElem?_eq_getElem hroom)
    have hf : w.frozen? ⟨g, n, none⟩ = false := by simp [World.frozen?, hg, markO]; omega
    refine ⟨g, cs.length, w.setCell ⟨g, n, none⟩ r, ?_, rfl, rfl, rfl, by simp [World.setCell], fun b hb hne => ?_, .inl rfl, ⟨markO (cs.set n r) e, ?_⟩, fun j u hu => ?_⟩
    · have hif : (if n = 0 then ({ block := g, off := 0 } : Addr) else { block := g, off := n }) = { block := g, off := n } := by split <;> simp_all
      simp [Builtin.append_, run_underlying ht, sizeOf, typeInfo, hi, hs1, h1, hroom, h2, Addr.add, storeCells, run_store P w _ r _ hr, hif, hc, hf]
    · have hne' : g ≠ b := fun e' => hne e'.symm
      simp [World.setCell, Array.getElem?_modify, hne']
    · simp [World.setCell, Array.getElem?_modify, hg, markO]
    · have hm : (w.setCell ⟨g, n, none⟩ r).heap[g]? = some (markO (cs.set n r) e) := by simp [World.setCell, Array.getElem?_modify, hg, markO]
      simp only [World.cell?, hm, markO]
      rcases Nat.lt_or_ge j n with hj | hj
      · rw [List.getElem?_append_left (by simp; omega), List.getElem?_take, if_pos hj] at hu
        simp
        rw [List.getElem?_set_ne (by omega)]; exact hu
      · rw [List.getElem?_append_right (by simp; omega)] at hu
        have hjn : j = n := by
          have := (List.getElem?_eq_some_iff.1 hu).1
          simp at this; omega
        subst hjn
        simp [Nat.min_eq_left hn] at hu
        subst hu
        simp
        first | exact List.getElem?_set_self (by omega) | (rw [List.getElem?_set, if_pos rfl]; simp; omega)
  · have hnl : n = cs.length := by omega
    have h1 := hsrc.len w
    have h2 := hsrc.cells w.drew rfl
    have hge := grownCap_ge w (n + 1) cs.length e
    have hfo := run_firstCells_some (P := P) w.drew 1 n ⟨g, 0, none⟩ n cs.length (cs.take n) (by simp; omega) (fun j u hj => by
      rw [add_plain, Nat.zero_add]
      rw [List.getElem?_take] at hj
      split at hj
      · exact hcell j u hj
      · cases hj)
    have h48' : ¬ (281474976710656 < Builtin.nextslicecap (n + 1) cs.length * i.bytes) := by
      have := growslice_fits (need := n + 1) (old := cs.length) (bytes := i.bytes) (by omega) hbytes; omega
    have h63' : ¬ (9223372036854775807 < ((n : Int) + 1)) := by unfold maxLen at h63; omega
    refine ⟨w.heap.size, grownCap w (n + 1) cs.length e, w.drew.alloc (.cells ((cs.take n).toArray ++ [r].toArray ++ Builtin.zeroCells zv.cells (grownCap w (n + 1) cs.length e - (n + 1))) e), ?_, rfl, rfl, rfl, by simp, fun b hb _ => heap_alloc_old w.drew _ b hb, .inr (Nat.le_refl _), ⟨_, heap_alloc_new w.drew _⟩, fun j u hu => ?_⟩
    · rw [hs1] at hzs
      simp [Builtin.append_, run_underlying ht, sizeOf, typeInfo, zeroValue, hi, hz, hs1, h1, hroom, h63', h48', Question.forced, hfo, h2, newRow, grownCap]
    · have hm := heap_alloc_new w.drew (.cells ((cs.take n).toArray ++ [r].toArray ++ Builtin.zeroCells zv.cells (grownCap w (n + 1) cs.length e - (n + 1))) e)
      have hm' : (w.drew.alloc (.cells ((cs.take n).toArray ++ [r].toArray ++ Builtin.zeroCells zv.cells (grownCap w (n + 1) cs.length e - (n + 1))) e)).heap[w.heap.size]? = some (.cells ((cs.take n).toArray ++ [r].toArray ++ Builtin.zeroCells zv.cells (grownCap w (n + 1) cs.length e - (n + 1))) e) := hm
      simp only [World.cell?, hm']
      have hj := (List.getElem?_eq_some_iff.1 hu).1
      rw [← hu]
      simp only [Option.isSome_none, Bool.false_eq_true, if_false]
      rw [Array.getElem?_append_left (by simp at hj ⊢; omega)]
      simp
theorem t_append_m {g n b cc : Nat} {cs : List Value} {e S : TypeId} {r : Value} [t : Ty P T (.slice e) z zs sz by_] [t' : Ty P e u z' zs' 1 by'] (hzl : zs'.length = 1) (hx : ev l X = .slice (some ⟨g, 0, none⟩) n cs.length) (hy : ev l Y = .slice (some ⟨b, 0, none⟩) 1 cc) (hA : Sat E (cells b [r] S :: bytesM g cs e :: L) w) (hn : n ≤ cs.length) (hr : r.oneCell' = true) (h63 : n + 1 ≤ maxLen) (hb : (n + 1) * by' ≤ 140737488355328)
    (h : ∀ g' c' w', Sat E (readI g' (cs.take n ++ [r]) :: L) w' → next (put l d (.slice (some ⟨g', 0, none⟩) (n + 1) c')) w') :
    OW ro P ⟨d, .call { callee := .builtin .append, args := #[X, Y], argTypes := #[T, T] }, ty, pos, aft, gd⟩ l ds w next Q := by
  obtain ⟨ii, hii, hzz⟩ := Option.map_eq_some_iff.1 t'.inf
  simp only [Prod.mk.injEq] at hzz
  obtain ⟨hz, hs1, hby⟩ := hzz
  have hsrc : Src P 1 (.slice (some ⟨b, 0, none⟩) 1 cc) 1 [r] w := src_cells hA (j := 0) rfl rfl (by intro q hq; rw [List.mem_singleton.1 hq]; exact hr)
  have hg : w.heap[g]? = some (markO cs e) := hA.at_ (i := 1) rfl
  obtain ⟨g', c', w', h1, h2, h3, h4, h5, h6, h7, h8⟩ := run_append_m (P := P) w T ty e ii z' t.und hii hz (by rw [t'.zc, hs1]; exact hzl) hs1 g n cs r hg hn hr _ hsrc h63 (by rw [hby]; exact hb)
  have hA2 := hA.tail.change (it' := readI g' (cs.take n ++ [r])) (w' := w') h2 h3 h4 h5 (fun c hc hne => h6 c hc fun e' => hne (by subst e'; simp [obj])) h8 (fun c hc => by
    rcases h7 with rfl | h7
    · exact .inl (by simpa [readI, obj] using hc)
    · have : c = g' := by simpa [readI] using hc
      exact .inr (this ▸ h7)) (by simp [readI])
  refine ow_run (v := .slice (some ⟨g', 0, none⟩) (n + 1) c') (w' := w') ?_ rfl (h _ _ _ hA2)
  simp [execOp, resolve, invoke, builtin, hx, hy, h1]
end
end Go.Proofs.YtlgkdnnjligcaaaDoor
