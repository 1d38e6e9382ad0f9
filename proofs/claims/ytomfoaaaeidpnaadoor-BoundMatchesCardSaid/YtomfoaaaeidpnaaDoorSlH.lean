/-
  The call's own blocks as one piece: read, written, given back to what stays.
-/
import Derived.Test.YtomfoaaaeidpnaaDoorSlG
set_option linter.unusedVariables false
set_option linter.unusedSimpArgs false
namespace Go.Proofs.YtomfoaaaeidpnaaDoor
open Go Go.RowKit
/-- Rows of cells only. -/
def Plain (F : Env) : Prop := ∀ b o, F.H b = some o → plainO o = true
theorem sub_plain (E E0 : Env) : Plain (E.sub E0) := fun b o h => (sub_at.1 h).2.2
theorem plainO_shape {o : Obj} (h : plainO o = true) : ∃ c e, o = .cells c e (0, 0) := by
  unfold plainO at h
  split at h
  · rename_i c e p; exact ⟨c, e, by rw [eq_of_beq h]⟩
  · cases h
/-- One cell replaced. -/
def Env.put (F : Env) (b k : Nat) (v : Value) : Env := { F with H := fun c => if c = b then (match F.H b with | some (.cells cur e p) => some (.cells (cur.setIfInBounds k v) e p) | o => o) else F.H c }
theorem Env.put_some {F : Env} {b k : Nat} {v : Value} (c : Nat) : ((F.put b k v).H c).isSome = (F.H c).isSome := by
  simp only [Env.put]
  split
  · rename_i h; subst h
    split
    · rename_i h; rw [h]; rfl
    · rfl
  · rfl
theorem Env.put_plain {F : Env} {b k : Nat} {v : Value} (h : Plain F) : Plain (F.put b k v) := by
  intro c o ho
  simp only [Env.put] at ho
  split at ho
  · split at ho
    · rename_i cur e p hb
      have := h _ _ hb
      cases ho
      exact this
    · rename_i hc hn
      exact h _ _ ho
  · exact h _ _ ho
theorem Env.put_cell {F : Env} {b k c j : Nat} {v old : Value} (hv : F.cell? ⟨b, k, none⟩ = some old) : (F.put b k v).cell? ⟨c, j, none⟩ = if c = b ∧ j = k then some v else F.cell? ⟨c, j, none⟩ := by
  simp only [Env.cell?, Env.put] at hv ⊢
  by_cases hc : c = b
  · subst hc
    simp only [if_true, true_and]
    cases hb : F.H c with
    | none => rw [hb] at hv; cases hv
    | some o =>
      rw [hb] at hv
      cases o <;> first | (cases hv; done) | skip
      rename_i cur e p
      simp only [Option.isSome_none, Bool.false_eq_true, if_false] at hv ⊢
      by_cases hj : j = k
      · subst hj
        have : j < cur.size := (Array.getElem?_eq_some_iff.1 hv).1
        simp [this]
      · rw [if_neg hj, Array.getElem?_setIfInBounds, if_neg (fun e => hj e.symm)]
  · simp only [hc, if_false, false_and]
section
variable {E : Env} {L : List Item} {w : World}
/-- The blocks of F, as a piece. -/
structure HeapOk (F : Env) (ks : List Nat) : Prop where
  mem : ∀ b, b ∈ ks ↔ (F.H b).isSome
  plain : Plain F
  nd : ks.Nodup
theorem HeapOk.put {F : Env} {ks : List Nat} (h : HeapOk F ks) {b k : Nat} {v : Value} : HeapOk (F.put b k v) ks := ⟨fun c => (h.mem c).trans (by rw [Env.put_some]), Env.put_plain h.plain, h.nd⟩
theorem Sat.thawS {E0 : Env} (h : Sat E L w) (h0 : E0.Le E) : ∃ ks, HeapOk (E.sub E0) ks ∧ Sat E0 (heap (E.sub E0).H ks :: L) w := by
  obtain ⟨ks, h1, h2⟩ := h.thaw h0
  have := h2.nd
  rw [List.flatMap_cons, List.nodup_append] at this
  exact ⟨ks, ⟨h1, sub_plain _ _, this.1⟩, h2⟩
theorem Sat.cellHeap {F : Env} {ks : List Nat} {i b k : Nat} {r : Value} (h : Sat E L w) (hi : L[i]? = some (heap F.H ks)) (hk : HeapOk F ks) (hv : F.cell? ⟨b, k, none⟩ = some r) : w.cell? ⟨b, k, none⟩ = some r ∧ w.frozen? ⟨b, k, none⟩ = false := by
  have hp : (heap F.H ks).p w := h.at_ hi
  unfold Env.cell? at hv
  cases hb : F.H b with
  | none => simp only [hb] at hv; cases hv
  | some o =>
    obtain ⟨c, e, rfl⟩ := plainO_shape (hk.plain _ _ hb)
    simp only [hb] at hv
    obtain ⟨o', h1, h2⟩ := hp b ((hk.mem b).2 (by rw [hb]; rfl))
    rw [hb] at h1; cases h1
    exact ⟨by simp only [World.cell?, h2]; exact hv, by simp [World.frozen?, h2]⟩
theorem Sat.putHeap {F : Env} {ks : List Nat} {i b k : Nat} {r old : Value} (h : Sat E L w) (hi : L[i]? = some (heap F.H ks)) (hk : HeapOk F ks) (hv : F.cell? ⟨b, k, none⟩ = some old) : Sat E (L.set i (heap (F.put b k r).H ks)) (w.setCell ⟨b, k, none⟩ r) := by
  have hp : (heap F.H ks).p w := h.at_ hi
  unfold Env.cell? at hv
  cases hb : F.H b with
  | none => simp only [hb] at hv; cases hv
  | some o =>
    obtain ⟨cur, e, rfl⟩ := plainO_shape (hk.plain _ _ hb)
    obtain ⟨o', h1, h2⟩ := hp b ((hk.mem b).2 (by rw [hb]; rfl))
    rw [hb] at h1; cases h1
    have hbk : b ∈ ks := (hk.mem b).2 (by rw [hb]; rfl)
    refine h.changeAt i hi rfl rfl rfl (by simp [World.setCell]) (fun c hc hne => ?_) ?_ (fun b hb => .inl hb) hk.nd
    · have hne' : b ≠ c := fun e => hne (by subst e; exact hbk)
      simp [World.setCell, Array.getElem?_modify, hne']
    · intro c hc
      by_cases hcb : c = b
      · subst hcb
        exact ⟨.cells (cur.setIfInBounds k r) e (0, 0), by simp only [Env.put, if_true, hb], by simp [World.setCell, Array.getElem?_modify, h2]⟩
      · obtain ⟨o', h3, h4⟩ := hp c hc
        refine ⟨o', by simp only [Env.put, hcb, if_false]; exact h3, ?_⟩
        simp [World.setCell, Array.getElem?_modify, Ne.symm hcb, h4]
theorem Sat.refreeze {F : Env} {ks : List Nat} (h : Sat E (heap F.H ks :: L) w) (hk : HeapOk F ks) : ∃ E', E.Le E' ∧ (∀ a r, F.cell? a = some r → E'.cell? a = some r) ∧ Sat E' L w := by
  have hp : (heap F.H ks).p w := h.own _ (List.mem_cons_self ..)
  have hoff : ∀ b, (F.H b).isSome → E.H b = none := fun b hb => h.off _ (List.mem_cons_self ..) b ((hk.mem b).2 hb)
  refine ⟨{ E with H := fun b => if (F.H b).isSome then F.H b else E.H b }, ⟨rfl, rfl, rfl, fun b o hb => ?_⟩, fun a r ha => ?_, ⟨h.os, h.tape, h.output, fun b o hb => ?_, h.tail.own, fun it hit b hb => ?_, h.tail.nd⟩⟩
  · dsimp only
    split
    · rename_i hs; rw [hoff b hs] at hb; cases hb
    · exact hb
  · unfold Env.cell? at ha ⊢
    dsimp only
    cases hb : F.H a.block with
    | none => rw [hb] at ha; cases ha
    | some o => rw [hb] at ha; simp only [Option.isSome_some, if_true]; exact ha
  · dsimp only at hb
    split at hb
    · rename_i hs
      obtain ⟨o', h1, h2⟩ := hp b ((hk.mem b).2 hs)
      rw [hb] at h1; cases h1; exact h2
    · exact h.per b o hb
  · dsimp only
    split
    · rename_i hs
      have hbk := (hk.mem b).2 hs
      have hnd := h.nd
      rw [List.flatMap_cons, List.nodup_append] at hnd
      exact absurd rfl (hnd.2.2 b hbk b (List.mem_flatMap.2 ⟨it, hit, hb⟩))
    · exact h.off it (List.mem_cons_of_mem _ hit) b hb
theorem ListE.empty {α : Type} {R : Rd α} {sz : Nat} {E E' : Env} {v : Value} (h : ListE R sz E v ([] : List α)) : ListE R sz E' v ([] : List α) := by
  obtain ⟨c, hc⟩ := h.sl
  obtain ⟨a, c', rfl⟩ := hc.shape
  exact ListE.nil
/-- A literal list becomes what stays. -/
theorem Sat.freezeLit {α : Type} {R : Rd α} [RdMono R] {sz b : Nat} {T : TypeId} {xs : List α} {cs : List Value} (i : Nat) (E0 : Env) (h : Sat E L w) (hi : L[i]? = some (cells b cs T)) (h0 : E0.Le E) (hc : CsE R sz (E.sub E0) cs xs) (hn : xs.length ≤ 9223372036854775807) :
    ∃ E', E.Le E' ∧ Sat E' (L.eraseIdx i) w ∧ ListE R sz (E'.sub E0) (.slice (some ⟨b, 0, none⟩) xs.length xs.length) xs := by
  have hn1 : E.H b = none := h.off _ (List.mem_of_getElem? hi) b (by simp [obj])
  have hn0 : E0.H b = none := by
    cases h8 : E0.H b with
    | none => rfl
    | some o => rw [h0.H b o h8] at hn1; cases hn1
  have hle : E.Le { E with H := fun k => if k = b then some (.cells ⟨cs⟩ T (0, 0)) else E.H k } := Env.le_keep hn1
  refine ⟨_, hle, h.keep i hi, (hc.mono (Env.sub_left E0 hle)).sl ⟨.inr ⟨_, rfl⟩, hc.len, hn, fun k u hu => ?_, fun a c e => by cases e; exact Nat.le_refl _⟩⟩
  have hs : (({ E with H := fun k => if k = b then some (.cells ⟨cs⟩ T (0, 0)) else E.H k } : Env).sub E0).H b = some (.cells ⟨cs⟩ T (0, 0)) := sub_at.2 ⟨hn0, if_pos rfl, rfl⟩
  simp only [Env.cell?, sB, sO, Nat.zero_add, hs, Option.isSome_none, Bool.false_eq_true, if_false]
  simpa using hu
theorem Sat.freezeLitE {α : Type} {R : Rd α} [RdMono R] {sz b : Nat} {T : TypeId} {xs : List α} {cs : List Value} (i : Nat) (h : Sat E L w) (hi : L[i]? = some (cells b cs T)) (hc : CsE R sz E cs xs) (hn : xs.length ≤ 9223372036854775807) :
    ∃ E', E.Le E' ∧ Sat E' (L.eraseIdx i) w ∧ ListE R sz E' (.slice (some ⟨b, 0, none⟩) xs.length xs.length) xs := by
  have hn1 : E.H b = none := h.off _ (List.mem_of_getElem? hi) b (by simp [obj])
  have hle : E.Le { E with H := fun k => if k = b then some (.cells ⟨cs⟩ T (0, 0)) else E.H k } := Env.le_keep hn1
  refine ⟨_, hle, h.keep i hi, (hc.mono hle).sl ⟨.inr ⟨_, rfl⟩, hc.len, hn, fun k u hu => ?_, fun a c e => by cases e; exact Nat.le_refl _⟩⟩
  simp only [Env.cell?, sB, sO, Nat.zero_add, if_true, Option.isSome_none, Bool.false_eq_true, if_false]
  simpa using hu
end
section
variable {ro : Option Nat} {P : Program} {l : List Value} {ds : List Deferred} {w : World} {next : List Value → World → Prop} {Q : Exit → Act → World → Prop}
variable {d : Option Tmp} {ty : TypeId} {pos : String} {aft : Array Edge} {g : Option (Nat × Bool)} {T T' T'' : TypeId} {X Y Z : Operand}
variable {E E0 : Env} {L : List Item} {u u' : TypeDesc} {z z' : Value} {zs zs' : List Value} {sz sz' by_ by' : Nat}
theorem t_load_heap (i k : Nat) {F : Env} {ks : List Nat} {b off : Nat} {r : Value} [t : Ty P T u z zs sz by_] (hu : plainT u = true) (hx : ev l X = .pointer (some ⟨b, off, none⟩)) (he : off = k) (hA : Sat E L w) (hi : L[i]? = some (heap F.H ks)) (hk : HeapOk F ks) (hv : F.cell? ⟨b, k, none⟩ = some r)
    (h : next (put l d r) w) : OW ro P ⟨d, .load T X, ty, pos, aft, g⟩ l ds w next Q := by
  subst he; exact ow_load_w t.und hu hx (hA.cellHeap hi hk hv).1 h
theorem t_store_heap (i k : Nat) {F : Env} {ks : List Nat} {b off : Nat} {r old : Value} [t : Ty P T u z zs 1 by_] (hx : ev l X = .pointer (some ⟨b, off, none⟩)) (he : off = k) (hy : ev l Y = r) (h1 : r.oneCell' = true) (hA : Sat E L w) (hi : L[i]? = some (heap F.H ks)) (hk : HeapOk F ks) (hv : F.cell? ⟨b, k, none⟩ = some old)
    (h : ∀ w', Sat E (L.set i (heap (F.put b k r).H ks)) w' → next (put l d undef) w') : OW ro P ⟨d, .store T X Y, ty, pos, aft, g⟩ l ds w next Q := by
  subst he
  obtain ⟨ii, hii, hss⟩ := Option.map_eq_some_iff.1 t.size
  obtain ⟨h2, h3⟩ := hA.cellHeap hi hk hv
  have h4 := hA.putHeap (r := r) hi hk hv
  have hv' : r.cells = #[r] := by cases r <;> simp_all [Value.cells, Value.oneCell']
  refine ow_skip ?_ rfl (h _ h4)
  simp [execOp, hx, hy, Instr.storeAt, Instr.sureAddr, storeVar, hv', sizeOf, typeInfo, hii, hss, storeCells, run_store P w _ r _ h1, h2, h3, Addr.add]
end
end Go.Proofs.YtomfoaaaeidpnaaDoor
