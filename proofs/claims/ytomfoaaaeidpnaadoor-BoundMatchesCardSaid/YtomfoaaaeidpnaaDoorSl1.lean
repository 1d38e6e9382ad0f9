/-
  A small separation logic over the base's fenced walk: assertions on worlds (Env, Item, Sat).
-/
import Derived.OrdersIn
import Derived.RangeFuncLeaves
import Derived.RangeFuncCalls
import Derived.RangeFuncStops
import Derived.Laws.AppendOwn
import Derived.Laws.OwnMore
import Derived.KernelRfl
import Derived.Shelf.Abstract
import Derived.Below
set_option linter.unusedVariables false
set_option linter.unusedSimpArgs false
namespace Go.Proofs.YtomfoaaaeidpnaaDoor
open Go Go.RowKit

/-- A piece of memory: the blocks that it is about, and what is said of them. -/
structure Item where
  key : List Nat
  p : World → Prop
  loc : ∀ w w' : World, (∀ b ∈ key, w'.heap[b]? = w.heap[b]?) → p w → p w'
  lt : ∀ w, p w → ∀ b ∈ key, b < w.heap.size

/-- What stays: the outside world, and the blocks that no one writes any more. -/
structure Env where
  os : Os
  tape : Nat → Question → Nat
  output : Array (Nat × ByteArray)
  H : Nat → Option Obj

structure Env.Le (E E' : Env) : Prop where
  os : E'.os = E.os
  tape : E'.tape = E.tape
  output : E'.output = E.output
  H : ∀ i o, E.H i = some o → E'.H i = some o

theorem Env.Le.refl (E : Env) : E.Le E := ⟨rfl, rfl, rfl, fun _ _ h => h⟩
theorem Env.Le.trans {E E' E'' : Env} (h : E.Le E') (h' : E'.Le E'') : E.Le E'' :=
  ⟨h'.os.trans h.os, h'.tape.trans h.tape, h'.output.trans h.output, fun i o e => h'.H i o (h.H i o e)⟩

/-- The world is as the environment says, and holds the items, each on blocks of its own. -/
structure Sat (E : Env) (L : List Item) (w : World) : Prop where
  os : w.os = E.os
  tape : w.tape = E.tape
  output : w.output = E.output
  per : ∀ i o, E.H i = some o → w.heap[i]? = some o
  own : ∀ it ∈ L, it.p w
  off : ∀ it ∈ L, ∀ b ∈ it.key, E.H b = none
  nd : (L.flatMap Item.key).Nodup

section
variable {E : Env} {L L' : List Item} {w w' : World}

theorem Sat.at_ (h : Sat E L w) {i : Nat} {it : Item} (hi : L[i]? = some it) : it.p w := h.own it (List.mem_of_getElem? hi)

theorem Sat.perm (h : Sat E L w) (hp : L.Perm L') : Sat E L' w :=
  ⟨h.os, h.tape, h.output, h.per, fun it hm => h.own it (hp.mem_iff.2 hm), fun it hm => h.off it (hp.mem_iff.2 hm), (hp.flatMap_right Item.key).nodup_iff.1 h.nd⟩

theorem flatMap_sublist {α β : Type} (f : α → List β) {l l' : List α} (h : l'.Sublist l) : (l'.flatMap f).Sublist (l.flatMap f) := by
  induction h with
  | slnil => simp
  | cons a h ih => rw [List.flatMap_cons]; exact ih.trans (List.sublist_append_right _ _)
  | cons_cons a h ih => rw [List.flatMap_cons, List.flatMap_cons]; exact (List.Sublist.refl _).append ih
theorem Sat.sub (h : Sat E L w) (hp : L'.Sublist L) : Sat E L' w :=
  ⟨h.os, h.tape, h.output, h.per, fun it hm => h.own it (hp.subset hm), fun it hm => h.off it (hp.subset hm), (flatMap_sublist Item.key hp).nodup h.nd⟩

theorem Sat.dropN (h : Sat E L w) (n : Nat) : Sat E (L.drop n) w := h.sub (List.drop_sublist _ _)
theorem Sat.nothing (h : Sat E L w) : Sat E [] w := h.sub (List.nil_sublist _)
theorem Sat.tail {it : Item} (h : Sat E (it :: L) w) : Sat E L w := h.sub (List.sublist_cons_self _ _)

/-- A world that differs in no block. -/
theorem Sat.same (h : Sat E L w) (hos : w'.os = w.os) (htape : w'.tape = w.tape) (hout : w'.output = w.output) (hh : w'.heap = w.heap) : Sat E L w' :=
  ⟨hos.trans h.os, htape.trans h.tape, hout.trans h.output, fun i o e => by rw [hh]; exact h.per i o e,
    fun it hm => it.loc w w' (fun _ _ => by rw [hh]) (h.own it hm), h.off, h.nd⟩

theorem Sat.le {E' : Env} (h : Sat E' L w) (hE : E.Le E') : Sat E L w :=
  ⟨h.os.trans hE.os, h.tape.trans hE.tape, h.output.trans hE.output, fun i o e => h.per i o (hE.H i o e), h.own,
    fun it hm b hb => (by
      cases e : E.H b with
      | none => rfl
      | some o =>
        have h1 := hE.H b o e
        rw [h.off it hm b hb] at h1
        cases h1), h.nd⟩
theorem Sat.drew (h : Sat E L w) (n : Nat) : Sat E L { w with drawn := n } := h.same rfl rfl rfl rfl

/-- The one law of change: item 'it' gives way to 'it'': only its blocks have turned, and new ones. -/
theorem Sat.change {it it' : Item} (h : Sat E (it :: L) w) (hos : w'.os = w.os) (htape : w'.tape = w.tape) (hout : w'.output = w.output)
    (hsz : w.heap.size ≤ w'.heap.size) (hb : ∀ b, b < w.heap.size → b ∉ it.key → w'.heap[b]? = w.heap[b]?)
    (hp : it'.p w') (hk : ∀ b ∈ it'.key, b ∈ it.key ∨ w.heap.size ≤ b) (hnd : it'.key.Nodup) : Sat E (it' :: L) w' := by
  have hH : ∀ i o, E.H i = some o → i < w.heap.size ∧ i ∉ it.key := fun i o e => by
    refine ⟨(Array.getElem?_eq_some_iff.1 (h.per i o e)).1, fun hm => ?_⟩
    have := h.off it (List.mem_cons_self ..) i hm
    rw [this] at e; cases e
  have hlt : ∀ x ∈ L, ∀ b ∈ x.key, b < w.heap.size := fun x hx b hb' => x.lt w (h.own x (List.mem_cons_of_mem _ hx)) b hb'
  have hn := h.nd
  rw [List.flatMap_cons] at hn
  obtain ⟨hn1, hn2, hn3⟩ := List.nodup_append.1 hn
  have hdis : ∀ x ∈ L, ∀ b ∈ x.key, b ∉ it.key := fun x hx b hb' hm => hn3 b hm b (List.mem_flatMap.2 ⟨x, hx, hb'⟩) rfl
  refine ⟨hos.trans h.os, htape.trans h.tape, hout.trans h.output, ?_, ?_, ?_, ?_⟩
  · intro i o e
    rw [hb i (hH i o e).1 (hH i o e).2]
    exact h.per i o e
  · intro x hx
    rcases List.mem_cons.1 hx with rfl | hx
    · exact hp
    · exact x.loc w w' (fun b hb' => hb b (hlt x hx b hb') (hdis x hx b hb')) (h.own x (List.mem_cons_of_mem _ hx))
  · intro x hx b hbx
    rcases List.mem_cons.1 hx with rfl | hx
    · rcases hk b hbx with h1 | h1
      · exact h.off it (List.mem_cons_self ..) b h1
      · cases e : E.H b with
        | none => rfl
        | some o => have := (hH b o e).1; omega
    · exact h.off x (List.mem_cons_of_mem _ hx) b hbx
  · rw [List.flatMap_cons]
    refine List.nodup_append.2 ⟨hnd, hn2, ?_⟩
    intro a ha b hb' e
    subst e
    obtain ⟨x, hx, hbx⟩ := List.mem_flatMap.1 hb'
    rcases hk a ha with h1 | h1
    · exact hdis x hx a hbx h1
    · have := hlt x hx a hbx; omega

theorem perm_at {i : Nat} {it : Item} (hi : L[i]? = some it) : L.Perm (it :: L.eraseIdx i) := by
  induction L generalizing i with
  | nil => simp at hi
  | cons x xs ih =>
    cases i with
    | zero => simp at hi; subst hi; exact List.Perm.refl _
    | succ i =>
      have := ih (i := i) (by simpa using hi)
      simp only [List.eraseIdx_cons_succ]
      exact (this.cons x).trans (List.Perm.swap ..)

theorem perm_set {i : Nat} {it it' : Item} (hi : L[i]? = some it) : (it' :: L.eraseIdx i).Perm (L.set i it') := by
  induction L generalizing i with
  | nil => simp at hi
  | cons x xs ih =>
    cases i with
    | zero => exact List.Perm.refl _
    | succ i =>
      have := ih (i := i) (by simpa using hi)
      simp only [List.eraseIdx_cons_succ, List.set_cons_succ]
      exact (List.Perm.swap ..).trans (this.cons x)

theorem Sat.front (h : Sat E L w) (i : Nat) {it : Item} (hi : L[i]? = some it) : Sat E (it :: L.eraseIdx i) w := h.perm (perm_at hi)
theorem Sat.back {i : Nat} {it it' : Item} (hi : L[i]? = some it) (h : Sat E (it' :: L.eraseIdx i) w) : Sat E (L.set i it') w := h.perm (perm_set hi)

/-- Change in place. -/
theorem Sat.changeAt (h : Sat E L w) (i : Nat) {it it' : Item} (hi : L[i]? = some it) (hos : w'.os = w.os) (htape : w'.tape = w.tape) (hout : w'.output = w.output)
    (hsz : w.heap.size ≤ w'.heap.size) (hb : ∀ b, b < w.heap.size → b ∉ it.key → w'.heap[b]? = w.heap[b]?)
    (hp : it'.p w') (hk : ∀ b ∈ it'.key, b ∈ it.key ∨ w.heap.size ≤ b) (hnd : it'.key.Nodup) : Sat E (L.set i it') w' :=
  .back hi ((h.front i hi).change hos htape hout hsz hb hp hk hnd)

/-- Nothing. -/
def emp : Item := ⟨[], fun _ => True, fun _ _ _ h => h, fun _ _ _ h => by cases h⟩
theorem Sat.emp (h : Sat E L w) : Sat E (emp :: L) w :=
  ⟨h.os, h.tape, h.output, h.per, fun it hm => (List.mem_cons.1 hm).elim (fun e => by subst e; exact trivial) (h.own it),
    fun it hm => (List.mem_cons.1 hm).elim (fun e => by subst e; intro b hb; cases hb) (h.off it), by simpa [YtomfoaaaeidpnaaDoor.emp] using h.nd⟩

/-- Block b holds just this. -/
def obj (b : Nat) (o : Obj) : Item :=
  ⟨[b], fun w => w.heap[b]? = some o, fun _ _ h e => (h b (by simp)).trans e, fun _ e x hx => by simp at hx; subst hx; exact (Array.getElem?_eq_some_iff.1 e).1⟩
/-- Block b is a row of cells. -/
abbrev cells (b : Nat) (cs : List Value) (T : TypeId) : Item := obj b (.cells ⟨cs⟩ T (0, 0))

/-- A slice of the call's own: its first n elements. -/
def row (e : TypeId) (sz : Nat) (v : Value) (n : Nat) (xs : List Value) : Item :=
  ⟨v.ownBlock.toList, fun w => w.ownsRow 0 e sz v n xs, fun w w' h hp => by
      refine ⟨hp.1, ?_⟩
      rcases hp.2 with h1 | ⟨g, cap, cur, rfl, hb, hg, rest⟩
      · exact .inl h1
      · exact .inr ⟨g, cap, cur, rfl, hb, (h g (by simp [Value.ownBlock])).trans hg, rest⟩,
    fun w hp b hb => (hp.lt b (by simpa using hb)).2⟩

/-- A pure fact, carried along. -/
def fact (q : Prop) : Item := ⟨[], fun _ => q, fun _ _ _ h => h, fun _ _ _ h => by cases h⟩

theorem Sat.alloc (h : Sat E L w) (o : Obj) : Sat E (obj w.heap.size o :: L) { w with heap := w.heap.push o } :=
  h.emp.change rfl rfl rfl (by simp) (fun b hb _ => by simp [Array.getElem?_push, Nat.ne_of_lt hb]) (show (w.heap.push o)[w.heap.size]? = some o by simp) (by simp [obj]) (by simp [obj])

theorem Sat.setObj (h : Sat E L w) (i : Nat) {b : Nat} {o : Obj} (hi : L[i]? = some (obj b o)) (o' : Obj) :
    Sat E (L.set i (obj b o')) { w with heap := w.heap.setIfInBounds b o' } := by
  have hb : b < w.heap.size := (Array.getElem?_eq_some_iff.1 (h.at_ hi)).1
  refine h.changeAt i hi rfl rfl rfl (by simp) (fun c hc hne => ?_) ?_ (by simp [obj]) (by simp [obj])
  · have : b ≠ c := fun e => hne (by simp [obj, e])
    simp [Array.getElem?_setIfInBounds, this]
  · simp [obj, Array.getElem?_setIfInBounds, hb]

/-- What is owned becomes what stays. -/
theorem Sat.keep (h : Sat E L w) (i : Nat) {b : Nat} {o : Obj} (hi : L[i]? = some (obj b o)) :
    Sat { E with H := fun k => if k = b then some o else E.H k } (L.eraseIdx i) w := by
  have hf := h.front i hi
  have hn := hf.nd
  rw [List.flatMap_cons] at hn
  obtain ⟨_, hn2, hn3⟩ := List.nodup_append.1 hn
  refine ⟨h.os, h.tape, h.output, ?_, hf.tail.own, ?_, hn2⟩
  · intro k o' e
    dsimp only at e
    split at e
    · rename_i hk; subst hk; cases e; exact h.at_ hi
    · exact h.per k o' e
  · intro it hm k hk
    dsimp only
    rw [if_neg (fun e => hn3 b (by simp [obj]) k (List.mem_flatMap.2 ⟨it, hm, hk⟩) e.symm)]
    exact hf.tail.off it hm k hk

theorem Env.le_keep {E : Env} {b : Nat} {o : Obj} (h : E.H b = none) : E.Le { E with H := fun k => if k = b then some o else E.H k } :=
  ⟨rfl, rfl, rfl, fun i o' e => by dsimp only; rw [if_neg (fun x => by subst x; rw [h] at e; cases e)]; exact e⟩

/-- A cell of what stays. -/
def Env.cell? (E : Env) (a : Addr) : Option Value :=
  match E.H a.block with
  | some (.cells c _ _) => if a.spot.isSome then none else c[a.off]?
  | _ => none
theorem Sat.cell (h : Sat E L w) {a : Addr} {v : Value} (hc : E.cell? a = some v) : w.cell? a = some v := by
  unfold Env.cell? at hc
  unfold World.cell?
  cases e : E.H a.block with
  | none => simp [e] at hc
  | some o => rw [e] at hc; rw [h.per _ _ e]; exact hc
theorem Env.Le.cell {E E' : Env} (h : E.Le E') {a : Addr} {v : Value} (hc : E.cell? a = some v) : E'.cell? a = some v := by
  unfold Env.cell? at *
  cases e : E.H a.block with
  | none => simp [e] at hc
  | some o => rw [e] at hc; rw [h.H _ _ e]; exact hc

theorem Sat.cellOwn (h : Sat E L w) {i b : Nat} {cs : List Value} {T : TypeId} (hi : L[i]? = some (cells b cs T)) (k : Nat) : w.cell? ⟨b, k, none⟩ = cs[k]? := by
  have := h.at_ hi
  simp only [obj] at this
  simp [World.cell?, this]
end

/-- The environment of a world, at the beginning. -/
def envOf (w : World) : Env := ⟨w.os, w.tape, w.output, fun i => w.heap[i]?⟩
theorem sat_start (w : World) : Sat (envOf w) [] w := ⟨rfl, rfl, rfl, fun _ _ h => h, by simp, by simp, by simp⟩
theorem Sat.below {w w' : World} {E : Env} {L : List Item} (h : Sat E L w') (hE : (envOf w).Le E) : Below w.heap.size w w' := by
  refine ⟨h.os.trans hE.os, h.tape.trans hE.tape, h.output.trans hE.output, ?_, ?_⟩
  · by_cases hz : w.heap.size = 0
    · rw [hz]; exact Nat.zero_le _
    · have : (envOf w).H (w.heap.size - 1) = some w.heap[w.heap.size - 1] := by simp [envOf]
      have := (Array.getElem?_eq_some_iff.1 (h.per _ _ (hE.H _ _ this))).1
      omega
  · intro i hi
    have : (envOf w).H i = some w.heap[i] := by simp [envOf, hi]
    rw [h.per _ _ (hE.H _ _ this)]
    simp [hi]

end Go.Proofs.YtomfoaaaeidpnaaDoor
