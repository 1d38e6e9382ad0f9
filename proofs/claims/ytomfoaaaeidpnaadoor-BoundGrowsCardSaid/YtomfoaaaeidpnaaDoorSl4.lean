/-
  Strings, cells, slices: each operation by one law.
-/
import Derived.OrdersIn
import Derived.RangeFuncLeaves
import Derived.RangeFuncCalls
import Derived.RangeFuncStops
import Derived.Laws.AppendOwn
import Derived.Laws.OwnMore
import Derived.KernelRfl
import Derived.Shelf.Abstract
import Derived.Below
import Derived.IntWalk
import Derived.Laws.Concat
import Derived.Laws.BytesString
import Derived.Lib.Strings
set_option linter.unusedVariables false
set_option linter.unusedSimpArgs false
namespace Go.Proofs.YtomfoaaaeidpnaaDoor
open Go Go.RowKit

/-- A piece of memory: the blocks that it is about, and what is said of them. -/
structure Item where
  key : List Nat
  p : World → Prop
  loc : ∀ w w' : World, (∀ b ∈ key, w'.heap[b]? = w.heap[b]?) → p w → p w'
  lt : ∀ w, p w → ∀ b ∈ key, b < w.heap.size

/-- What stays: the outside world, and the blocks that no one writes any more. -/
structure Env where
  os : Os
  tape : Nat → Question → Nat
  output : Array (Nat × ByteArray)
  H : Nat → Option Obj

structure Env.Le (E E' : Env) : Prop where
  os : E'.os = E.os
  tape : E'.tape = E.tape
  output : E'.output = E.output
  H : ∀ i o, E.H i = some o → E'.H i = some o

theorem Env.Le.refl (E : Env) : E.Le E := ⟨rfl, rfl, rfl, fun _ _ h => h⟩
theorem Env.Le.trans {E E' E'' : Env} (h : E.Le E') (h' : E'.Le E'') : E.Le E'' :=
  ⟨h'.os.trans h.os, h'.tape.trans h.tape, h'.output.trans h.output, fun i o e => h'.H i o (h.H i o e)⟩

/-- The world is as the environment says, and holds the items, each on blocks of its own. -/
structure Sat (E : Env) (L : List Item) (w : World) : Prop where
  os : w.os = E.os
  tape : w.tape = E.tape
  output : w.output = E.output
  per : ∀ i o, E.H i = some o → w.heap[i]? = some o
  own : ∀ it ∈ L, it.p w
  off : ∀ it ∈ L, ∀ b ∈ it.key, E.H b = none
  nd : (L.flatMap Item.key).Nodup

section
variable {E : Env} {L L' : List Item} {w w' : World}

theorem Sat.at_ (h : Sat E L w) {i : Nat} {it : Item} (hi : L[i]? = some it) : it.p w := h.own it (List.mem_of_getElem? hi)

theorem Sat.perm (h : Sat E L w) (hp : L.Perm L') : Sat E L' w :=
  ⟨h.os, h.tape, h.output, h.per, fun it hm => h.own it (hp.mem_iff.2 hm), fun it hm => h.off it (hp.mem_iff.2 hm), (hp.flatMap_right Item.key).nodup_iff.1 h.nd⟩

theorem flatMap_sublist {α β : Type} (f : α → List β) {l l' : List α} (h : l'.Sublist l) : (l'.flatMap f).Sublist (l.flatMap f) := by
  induction h with
  | slnil => simp
  | cons a h ih => rw [List.flatMap_cons]; exact ih.trans (List.sublist_append_right _ _)
  | cons_cons a h ih => rw [List.flatMap_cons, List.flatMap_cons]; exact (List.Sublist.refl _).append ih
theorem Sat.sub (h : Sat E L w) (hp : L'.Sublist L) : Sat E L' w :=
  ⟨h.os, h.tape, h.output, h.per, fun it hm => h.own it (hp.subset hm), fun it hm => h.off it (hp.subset hm), (flatMap_sublist Item.key hp).nodup h.nd⟩

theorem Sat.dropN (h : Sat E L w) (n : Nat) : Sat E (L.drop n) w := h.sub (List.drop_sublist _ _)
theorem Sat.nothing (h : Sat E L w) : Sat E [] w := h.sub (List.nil_sublist _)
theorem Sat.tail {it : Item} (h : Sat E (it :: L) w) : Sat E L w := h.sub (List.sublist_cons_self _ _)

/-- A world that differs in no block. -/
theorem Sat.same (h : Sat E L w) (hos : w'.os = w.os) (htape : w'.tape = w.tape) (hout : w'.output = w.output) (hh : w'.heap = w.heap) : Sat E L w' :=
  ⟨hos.trans h.os, htape.trans h.tape, hout.trans h.output, fun i o e => by rw [hh]; exact h.per i o e,
    fun it hm => it.loc w w' (fun _ _ => by rw [hh]) (h.own it hm), h.off, h.nd⟩

theorem Sat.le {E' : Env} (h : Sat E' L w) (hE : E.Le E') : Sat E L w :=
  ⟨h.os.trans hE.os, h.tape.trans hE.tape, h.output.trans hE.output, fun i o e => h.per i o (hE.H i o e), h.own,
    fun it hm b hb => (by
      cases e : E.H b with
      | none => rfl
      | some o =>
        have h1 := hE.H b o e
        rw [h.off it hm b hb] at h1
        cases h1), h.nd⟩
theorem Sat.drew (h : Sat E L w) (n : Nat) : Sat E L { w with drawn := n } := h.same rfl rfl rfl rfl

/-- The one law of change: item 'it' gives way to 'it'': only its blocks have turned, and new ones. -/
theorem Sat.change {it it' : Item} (h : Sat E (it :: L) w) (hos : w'.os = w.os) (htape : w'.tape = w.tape) (hout : w'.output = w.output)
    (hsz : w.heap.size ≤ w'.heap.size) (hb : ∀ b, b < w.heap.size → b ∉ it.key → w'.heap[b]? = w.heap[b]?)
    (hp : it'.p w') (hk : ∀ b ∈ it'.key, b ∈ it.key ∨ w.heap.size ≤ b) (hnd : it'.key.Nodup) : Sat E (it' :: L) w' := by
  have hH : ∀ i o, E.H i = some o → i < w.heap.size ∧ i ∉ it.key := fun i o e => by
    refine ⟨(Array.getElem?_eq_some_iff.1 (h.per i o e)).1, fun hm => ?_⟩
    have := h.off it (List.mem_cons_self ..) i hm
    rw [this] at e; cases e
  have hlt : ∀ x ∈ L, ∀ b ∈ x.key, b < w.heap.size := fun x hx b hb' => x.lt w (h.own x (List.mem_cons_of_mem _ hx)) b hb'
  have hn := h.nd
  rw [List.flatMap_cons] at hn
  obtain ⟨hn1, hn2, hn3⟩ := List.nodup_append.1 hn
  have hdis : ∀ x ∈ L, ∀ b ∈ x.key, b ∉ it.key := fun x hx b hb' hm => hn3 b hm b (List.mem_flatMap.2 ⟨x, hx, hb'⟩) rfl
  refine ⟨hos.trans h.os, htape.trans h.tape, hout.trans h.output, ?_, ?_, ?_, ?_⟩
  · intro i o e
    rw [hb i (hH i o e).1 (hH i o e).2]
    exact h.per i o e
  · intro x hx
    rcases List.mem_cons.1 hx with rfl | hx
    · exact hp
    · exact x.loc w w' (fun b hb' => hb b (hlt x hx b hb') (hdis x hx b hb')) (h.own x (List.mem_cons_of_mem _ hx))
  · intro x hx b hbx
    rcases List.mem_cons.1 hx with rfl | hx
    · rcases hk b hbx with h1 | h1
      · exact h.off it (List.mem_cons_self ..) b h1
      · cases e : E.H b with
        | none => rfl
        | some o => have := (hH b o e).1; omega
    · exact h.off x (List.mem_cons_of_mem _ hx) b hbx
  · rw [List.flatMap_cons]
    refine List.nodup_append.2 ⟨hnd, hn2, ?_⟩
    intro a ha b hb' e
    subst e
    obtain ⟨x, hx, hbx⟩ := List.mem_flatMap.1 hb'
    rcases hk a ha with h1 | h1
    · exact hdis x hx a hbx h1
    · have := hlt x hx a hbx; omega

theorem perm_at {i : Nat} {it : Item} (hi : L[i]? = some it) : L.Perm (it :: L.eraseIdx i) := by
  induction L generalizing i with
  | nil => simp at hi
  | cons x xs ih =>
    cases i with
    | zero => simp at hi; subst hi; exact List.Perm.refl _
    | succ i =>
      have := ih (i := i) (by simpa using hi)
      simp only [List.eraseIdx_cons_succ]
      exact (this.cons x).trans (List.Perm.swap ..)

theorem perm_set {i : Nat} {it it' : Item} (hi : L[i]? = some it) : (it' :: L.eraseIdx i).Perm (L.set i it') := by
  induction L generalizing i with
  | nil => simp at hi
  | cons x xs ih =>
    cases i with
    | zero => exact List.Perm.refl _
    | succ i =>
      have := ih (i := i) (by simpa using hi)
      simp only [List.eraseIdx_cons_succ, List.set_cons_succ]
      exact (List.Perm.swap ..).trans (this.cons x)

theorem Sat.front (h : Sat E L w) (i : Nat) {it : Item} (hi : L[i]? = some it) : Sat E (it :: L.eraseIdx i) w := h.perm (perm_at hi)
theorem Sat.back {i : Nat} {it it' : Item} (hi : L[i]? = some it) (h : Sat E (it' :: L.eraseIdx i) w) : Sat E (L.set i it') w := h.perm (perm_set hi)

/-- Change in place. -/
theorem Sat.changeAt (h : Sat E L w) (i : Nat) {it it' : Item} (hi : L[i]? = some it) (hos : w'.os = w.os) (htape : w'.tape = w.tape) (hout : w'.output = w.output)
    (hsz : w.heap.size ≤ w'.heap.size) (hb : ∀ b, b < w.heap.size → b ∉ it.key → w'.heap[b]? = w.heap[b]?)
    (hp : it'.p w') (hk : ∀ b ∈ it'.key, b ∈ it.key ∨ w.heap.size ≤ b) (hnd : it'.key.Nodup) : Sat E (L.set i it') w' :=
  .back hi ((h.front i hi).change hos htape hout hsz hb hp hk hnd)

/-- Nothing. -/
def emp : Item := ⟨[], fun _ => True, fun _ _ _ h => h, fun _ _ _ h => by cases h⟩
theorem Sat.emp (h : Sat E L w) : Sat E (emp :: L) w :=
  ⟨h.os, h.tape, h.output, h.per, fun it hm => (List.mem_cons.1 hm).elim (fun e => by subst e; exact trivial) (h.own it),
    fun it hm => (List.mem_cons.1 hm).elim (fun e => by subst e; intro b hb; cases hb) (h.off it), by simpa [YtomfoaaaeidpnaaDoor.emp] using h.nd⟩

/-- Block b holds just this. -/
def obj (b : Nat) (o : Obj) : Item :=
  ⟨[b], fun w => w.heap[b]? = some o, fun _ _ h e => (h b (by simp)).trans e, fun _ e x hx => by simp at hx; subst hx; exact (Array.getElem?_eq_some_iff.1 e).1⟩
/-- Block b is a row of cells. -/
abbrev cells (b : Nat) (cs : List Value) (T : TypeId) : Item := obj b (.cells ⟨cs⟩ T (0, 0))

/-- A slice of the call's own: its first n elements. -/
def row (e : TypeId) (sz : Nat) (v : Value) (n : Nat) (xs : List Value) : Item :=
  ⟨v.ownBlock.toList, fun w => w.ownsRow 0 e sz v n xs, fun w w' h hp => by
      refine ⟨hp.1, ?_⟩
      rcases hp.2 with h1 | ⟨g, cap, cur, rfl, hb, hg, rest⟩
      · exact .inl h1
      · exact .inr ⟨g, cap, cur, rfl, hb, (h g (by simp [Value.ownBlock])).trans hg, rest⟩,
    fun w hp b hb => (hp.lt b (by simpa using hb)).2⟩

/-- A pure fact, carried along. -/
def fact (q : Prop) : Item := ⟨[], fun _ => q, fun _ _ _ h => h, fun _ _ _ h => by cases h⟩

theorem Sat.alloc (h : Sat E L w) (o : Obj) : Sat E (obj w.heap.size o :: L) { w with heap := w.heap.push o } :=
  h.emp.change rfl rfl rfl (by simp) (fun b hb _ => by simp [Array.getElem?_push, Nat.ne_of_lt hb]) (show (w.heap.push o)[w.heap.size]? = some o by simp) (by simp [obj]) (by simp [obj])

theorem Sat.setObj (h : Sat E L w) (i : Nat) {b : Nat} {o : Obj} (hi : L[i]? = some (obj b o)) (o' : Obj) :
    Sat E (L.set i (obj b o')) { w with heap := w.heap.setIfInBounds b o' } := by
  have hb : b < w.heap.size := (Array.getElem?_eq_some_iff.1 (h.at_ hi)).1
  refine h.changeAt i hi rfl rfl rfl (by simp) (fun c hc hne => ?_) ?_ (by simp [obj]) (by simp [obj])
  · have : b ≠ c := fun e => hne (by simp [obj, e])
    simp [Array.getElem?_setIfInBounds, this]
  · simp [obj, Array.getElem?_setIfInBounds, hb]

/-- What is owned becomes what stays. -/
theorem Sat.keep (h : Sat E L w) (i : Nat) {b : Nat} {o : Obj} (hi : L[i]? = some (obj b o)) :
    Sat { E with H := fun k => if k = b then some o else E.H k } (L.eraseIdx i) w := by
  have hf := h.front i hi
  have hn := hf.nd
  rw [List.flatMap_cons] at hn
  obtain ⟨_, hn2, hn3⟩ := List.nodup_append.1 hn
  refine ⟨h.os, h.tape, h.output, ?_, hf.tail.own, ?_, hn2⟩
  · intro k o' e
    dsimp only at e
    split at e
    · rename_i hk; subst hk; cases e; exact h.at_ hi
    · exact h.per k o' e
  · intro it hm k hk
    dsimp only
    rw [if_neg (fun e => hn3 b (by simp [obj]) k (List.mem_flatMap.2 ⟨it, hm, hk⟩) e.symm)]
    exact hf.tail.off it hm k hk

theorem Env.le_keep {E : Env} {b : Nat} {o : Obj} (h : E.H b = none) : E.Le { E with H := fun k => if k = b then some o else E.H k } :=
  ⟨rfl, rfl, rfl, fun i o' e => by dsimp only; rw [if_neg (fun x => by subst x; rw [h] at e; cases e)]; exact e⟩

/-- A cell of what stays. -/
def Env.cell? (E : Env) (a : Addr) : Option Value :=
  match E.H a.block with
  | some (.cells c _ _) => if a.spot.isSome then none else c[a.off]?
  | _ => none
theorem Sat.cell (h : Sat E L w) {a : Addr} {v : Value} (hc : E.cell? a = some v) : w.cell? a = some v := by
  unfold Env.cell? at hc
  unfold World.cell?
  cases e : E.H a.block with
  | none => simp [e] at hc
  | some o => rw [e] at hc; rw [h.per _ _ e]; exact hc
theorem Env.Le.cell {E E' : Env} (h : E.Le E') {a : Addr} {v : Value} (hc : E.cell? a = some v) : E'.cell? a = some v := by
  unfold Env.cell? at *
  cases e : E.H a.block with
  | none => simp [e] at hc
  | some o => rw [e] at hc; rw [h.H _ _ e]; exact hc

theorem Sat.cellOwn (h : Sat E L w) {i b : Nat} {cs : List Value} {T : TypeId} (hi : L[i]? = some (cells b cs T)) (k : Nat) : w.cell? ⟨b, k, none⟩ = cs[k]? := by
  have := h.at_ hi
  simp only [obj] at this
  simp [World.cell?, this]
end

/-- The environment of a world, at the beginning. -/
def envOf (w : World) : Env := ⟨w.os, w.tape, w.output, fun i => w.heap[i]?⟩
theorem sat_start (w : World) : Sat (envOf w) [] w := ⟨rfl, rfl, rfl, fun _ _ h => h, by simp, by simp, by simp⟩
theorem Sat.below {w w' : World} {E : Env} {L : List Item} (h : Sat E L w') (hE : (envOf w).Le E) : Below w.heap.size w w' := by
  refine ⟨h.os.trans hE.os, h.tape.trans hE.tape, h.output.trans hE.output, ?_, ?_⟩
  · by_cases hz : w.heap.size = 0
    · rw [hz]; exact Nat.zero_le _
    · have : (envOf w).H (w.heap.size - 1) = some w.heap[w.heap.size - 1] := by simp [envOf]
      have := (Array.getElem?_eq_some_iff.1 (h.per _ _ (hE.H _ _ this))).1
      omega
  · intro i hi
    have : (envOf w).H i = some w.heap[i] := by simp [envOf, hi]
    rw [h.per _ _ (hE.H _ _ this)]
    simp [hi]

end Go.Proofs.YtomfoaaaeidpnaaDoor
namespace Go.Proofs.YtomfoaaaeidpnaaDoor
open Go Go.RowKit

def A (l : List Value) (ds : List Deferred) : Act := ⟨⟨l⟩, ds⟩
def ev (l : List Value) : Operand → Value
  | .tmp t => l.getD t undef
  | .const v => v
  | .global g => .pointer (some ⟨g, 0, none⟩)
  | .func f => .func (.func f) #[] #[]
def put (l : List Value) : Option Tmp → Value → List Value
  | some d, v => l.set d v
  | none, _ => l

theorem A_eval (l : List Value) (ds : List Deferred) : (A l ds).eval = ev l := by
  funext x
  cases x <;> simp [A, Act.eval, ev, List.getD]
theorem A_put (l : List Value) (ds : List Deferred) (d : Option Tmp) (v : Value) : (A l ds).put d v = A (put l d v) ds := by
  cases d <;> simp [A, Act.put, put]

abbrev WF (ro : Option Nat) : Fence := { Fence.wide with round := ro }

/-- One operation. -/
def OW (ro : Option Nat) (P : Program) (o : Oper) (l : List Value) (ds : List Deferred) (w : World) (next : List Value → World → Prop) (Q : Exit → Act → World → Prop) : Prop :=
  o.wpIn (WF ro) 0 P (A l ds) w (fun a' w' => ∃ l', a' = A l' ds ∧ next l' w') Q

def Oper.noDefer (o : Oper) : Bool := match o.op with | .defer _ => false | _ => true
theorem semAt_plain {ro : Option Nat} {ρ : Operand → Value} {o : Oper} (h : Oper.noDefer o = true) : o.semAt ro ρ = execOp ρ o :=
  Oper.semAt_eq ro ρ o fun c e => by simp [Oper.noDefer, e] at h

section
variable {ro : Option Nat} {P : Program} {o : Oper} {l : List Value} {ds : List Deferred} {w w' : World} {next : List Value → World → Prop} {Q : Exit → Act → World → Prop}

theorem ow_run {v : Value} (h : (execOp (ev l) o).run P w = .ok (.value v) w') (hd : Oper.noDefer o = true) (hK : next (put l o.dst v) w') : OW ro P o l ds w next Q := by
  unfold OW Oper.wpIn
  rw [semAt_plain hd, A_eval, h]
  exact ⟨fun _ _ => trivial, _, A_put l ds o.dst v, hK⟩
theorem ow_skip (h : (execOp (ev l) o).run P w = .ok .skip w') (hd : Oper.noDefer o = true) (hK : next (put l o.dst undef) w') : OW ro P o l ds w next Q := by
  unfold OW Oper.wpIn
  rw [semAt_plain hd, A_eval, h]
  exact ⟨fun _ _ => trivial, _, A_put l ds o.dst undef, hK⟩
theorem ow_enter {f : FuncId} {args : Array Value} (h : (execOp (ev l) o).run P w = .ok (.enter f args) w') (hd : Oper.noDefer o = true)
    (hc : Calls P f args w' fun e w'' => ∃ v, e = .returned v ∧ next (put l o.dst v) w'') : OW ro P o l ds w next Q := by
  unfold OW Oper.wpIn
  rw [semAt_plain hd, A_eval, h]
  refine ⟨fun _ _ => trivial, ?_⟩
  rw [Oper.uponIn_enter]
  refine ⟨fun h => absurd h (by simp [Fence.wide]), ?_⟩
  have hc' : CallsIn (WF ro) (0 - 1) P f args w' fun e w'' => ∃ v, e = .returned v ∧ next (put l o.dst v) w'' := callsIn_wide (n := 0 - 1).2 hc
  refine hc'.mono ?_
  rintro e w'' ⟨v, rfl, hn⟩
  exact ⟨_, A_put l ds o.dst v, hn⟩
theorem ow_round {k : Nat} {f : FuncId} {tmps : Array Value} {assign body : Code} (h : (execOp (ev l) o).run P w = .ok (.round k f tmps assign body) w') (hd : Oper.noDefer o = true)
    (hc : RoundIn (WF none) 0 P k f tmps assign body w' fun e w'' => ∃ v, e = .returned v ∧ next (put l o.dst v) w'') : OW ro P o l ds w next Q := by
  unfold OW Oper.wpIn
  rw [semAt_plain hd, A_eval, h]
  refine ⟨fun _ _ => trivial, ?_⟩
  rw [Oper.uponIn_round]
  refine ⟨fun h => absurd h (by simp [Fence.wide]), ?_⟩
  have hc' : RoundIn (WF ro) (0 - 1) P k f tmps assign body w' fun e w'' => ∃ v, e = .returned v ∧ next (put l o.dst v) w'' := hc
  refine hc'.mono ?_
  rintro e w'' ⟨v, rfl, hn⟩
  exact ⟨_, A_put l ds o.dst v, hn⟩
theorem OW.mono {next' : List Value → World → Prop} (h : OW ro P o l ds w next Q) (hn : ∀ l w, next l w → next' l w) : OW ro P o l ds w next' Q :=
  Oper.wpIn_mono (fun _ _ ⟨l', e, h⟩ => ⟨l', e, hn _ _ h⟩) h
end

/-! ### Regions in order -/
abbrev GOp := Oper × Option (Option Tmp × Bool)
def gslot (ops : Array Oper) (o : Oper) : Option (Option Tmp × Bool) :=
  match o.guard with
  | none => none
  | some (j, b) => some ((ops[j]?).bind (·.dst), b)
def annot (ops : Array Oper) : List GOp := ops.toList.map fun o => (o, gslot ops o)
def gval (l : List Value) : Option Tmp → Option Bool
  | none => none
  | some t => match l.getD t undef with | .bool b => some b | _ => none

def RL (ro : Option Nat) (P : Program) (ds : List Deferred) (K : List Value → World → Prop) (Q : Exit → Act → World → Prop) : List GOp → List Value → World → Prop
  | [], l, w => K l w
  | (o, none) :: r, l, w => OW ro P o l ds w (RL ro P ds K Q r) Q
  | (o, some (t, b)) :: r, l, w => if gval l t = some b then OW ro P o l ds w (RL ro P ds K Q r) Q else RL ro P ds K Q r (put l o.dst undef) w

theorem yielded_eq (ops : Array Oper) (l : List Value) (j : Nat) : yielded ops ⟨l⟩ j = gval l ((ops[j]?).bind (·.dst)) := by
  unfold yielded gval
  cases h : (ops[j]?).bind (·.dst) with
  | none => rfl
  | some t =>
    simp only [Option.bind_some, List.getD]
    have e : (⟨l⟩ : Array Value)[t]? = l[t]? := by simp
    rw [e]
    cases l[t]? with
    | none => rfl
    | some v => cases v <;> rfl

theorem rl_sound {ro : Option Nat} {P : Program} {ds : List Deferred} {Q : Exit → Act → World → Prop} (ops : Array Oper) :
    ∀ (n m : Nat), n + m = ops.size → ∀ (l : List Value) (w : World),
      RL ro P ds (fun l w => Q .normal (A l ds) w) Q ((ops.toList.drop n).map fun o => (o, gslot ops o)) l w → wpOpsIn (WF ro) 0 P ops Q (List.range' n m) (A l ds) w := by
  intro n m
  induction m generalizing n with
  | zero =>
    intro hn l w h
    have : ops.toList.drop n = [] := List.drop_eq_nil_of_le (by simp; omega)
    rw [this] at h
    exact h
  | succ m ih =>
    intro hn l w h
    have hlt : n < ops.size := by omega
    have hd : ops.toList.drop n = ops[n] :: ops.toList.drop (n + 1) := by
      rw [List.drop_eq_getElem_cons (by simpa using hlt)]; simp
    rw [hd, List.map_cons] at h
    have hrest := ih (n + 1) (by omega)
    simp only [List.range'_succ, wpOpsIn, Array.getElem?_eq_getElem hlt]
    have hy := fun j => yielded_eq ops l j
    have hty : (A l ds).tmps = ⟨l⟩ := rfl
    rw [hty]
    unfold Region.wanted
    cases hg : ops[n].guard with
    | none =>
      have e : gslot ops ops[n] = none := by simp [gslot, hg]
      rw [e] at h
      simp only [if_true]
      refine Oper.wpIn_mono ?_ h
      rintro a w ⟨l', rfl, h⟩
      exact hrest l' w h
    | some jb =>
      obtain ⟨j, b⟩ := jb
      have e : gslot ops ops[n] = some ((ops[j]?).bind (·.dst), b) := by simp [gslot, hg]
      rw [e] at h
      simp only [RL] at h
      simp only [hy]
      by_cases hv : gval l ((ops[j]?).bind (·.dst)) = some b
      · rw [if_pos hv] at h
        simp only [hv, beq_self_eq_true, if_true]
        refine Oper.wpIn_mono ?_ h
        rintro a w ⟨l', rfl, h⟩
        exact hrest l' w h
      · rw [if_neg hv] at h
        have : (gval l ((ops[j]?).bind (·.dst)) == some b) = false := by simpa using hv
        simp only [this, Bool.false_eq_true, if_false]
        refine ⟨fun _ _ => trivial, ?_⟩
        rw [A_put]
        exact hrest _ w h

section
variable {ro : Option Nat} {P : Program} {ds : List Deferred} {K : List Value → World → Prop} {Q : Exit → Act → World → Prop} {o : Oper} {r : List GOp} {l : List Value} {w : World}
theorem rl_nil (h : K l w) : RL ro P ds K Q [] l w := h
theorem rl_op (h : OW ro P o l ds w (RL ro P ds K Q r) Q) : RL ro P ds K Q ((o, none) :: r) l w := h
theorem rl_on {t : Tmp} {b : Bool} (hg : l.getD t undef = .bool b) (h : OW ro P o l ds w (RL ro P ds K Q r) Q) : RL ro P ds K Q ((o, some (some t, b)) :: r) l w := by
  unfold RL; rw [if_pos (by simp only [gval, hg])]; exact h
theorem rl_off {t : Tmp} {b c : Bool} (hg : l.getD t undef = .bool c) (hc : c = !b) (h : RL ro P ds K Q r (put l o.dst undef) w) : RL ro P ds K Q ((o, some (some t, b)) :: r) l w := by
  unfold RL; rw [if_neg (by simp only [gval, hg]; rw [hc]; cases b <;> simp)]; exact h
theorem rl_undef {t : Tmp} {b : Bool} (hg : l.getD t undef = .tuple #[]) (h : RL ro P ds K Q r (put l o.dst undef) w) : RL ro P ds K Q ((o, some (some t, b)) :: r) l w := by
  unfold RL; rw [if_neg (by simp only [gval, hg]; simp)]; exact h
theorem rl_split {t : Tmp} {b c : Bool} (hg : l.getD t undef = .bool c) (h : c = b → OW ro P o l ds w (RL ro P ds K Q r) Q) (h' : c = (!b) → RL ro P ds K Q r (put l o.dst undef) w) :
    RL ro P ds K Q ((o, some (some t, b)) :: r) l w := by
  by_cases e : c = b
  · exact rl_on (by rw [hg, e]) (h e)
  · have e' : c = !b := by cases c <;> cases b <;> simp_all
    exact rl_off hg e' (h' e')
theorem RL.mono {K' : List Value → World → Prop} (hk : ∀ l w, K l w → K' l w) : ∀ {r : List GOp} {l : List Value} {w : World}, RL ro P ds K Q r l w → RL ro P ds K' Q r l w
  | [], _, _, h => hk _ _ h
  | (o, none) :: r, l, w, h => OW.mono h fun _ _ h => RL.mono hk h
  | (o, some (t, b)) :: r, l, w, h => by
    unfold RL at h ⊢
    split
    · rename_i hc; rw [if_pos hc] at h; exact OW.mono h fun _ _ h => RL.mono hk h
    · rename_i hc; rw [if_neg hc] at h; exact RL.mono hk h
end

/-! ### Code -/
def WC (ro : Option Nat) (P : Program) (c : Code) (Q : Exit → Act → World → Prop) (l : List Value) (ds : List Deferred) (w : World) : Prop := c.wpIn (WF ro) 0 P Q (A l ds) w

section
variable {ro : Option Nat} {P : Program} {Q : Exit → Act → World → Prop} {l : List Value} {ds : List Deferred} {w : World}
theorem wc_skip (h : Q .normal (A l ds) w) : WC ro P .skip Q l ds w := wpIn_skip h
theorem wc_label {k : Nat} (h : Q .normal (A l ds) w) : WC ro P (.label k) Q l ds w := wpIn_label h
theorem wc_exit {id : Nat} (h : Q (.exit id) (A l ds) w) : WC ro P (.exit id) Q l ds w := wpIn_exit h
theorem wc_ret (h : Q .ret (A l ds) w) : WC ro P .ret Q l ds w := wpIn_ret h
/-- What is to follow. -/
def ThenQ (ro : Option Nat) (P : Program) (y : Code) (Q : Exit → Act → World → Prop) : Exit → Act → World → Prop
  | .normal, a, w => ∃ l ds, a = A l ds ∧ WC ro P y Q l ds w
  | e, a, w => Q e a w
def BlockQ (i : Nat) (Q : Exit → Act → World → Prop) : Exit → Act → World → Prop := Exit.inBlock i Q
def LoopQ (ds : List Deferred) (I : Nat → List Value → World → Prop) (n : Nat) (Q : Exit → Act → World → Prop) : Exit → Act → World → Prop
  | .normal, a, w => ∃ l m, a = A l ds ∧ I m l w ∧ m < n
  | e, a, w => Q e a w
theorem wc_seq {x y : Code} (h : WC ro P x (ThenQ ro P y Q) l ds w) : WC ro P (.seq x y) Q l ds w :=
  wpIn_seq (wpIn_mono h fun e a w h => by
    cases e with
    | normal => obtain ⟨l, ds, rfl, h⟩ := h; exact h
    | _ => exact h)
theorem tq_normal {y : Code} (h : WC ro P y Q l ds w) : ThenQ ro P y Q .normal (A l ds) w := ⟨l, ds, rfl, h⟩
theorem tq_exit {y : Code} {a : Act} {i : Nat} (h : Q (.exit i) a w) : ThenQ ro P y Q (.exit i) a w := h
theorem tq_ret {y : Code} {a : Act} (h : Q .ret a w) : ThenQ ro P y Q .ret a w := h
theorem bq_normal {i : Nat} {a : Act} (h : Q .normal a w) : BlockQ i Q .normal a w := h
theorem bq_ret {i : Nat} {a : Act} (h : Q .ret a w) : BlockQ i Q .ret a w := h
theorem bq_hit {i : Nat} {a : Act} (h : Q .normal a w) : BlockQ i Q (.exit i) a w := by simpa [BlockQ, Exit.inBlock] using h
theorem bq_miss {i j : Nat} {a : Act} (hn : j ≠ i) (h : Q (.exit j) a w) : BlockQ i Q (.exit j) a w := by simpa [BlockQ, Exit.inBlock, hn] using h
theorem lq_next {I : Nat → List Value → World → Prop} {n : Nat} (m : Nat) (hlt : m < n) (h : I m l w) : LoopQ ds I n Q .normal (A l ds) w := ⟨l, m, rfl, h, hlt⟩
theorem lq_exit {I : Nat → List Value → World → Prop} {n : Nat} {a : Act} {i : Nat} (h : Q (.exit i) a w) : LoopQ ds I n Q (.exit i) a w := h
theorem lq_ret {I : Nat → List Value → World → Prop} {n : Nat} {a : Act} (h : Q .ret a w) : LoopQ ds I n Q .ret a w := h
theorem wc_cond {c : Operand} {x y : Code} {t : Bool} (hc : ev l c = .bool t) (hx : t = true → WC ro P x Q l ds w) (hy : t = false → WC ro P y Q l ds w) : WC ro P (.cond c x y) Q l ds w :=
  wpIn_cond_split (t := t) (by rw [A_eval]; exact hc) hx hy
theorem wc_true {c : Operand} {x y : Code} (hc : ev l c = .bool true) (hx : WC ro P x Q l ds w) : WC ro P (.cond c x y) Q l ds w := wpIn_cond_true (by rw [A_eval]; exact hc) hx
theorem wc_false {c : Operand} {x y : Code} (hc : ev l c = .bool false) (hy : WC ro P y Q l ds w) : WC ro P (.cond c x y) Q l ds w := wpIn_cond_false (by rw [A_eval]; exact hc) hy
theorem wc_block {id : Nat} {c : Code} (h : WC ro P c (BlockQ id Q) l ds w) : WC ro P (.block id c) Q l ds w := wpIn_block h
theorem wc_region {id : Nat} {ops : Array Oper} (h : RL ro P ds (fun l w => Q .normal (A l ds) w) Q (annot ops) l w) : WC ro P (.region id ops false) Q l ds w := by
  refine wpIn_region ?_
  rw [List.range_eq_range']
  exact rl_sound ops 0 ops.size (by simp) l w (by simpa [annot] using h)
theorem wc_mono {c : Code} {Q' : Exit → Act → World → Prop} (h : WC ro P c Q l ds w) (hq : ∀ e a w, Q e a w → Q' e a w) : WC ro P c Q' l ds w := wpIn_mono h hq
theorem wc_loop {c : Code} (I : List Value → World → Prop) (μ : List Value → World → Nat) (h0 : I l w)
    (round : ∀ l w, I l w → WC ro P c (Exit.then (fun a' w' => ∃ l', a' = A l' ds ∧ I l' w' ∧ μ l' w' < μ l w) Q) l ds w) : WC ro P (.loop c) Q l ds w := by
  refine wpIn_loop (fun a w => ∃ l, a = A l ds ∧ I l w) (fun a w => μ a.tmps.toList w) ⟨l, rfl, h0⟩ ?_
  rintro a w ⟨l, rfl, hI⟩
  refine wpIn_mono (round l w hI) ?_
  rintro e a w h
  cases e with
  | normal => obtain ⟨l', rfl, h1, h2⟩ := h; exact ⟨⟨l', rfl, h1⟩, h2⟩
  | _ => exact h
theorem least {p : Nat → Prop} (h : ∃ n, p n) : ∃ n, p n ∧ ∀ m, p m → n ≤ m := by
  obtain ⟨n, hn⟩ := h
  induction n using Nat.strongRecOn with
  | _ n ih =>
    by_cases hx : ∃ m, m < n ∧ p m
    · obtain ⟨m, hm, hp⟩ := hx; exact ih m hm hp
    · exact ⟨n, hn, fun m hp => Nat.le_of_not_lt fun hlt => hx ⟨m, hlt, hp⟩⟩
open Classical in
/-- Counted down by a number that the invariant bears. -/
theorem wc_loopn {c : Code} (I : Nat → List Value → World → Prop) (n : Nat) (h0 : I n l w)
    (round : ∀ n l w, I n l w → WC ro P c (LoopQ ds I n Q) l ds w) : WC ro P (.loop c) Q l ds w := by
  let μ : List Value → World → Nat := fun l w => if h : ∃ n, I n l w then (least h).choose else 0
  refine wc_loop (fun l w => ∃ n, I n l w) μ ⟨n, h0⟩ ?_
  rintro l w ⟨n, hI⟩
  have hex : ∃ n, I n l w := ⟨n, hI⟩
  have hμ : μ l w = (least hex).choose := by simp only [μ]; rw [dif_pos hex]
  have hmin : I (μ l w) l w := by rw [hμ]; exact (least hex).choose_spec.1
  refine wc_mono (round _ l w hmin) ?_
  rintro e a w' h
  cases e with
  | normal =>
    obtain ⟨l', m, rfl, h1, h2⟩ := h
    refine ⟨l', rfl, ⟨m, h1⟩, ?_⟩
    have hex' : ∃ n, I n l' w' := ⟨m, h1⟩
    have : μ l' w' ≤ m := by simp only [μ]; rw [dif_pos hex']; exact (least hex').choose_spec.2 m h1
    omega
  | _ => exact h

end

/-! ### Functions -/
/-- What a call comes to: it returns v, and the assertion holds. -/
abbrev Ret (E : Env) (L : List Item) (v : Value) : Ending → World → Prop := fun e w' => e = .returned v ∧ Sat E L w'

section
variable {P : Program} {f : FuncId} {fn : Func} {c : Code} {args : Array Value} {w : World} {R : Ending → World → Prop} {l : List Value} {ds : List Deferred}
abbrev FP (P : Program) (fn : Func) (R : Ending → World → Prop) : Exit → Act → World → Prop := bodyPostM (WF none) 0 P fn R
theorem calls_of (hf : P.funcs[f]? = some fn) (hb : fn.body = some c) (l : List Value) (hl : args ++ Array.replicate (fn.ntmps - args.size) undef = ⟨l⟩) (h : WC none P c (FP P fn R) l [] w) : Calls P f args w R := by
  refine (callsIn_wide (n := 0)).1 (callsIn_of_wp_marks hf hb trivial ?_ rfl)
  rw [hl]; exact h

theorem fp_ret {v : Value} (hr : (results fn ⟨l⟩).run P w = .ok v w) (h : R (.returned v) w) : FP P fn R .ret (A l []) w := ⟨v, hr, h⟩
theorem fp_normal {v : Value} (hr : (results fn ⟨l⟩).run P w = .ok v w) (h : R (.returned v) w) : FP P fn R .normal (A l []) w := ⟨v, hr, h⟩

theorem res0 (h : fn.results = #[]) : (results fn ⟨l⟩).run P w = .ok (.tuple #[]) w := by simp [results, h]
theorem res1 {t : Tmp} {v : Value} (h : fn.results = #[.tmp t]) (hv : l.getD t undef = v) : (results fn ⟨l⟩).run P w = .ok v w := by
  subst hv; simp [results, h, List.getD]
theorem res2 {t u : Tmp} {v v' : Value} (h : fn.results = #[.tmp t, .tmp u]) (hv : l.getD t undef = v) (hv' : l.getD u undef = v') : (results fn ⟨l⟩).run P w = .ok (.tuple ⟨[v, v']⟩) w := by
  subst hv hv'; simp [results, h, List.getD]
theorem res3 {t u x : Tmp} {v v' v'' : Value} (h : fn.results = #[.tmp t, .tmp u, .tmp x]) (hv : l.getD t undef = v) (hv' : l.getD u undef = v') (hv'' : l.getD x undef = v'') : (results fn ⟨l⟩).run P w = .ok (.tuple ⟨[v, v', v'']⟩) w := by
  subst hv hv' hv''; simp [results, h, List.getD]
end
end Go.Proofs.YtomfoaaaeidpnaaDoor
namespace Go.Proofs.YtomfoaaaeidpnaaDoor
open Go Go.RowKit

section
variable {ro : Option Nat} {P : Program} {l : List Value} {ds : List Deferred} {w : World} {next : List Value → World → Prop} {Q : Exit → Act → World → Prop}
variable {d : Option Tmp} {ty : TypeId} {pos : String} {aft : Array Edge} {g : Option (Nat × Bool)} {T T' T'' : TypeId} {X Y Z : Operand}

theorem ow_move (h : next (put l d (ev l X)) w) : OW ro P ⟨d, .move X, ty, pos, aft, g⟩ l ds w next Q :=
  ow_run (v := ev l X) (by simp [execOp]) rfl h
theorem ow_assign (h : next (put l d (ev l X)) w) : OW ro P ⟨d, .assign X, ty, pos, aft, g⟩ l ds w next Q :=
  ow_run (v := ev l X) (by simp [execOp]) rfl h
theorem ow_pick_t (hc : ev l X = .bool true) (h : next (put l d (ev l Y)) w) : OW ro P ⟨d, .pick X Y Z, ty, pos, aft, g⟩ l ds w next Q :=
  ow_run (v := ev l Y) (by simp [execOp, hc, asBool]) rfl h
theorem ow_pick_f (hc : ev l X = .bool false) (h : next (put l d (ev l Z)) w) : OW ro P ⟨d, .pick X Y Z, ty, pos, aft, g⟩ l ds w next Q :=
  ow_run (v := ev l Z) (by simp [execOp, hc, asBool]) rfl h
theorem ow_pick {c : Bool} {a b : Value} (hc : ev l X = .bool c) (ha : ev l Y = a) (hb : ev l Z = b) (h : next (put l d (if c then a else b)) w) : OW ro P ⟨d, .pick X Y Z, ty, pos, aft, g⟩ l ds w next Q :=
  ow_run (v := if c then a else b) (by simp [execOp, hc, ha, hb, asBool]) rfl h
theorem ow_extract {vs : List Value} {k : Nat} {v : Value} (hx : ev l X = .tuple ⟨vs⟩) (hv : vs[k]? = some v) (h : next (put l d v) w) : OW ro P ⟨d, .extract X k, ty, pos, aft, g⟩ l ds w next Q :=
  ow_run (v := v) (by simp [execOp, hx, Instr.extract, hv]) rfl h
theorem ow_nilCheck {a : Addr} (hx : ev l X = .pointer (some a)) (h : next (put l d (.pointer (some a))) w) : OW ro P ⟨d, .nilCheck X, ty, pos, aft, g⟩ l ds w next Q :=
  ow_run (v := .pointer (some a)) (by simp [execOp, hx]) rfl h
theorem ow_makeFunc {fn : Fn} {fi ca : Array Operand} {vfi vca : List Value} (hfi : fi.toList.map (ev l) = vfi) (hca : ca.toList.map (ev l) = vca) (h : next (put l d (.func fn ⟨vfi⟩ ⟨vca⟩)) w) :
    OW ro P ⟨d, .makeFunc fn fi ca, ty, pos, aft, g⟩ l ds w next Q :=
  ow_run (v := .func fn ⟨vfi⟩ ⟨vca⟩) (by
    have e1 : fi.map (ev l) = ⟨vfi⟩ := by rw [← hfi]; apply Array.ext'; simp
    have e2 : ca.map (ev l) = ⟨vca⟩ := by rw [← hca]; apply Array.ext'; simp
    simp [execOp, Instr.makeFunc, e1, e2]) rfl h

/-! Whole numbers -/
theorem ow_add {k : IntKind} {x y : Int} (hx : ev l X = .int k x) (hy : ev l Y = .int k y) (h : next (put l d (.int k (k.wrap (x + y)))) w) : OW ro P ⟨d, .binOp .add T X Y T', ty, pos, aft, g⟩ l ds w next Q :=
  ow_run (v := .int k (k.wrap (x + y))) (by simp [execOp, hx, hy, eqGuard, binOp, Op.intArith]) rfl h
theorem ow_sub {k : IntKind} {x y : Int} (hx : ev l X = .int k x) (hy : ev l Y = .int k y) (h : next (put l d (.int k (k.wrap (x - y)))) w) : OW ro P ⟨d, .binOp .sub T X Y T', ty, pos, aft, g⟩ l ds w next Q :=
  ow_run (v := .int k (k.wrap (x - y))) (by simp [execOp, hx, hy, eqGuard, binOp, Op.intArith]) rfl h
theorem ow_mul {k : IntKind} {x y : Int} (hx : ev l X = .int k x) (hy : ev l Y = .int k y) (h : next (put l d (.int k (k.wrap (x * y)))) w) : OW ro P ⟨d, .binOp .mul T X Y T', ty, pos, aft, g⟩ l ds w next Q :=
  ow_run (v := .int k (k.wrap (x * y))) (by simp [execOp, hx, hy, eqGuard, binOp, Op.intArith]) rfl h
theorem ow_add64 {x y : Int} (hx : ev l X = .int .i64 x) (hy : ev l Y = .int .i64 y) (hr : -9223372036854775808 ≤ x + y ∧ x + y ≤ 9223372036854775807) (h : next (put l d (.int .i64 (x + y))) w) : OW ro P ⟨d, .binOp .add T X Y T', ty, pos, aft, g⟩ l ds w next Q :=
  ow_add hx hy (by rw [IntWalk.i64_in _ hr]; exact h)
theorem ow_sub64 {x y : Int} (hx : ev l X = .int .i64 x) (hy : ev l Y = .int .i64 y) (hr : -9223372036854775808 ≤ x - y ∧ x - y ≤ 9223372036854775807) (h : next (put l d (.int .i64 (x - y))) w) : OW ro P ⟨d, .binOp .sub T X Y T', ty, pos, aft, g⟩ l ds w next Q :=
  ow_sub hx hy (by rw [IntWalk.i64_in _ hr]; exact h)
theorem ow_mul64 {x y : Int} (hx : ev l X = .int .i64 x) (hy : ev l Y = .int .i64 y) (hr : -9223372036854775808 ≤ x * y ∧ x * y ≤ 9223372036854775807) (h : next (put l d (.int .i64 (x * y))) w) : OW ro P ⟨d, .binOp .mul T X Y T', ty, pos, aft, g⟩ l ds w next Q :=
  ow_mul hx hy (by rw [IntWalk.i64_in _ hr]; exact h)
theorem ow_add8 {x y : Int} (hx : ev l X = .int .u8 x) (hy : ev l Y = .int .u8 y) (hr : 0 ≤ x + y ∧ x + y ≤ 255) (h : next (put l d (.int .u8 (x + y))) w) : OW ro P ⟨d, .binOp .add T X Y T', ty, pos, aft, g⟩ l ds w next Q :=
  ow_add hx hy (by rw [IntWalk.u8_in _ hr]; exact h)
theorem ow_sub8 {x y : Int} (hx : ev l X = .int .u8 x) (hy : ev l Y = .int .u8 y) (hr : 0 ≤ x - y ∧ x - y ≤ 255) (h : next (put l d (.int .u8 (x - y))) w) : OW ro P ⟨d, .binOp .sub T X Y T', ty, pos, aft, g⟩ l ds w next Q :=
  ow_sub hx hy (by rw [IntWalk.u8_in _ hr]; exact h)
theorem ow_mul8 {x y : Int} (hx : ev l X = .int .u8 x) (hy : ev l Y = .int .u8 y) (hr : 0 ≤ x * y ∧ x * y ≤ 255) (h : next (put l d (.int .u8 (x * y))) w) : OW ro P ⟨d, .binOp .mul T X Y T', ty, pos, aft, g⟩ l ds w next Q :=
  ow_mul hx hy (by rw [IntWalk.u8_in _ hr]; exact h)
theorem ow_quo {k : IntKind} {x y : Int} (hx : ev l X = .int k x) (hy : ev l Y = .int k y) (h0 : y ≠ 0) (h : next (put l d (.int k (k.wrap (x.tdiv y)))) w) : OW ro P ⟨d, .binOp .quo T X Y T', ty, pos, aft, g⟩ l ds w next Q :=
  ow_run (v := .int k (k.wrap (x.tdiv y))) (by simp [execOp, hx, hy, eqGuard, binOp, Op.intDiv, h0]) rfl h
theorem ow_rem {k : IntKind} {x y : Int} (hx : ev l X = .int k x) (hy : ev l Y = .int k y) (h0 : y ≠ 0) (h : next (put l d (.int k (x.tmod y))) w) : OW ro P ⟨d, .binOp .rem T X Y T', ty, pos, aft, g⟩ l ds w next Q :=
  ow_run (v := .int k (x.tmod y)) (by simp [execOp, hx, hy, eqGuard, binOp, Op.intDiv, h0]) rfl h
theorem ow_quo64 {x y : Int} (hx : ev l X = .int .i64 x) (hy : ev l Y = .int .i64 y) (hr : 0 ≤ x ∧ x ≤ 9223372036854775807 ∧ 1 ≤ y) (h : next (put l d (.int .i64 (x / y))) w) : OW ro P ⟨d, .binOp .quo T X Y T', ty, pos, aft, g⟩ l ds w next Q :=
  ow_quo hx hy (by omega) (by rw [IntWalk.i64_quo _ _ hr]; exact h)
theorem ow_quo8 {x y : Int} (hx : ev l X = .int .u8 x) (hy : ev l Y = .int .u8 y) (hr : 0 ≤ x ∧ x ≤ 255 ∧ 1 ≤ y) (h : next (put l d (.int .u8 (x / y))) w) : OW ro P ⟨d, .binOp .quo T X Y T', ty, pos, aft, g⟩ l ds w next Q :=
  ow_quo hx hy (by omega) (by rw [IntWalk.u8_quo _ _ hr]; exact h)
theorem ow_remp {k : IntKind} {x y : Int} (hx : ev l X = .int k x) (hy : ev l Y = .int k y) (hr : 0 ≤ x ∧ 1 ≤ y) (h : next (put l d (.int k (x % y))) w) : OW ro P ⟨d, .binOp .rem T X Y T', ty, pos, aft, g⟩ l ds w next Q :=
  ow_rem hx hy (by omega) (by rw [IntWalk.rem_in _ _ hr.1]; exact h)
theorem ow_bits_and {k : IntKind} {x y : Int} (hx : ev l X = .int k x) (hy : ev l Y = .int k y) (h : next (put l d (.int k (k.wrap ((BitVec.ofInt k.bits x &&& BitVec.ofInt k.bits y).toNat)))) w) : OW ro P ⟨d, .binOp .and T X Y T', ty, pos, aft, g⟩ l ds w next Q :=
  ow_run (by simp [execOp, hx, hy, eqGuard, binOp, Op.intBits]) rfl h
theorem ow_bits_or {k : IntKind} {x y : Int} (hx : ev l X = .int k x) (hy : ev l Y = .int k y) (h : next (put l d (.int k (k.wrap ((BitVec.ofInt k.bits x ||| BitVec.ofInt k.bits y).toNat)))) w) : OW ro P ⟨d, .binOp .or T X Y T', ty, pos, aft, g⟩ l ds w next Q :=
  ow_run (by simp [execOp, hx, hy, eqGuard, binOp, Op.intBits]) rfl h
theorem ow_shl {k j : IntKind} {x y : Int} (hx : ev l X = .int k x) (hy : ev l Y = .int j y) (h0 : 0 ≤ y) (h : next (put l d (.int k (k.wrap (x * 2 ^ (min y.toNat k.bits))))) w) : OW ro P ⟨d, .binOp .shl T X Y T', ty, pos, aft, g⟩ l ds w next Q :=
  ow_run (v := .int k (k.wrap (x * 2 ^ (min y.toNat k.bits)))) (by simp [execOp, hx, hy, eqGuard, binOp, Op.shift, show ¬ y < 0 by omega]) rfl h
theorem ow_shr {k j : IntKind} {x y : Int} (hx : ev l X = .int k x) (hy : ev l Y = .int j y) (h0 : 0 ≤ y) (h : next (put l d (.int k (x.fdiv (2 ^ (min y.toNat k.bits))))) w) : OW ro P ⟨d, .binOp .shr T X Y T', ty, pos, aft, g⟩ l ds w next Q :=
  ow_run (v := .int k (x.fdiv (2 ^ (min y.toNat k.bits)))) (by simp [execOp, hx, hy, eqGuard, binOp, Op.shift, show ¬ y < 0 by omega]) rfl h
theorem ow_eql {k : IntKind} {x y : Int} (hx : ev l X = .int k x) (hy : ev l Y = .int k y) (h : next (put l d (.bool (decide (x = y)))) w) : OW ro P ⟨d, .binOp .eql T X Y T', ty, pos, aft, g⟩ l ds w next Q :=
  ow_run (v := .bool (decide (x = y))) (by simp [execOp, hx, hy, eqGuard, binOp, Op.intCmp]; rfl) rfl h
theorem ow_neq {k : IntKind} {x y : Int} (hx : ev l X = .int k x) (hy : ev l Y = .int k y) (h : next (put l d (.bool (!decide (x = y)))) w) : OW ro P ⟨d, .binOp .neq T X Y T', ty, pos, aft, g⟩ l ds w next Q :=
  ow_run (v := .bool (!decide (x = y))) (by simp [execOp, hx, hy, eqGuard, binOp, Op.intCmp]; rfl) rfl h
theorem ow_lss {k : IntKind} {x y : Int} (hx : ev l X = .int k x) (hy : ev l Y = .int k y) (h : next (put l d (.bool (decide (x < y)))) w) : OW ro P ⟨d, .binOp .lss T X Y T', ty, pos, aft, g⟩ l ds w next Q :=
  ow_run (v := .bool (decide (x < y))) (by simp [execOp, hx, hy, eqGuard, binOp, Op.intCmp]) rfl h
theorem ow_leq {k : IntKind} {x y : Int} (hx : ev l X = .int k x) (hy : ev l Y = .int k y) (h : next (put l d (.bool (decide (x ≤ y)))) w) : OW ro P ⟨d, .binOp .leq T X Y T', ty, pos, aft, g⟩ l ds w next Q :=
  ow_run (v := .bool (decide (x ≤ y))) (by simp [execOp, hx, hy, eqGuard, binOp, Op.intCmp]) rfl h
theorem ow_gtr {k : IntKind} {x y : Int} (hx : ev l X = .int k x) (hy : ev l Y = .int k y) (h : next (put l d (.bool (decide (y < x)))) w) : OW ro P ⟨d, .binOp .gtr T X Y T', ty, pos, aft, g⟩ l ds w next Q :=
  ow_run (v := .bool (decide (y < x))) (by simp [execOp, hx, hy, eqGuard, binOp, Op.intCmp]) rfl h
theorem ow_geq {k : IntKind} {x y : Int} (hx : ev l X = .int k x) (hy : ev l Y = .int k y) (h : next (put l d (.bool (decide (y ≤ x)))) w) : OW ro P ⟨d, .binOp .geq T X Y T', ty, pos, aft, g⟩ l ds w next Q :=
  ow_run (v := .bool (decide (y ≤ x))) (by simp [execOp, hx, hy, eqGuard, binOp, Op.intCmp]) rfl h
theorem run_equal_bool {x y : Bool} (ht : P.underlying T = some .bool) (w : World) : (Op.equal T (.bool x) (.bool y)).run P w = .ok (decide (x = y)) w := by
  show (Op.equalIn (9999 + 1) T (.bool x) (.bool y)).run P w = _
  unfold Op.equalIn
  simp [underlying, ht]
  cases x <;> cases y <;> rfl
theorem ow_eqlb {x y : Bool} (ht : P.underlying T = some .bool) (hx : ev l X = .bool x) (hy : ev l Y = .bool y) (h : next (put l d (.bool (decide (x = y)))) w) : OW ro P ⟨d, .binOp .eql T X Y T', ty, pos, aft, g⟩ l ds w next Q :=
  ow_run (v := .bool (decide (x = y))) (by simp [execOp, hx, hy, eqGuard, binOp, run_equal_bool ht]) rfl h
theorem ow_neqb {x y : Bool} (ht : P.underlying T = some .bool) (hx : ev l X = .bool x) (hy : ev l Y = .bool y) (h : next (put l d (.bool (!decide (x = y)))) w) : OW ro P ⟨d, .binOp .neq T X Y T', ty, pos, aft, g⟩ l ds w next Q :=
  ow_run (v := .bool (!decide (x = y))) (by simp [execOp, hx, hy, eqGuard, binOp, run_equal_bool ht]) rfl h
theorem ow_not {x : Bool} (hx : ev l X = .bool x) (h : next (put l d (.bool (!x))) w) : OW ro P ⟨d, .unOp .not T X, ty, pos, aft, g⟩ l ds w next Q :=
  ow_run (v := .bool (!x)) (by simp [execOp, hx, Op.unary]) rfl h
theorem ow_neg {k : IntKind} {x : Int} (hx : ev l X = .int k x) (h : next (put l d (.int k (k.wrap (-x)))) w) : OW ro P ⟨d, .unOp .neg T X, ty, pos, aft, g⟩ l ds w next Q :=
  ow_run (v := .int k (k.wrap (-x))) (by simp [execOp, hx, Op.unary, Op.intArith]) rfl h
theorem ow_conv {k k' : IntKind} {n : Int} {du : TypeDesc} (hs : P.underlying T = some du) (ht : P.underlying T' = some (.int k')) (hx : ev l X = .int k n) (h : next (put l d (.int k' (k'.wrap n))) w) :
    OW ro P ⟨d, .convert T T' X, ty, pos, aft, g⟩ l ds w next Q :=
  ow_run (v := .int k' (k'.wrap n)) (by simp [execOp, hx, convert, underlying, hs, ht, Conv.intToInt]) rfl h
theorem ow_conv64 {k : IntKind} {n : Int} {du : TypeDesc} (hs : P.underlying T = some du) (ht : P.underlying T' = some (.int .i64)) (hx : ev l X = .int k n) (hr : -9223372036854775808 ≤ n ∧ n ≤ 9223372036854775807) (h : next (put l d (.int .i64 n)) w) :
    OW ro P ⟨d, .convert T T' X, ty, pos, aft, g⟩ l ds w next Q :=
  ow_conv hs ht hx (by rw [IntWalk.i64_in _ hr]; exact h)
theorem ow_conv8 {k : IntKind} {n : Int} {du : TypeDesc} (hs : P.underlying T = some du) (ht : P.underlying T' = some (.int .u8)) (hx : ev l X = .int k n) (hr : 0 ≤ n ∧ n ≤ 255) (h : next (put l d (.int .u8 n)) w) :
    OW ro P ⟨d, .convert T T' X, ty, pos, aft, g⟩ l ds w next Q :=
  ow_conv hs ht hx (by rw [IntWalk.u8_in _ hr]; exact h)
end
end Go.Proofs.YtomfoaaaeidpnaaDoor
namespace Go.Proofs.YtomfoaaaeidpnaaDoor
open Go Go.RowKit

/-- A string of bytes. -/
abbrev bs (s : List UInt8) : ByteArray := ⟨⟨s⟩⟩
/-- A byte as a value. -/
abbrev u8 (b : UInt8) : Value := .int .u8 (b.toNat : Int)
theorem bs_data (s : ByteArray) : bs s.data.toList = s := rfl
theorem bs_size (s : List UInt8) : (bs s).size = s.length := rfl
theorem bs_toList (s : List UInt8) : (bs s).toList = s := ByteArray.toList_eq _
theorem bs_append (s t : List UInt8) : bs s ++ bs t = bs (s ++ t) := ByteArray.mk_append_mk s t
theorem bs_extract (s : List UInt8) (a b : Nat) : (bs s).extract a b = bs ((s.drop a).take (b - a)) := Lib.extract_eq (bs s) a b
theorem bs_get (s : List UInt8) (i : Nat) : (bs s)[i]? = s[i]? := by
  simp [getElem?_def]; rfl
theorem beq_dec (s t : List UInt8) : (s == t) = decide (s = t) := by by_cases h : s = t <;> simp [h]
theorem bs_inj {s t : List UInt8} : bs s = bs t ↔ s = t := by constructor <;> intro h <;> (first | (cases h; rfl) | (subst h; rfl))

section
variable {ro : Option Nat} {P : Program} {l : List Value} {ds : List Deferred} {w : World} {next : List Value → World → Prop} {Q : Exit → Act → World → Prop}
variable {d : Option Tmp} {ty : TypeId} {pos : String} {aft : Array Edge} {g : Option (Nat × Bool)} {T T' T'' : TypeId} {X Y Z : Operand}
variable {E : Env} {L : List Item}

/-! ### Strings -/
theorem ow_len_str {s : List UInt8} (ht : P.underlying T = some .string) (hx : ev l X = .string (bs s)) (h : next (put l d (.int .i64 (s.length : Int))) w) :
    OW ro P ⟨d, .call { callee := .builtin .len, args := #[X], argTypes := #[T] }, ty, pos, aft, g⟩ l ds w next Q :=
  ow_run (v := .int .i64 (s.length : Int)) (by simp [execOp, resolve, invoke, builtin, Builtin.len_, underlying, ht, hx, goInt, bs_size]) rfl h
theorem ow_len_slice {e : TypeId} {a : Option Addr} {n c : Nat} (ht : P.underlying T = some (.slice e)) (hx : ev l X = .slice a n c) (h : next (put l d (.int .i64 (n : Int))) w) :
    OW ro P ⟨d, .call { callee := .builtin .len, args := #[X], argTypes := #[T] }, ty, pos, aft, g⟩ l ds w next Q :=
  ow_run (v := .int .i64 (n : Int)) (by simp [execOp, resolve, invoke, builtin, Builtin.len_, underlying, ht, hx, goInt]) rfl h
theorem ow_index_str {s : List UInt8} {k : IntKind} {i : Int} {b : UInt8} (ht : P.underlying T = some .string) (hx : ev l X = .string (bs s)) (hi : ev l Y = .int k i) (h0 : 0 ≤ i) (hb : s[i.toNat]? = some b)
    (h : next (put l d (u8 b)) w) : OW ro P ⟨d, .index T X Y, ty, pos, aft, g⟩ l ds w next Q :=
  ow_run (v := u8 b) (by simp [execOp, hx, hi, Instr.index, asIntOf, underlying, ht, h0, bs_get, hb]) rfl h
theorem ow_cat {s t : List UInt8} (hx : ev l X = .string (bs s)) (hy : ev l Y = .string (bs t)) (hr : s.length + t.length ≤ 9223372036854775807) (h : next (put l d (.string (bs (s ++ t)))) w) :
    OW ro P ⟨d, .binOp .add T X Y T', ty, pos, aft, g⟩ l ds w next Q :=
  ow_run (v := .string (bs (s ++ t))) (by
    have := run_string_add_sum (P := P) w (bs s) (bs t) (by simpa [bs_size] using hr)
    simp [execOp, hx, hy, eqGuard, binOp, this, bs_append]) rfl h
theorem ow_eqs {s t : List UInt8} (hx : ev l X = .string (bs s)) (hy : ev l Y = .string (bs t)) (h : next (put l d (.bool (decide (s = t)))) w) : OW ro P ⟨d, .binOp .eql T X Y T', ty, pos, aft, g⟩ l ds w next Q :=
  ow_run (v := .bool (decide (s = t))) (by simp [execOp, hx, hy, eqGuard, binOp, Op.stringOp, bs_toList, beq_dec]) rfl h
theorem ow_neqs {s t : List UInt8} (hx : ev l X = .string (bs s)) (hy : ev l Y = .string (bs t)) (h : next (put l d (.bool (!decide (s = t)))) w) : OW ro P ⟨d, .binOp .neq T X Y T', ty, pos, aft, g⟩ l ds w next Q :=
  ow_run (v := .bool (!decide (s = t))) (by simp [execOp, hx, hy, eqGuard, binOp, Op.stringOp, bs_toList, beq_dec]) rfl h
/-- s[i:] -/
theorem ow_slice_from {s : List UInt8} {k : IntKind} {i : Int} (ht : P.underlying T = some .string) (hx : ev l X = .string (bs s)) (hi : ev l Y = .int k i) (h0 : 0 ≤ i ∧ i ≤ s.length)
    (h : next (put l d (.string (bs (s.drop i.toNat)))) w) : OW ro P ⟨d, .slice T X (some Y) none none, ty, pos, aft, g⟩ l ds w next Q :=
  ow_run (v := .string (bs (s.drop i.toNat))) (by
    have h1 : i ≤ ((bs s).size : Int) := by simpa [bs_size] using h0.2
    have e : (bs s).extract i.toNat (bs s).size = bs (s.drop i.toNat) := by
      rw [bs_extract, bs_size, List.take_of_length_le (by simp)]
    simp [execOp, hx, hi, Instr.sliceAt, Instr.slice, Instr.sliceBounds, Instr.sliceBound, asIntOf, underlying, ht, h0.1, h1, e]) rfl h
/-- s[:i] -/
theorem ow_slice_to {s : List UInt8} {k : IntKind} {i : Int} (ht : P.underlying T = some .string) (hx : ev l X = .string (bs s)) (hi : ev l Y = .int k i) (h0 : 0 ≤ i ∧ i ≤ s.length)
    (h : next (put l d (.string (bs (s.take i.toNat)))) w) : OW ro P ⟨d, .slice T X none (some Y) none, ty, pos, aft, g⟩ l ds w next Q :=
  ow_run (v := .string (bs (s.take i.toNat))) (by
    have h1 : i ≤ ((bs s).size : Int) := by simpa [bs_size] using h0.2
    have e : (bs s).extract 0 i.toNat = bs (s.take i.toNat) := by rw [bs_extract]; simp
    simp [execOp, hx, hi, Instr.sliceAt, Instr.slice, Instr.sliceBounds, Instr.sliceBound, asIntOf, underlying, ht, h0.1, h1, e]) rfl h

/-! ### Cells -/
def plainT : TypeDesc → Bool
  | .struct _ | .array _ _ => false
  | _ => true
theorem plain_isAgg {u : TypeDesc} (ht : P.underlying T = some u) (hu : plainT u = true) (w : World) : (isAgg T).run P w = .ok false w :=
  run_isAgg_plain ht (by cases u <;> first | rfl | cases hu) w
theorem ow_alloc {z : Value} {zs : List Value} (hz : (P.info? T).bind (·.zero) = some z) (hzs : z.cells = ⟨zs⟩) (hA : Sat E L w)
    (h : ∀ b w', Sat E (cells b zs T :: L) w' → next (put l d (.pointer (some ⟨b, 0, none⟩))) w') : OW ro P ⟨d, .alloc T, ty, pos, aft, g⟩ l ds w next Q := by
  obtain ⟨i, hi, hz'⟩ := Option.bind_eq_some_iff.1 hz
  have hs := hA.alloc (.cells z.cells T)
  rw [hzs] at hs
  refine ow_run (v := .pointer (some ⟨w.heap.size, 0, none⟩)) (w' := { w with heap := w.heap.push (.cells ⟨zs⟩ T) }) ?_ rfl (h _ _ hs)
  simp [execOp, Instr.alloc, zeroValue, typeInfo, hi, hz', newVar, newRow, hzs]
theorem ow_box {v : Value} {vs : List Value} (hx : ev l X = v) (hvs : v.cells = ⟨vs⟩) (hA : Sat E L w)
    (h : ∀ b w', Sat E (cells b vs T :: L) w' → next (put l d (.pointer (some ⟨b, 0, none⟩))) w') : OW ro P ⟨d, .box T X, ty, pos, aft, g⟩ l ds w next Q := by
  have hs := hA.alloc (.cells v.cells T)
  rw [hvs] at hs
  refine ow_run (v := .pointer (some ⟨w.heap.size, 0, none⟩)) (w' := { w with heap := w.heap.push (.cells ⟨vs⟩ T) }) ?_ rfl (h _ _ hs)
  simp [execOp, hx, Instr.box, newVar, newRow, hvs]

theorem ow_load_w {a : Addr} {v : Value} {u : TypeDesc} (ht : P.underlying T = some u) (hu : plainT u = true) (hx : ev l X = .pointer (some a)) (hc : w.cell? a = some v)
    (h : next (put l d v) w) : OW ro P ⟨d, .load T X, ty, pos, aft, g⟩ l ds w next Q :=
  ow_run (v := v) (by simp [execOp, hx, Instr.loadAt, Instr.sureAddr, loadVar, plain_isAgg ht hu, hc]) rfl h
/-- From the call's own. -/
theorem ow_load (i : Nat) {b k : Nat} {cs : List Value} {S : TypeId} {v : Value} {u : TypeDesc} (ht : P.underlying T = some u) (hu : plainT u = true)
    (hx : ev l X = .pointer (some ⟨b, k, none⟩)) (hA : Sat E L w) (hi : L[i]? = some (cells b cs S)) (hv : cs[k]? = some v) (h : next (put l d v) w) : OW ro P ⟨d, .load T X, ty, pos, aft, g⟩ l ds w next Q :=
  ow_load_w ht hu hx ((hA.cellOwn hi k).trans hv) h
/-- From what stays. -/
theorem ow_load_env {a : Addr} {v : Value} {u : TypeDesc} (ht : P.underlying T = some u) (hu : plainT u = true)
    (hx : ev l X = .pointer (some a)) (hA : Sat E L w) (hv : E.cell? a = some v) (h : next (put l d v) w) : OW ro P ⟨d, .load T X, ty, pos, aft, g⟩ l ds w next Q :=
  ow_load_w ht hu hx (hA.cell hv) h

theorem add_plain (g j k : Nat) : (⟨g, j, none⟩ : Addr).add k = ⟨g, j + k, none⟩ := by unfold Addr.add; split <;> simp_all

/-- A struct or an array, loaded whole. -/
theorem ow_load_agg (i : Nat) {b k sz : Nat} {cs : List Value} {S : TypeId} {u : TypeDesc} (ht : P.underlying T = some u) (hu : plainT u = false) (hsz : (P.info? T).map (·.size) = some sz)
    (hx : ev l X = .pointer (some ⟨b, k, none⟩)) (hA : Sat E L w) (hi : L[i]? = some (cells b cs S)) (hk : k + sz ≤ cs.length) (h : next (put l d (.agg ⟨(cs.drop k).take sz⟩)) w) :
    OW ro P ⟨d, .load T X, ty, pos, aft, g⟩ l ds w next Q := by
  obtain ⟨ii, hii, hss⟩ := Option.map_eq_some_iff.1 hsz
  have hl := run_loadCells_list (P := P) w ⟨b, k, none⟩ ((cs.drop k).take sz) (fun j v hj => by
    rw [add_plain, hA.cellOwn hi]
    rw [List.getElem?_take] at hj
    split at hj
    · simpa using hj
    · cases hj)
  have hlen : ((cs.drop k).take sz).length = sz := by simp; omega
  rw [hlen] at hl
  have hag : (isAgg T).run P w = .ok true w := by
    unfold isAgg
    cases u <;> first | (simp [underlying, ht]; done) | cases hu
  refine ow_run (v := .agg ⟨(cs.drop k).take sz⟩) ?_ rfl h
  simp [execOp, hx, Instr.loadAt, Instr.sureAddr, loadVar, hag, sizeOf, typeInfo, hii, hss, hl]

theorem Sat.store (hA : Sat E L w) {i b k : Nat} {cs : List Value} {S : TypeId} (hi : L[i]? = some (cells b cs S)) (v : Value) (hk : k < cs.length) :
    w.cell? ⟨b, k, none⟩ = some cs[k] ∧ w.frozen? ⟨b, k, none⟩ = false ∧ Sat E (L.set i (cells b (cs.set k v) S)) (w.setCell ⟨b, k, none⟩ v) := by
  have hb := hA.at_ hi
  simp only [obj] at hb
  refine ⟨by rw [hA.cellOwn hi]; simp [hk], by simp [World.frozen?, hb], ?_⟩
  refine hA.changeAt i hi rfl rfl rfl (by simp [World.setCell]) (fun c hc hne => ?_) ?_ (by simp [obj]) (by simp [obj])
  · have hne' : b ≠ c := fun e => hne (by simp [obj, e])
    simp [World.setCell, Array.getElem?_modify, hne']
  · simp [obj, World.setCell, Array.getElem?_modify, hb]
theorem ow_store (i : Nat) {b k : Nat} {cs : List Value} {S : TypeId} {v : Value} (hx : ev l X = .pointer (some ⟨b, k, none⟩)) (hy : ev l Y = v) (h1 : v.oneCell' = true) (hsz : (P.info? T).map (·.size) = some 1)
    (hA : Sat E L w) (hi : L[i]? = some (cells b cs S)) (hk : k < cs.length) (h : ∀ w', Sat E (L.set i (cells b (cs.set k v) S)) w' → next (put l d undef) w') :
    OW ro P ⟨d, .store T X Y, ty, pos, aft, g⟩ l ds w next Q := by
  obtain ⟨ii, hii, hss⟩ := Option.map_eq_some_iff.1 hsz
  obtain ⟨h2, h3, h4⟩ := hA.store hi v hk
  have hv : v.cells = #[v] := by cases v <;> simp_all [Value.cells, Value.oneCell']
  refine ow_skip ?_ rfl (h _ h4)
  simp [execOp, hx, hy, Instr.storeAt, Instr.sureAddr, storeVar, hv, sizeOf, typeInfo, hii, hss, storeCells, run_store P w _ v _ h1, h2, h3, Addr.add]

/-- A struct or an array, stored whole. -/
theorem ow_store_agg (i : Nat) {b k : Nat} {cs vs : List Value} {S : TypeId} (hx : ev l X = .pointer (some ⟨b, k, none⟩)) (hy : ev l Y = .agg ⟨vs⟩) (h1 : ∀ v ∈ vs, v.oneCell' = true) (hsz : (P.info? T).map (·.size) = some vs.length)
    (hA : Sat E L w) (hi : L[i]? = some (cells b cs S)) (hk : k + vs.length ≤ cs.length) (h : ∀ w', Sat E (L.set i (cells b (cs.take k ++ vs ++ cs.drop (k + vs.length)) S)) w' → next (put l d undef) w') :
    OW ro P ⟨d, .store T X Y, ty, pos, aft, g⟩ l ds w next Q := by
  obtain ⟨ii, hii, hss⟩ := Option.map_eq_some_iff.1 hsz
  have hb := hA.at_ hi
  simp only [obj] at hb
  have hst := run_storeCells_at P b k S vs 0 ⟨cs⟩ w hb (by simpa using hk) h1
  refine ow_skip (w' := w.setRow b (cs.take k ++ vs ++ cs.drop (k + vs.length)).toArray) ?_ rfl (h _ ?_)
  · simp only [Nat.add_zero] at hst
    simp [execOp, hx, hy, Instr.storeAt, Instr.sureAddr, storeVar, Value.cells, sizeOf, typeInfo, hii, hss]
    simp at hst
    simp [hst]
  · refine hA.changeAt i hi rfl rfl rfl (by simp) (fun c hc hne => ?_) ?_ (by simp [obj]) (by simp [obj])
    · exact setRow_other w b c _ (fun e => hne (by simp [obj, e]))
    · exact setRow_heap w b _ _ S _ hb

theorem ow_fieldAddr {fs : Array Field} {f : Nat} {fl : Field} {a : Addr} {n : Nat} (ht : P.underlying T = some (.struct fs)) (hf : fs[f]? = some fl) (hsz : (P.info? fl.type).map (·.size) = some (n + 1)) (hx : ev l X = .pointer (some a))
    (h : next (put l d (.pointer (some (a.add fl.offset)))) w) : OW ro P ⟨d, .fieldAddr T X f, ty, pos, aft, g⟩ l ds w next Q := by
  obtain ⟨ii, hii, hss⟩ := Option.map_eq_some_iff.1 hsz
  refine ow_run (v := .pointer (some (a.add fl.offset))) ?_ rfl h
  simp [execOp, hx, Instr.fieldAt, Instr.sureAddr, underlying, ht, hf, fieldPlace, sizeOf, typeInfo, hii, hss]
end
end Go.Proofs.YtomfoaaaeidpnaaDoor
