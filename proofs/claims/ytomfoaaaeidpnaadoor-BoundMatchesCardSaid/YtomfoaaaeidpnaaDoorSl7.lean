/-
  A region whose order is open: each operation asks for what it hangs on, and gives its value, whatever else has been done.
-/
import Derived.Test.YtomfoaaaeidpnaaDoorSl6
set_option linter.unusedVariables false
set_option linter.unusedSimpArgs false
namespace Go.Proofs.YtomfoaaaeidpnaaDoor
open Go Go.RowKit

section sets
variable {F : Fence} {n : Nat} {P : Program} {ops : Array Oper} {Q : Exit → Act → World → Prop}

def edgesDown (ops : Array Oper) : Bool := (List.range ops.size).all fun i => ((ops[i]?).map fun o => o.after.all fun e => !Region.binds .any e || decide (e.on < i)).getD true

theorem ready_nil {Ls : Array Bool} (hs : Ls.size = ops.size) (hd : edgesDown ops = true) (hr : Region.ready .any ops Ls = []) : ∀ i, i < ops.size → Ls[i]? = some true := by
  intro i
  induction i using Nat.strongRecOn with
  | _ i ih =>
    intro hi
    have hmem : i ∉ Region.ready .any ops Ls := by rw [hr]; simp
    unfold Region.ready at hmem
    rw [List.mem_filter] at hmem
    have hlt : i < Ls.size := by omega
    have hx : Ls[i]? = some Ls[i] := Array.getElem?_eq_getElem hlt
    cases hv : Ls[i] with
    | true => rw [hx, hv]
    | false =>
      exfalso
      apply hmem
      refine ⟨List.mem_range.2 hi, ?_⟩
      have hg : Ls.getD i true = false := by simp [Array.getD, hlt, hv]
      have hall : (ops[i].after.all fun e => !Region.binds .any e || Ls.getD e.on false) = true := by
        rw [Array.all_eq_true_iff_forall_mem]
        intro e he
        cases hb : Region.binds .any e with
        | false => rfl
        | true =>
          unfold edgesDown at hd
          rw [List.all_eq_true] at hd
          have h1 := hd i (List.mem_range.2 hi)
          rw [Array.getElem?_eq_getElem hi] at h1
          simp only [Option.map_some, Option.getD_some] at h1
          rw [Array.all_eq_true_iff_forall_mem] at h1
          have h2 := h1 e he
          simp only [hb, Bool.not_true, Bool.false_or, decide_eq_true_eq] at h2
          have h3 := ih e.on h2 (by omega)
          have hl3 : e.on < Ls.size := by omega
          rw [Array.getElem?_eq_getElem hl3] at h3
          simp only [Option.some.injEq] at h3
          simp [Array.getD, hl3, h3]
      rw [hg, Array.getElem?_eq_getElem hi]
      simp only [Bool.not_false, Option.map_some, Option.getD_some, Bool.true_and]
      exact hall

theorem count_set {Ls : Array Bool} {i : Nat} (h : Ls[i]? = some false) : (Ls.setIfInBounds i true).toList.count false + 1 = Ls.toList.count false := by
  have hi : i < Ls.size := (Array.getElem?_eq_some_iff.1 h).1
  obtain ⟨l, rfl⟩ : ∃ l : List Bool, Ls = ⟨l⟩ := ⟨Ls.toList, rfl⟩
  have h' : l[i]? = some false := by simpa using h
  clear h hi
  have key : ∀ (l : List Bool) (i : Nat), l[i]? = some false → (l.set i true).count false + 1 = l.count false := by
    intro l
    induction l with
    | nil => intro i h; simp at h
    | cons b l ih =>
      intro i h
      cases i with
      | zero => simp at h; subst h; simp
      | succ i =>
        have := ih i (by simpa using h)
        simp only [List.set_cons_succ, List.count_cons]
        omega
  simpa using key l i h'

theorem wpAny_sets (Inv : Array Bool → Act → World → Prop) (hd : edgesDown ops = true)
    (step : ∀ Ls a w i o, Inv Ls a w → ops[i]? = some o → Ls.size = ops.size → Ls[i]? = some false → (∀ e ∈ o.after, Region.binds .any e = true → Ls[e.on]? = some true) →
      (if Region.wanted o (yielded ops a.tmps) then o.wpIn F n P a w (Inv (Ls.setIfInBounds i true)) Q else (∀ f, o.about P w a.eval = some f → F.fn f) ∧ Inv (Ls.setIfInBounds i true) (a.put o.dst undef) w))
    (hend : ∀ Ls a w, Inv Ls a w → (∀ i, i < ops.size → Ls[i]? = some true) → Q .normal a w) :
    ∀ (fuel : Nat) (Ls : Array Bool) (a : Act) (w : World), Ls.size = ops.size → Ls.toList.count false ≤ fuel → Inv Ls a w → wpAnyIn F n P .any ops Q fuel Ls a w := by
  intro fuel
  induction fuel with
  | zero =>
    intro Ls a w hs hc hI
    have hall : ∀ i, i < ops.size → Ls[i]? = some true := by
      intro i hi
      have hlt : i < Ls.size := by omega
      rw [Array.getElem?_eq_getElem hlt]
      cases hv : Ls[i] with
      | true => rfl
      | false =>
        exfalso
        have : false ∈ Ls.toList := by rw [← hv]; simp
        have := List.count_pos_iff.2 this
        omega
    refine ⟨?_, hend Ls a w hI hall⟩
    unfold Region.ready
    rw [List.filter_eq_nil_iff]
    intro i hi
    have h1 := hall i (List.mem_range.1 hi)
    have hlt : i < Ls.size := (Array.getElem?_eq_some_iff.1 h1).1
    have : Ls.getD i true = true := by
      rw [Array.getElem?_eq_getElem hlt] at h1
      simp only [Option.some.injEq] at h1
      simp [Array.getD, hlt, h1]
    simp only [this, Bool.not_true, Bool.false_and]
    simp
  | succ fuel ih =>
    intro Ls a w hs hc hI
    refine ⟨fun hr => hend Ls a w hI (ready_nil hs hd hr), ?_⟩
    intro i hi
    unfold Region.ready at hi
    rw [List.mem_filter] at hi
    obtain ⟨hi1, hi2⟩ := hi
    have hi1 := List.mem_range.1 hi1
    rw [Bool.and_eq_true] at hi2
    obtain ⟨hi3, hi4⟩ := hi2
    have hlt : i < Ls.size := by omega
    have hLs : Ls[i]? = some false := by
      rw [Array.getElem?_eq_getElem hlt]
      simp only [Array.getD, hlt, dite_true, Array.getInternal_eq_getElem, Bool.not_eq_true'] at hi3
      rw [hi3]
    have ho : ops[i]? = some ops[i] := Array.getElem?_eq_getElem hi1
    rw [ho] at hi4
    simp only [Option.map_some, Option.getD_some] at hi4
    rw [Array.all_eq_true_iff_forall_mem] at hi4
    have hst := step Ls a w i ops[i] hI ho hs hLs (fun e he hb => by
      have h5 := hi4 e he
      rw [hb] at h5
      simp only [Bool.not_true, Bool.false_or] at h5
      unfold Array.getD at h5
      split at h5
      · rename_i hl; rw [Array.getElem?_eq_getElem hl]; simpa using h5
      · cases h5)
    have hnext : ∀ a w, Inv (Ls.setIfInBounds i true) a w → wpAnyIn F n P .any ops Q fuel (Ls.setIfInBounds i true) a w := fun a w h =>
      ih _ a w (by simpa using hs) (by have := count_set hLs; omega) h
    unfold wpOpIn
    rw [ho]
    simp only
    split
    · rename_i hw
      rw [if_pos hw] at hst
      exact Oper.wpIn_mono hnext hst
    · rename_i hw
      rw [if_neg hw] at hst
      exact ⟨hst.1, hnext _ _ hst.2⟩
end sets

/-! ### Operations that ask for what they hang on -/
def deps (o : Oper) : List Nat := ((o.after.toList.filter (Region.binds .any)).map (·.on)).eraseDups
def dstOf (ops : Array Oper) (j : Nat) : Option Tmp := (ops[j]?).bind (·.dst)
def pairs (ops : Array Oper) (js : List Nat) (y : Nat → Value) : List (Tmp × Value) := js.filterMap fun j => (dstOf ops j).map fun t => (t, y j)

def slotsOf (ops : Array Oper) (o : Oper) : List Tmp :=
  (o.op.operands.toList.filterMap fun | .tmp t => some t | _ => none) ++ (match o.guard with | some (j, _) => (dstOf ops j).toList | none => [])
def Oper.noSelect (o : Oper) : Bool := match o.op with | .select .. => false | _ => true

/-- What is reached down the edges: j - 1, .., 0 are looked at, in this order. -/
def reach (ops : Array Oper) : Nat → List Nat → List Nat
  | 0, S => S
  | j + 1, S => reach ops j (if S.contains j then (match ops[j]? with | some o => (deps o).filter (fun d => !S.contains d) | none => []) ++ S else S)
def tameChk (ops : Array Oper) (m len : Nat) : Bool :=
  edgesDown ops && decide (m ≤ ops.size) &&
  ((List.range m).all fun i => (dstOf ops i).any fun t => decide (t < len) && ((List.range m).all fun j => decide (i = j) || decide (dstOf ops j ≠ some t))) &&
  ((List.range m).all fun i => (ops[i]?).all fun o => Oper.noDefer o && Oper.noSelect o && decide (deps o).Nodup &&
    ((slotsOf ops o).all fun t => (List.range m).all fun j => decide (dstOf ops j ≠ some t) || (deps o).contains j || ((ops[j]?).any fun oj => (deps oj).contains i)) ) &&
  ((List.range ops.size).all fun i => decide (i < m) || ((ops[i]?).all fun o => Oper.noDefer o && (List.range i).all fun j => (reach ops i (deps o)).contains j))

theorem setAll_length (r : List (Tmp × Value)) : ∀ l : List Value, (setAll l r).length = l.length := by
  induction r with
  | nil => intro l; rfl
  | cons x r ih => intro l; obtain ⟨t, v⟩ := x; simp [setAll, ih]
theorem getD_set (l : List Value) (t u : Nat) (v : Value) : (l.set t v).getD u undef = if t = u ∧ u < l.length then v else l.getD u undef := by
  simp only [List.getD, List.getElem?_set]
  split
  · rename_i h; subst h
    split
    · rename_i h2; simp [h2]
    · rename_i h2; simp [h2, List.getElem?_eq_none (by omega : l.length ≤ t)]
  · rename_i h; simp [h]
theorem setAll_other {r : List (Tmp × Value)} {t : Tmp} (h : ∀ v, (t, v) ∉ r) : ∀ l : List Value, (setAll l r).getD t undef = l.getD t undef := by
  induction r with
  | nil => intro l; rfl
  | cons x r ih =>
    intro l
    obtain ⟨u, v⟩ := x
    rw [setAll, ih (fun v h' => h v (List.mem_cons_of_mem _ h')), getD_set]
    rw [if_neg]
    rintro ⟨rfl, _⟩
    exact h v (List.mem_cons_self ..)
theorem setAll_at {r : List (Tmp × Value)} {t : Tmp} {v : Value} (hu : ∀ v', (t, v') ∈ r → v' = v) (hx : ∃ v', (t, v') ∈ r) : ∀ l : List Value, t < l.length → (setAll l r).getD t undef = v := by
  induction r with
  | nil => intro l _; obtain ⟨_, h⟩ := hx; cases h
  | cons x r ih =>
    intro l hl
    obtain ⟨u, v1⟩ := x
    rw [setAll]
    by_cases hr : ∃ v', (t, v') ∈ r
    · exact ih (fun v' h' => hu v' (List.mem_cons_of_mem _ h')) hr _ (by simpa using hl)
    · rw [setAll_other (fun v' h' => hr ⟨v', h'⟩), getD_set]
      obtain ⟨v', h'⟩ := hx
      rcases List.mem_cons.1 h' with e | h'
      · cases e
        rw [if_pos ⟨rfl, hl⟩]
        exact hu _ (List.mem_cons_self ..)
      · exact absurd ⟨v', h'⟩ hr
theorem mem_pairs {ops : Array Oper} {js : List Nat} {y : Nat → Value} {t : Tmp} {v : Value} : (t, v) ∈ pairs ops js y ↔ ∃ j ∈ js, dstOf ops j = some t ∧ v = y j := by
  unfold pairs
  rw [List.mem_filterMap]
  constructor
  · rintro ⟨j, hj, h⟩
    obtain ⟨t', ht, e⟩ := Option.map_eq_some_iff.1 h
    cases e
    exact ⟨j, hj, ht, rfl⟩
  · rintro ⟨j, hj, h, rfl⟩
    exact ⟨j, hj, by rw [h]; rfl⟩
theorem ext_getD {l l' : List Value} (hl : l.length = l'.length) (h : ∀ t, t < l.length → l.getD t undef = l'.getD t undef) : l = l' := by
  apply List.ext_getElem hl
  intro i h1 h2
  have := h i h1
  simpa [List.getD, h1, h2] using this

theorem count_filter_range (p : Nat → Bool) (n a : Nat) : ((List.range n).filter p).count a = if a < n ∧ p a = true then 1 else 0 := by
  by_cases hp : p a = true
  · rw [List.count_filter hp]
    by_cases ha : a < n
    · simp [ha, hp, List.count_range]
    · simp [ha, List.count_range]
  · rw [if_neg (by simp [hp])]
    exact List.count_eq_zero.2 fun h => hp (List.mem_filter.1 h).2

/-- No panic. -/
def NoQ : Exit → Act → World → Prop := fun _ _ _ => False

/-- One operation's part. -/
def TameOp (ro : Option Nat) (P : Program) (ops : Array Oper) (l0 : List Value) (ds : List Deferred) (E : Env) (L : List Item) (phi : Nat → Env → Value → Prop) (it : Nat → Value → List Item) (i : Nat) (o : Oper) : Prop :=
  ∀ (y : Nat → Value) (E1 : Env) (Lx : List Item) (w : World), E.Le E1 → (∀ j ∈ deps o, phi j E1 (y j)) → Sat E1 (L ++ ((deps o).flatMap (fun j => it j (y j)) ++ Lx)) w →
    (match gslot ops o with
     | none => OW ro P o (setAll l0 (pairs ops (deps o) y)) ds w (fun l' w' => ∃ v E2, l' = put (setAll l0 (pairs ops (deps o) y)) o.dst v ∧ E1.Le E2 ∧ phi i E2 v ∧ Sat E2 (L ++ (it i v ++ ((deps o).flatMap (fun j => it j (y j)) ++ Lx))) w') NoQ
     | some (t, b) => (gval (setAll l0 (pairs ops (deps o) y)) t = some b → OW ro P o (setAll l0 (pairs ops (deps o) y)) ds w (fun l' w' => ∃ v E2, l' = put (setAll l0 (pairs ops (deps o) y)) o.dst v ∧ E1.Le E2 ∧ phi i E2 v ∧ Sat E2 (L ++ (it i v ++ ((deps o).flatMap (fun j => it j (y j)) ++ Lx))) w') NoQ) ∧
        (gval (setAll l0 (pairs ops (deps o) y)) t ≠ some b → phi i E1 undef ∧ it i undef = []))

theorem TameOp.plain {ro : Option Nat} {P : Program} {ops : Array Oper} {l0 : List Value} {ds : List Deferred} {E : Env} {L : List Item} {phi : Nat → Env → Value → Prop} {it : Nat → Value → List Item} {i : Nat} {o : Oper} (hg : o.guard = none) (js : List Nat) (hj : deps o = js)
    (h : ∀ (y : Nat → Value) (E1 : Env) (Lx : List Item) (w : World), E.Le E1 → (∀ j ∈ js, phi j E1 (y j)) → Sat E1 (L ++ (js.flatMap (fun j => it j (y j)) ++ Lx)) w →
      OW ro P o (setAll l0 (pairs ops js y)) ds w (fun l' w' => ∃ v E2, l' = put (setAll l0 (pairs ops js y)) o.dst v ∧ E1.Le E2 ∧ phi i E2 v ∧ Sat E2 (L ++ (it i v ++ (js.flatMap (fun j => it j (y j)) ++ Lx))) w') NoQ) :
    TameOp ro P ops l0 ds E L phi it i o := by
  subst hj
  intro y E1 Lx w h1 h2 h3
  have e : gslot ops o = none := by simp [gslot, hg]
  rw [e]
  exact h y E1 Lx w h1 h2 h3

def TameOps (ro : Option Nat) (P : Program) (ops : Array Oper) (l0 : List Value) (ds : List Deferred) (E : Env) (L : List Item) (phi : Nat → Env → Value → Prop) (it : Nat → Value → List Item) : Nat → List Oper → Prop
  | _, [] => True
  | i, o :: r => TameOp ro P ops l0 ds E L phi it i o ∧ TameOps ro P ops l0 ds E L phi it (i + 1) r
theorem TameOps.get {ro : Option Nat} {P : Program} {ops : Array Oper} {l0 : List Value} {ds : List Deferred} {E : Env} {L : List Item} {phi : Nat → Env → Value → Prop} {it : Nat → Value → List Item} (os : List Oper) :
    ∀ (k : Nat), TameOps ro P ops l0 ds E L phi it k os → ∀ (i : Nat) (o : Oper), os[i]? = some o → TameOp ro P ops l0 ds E L phi it (k + i) o := by
  generalize hT : TameOp ro P ops l0 ds E L phi it = T
  have key : ∀ (os : List Oper) (k : Nat), TameOps ro P ops l0 ds E L phi it k os → ∀ (i : Nat) (o : Oper), os[i]? = some o → T (k + i) o := by
    intro os
    induction os with
    | nil => intro k _ i o e; simp at e
    | cons o r ih =>
      intro k h i o' e
      have h1 : T k o := hT ▸ h.1
      have h2 := ih (k + 1) h.2
      clear h
      cases i with
      | zero => simp at e; subst e; exact h1
      | succ i =>
        have h3 := h2 i o' (by simpa using e)
        have e' : k + 1 + i = k + (i + 1) := by omega
        rw [e'] at h3
        exact h3
  exact key os

/-- All values are known, nothing is made. -/
def QuietOps (ro : Option Nat) (P : Program) (ops : Array Oper) (l0 : List Value) (ds : List Deferred) (E : Env) (L : List Item) (vals : List Value) : Nat → List Oper → Prop
  | _, [] => True
  | i, o :: r => (o.guard = none ∧ ∀ (v : Value) (E1 : Env) (Lx : List Item) (w : World), vals[i]? = some v → E.Le E1 → Sat E1 (L ++ Lx) w →
      OW ro P o (setAll l0 (pairs ops (deps o) fun j => vals.getD j undef)) ds w (fun l' w' => l' = put (setAll l0 (pairs ops (deps o) fun j => vals.getD j undef)) o.dst v ∧ Sat E1 (L ++ Lx) w') NoQ) ∧ QuietOps ro P ops l0 ds E L vals (i + 1) r
theorem pairs_congr {ops : Array Oper} {js : List Nat} {y y' : Nat → Value} (h : ∀ j ∈ js, y j = y' j) : pairs ops js y = pairs ops js y' := by
  induction js with
  | nil => rfl
  | cons j js ih =>
    have := ih fun j hj => h j (List.mem_cons_of_mem _ hj)
    unfold pairs at this ⊢
    rw [List.filterMap_cons, List.filterMap_cons, h j (List.mem_cons_self ..), this]
theorem quiet_tame {ro : Option Nat} {P : Program} {ops : Array Oper} {l0 : List Value} {ds : List Deferred} {E : Env} {L : List Item} {vals : List Value} : ∀ (os : List Oper) (k : Nat), k + os.length ≤ vals.length → QuietOps ro P ops l0 ds E L vals k os →
    TameOps ro P ops l0 ds E L (fun i _ v => vals[i]? = some v) (fun _ _ => []) k os := by
  intro os
  induction os with
  | nil => intro k _ _; trivial
  | cons o r ih =>
    intro k hk h
    refine ⟨TameOp.plain h.1.1 _ rfl ?_, ih (k + 1) (by simp at hk ⊢; omega) h.2⟩
    intro y E1 Lx w hE hph hS
    have hkl : k < vals.length := by simp at hk; omega
    have hv : vals[k]? = some vals[k] := List.getElem?_eq_getElem hkl
    have hfl : (deps o).flatMap (fun j => (fun _ _ => [] : Nat → Value → List Item) j (y j)) = [] := by simp
    rw [hfl] at hS
    have hp : pairs ops (deps o) y = pairs ops (deps o) fun j => vals.getD j undef := pairs_congr fun j hj => by
      have := hph j hj
      simp [List.getD, this]
    rw [hp]
    refine OW.mono (h.1.2 _ E1 Lx w hv hE hS) ?_
    rintro l' w' ⟨h1, h2⟩
    exact ⟨_, E1, h1, Env.Le.refl _, hv, by rw [hfl]; exact h2⟩

/-- The same operation on another frame that shows the same to it. -/
theorem ow_view {ro : Option Nat} {P : Program} {o : Oper} {l lc : List Value} {ds : List Deferred} {w : World} {nx : Value → World → Prop} {next : List Value → World → Prop} {Q : Exit → Act → World → Prop}
    (hd : Oper.noDefer o = true) (hs : Oper.noSelect o = true) (hv : ∀ x ∈ o.op.operands, ev l x = ev lc x)
    (h : OW ro P o lc ds w (fun l' w' => ∃ v, l' = put lc o.dst v ∧ nx v w') NoQ) (hn : ∀ v w', nx v w' → next (put l o.dst v) w') (hdst : ∀ v v', put lc o.dst v = put lc o.dst v' → v = v') : OW ro P o l ds w next Q := by
  unfold OW Oper.wpIn at *
  refine ⟨fun _ _ => trivial, ?_⟩
  obtain ⟨_, h⟩ := h
  rw [semAt_plain hd, A_eval] at h ⊢
  rw [execOp_congr o (fun cs b e => by simp [Oper.noSelect, e] at hs) hv]
  generalize (execOp (ev lc) o).run P w = r at *
  have hput : ∀ v w', (∃ l', (A lc ds).put o.dst v = A l' ds ∧ ∃ v', l' = put lc o.dst v' ∧ nx v' w') → ∃ l', (A l ds).put o.dst v = A l' ds ∧ next l' w' := by
    rintro v w' ⟨l', e1, v', rfl, hx⟩
    rw [A_put] at e1
    have e2 : put lc o.dst v = put lc o.dst v' := by
      have := congrArg (fun a : Act => a.tmps.toList) e1
      simpa [A] using this
    obtain rfl := hdst _ _ e2
    exact ⟨_, A_put l ds o.dst v, hn _ _ hx⟩
  cases r with
  | halt x w' => cases x <;> simp only [Oper.uponIn, NoQ] at h <;> exact h.elim
  | ok x w' =>
    cases x <;> simp only [Oper.uponIn] at h ⊢ <;> first
      | exact h.elim
      | exact hput _ _ h
      | skip
    case enter f args =>
      refine ⟨h.1, h.2.mono ?_⟩
      intro e w'' he
      cases e with
      | returned v => exact hput _ _ he
      | panicked c => exact he.elim
      | outgrown => obtain ⟨_, _, hh⟩ := he; exact hh.elim
    case row r args => exact ⟨h.1, h.2.mono fun v w'' he => hput _ _ he⟩
    case round k f tmps asg bd =>
      refine ⟨h.1, h.2.mono ?_⟩
      intro e w'' he
      cases e with
      | returned v => exact hput _ _ he
      | panicked c => exact he.elim
      | outgrown => obtain ⟨_, _, hh⟩ := he; exact hh.elim
    case defer d =>
      obtain ⟨l', e1, _⟩ := h
      exfalso
      have := congrArg (fun a : Act => a.defers.length) e1
      cases hdd : o.dst <;> simp [A, Act.put, hdd] at this
end Go.Proofs.YtomfoaaaeidpnaaDoor
