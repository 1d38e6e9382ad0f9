/-
  The walk over assertions: frames as lists of values, code, regions, calls, returns, loops over functions.
-/
import Derived.Test.YtomfoaaaeidpnaaDoorSl1
set_option linter.unusedVariables false
set_option linter.unusedSimpArgs false
namespace Go.Proofs.YtomfoaaaeidpnaaDoor
open Go Go.RowKit

def A (l : List Value) (ds : List Deferred) : Act := ⟨⟨l⟩, ds⟩
def ev (l : List Value) : Operand → Value
  | .tmp t => l.getD t undef
  | .const v => v
  | .global g => .pointer (some ⟨g, 0, none⟩)
  | .func f => .func (.func f) #[] #[]
def put (l : List Value) : Option Tmp → Value → List Value
  | some d, v => l.set d v
  | none, _ => l

theorem A_eval (l : List Value) (ds : List Deferred) : (A l ds).eval = ev l := by
  funext x
  cases x <;> simp [A, Act.eval, ev, List.getD]
theorem A_put (l : List Value) (ds : List Deferred) (d : Option Tmp) (v : Value) : (A l ds).put d v = A (put l d v) ds := by
  cases d <;> simp [A, Act.put, put]

abbrev WF (ro : Option Nat) : Fence := { Fence.wide with round := ro }

/-- One operation. -/
def OW (ro : Option Nat) (P : Program) (o : Oper) (l : List Value) (ds : List Deferred) (w : World) (next : List Value → World → Prop) (Q : Exit → Act → World → Prop) : Prop :=
  o.wpIn (WF ro) 0 P (A l ds) w (fun a' w' => ∃ l', a' = A l' ds ∧ next l' w') Q

def Oper.noDefer (o : Oper) : Bool := match o.op with | .defer _ => false | _ => true
theorem semAt_plain {ro : Option Nat} {ρ : Operand → Value} {o : Oper} (h : Oper.noDefer o = true) : o.semAt ro ρ = execOp ρ o :=
  Oper.semAt_eq ro ρ o fun c e => by simp [Oper.noDefer, e] at h

section
variable {ro : Option Nat} {P : Program} {o : Oper} {l : List Value} {ds : List Deferred} {w w' : World} {next : List Value → World → Prop} {Q : Exit → Act → World → Prop}

theorem ow_run {v : Value} (h : (execOp (ev l) o).run P w = .ok (.value v) w') (hd : Oper.noDefer o = true) (hK : next (put l o.dst v) w') : OW ro P o l ds w next Q := by
  unfold OW Oper.wpIn
  rw [semAt_plain hd, A_eval, h]
  exact ⟨fun _ _ => trivial, _, A_put l ds o.dst v, hK⟩
theorem ow_skip (h : (execOp (ev l) o).run P w = .ok .skip w') (hd : Oper.noDefer o = true) (hK : next (put l o.dst undef) w') : OW ro P o l ds w next Q := by
  unfold OW Oper.wpIn
  rw [semAt_plain hd, A_eval, h]
  exact ⟨fun _ _ => trivial, _, A_put l ds o.dst undef, hK⟩
theorem ow_enter {f : FuncId} {args : Array Value} (h : (execOp (ev l) o).run P w = .ok (.enter f args) w') (hd : Oper.noDefer o = true)
    (hc : Calls P f args w' fun e w'' => ∃ v, e = .returned v ∧ next (put l o.dst v) w'') : OW ro P o l ds w next Q := by
  unfold OW Oper.wpIn
  rw [semAt_plain hd, A_eval, h]
  refine ⟨fun _ _ => trivial, ?_⟩
  rw [Oper.uponIn_enter]
  refine ⟨fun h => absurd h (by simp [Fence.wide]), ?_⟩
  have hc' : CallsIn (WF ro) (0 - 1) P f args w' fun e w'' => ∃ v, e = .returned v ∧ next (put l o.dst v) w'' := callsIn_wide (n := 0 - 1).2 hc
  refine hc'.mono ?_
  rintro e w'' ⟨v, rfl, hn⟩
  exact ⟨_, A_put l ds o.dst v, hn⟩
theorem ow_round {k : Nat} {f : FuncId} {tmps : Array Value} {assign body : Code} (h : (execOp (ev l) o).run P w = .ok (.round k f tmps assign body) w') (hd : Oper.noDefer o = true)
    (hc : RoundIn (WF none) 0 P k f tmps assign body w' fun e w'' => ∃ v, e = .returned v ∧ next (put l o.dst v) w'') : OW ro P o l ds w next Q := by
  unfold OW Oper.wpIn
  rw [semAt_plain hd, A_eval, h]
  refine ⟨fun _ _ => trivial, ?_⟩
  rw [Oper.uponIn_round]
  refine ⟨fun h => absurd h (by simp [Fence.wide]), ?_⟩
  have hc' : RoundIn (WF ro) (0 - 1) P k f tmps assign body w' fun e w'' => ∃ v, e = .returned v ∧ next (put l o.dst v) w'' := hc
  refine hc'.mono ?_
  rintro e w'' ⟨v, rfl, hn⟩
  exact ⟨_, A_put l ds o.dst v, hn⟩
theorem OW.mono {next' : List Value → World → Prop} (h : OW ro P o l ds w next Q) (hn : ∀ l w, next l w → next' l w) : OW ro P o l ds w next' Q :=
  Oper.wpIn_mono (fun _ _ ⟨l', e, h⟩ => ⟨l', e, hn _ _ h⟩) h
end

/-! ### Regions in order -/
abbrev GOp := Oper × Option (Option Tmp × Bool)
def gslot (ops : Array Oper) (o : Oper) : Option (Option Tmp × Bool) :=
  match o.guard with
  | none => none
  | some (j, b) => some ((ops[j]?).bind (·.dst), b)
def annot (ops : Array Oper) : List GOp := ops.toList.map fun o => (o, gslot ops o)
def gval (l : List Value) : Option Tmp → Option Bool
  | none => none
  | some t => match l.getD t undef with | .bool b => some b | _ => none

def RL (ro : Option Nat) (P : Program) (ds : List Deferred) (K : List Value → World → Prop) (Q : Exit → Act → World → Prop) : List GOp → List Value → World → Prop
  | [], l, w => K l w
  | (o, none) :: r, l, w => OW ro P o l ds w (RL ro P ds K Q r) Q
  | (o, some (t, b)) :: r, l, w => if gval l t = some b then OW ro P o l ds w (RL ro P ds K Q r) Q else RL ro P ds K Q r (put l o.dst undef) w

theorem yielded_eq (ops : Array Oper) (l : List Value) (j : Nat) : yielded ops ⟨l⟩ j = gval l ((ops[j]?).bind (·.dst)) := by
  unfold yielded gval
  cases h : (ops[j]?).bind (·.dst) with
  | none => rfl
  | some t =>
    simp only [Option.bind_some, List.getD]
    have e : (⟨l⟩ : Array Value)[t]? = l[t]? := by simp
    rw [e]
    cases l[t]? with
    | none => rfl
    | some v => cases v <;> rfl

theorem rl_sound {ro : Option Nat} {P : Program} {ds : List Deferred} {Q : Exit → Act → World → Prop} (ops : Array Oper) :
    ∀ (n m : Nat), n + m = ops.size → ∀ (l : List Value) (w : World),
      RL ro P ds (fun l w => Q .normal (A l ds) w) Q ((ops.toList.drop n).map fun o => (o, gslot ops o)) l w → wpOpsIn (WF ro) 0 P ops Q (List.range' n m) (A l ds) w := by
  intro n m
  induction m generalizing n with
  | zero =>
    intro hn l w h
    have : ops.toList.drop n = [] := List.drop_eq_nil_of_le (by simp; omega)
    rw [this] at h
    exact h
  | succ m ih =>
    intro hn l w h
    have hlt : n < ops.size := by omega
    have hd : ops.toList.drop n = ops[n] :: ops.toList.drop (n + 1) := by
      rw [List.drop_eq_getElem_cons (by simpa using hlt)]; simp
    rw [hd, List.map_cons] at h
    have hrest := ih (n + 1) (by omega)
    simp only [List.range'_succ, wpOpsIn, Array.getElem?_eq_getElem hlt]
    have hy := fun j => yielded_eq ops l j
    have hty : (A l ds).tmps = ⟨l⟩ := rfl
    rw [hty]
    unfold Region.wanted
    cases hg : ops[n].guard with
    | none =>
      have e : gslot ops ops[n] = none := by simp [gslot, hg]
      rw [e] at h
      simp only [if_true]
      refine Oper.wpIn_mono ?_ h
      rintro a w ⟨l', rfl, h⟩
      exact hrest l' w h
    | some jb =>
      obtain ⟨j, b⟩ := jb
      have e : gslot ops ops[n] = some ((ops[j]?).bind (·.dst), b) := by simp [gslot, hg]
      rw [e] at h
      simp only [RL] at h
      simp only [hy]
      by_cases hv : gval l ((ops[j]?).bind (·.dst)) = some b
      · rw [if_pos hv] at h
        simp only [hv, beq_self_eq_true, if_true]
        refine Oper.wpIn_mono ?_ h
        rintro a w ⟨l', rfl, h⟩
        exact hrest l' w h
      · rw [if_neg hv] at h
        have : (gval l ((ops[j]?).bind (·.dst)) == some b) = false := by simpa using hv
        simp only [this, Bool.false_eq_true, if_false]
        refine ⟨fun _ _ => trivial, ?_⟩
        rw [A_put]
        exact hrest _ w h

section
variable {ro : Option Nat} {P : Program} {ds : List Deferred} {K : List Value → World → Prop} {Q : Exit → Act → World → Prop} {o : Oper} {r : List GOp} {l : List Value} {w : World}
theorem rl_nil (h : K l w) : RL ro P ds K Q [] l w := h
theorem rl_op (h : OW ro P o l ds w (RL ro P ds K Q r) Q) : RL ro P ds K Q ((o, none) :: r) l w := h
theorem rl_on {t : Tmp} {b : Bool} (hg : l.getD t undef = .bool b) (h : OW ro P o l ds w (RL ro P ds K Q r) Q) : RL ro P ds K Q ((o, some (some t, b)) :: r) l w := by
  unfold RL; rw [if_pos (by simp only [gval, hg])]; exact h
theorem rl_off {t : Tmp} {b c : Bool} (hg : l.getD t undef = .bool c) (hc : c = !b) (h : RL ro P ds K Q r (put l o.dst undef) w) : RL ro P ds K Q ((o, some (some t, b)) :: r) l w := by
  unfold RL; rw [if_neg (by simp only [gval, hg]; rw [hc]; cases b <;> simp)]; exact h
theorem rl_undef {t : Tmp} {b : Bool} (hg : l.getD t undef = .tuple #[]) (h : RL ro P ds K Q r (put l o.dst undef) w) : RL ro P ds K Q ((o, some (some t, b)) :: r) l w := by
  unfold RL; rw [if_neg (by simp only [gval, hg]; simp)]; exact h
theorem rl_split {t : Tmp} {b c : Bool} (hg : l.getD t undef = .bool c) (h : c = b → OW ro P o l ds w (RL ro P ds K Q r) Q) (h' : c = (!b) → RL ro P ds K Q r (put l o.dst undef) w) :
    RL ro P ds K Q ((o, some (some t, b)) :: r) l w := by
  by_cases e : c = b
  · exact rl_on (by rw [hg, e]) (h e)
  · have e' : c = !b := by cases c <;> cases b <;> simp_all
    exact rl_off hg e' (h' e')
theorem RL.mono {K' : List Value → World → Prop} (hk : ∀ l w, K l w → K' l w) : ∀ {r : List GOp} {l : List Value} {w : World}, RL ro P ds K Q r l w → RL ro P ds K' Q r l w
  | [], _, _, h => hk _ _ h
  | (o, none) :: r, l, w, h => OW.mono h fun _ _ h => RL.mono hk h
  | (o, some (t, b)) :: r, l, w, h => by
    unfold RL at h ⊢
    split
    · rename_i hc; rw [if_pos hc] at h; exact OW.mono h fun _ _ h => RL.mono hk h
    · rename_i hc; rw [if_neg hc] at h; exact RL.mono hk h
end

/-! ### Code -/
def WC (ro : Option Nat) (P : Program) (c : Code) (Q : Exit → Act → World → Prop) (l : List Value) (ds : List Deferred) (w : World) : Prop := c.wpIn (WF ro) 0 P Q (A l ds) w

section
variable {ro : Option Nat} {P : Program} {Q : Exit → Act → World → Prop} {l : List Value} {ds : List Deferred} {w : World}
theorem wc_skip (h : Q .normal (A l ds) w) : WC ro P .skip Q l ds w := wpIn_skip h
theorem wc_label {k : Nat} (h : Q .normal (A l ds) w) : WC ro P (.label k) Q l ds w := wpIn_label h
theorem wc_exit {id : Nat} (h : Q (.exit id) (A l ds) w) : WC ro P (.exit id) Q l ds w := wpIn_exit h
theorem wc_ret (h : Q .ret (A l ds) w) : WC ro P .ret Q l ds w := wpIn_ret h
/-- What is to follow. -/
def ThenQ (ro : Option Nat) (P : Program) (y : Code) (Q : Exit → Act → World → Prop) : Exit → Act → World → Prop
  | .normal, a, w => ∃ l ds, a = A l ds ∧ WC ro P y Q l ds w
  | e, a, w => Q e a w
def BlockQ (i : Nat) (Q : Exit → Act → World → Prop) : Exit → Act → World → Prop := Exit.inBlock i Q
def LoopQ (ds : List Deferred) (I : Nat → List Value → World → Prop) (n : Nat) (Q : Exit → Act → World → Prop) : Exit → Act → World → Prop
  | .normal, a, w => ∃ l m, a = A l ds ∧ I m l w ∧ m < n
  | e, a, w => Q e a w
theorem wc_seq {x y : Code} (h : WC ro P x (ThenQ ro P y Q) l ds w) : WC ro P (.seq x y) Q l ds w :=
  wpIn_seq (wpIn_mono h fun e a w h => by
    cases e with
    | normal => obtain ⟨l, ds, rfl, h⟩ := h; exact h
    | _ => exact h)
theorem tq_normal {y : Code} (h : WC ro P y Q l ds w) : ThenQ ro P y Q .normal (A l ds) w := ⟨l, ds, rfl, h⟩
theorem tq_exit {y : Code} {a : Act} {i : Nat} (h : Q (.exit i) a w) : ThenQ ro P y Q (.exit i) a w := h
theorem tq_ret {y : Code} {a : Act} (h : Q .ret a w) : ThenQ ro P y Q .ret a w := h
theorem bq_normal {i : Nat} {a : Act} (h : Q .normal a w) : BlockQ i Q .normal a w := h
theorem bq_ret {i : Nat} {a : Act} (h : Q .ret a w) : BlockQ i Q .ret a w := h
theorem bq_hit {i : Nat} {a : Act} (h : Q .normal a w) : BlockQ i Q (.exit i) a w := by simpa [BlockQ, Exit.inBlock] using h
theorem bq_miss {i j : Nat} {a : Act} (hn : j ≠ i) (h : Q (.exit j) a w) : BlockQ i Q (.exit j) a w := by simpa [BlockQ, Exit.inBlock, hn] using h
theorem lq_next {I : Nat → List Value → World → Prop} {n : Nat} (m : Nat) (hlt : m < n) (h : I m l w) : LoopQ ds I n Q .normal (A l ds) w := ⟨l, m, rfl, h, hlt⟩
theorem lq_exit {I : Nat → List Value → World → Prop} {n : Nat} {a : Act} {i : Nat} (h : Q (.exit i) a w) : LoopQ ds I n Q (.exit i) a w := h
theorem lq_ret {I : Nat → List Value → World → Prop} {n : Nat} {a : Act} (h : Q .ret a w) : LoopQ ds I n Q .ret a w := h
theorem wc_cond {c : Operand} {x y : Code} {t : Bool} (hc : ev l c = .bool t) (hx : t = true → WC ro P x Q l ds w) (hy : t = false → WC ro P y Q l ds w) : WC ro P (.cond c x y) Q l ds w :=
  wpIn_cond_split (t := t) (by rw [A_eval]; exact hc) hx hy
theorem wc_true {c : Operand} {x y : Code} (hc : ev l c = .bool true) (hx : WC ro P x Q l ds w) : WC ro P (.cond c x y) Q l ds w := wpIn_cond_true (by rw [A_eval]; exact hc) hx
theorem wc_false {c : Operand} {x y : Code} (hc : ev l c = .bool false) (hy : WC ro P y Q l ds w) : WC ro P (.cond c x y) Q l ds w := wpIn_cond_false (by rw [A_eval]; exact hc) hy
theorem wc_block {id : Nat} {c : Code} (h : WC ro P c (BlockQ id Q) l ds w) : WC ro P (.block id c) Q l ds w := wpIn_block h
theorem wc_region {id : Nat} {ops : Array Oper} (h : RL ro P ds (fun l w => Q .normal (A l ds) w) Q (annot ops) l w) : WC ro P (.region id ops false) Q l ds w := by
  refine wpIn_region ?_
  rw [List.range_eq_range']
  exact rl_sound ops 0 ops.size (by simp) l w (by simpa [annot] using h)
theorem wc_mono {c : Code} {Q' : Exit → Act → World → Prop} (h : WC ro P c Q l ds w) (hq : ∀ e a w, Q e a w → Q' e a w) : WC ro P c Q' l ds w := wpIn_mono h hq
theorem wc_loop {c : Code} (I : List Value → World → Prop) (μ : List Value → World → Nat) (h0 : I l w)
    (round : ∀ l w, I l w → WC ro P c (Exit.then (fun a' w' => ∃ l', a' = A l' ds ∧ I l' w' ∧ μ l' w' < μ l w) Q) l ds w) : WC ro P (.loop c) Q l ds w := by
  refine wpIn_loop (fun a w => ∃ l, a = A l ds ∧ I l w) (fun a w => μ a.tmps.toList w) ⟨l, rfl, h0⟩ ?_
  rintro a w ⟨l, rfl, hI⟩
  refine wpIn_mono (round l w hI) ?_
  rintro e a w h
  cases e with
  | normal => obtain ⟨l', rfl, h1, h2⟩ := h; exact ⟨⟨l', rfl, h1⟩, h2⟩
  | _ => exact h
theorem least {p : Nat → Prop} (h : ∃ n, p n) : ∃ n, p n ∧ ∀ m, p m → n ≤ m := by
  obtain ⟨n, hn⟩ := h
  induction n using Nat.strongRecOn with
  | _ n ih =>
    by_cases hx : ∃ m, m < n ∧ p m
    · obtain ⟨m, hm, hp⟩ := hx; exact ih m hm hp
    · exact ⟨n, hn, fun m hp => Nat.le_of_not_lt fun hlt => hx ⟨m, hlt, hp⟩⟩
open Classical in
/-- Counted down by a number that the invariant bears. -/
theorem wc_loopn {c : Code} (I : Nat → List Value → World → Prop) (n : Nat) (h0 : I n l w)
    (round : ∀ n l w, I n l w → WC ro P c (LoopQ ds I n Q) l ds w) : WC ro P (.loop c) Q l ds w := by
  let μ : List Value → World → Nat := fun l w => if h : ∃ n, I n l w then (least h).choose else 0
  refine wc_loop (fun l w => ∃ n, I n l w) μ ⟨n, h0⟩ ?_
  rintro l w ⟨n, hI⟩
  have hex : ∃ n, I n l w := ⟨n, hI⟩
  have hμ : μ l w = (least hex).choose := by simp only [μ]; rw [dif_pos hex]
  have hmin : I (μ l w) l w := by rw [hμ]; exact (least hex).choose_spec.1
  refine wc_mono (round _ l w hmin) ?_
  rintro e a w' h
  cases e with
  | normal =>
    obtain ⟨l', m, rfl, h1, h2⟩ := h
    refine ⟨l', rfl, ⟨m, h1⟩, ?_⟩
    have hex' : ∃ n, I n l' w' := ⟨m, h1⟩
    have : μ l' w' ≤ m := by simp only [μ]; rw [dif_pos hex']; exact (least hex').choose_spec.2 m h1
    omega
  | _ => exact h

end

/-! ### Functions -/
/-- What a call comes to: it returns v, and the assertion holds. -/
abbrev Ret (E : Env) (L : List Item) (v : Value) : Ending → World → Prop := fun e w' => e = .returned v ∧ Sat E L w'

section
variable {P : Program} {f : FuncId} {fn : Func} {c : Code} {args : Array Value} {w : World} {R : Ending → World → Prop} {l : List Value} {ds : List Deferred}
abbrev FP (P : Program) (fn : Func) (R : Ending → World → Prop) : Exit → Act → World → Prop := bodyPostM (WF none) 0 P fn R
theorem calls_of (hf : P.funcs[f]? = some fn) (hb : fn.body = some c) (l : List Value) (hl : args ++ Array.replicate (fn.ntmps - args.size) undef = ⟨l⟩) (h : WC none P c (FP P fn R) l [] w) : Calls P f args w R := by
  refine (callsIn_wide (n := 0)).1 (callsIn_of_wp_marks hf hb trivial ?_ rfl)
  rw [hl]; exact h

theorem fp_ret {v : Value} (hr : (results fn ⟨l⟩).run P w = .ok v w) (h : R (.returned v) w) : FP P fn R .ret (A l []) w := ⟨v, hr, h⟩
theorem fp_normal {v : Value} (hr : (results fn ⟨l⟩).run P w = .ok v w) (h : R (.returned v) w) : FP P fn R .normal (A l []) w := ⟨v, hr, h⟩

theorem res0 (h : fn.results = #[]) : (results fn ⟨l⟩).run P w = .ok (.tuple #[]) w := by simp [results, h]
theorem res1 {t : Tmp} {v : Value} (h : fn.results = #[.tmp t]) (hv : l.getD t undef = v) : (results fn ⟨l⟩).run P w = .ok v w := by
  subst hv; simp [results, h, List.getD]
theorem res2 {t u : Tmp} {v v' : Value} (h : fn.results = #[.tmp t, .tmp u]) (hv : l.getD t undef = v) (hv' : l.getD u undef = v') : (results fn ⟨l⟩).run P w = .ok (.tuple ⟨[v, v']⟩) w := by
  subst hv hv'; simp [results, h, List.getD]
theorem res3 {t u x : Tmp} {v v' v'' : Value} (h : fn.results = #[.tmp t, .tmp u, .tmp x]) (hv : l.getD t undef = v) (hv' : l.getD u undef = v') (hv'' : l.getD x undef = v'') : (results fn ⟨l⟩).run P w = .ok (.tuple ⟨[v, v', v'']⟩) w := by
  subst hv hv' hv''; simp [results, h, List.getD]
end
end Go.Proofs.YtomfoaaaeidpnaaDoor
