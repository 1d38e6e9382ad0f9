/-
  A region whose order is open, whole.
-/
import Derived.Test.YtomfoaaaeidpnaaDoorSl5
import Derived.RangeFuncRecord
set_option linter.unusedVariables false
set_option linter.unusedSimpArgs false
namespace Go.Proofs.YtomfoaaaeidpnaaDoor
open Go Go.RowKit

/-- Item 'it' in front of everything. -/
theorem Sat.putObj {E : Env} {L : List Item} {w : World} (h : Sat E L w) (i : Nat) {b : Nat} {o : Obj} (hi : L[i]? = some (obj b o)) (o' : Obj) : Sat E (L.set i (obj b o')) (w.putObj b o') := h.setObj i hi o'

/-- The round that yield begins. -/
def YieldOK (P : Program) (k : Nat) (args : List Value) (w : World) (R : Bool → World → Prop) : Prop :=
  ∃ f tmps assign body, (Instr.yield k ⟨args⟩).run P w = .ok (.round k f tmps assign body) w ∧
    RoundIn (WF none) 0 P k f tmps assign body w fun e w' => ∃ b, e = .returned (.bool b) ∧ R b w'

/-- What an iterator owes: it hands over the elements xs, one by one, until a round says 'no more'. Between the rounds the caller's invariant J holds of the caller's items. -/
def Iter {α : Type} (P : Program) (f : FuncId) (ca : List Value) (enc : α → List Value) (xs : List α) (E : Env) (Lc : List Item) : Prop :=
  ∀ (k : Nat) (J Jx : List α → Env → List Item → Prop),
    (∀ pre x rest, xs = pre ++ x :: rest → ∀ E1 Li Lx w, E.Le E1 → J pre E1 Li → Sat E1 (Li ++ Lx) w →
      YieldOK P k (enc x) w fun b w' => ∃ E2 Li', E1.Le E2 ∧ Sat E2 (Li' ++ Lx) w' ∧ (if b then J (pre ++ [x]) E2 Li' else Jx (pre ++ [x]) E2 Li')) →
    ∀ Li L w, J [] E Li → Sat E (Li ++ (Lc ++ L)) w →
      Calls P f ⟨.func (.yield k) #[] #[] :: ca⟩ w fun e w' => (∃ v, e = .returned v) ∧ ∃ E' Li', E.Le E' ∧ Sat E' (Li' ++ (Lc ++ L)) w' ∧ (J xs E' Li' ∨ ∃ pre, Jx pre E' Li')

section
variable {ro : Option Nat} {P : Program} {l : List Value} {ds : List Deferred} {w : World} {next : List Value → World → Prop} {Q : Exit → Act → World → Prop}
variable {d : Option Tmp} {ty : TypeId} {pos : String} {aft : Array Edge} {g : Option (Nat × Bool)} {X Y Z : Operand} {E : Env} {L : List Item}

/-- The call of yield, in the iterator. -/
theorem ow_yield {k : Nat} {args : Array Operand} {tys : Array TypeId} {vs : List Value} (hx : ev l X = .func (.yield k) #[] #[]) (hv : args.toList.map (ev l) = vs) {R : Bool → World → Prop} (hY : YieldOK P k vs w R)
    (h : ∀ b w', R b w' → next (put l d (.bool b)) w') : OW ro P ⟨d, .call { callee := .value X, args := args, argTypes := tys }, ty, pos, aft, g⟩ l ds w next Q := by
  obtain ⟨f, tmps, assign, body, hy, hr⟩ := hY
  have e1 : args.map (ev l) = ⟨vs⟩ := by rw [← hv]; apply Array.ext'; simp
  refine ow_round (w' := w) (k := k) (f := f) (tmps := tmps) (assign := assign) (body := body) ?_ rfl (hr.mono ?_)
  · simp [execOp, resolve, Deferred.ofValue, hx, e1, invoke]
    simpa using hy
  · rintro e w' ⟨b, rfl, hR⟩
    exact ⟨_, rfl, h b w' hR⟩

/-- How a body may end. -/
def BodyEnd {α : Type} (I : List α → Env → List Item → Prop) (Ix : Code → List α → Env → List Item → Prop) (pre : List α) (E1 : Env) (Lx : List Item) : Exit → Act → World → Prop
  | .normal, _, w => ∃ E2 Li', E1.Le E2 ∧ Sat E2 (Li' ++ Lx) w ∧ I pre E2 Li'
  | .ret, _, w => ∃ E2 Li', E1.Le E2 ∧ Sat E2 (Li' ++ Lx) w ∧ Ix .ret pre E2 Li'
  | .exit i, _, w => ∃ E2 Li', E1.Le E2 ∧ Sat E2 (Li' ++ Lx) w ∧ Ix (.exit i) pre E2 Li'
  | _, _, _ => False

def setAll (l : List Value) : List (Tmp × Value) → List Value
  | [] => l
  | (t, v) :: r => setAll (l.set t v) r
theorem foldl_setAll (r : List (Tmp × Value)) : ∀ l : List Value, r.foldl (fun (tmps : Array Value) (t, a) => tmps.setIfInBounds t a) ⟨l⟩ = ⟨setAll l r⟩ := by
  induction r with
  | nil => intro l; rfl
  | cons x r ih => intro l; obtain ⟨t, v⟩ := x; simp only [List.foldl_cons, setAll]; rw [← ih]; simp

theorem wc_rangeFunc {α : Type} {f : FuncId} {ca : List Value} {enc : α → List Value} {xs : List α} {ps : Array Tmp} {assign body : Code} {Lc L0 Lf : List Item}
    (I : List α → Env → List Item → Prop) (Ix : Code → List α → Env → List Item → Prop)
    (hg : ev l X = .func (.func f) #[] ⟨ca⟩) (he : Enters P f) (hA : Sat E (L0 ++ (Lc ++ Lf)) w) (hit : Iter P f ca enc xs E Lc) (hps : ∀ x, (enc x).length = ps.size) (h0 : I [] E L0)
    (hbody : ∀ (k : Nat) (pre : List α) (x : α) (rest : List α), xs = pre ++ x :: rest → ∀ E1 Li Lx w1, E.Le E1 → I pre E1 Li → Sat E1 (Li ++ Lx) w1 →
      WC (some k) P assign (fun e a' w2 => e = .normal ∧ ∃ l' Li2, a' = A l' [] ∧ Sat E1 (Li2 ++ Lx) w2 ∧
        ∀ Lx2 w3, Sat E1 (Li2 ++ Lx2) w3 → WC (some k) P body (BodyEnd I Ix (pre ++ [x]) E1 Lx2) l' [] w3) (setAll l (ps.toList.zip (enc x))) [] w1)
    (hdone : ∀ (D : Nat) E2 Li' w', E.Le E2 → I xs E2 Li' → Sat E2 (Li' ++ (obj D (.deferred (some [])) :: (Lc ++ Lf))) w' → Q .normal (A l ({ target := .collected D, args := #[] } :: ds)) w')
    (hstop : ∀ (D : Nat) (c : Code) (pre : List α) E2 Li' w', E.Le E2 → Ix c pre E2 Li' → Sat E2 (Li' ++ (obj D (.deferred (some [])) :: (Lc ++ Lf))) w' → WC none P c Q l ({ target := .collected D, args := #[] } :: ds) w') :
    WC none P (.rangeFunc X ps assign body) Q l ds w := by
  refine wpIn_rangeFunc ?_
  intro fn _
  let rec_ : LoopState → Option Code → Loop := fun st pe => { state := st, pending := pe, fn, tmps := ⟨l⟩, params := ps, assign, body, defers := w.heap.size }
  obtain ⟨W1, hW1⟩ : ∃ W1, (w.alloc (.deferred (some []))).alloc (.loop (rec_ .ready none)) = W1 := ⟨_, rfl⟩
  have s1 : Sat E (obj (w.heap.size + 1) (.loop (rec_ .ready none)) :: obj w.heap.size (.deferred (some [])) :: (L0 ++ (Lc ++ Lf))) W1 := by
    have h1 : Sat E (obj w.heap.size (.deferred (some [])) :: (L0 ++ (Lc ++ Lf))) (w.alloc (.deferred (some []))) := hA.alloc _
    have h2 : Sat E (obj (w.alloc (.deferred (some []))).heap.size (.loop (rec_ .ready none)) :: obj w.heap.size (.deferred (some [])) :: (L0 ++ (Lc ++ Lf))) W1 := hW1 ▸ h1.alloc _
    rw [World.size_alloc] at h2
    exact h2
  let D := w.heap.size
  let K := w.heap.size + 1
  have hA1 : (A l ds).tmps = ⟨l⟩ := rfl
  refine ⟨K, [{ target := .collected D, args := #[] }], W1, { target := .fn (.func f) ⟨ca⟩, args := #[.func (.yield K) #[] #[]] }, W1, f, ⟨.func (.yield K) #[] #[] :: ca⟩, W1, ?_, ?_, fun _ _ => trivial, ?_, fun h => absurd h (by simp [Fence.wide]), ?_⟩
  · rw [← hW1, hA1]; exact run_enterLoop_outer _ _ _ _ _
  · simp only [resolve, rangeCall, A_eval, hg]
    simp only [Deferred.ofValue, Sem.run_pure, List.map_toArray, List.map_cons, List.map_nil, ev]
    rfl
  · simp [invoke]
    exact he _ _
  · have hwrap : ∀ {R}, Calls P f ⟨.func (.yield K) #[] #[] :: ca⟩ W1 R → CallsIn (WF none) (0 - 1) P f ⟨.func (.yield K) #[] #[] :: ca⟩ W1 R := fun h => callsIn_wide (n := 0 - 1).2 h
    refine hwrap ?_
    let J : List α → Env → List Item → Prop := fun pre E1 Li => ∃ Li0, Li = obj K (.loop (rec_ .ready none)) :: obj D (.deferred (some [])) :: Li0 ∧ I pre E1 Li0
    let Jx : List α → Env → List Item → Prop := fun pre E1 Li => ∃ c Li0, Li = obj K (.loop (rec_ .done (some c))) :: obj D (.deferred (some [])) :: Li0 ∧ Ix c pre E1 Li0
    refine (hit K J Jx ?_ (obj K (.loop (rec_ .ready none)) :: obj D (.deferred (some [])) :: L0) Lf W1 ⟨L0, rfl, h0⟩ (by simpa using s1)).mono ?_
    · rintro pre x rest hx E1 Li Lx W hE ⟨Li0, rfl, hI⟩ hS
      have hk : W.heap[K]? = some (.loop (rec_ .ready none)) := hS.at_ (i := 0) rfl
      have hy := run_yield (P := P) (args := ⟨enc x⟩) hk (by simpa [rec_] using hps x)
      have hf : ((rec_ .ready none).params.zip ⟨enc x⟩).foldl (fun (tmps : Array Value) (t, a) => tmps.setIfInBounds t a) (rec_ .ready none).tmps = ⟨setAll l (ps.toList.zip (enc x))⟩ := by
        have := foldl_setAll (ps.toList.zip (enc x)) l
        rw [← this]
        show (ps.zip ⟨enc x⟩).foldl _ _ = _
        rw [← Array.foldl_toList, Array.toList_zip]
      rw [hf] at hy
      refine ⟨fn, _, assign, body, hy, roundIn_of_wpIn trivial ?_⟩
      have hperm : ∀ (st : LoopState) (pe : Option Code) (Li : List Item), (obj K (.loop (rec_ st pe)) :: obj D (.deferred (some [])) :: Li ++ Lx).Perm (Li ++ (obj K (.loop (rec_ st pe)) :: obj D (.deferred (some [])) :: Lx)) := by
        intro st pe Li
        have h1 : (obj K (.loop (rec_ st pe)) :: obj D (.deferred (some [])) :: Li ++ Lx) = ([obj K (.loop (rec_ st pe)), obj D (.deferred (some []))] ++ Li) ++ Lx := by simp
        have h2 : (Li ++ (obj K (.loop (rec_ st pe)) :: obj D (.deferred (some [])) :: Lx)) = (Li ++ [obj K (.loop (rec_ st pe)), obj D (.deferred (some []))]) ++ Lx := by simp
        rw [h1, h2]
        exact List.Perm.append_right _ List.perm_append_comm
      have hb := hbody K pre x rest hx E1 Li0 _ W hE hI (hS.perm (hperm _ _ _))
      refine wpIn_mono (F := WF (some K)) hb ?_
      rintro e a' w2 ⟨rfl, l', Li2, rfl, hS2, hbd⟩
      have hS2' := hS2.perm (hperm _ _ Li2).symm
      have hk2 : w2.heap[K]? = some (.loop (rec_ .ready none)) := hS2'.at_ (i := 0) rfl
      refine ⟨_, run_beginRound (P := P) hk2 rfl, ?_⟩
      have hS3 : Sat E1 (obj K (.loop (rec_ .busy none)) :: obj D (.deferred (some [])) :: Li2 ++ Lx) (w2.putObj K (.loop { rec_ .ready none with state := .busy })) := hS2'.putObj 0 rfl _
      refine wpIn_mono (F := WF (some K)) (hbd _ _ (hS3.perm (hperm _ _ _))) ?_
      have fin : ∀ (jump : Option Code) (E2 : Env) (Li' : List Item) (W3 : World), Sat E2 (Li' ++ (obj K (.loop (rec_ .busy none)) :: obj D (.deferred (some [])) :: Lx)) W3 →
          (Instr.endRound K jump).run P W3 = .ok (.bool jump.isNone) (W3.putObj K (.loop { rec_ .busy none with state := if jump.isNone then .ready else .done, pending := jump })) ∧
          Sat E2 (obj K (.loop (rec_ (if jump.isNone then .ready else .done) jump)) :: obj D (.deferred (some [])) :: Li' ++ Lx) (W3.putObj K (.loop { rec_ .busy none with state := if jump.isNone then .ready else .done, pending := jump })) := by
        intro jump E2 Li' W3 h3
        have h4 := h3.perm (hperm _ _ Li').symm
        have hk4 : W3.heap[K]? = some (.loop (rec_ .busy none)) := h4.at_ (i := 0) rfl
        exact ⟨run_endRound (P := P) jump hk4, h4.putObj 0 rfl _⟩
      rintro e a3 W3 hp
      cases e with
      | normal =>
        obtain ⟨E2, Li', hE2, h3, hI3⟩ := hp
        obtain ⟨hr, h4⟩ := fin none E2 Li' W3 h3
        exact ⟨_, _, hr, true, rfl, E2, _, hE2, h4, ⟨Li', rfl, hI3⟩⟩
      | ret =>
        obtain ⟨E2, Li', hE2, h3, hI3⟩ := hp
        obtain ⟨hr, h4⟩ := fin (some .ret) E2 Li' W3 h3
        exact ⟨_, _, hr, false, rfl, E2, _, hE2, h4, ⟨.ret, Li', rfl, hI3⟩⟩
      | exit i =>
        obtain ⟨E2, Li', hE2, h3, hI3⟩ := hp
        obtain ⟨hr, h4⟩ := fin (some (.exit i)) E2 Li' W3 h3
        exact ⟨_, _, hr, false, rfl, E2, _, hE2, h4, ⟨.exit i, Li', rfl, hI3⟩⟩
      | goto i => exact hp.elim
      | panic ch => exact hp.elim
      | outgrown => exact hp.elim
    · rintro e W2 ⟨⟨v, rfl⟩, E', Li', hE', hS, (⟨Li0, rfl, hI⟩ | ⟨pre, c, Li0, rfl, hI⟩)⟩
      · have hk : W2.heap[K]? = some (.loop (rec_ .ready none)) := hS.at_ (i := 0) rfl
        refine ⟨none, _, run_endLoop (P := P) hk (by simp [rec_]), ?_⟩
        have h1 := (hS.putObj 0 rfl (.loop { rec_ .ready none with state := .exhausted })).sub (L' := obj D (.deferred (some [])) :: Li0 ++ (Lc ++ Lf)) (by simp)
        refine hdone D E' Li0 _ hE' hI (h1.perm ?_)
        simp only [List.cons_append]
        exact List.perm_middle.symm
      · have hk : W2.heap[K]? = some (.loop (rec_ .done (some c))) := hS.at_ (i := 0) rfl
        refine ⟨some c, _, run_endLoop (P := P) hk (by simp [rec_]), ?_⟩
        have h1 := (hS.putObj 0 rfl (.loop { rec_ .done (some c) with state := .exhausted })).sub (L' := obj D (.deferred (some [])) :: Li0 ++ (Lc ++ Lf)) (by simp)
        refine hstop D c pre E' Li0 _ hE' hI (h1.perm ?_)
        simp only [List.cons_append]
        exact List.perm_middle.symm
end
end Go.Proofs.YtomfoaaaeidpnaaDoor
namespace Go.Proofs.YtomfoaaaeidpnaaDoor
open Go Go.RowKit

section sets
variable {F : Fence} {n : Nat} {P : Program} {ops : Array Oper} {Q : Exit → Act → World → Prop}

def edgesDown (ops : Array Oper) : Bool := (List.range ops.size).all fun i => ((ops[i]?).map fun o => o.after.all fun e => !Region.binds .any e || decide (e.on < i)).getD true

theorem ready_nil {Ls : Array Bool} (hs : Ls.size = ops.size) (hd : edgesDown ops = true) (hr : Region.ready .any ops Ls = []) : ∀ i, i < ops.size → Ls[i]? = some true := by
  intro i
  induction i using Nat.strongRecOn with
  | _ i ih =>
    intro hi
    have hmem : i ∉ Region.ready .any ops Ls := by rw [hr]; simp
    unfold Region.ready at hmem
    rw [List.mem_filter] at hmem
    have hlt : i < Ls.size := by omega
    have hx : Ls[i]? = some Ls[i] := Array.getElem?_eq_getElem hlt
    cases hv : Ls[i] with
    | true => rw [hx, hv]
    | false =>
      exfalso
      apply hmem
      refine ⟨List.mem_range.2 hi, ?_⟩
      have hg : Ls.getD i true = false := by simp [Array.getD, hlt, hv]
      have hall : (ops[i].after.all fun e => !Region.binds .any e || Ls.getD e.on false) = true := by
        rw [Array.all_eq_true_iff_forall_mem]
        intro e he
        cases hb : Region.binds .any e with
        | false => rfl
        | true =>
          unfold edgesDown at hd
          rw [List.all_eq_true] at hd
          have h1 := hd i (List.mem_range.2 hi)
          rw [Array.getElem?_eq_getElem hi] at h1
          simp only [Option.map_some, Option.getD_some] at h1
          rw [Array.all_eq_true_iff_forall_mem] at h1
          have h2 := h1 e he
          simp only [hb, Bool.not_true, Bool.false_or, decide_eq_true_eq] at h2
          have h3 := ih e.on h2 (by omega)
          have hl3 : e.on < Ls.size := by omega
          rw [Array.getElem?_eq_getElem hl3] at h3
          simp only [Option.some.injEq] at h3
          simp [Array.getD, hl3, h3]
      rw [hg, Array.getElem?_eq_getElem hi]
      simp only [Bool.not_false, Option.map_some, Option.getD_some, Bool.true_and]
      exact hall

theorem count_set {Ls : Array Bool} {i : Nat} (h : Ls[i]? = some false) : (Ls.setIfInBounds i true).toList.count false + 1 = Ls.toList.count false := by
  have hi : i < Ls.size := (Array.getElem?_eq_some_iff.1 h).1
  obtain ⟨l, rfl⟩ : ∃ l : List Bool, Ls = ⟨l⟩ := ⟨Ls.toList, rfl⟩
  have h' : l[i]? = some false := by simpa using h
  clear h hi
  have key : ∀ (l : List Bool) (i : Nat), l[i]? = some false → (l.set i true).count false + 1 = l.count false := by
    intro l
    induction l with
    | nil => intro i h; simp at h
    | cons b l ih =>
      intro i h
      cases i with
      | zero => simp at h; subst h; simp
      | succ i =>
        have := ih i (by simpa using h)
        simp only [List.set_cons_succ, List.count_cons]
        omega
  simpa using key l i h'

theorem wpAny_sets (Inv : Array Bool → Act → World → Prop) (hd : edgesDown ops = true)
    (step : ∀ Ls a w i o, Inv Ls a w → ops[i]? = some o → Ls.size = ops.size → Ls[i]? = some false → (∀ e ∈ o.after, Region.binds .any e = true → Ls[e.on]? = some true) →
      (if Region.wanted o (yielded ops a.tmps) then o.wpIn F n P a w (Inv (Ls.setIfInBounds i true)) Q else (∀ f, o.about P w a.eval = some f → F.fn f) ∧ Inv (Ls.setIfInBounds i true) (a.put o.dst undef) w))
    (hend : ∀ Ls a w, Inv Ls a w → (∀ i, i < ops.size → Ls[i]? = some true) → Q .normal a w) :
    ∀ (fuel : Nat) (Ls : Array Bool) (a : Act) (w : World), Ls.size = ops.size → Ls.toList.count false ≤ fuel → Inv Ls a w → wpAnyIn F n P .any ops Q fuel Ls a w := by
  intro fuel
  induction fuel with
  | zero =>
    intro Ls a w hs hc hI
    have hall : ∀ i, i < ops.size → Ls[i]? = some true := by
      intro i hi
      have hlt : i < Ls.size := by omega
      rw [Array.getElem?_eq_getElem hlt]
      cases hv : Ls[i] with
      | true => rfl
      | false =>
        exfalso
        have : false ∈ Ls.toList := by rw [← hv]; simp
        have := List.count_pos_iff.2 this
        omega
    refine ⟨?_, hend Ls a w hI hall⟩
    unfold Region.ready
    rw [List.filter_eq_nil_iff]
    intro i hi
    have h1 := hall i (List.mem_range.1 hi)
    have hlt : i < Ls.size := (Array.getElem?_eq_some_iff.1 h1).1
    have : Ls.getD i true = true := by
      rw [Array.getElem?_eq_getElem hlt] at h1
      simp only [Option.some.injEq] at h1
      simp [Array.getD, hlt, h1]
    simp only [this, Bool.not_true, Bool.false_and]
    simp
  | succ fuel ih =>
    intro Ls a w hs hc hI
    refine ⟨fun hr => hend Ls a w hI (ready_nil hs hd hr), ?_⟩
    intro i hi
    unfold Region.ready at hi
    rw [List.mem_filter] at hi
    obtain ⟨hi1, hi2⟩ := hi
    have hi1 := List.mem_range.1 hi1
    rw [Bool.and_eq_true] at hi2
    obtain ⟨hi3, hi4⟩ := hi2
    have hlt : i < Ls.size := by omega
    have hLs : Ls[i]? = some false := by
      rw [Array.getElem?_eq_getElem hlt]
      simp only [Array.getD, hlt, dite_true, Array.getInternal_eq_getElem, Bool.not_eq_true'] at hi3
      rw [hi3]
    have ho : ops[i]? = some ops[i] := Array.getElem?_eq_getElem hi1
    rw [ho] at hi4
    simp only [Option.map_some, Option.getD_some] at hi4
    rw [Array.all_eq_true_iff_forall_mem] at hi4
    have hst := step Ls a w i ops[i] hI ho hs hLs (fun e he hb => by
      have h5 := hi4 e he
      rw [hb] at h5
      simp only [Bool.not_true, Bool.false_or] at h5
      unfold Array.getD at h5
      split at h5
      · rename_i hl; rw [Array.getElem?_eq_getElem hl]; simpa using h5
      · cases h5)
    have hnext : ∀ a w, Inv (Ls.setIfInBounds i true) a w → wpAnyIn F n P .any ops Q fuel (Ls.setIfInBounds i true) a w := fun a w h =>
      ih _ a w (by simpa using hs) (by have := count_set hLs; omega) h
    unfold wpOpIn
    rw [ho]
    simp only
    split
    · rename_i hw
      rw [if_pos hw] at hst
      exact Oper.wpIn_mono hnext hst
    · rename_i hw
      rw [if_neg hw] at hst
      exact ⟨hst.1, hnext _ _ hst.2⟩
end sets

/-! ### Operations that ask for what they hang on -/
def deps (o : Oper) : List Nat := ((o.after.toList.filter (Region.binds .any)).map (·.on)).eraseDups
def dstOf (ops : Array Oper) (j : Nat) : Option Tmp := (ops[j]?).bind (·.dst)
def pairs (ops : Array Oper) (js : List Nat) (y : Nat → Value) : List (Tmp × Value) := js.filterMap fun j => (dstOf ops j).map fun t => (t, y j)

def slotsOf (ops : Array Oper) (o : Oper) : List Tmp :=
  (o.op.operands.toList.filterMap fun | .tmp t => some t | _ => none) ++ (match o.guard with | some (j, _) => (dstOf ops j).toList | none => [])
def Oper.noSelect (o : Oper) : Bool := match o.op with | .select .. => false | _ => true

/-- What is reached down the edges: j - 1, .., 0 are looked at, in this order. -/
def reach (ops : Array Oper) : Nat → List Nat → List Nat
  | 0, S => S
  | j + 1, S => reach ops j (if S.contains j then (match ops[j]? with | some o => (deps o).filter (fun d => !S.contains d) | none => []) ++ S else S)
def tameChk (ops : Array Oper) (m len : Nat) : Bool :=
  edgesDown ops && decide (m ≤ ops.size) &&
  ((List.range m).all fun i => (dstOf ops i).any fun t => decide (t < len) && ((List.range m).all fun j => decide (i = j) || decide (dstOf ops j ≠ some t))) &&
  ((List.range m).all fun i => (ops[i]?).all fun o => Oper.noDefer o && Oper.noSelect o && decide (deps o).Nodup &&
    ((slotsOf ops o).all fun t => (List.range m).all fun j => decide (dstOf ops j ≠ some t) || (deps o).contains j || ((ops[j]?).any fun oj => (deps oj).contains i)) ) &&
  ((List.range ops.size).all fun i => decide (i < m) || ((ops[i]?).all fun o => Oper.noDefer o && (List.range i).all fun j => (reach ops i (deps o)).contains j))

theorem setAll_length (r : List (Tmp × Value)) : ∀ l : List Value, (setAll l r).length = l.length := by
  induction r with
  | nil => intro l; rfl
  | cons x r ih => intro l; obtain ⟨t, v⟩ := x; simp [setAll, ih]
theorem getD_set (l : List Value) (t u : Nat) (v : Value) : (l.set t v).getD u undef = if t = u ∧ u < l.length then v else l.getD u undef := by
  simp only [List.getD, List.getElem?_set]
  split
  · rename_i h; subst h
    split
    · rename_i h2; simp [h2]
    · rename_i h2; simp [h2, List.getElem?_eq_none (by omega : l.length ≤ t)]
  · rename_i h; simp [h]
theorem setAll_other {r : List (Tmp × Value)} {t : Tmp} (h : ∀ v, (t, v) ∉ r) : ∀ l : List Value, (setAll l r).getD t undef = l.getD t undef := by
  induction r with
  | nil => intro l; rfl
  | cons x r ih =>
    intro l
    obtain ⟨u, v⟩ := x
    rw [setAll, ih (fun v h' => h v (List.mem_cons_of_mem _ h')), getD_set]
    rw [if_neg]
    rintro ⟨rfl, _⟩
    exact h v (List.mem_cons_self ..)
theorem setAll_at {r : List (Tmp × Value)} {t : Tmp} {v : Value} (hu : ∀ v', (t, v') ∈ r → v' = v) (hx : ∃ v', (t, v') ∈ r) : ∀ l : List Value, t < l.length → (setAll l r).getD t undef = v := by
  induction r with
  | nil => intro l _; obtain ⟨_, h⟩ := hx; cases h
  | cons x r ih =>
    intro l hl
    obtain ⟨u, v1⟩ := x
    rw [setAll]
    by_cases hr : ∃ v', (t, v') ∈ r
    · exact ih (fun v' h' => hu v' (List.mem_cons_of_mem _ h')) hr _ (by simpa using hl)
    · rw [setAll_other (fun v' h' => hr ⟨v', h'⟩), getD_set]
      obtain ⟨v', h'⟩ := hx
      rcases List.mem_cons.1 h' with e | h'
      · cases e
        rw [if_pos ⟨rfl, hl⟩]
        exact hu _ (List.mem_cons_self ..)
      · exact absurd ⟨v', h'⟩ hr
theorem mem_pairs {ops : Array Oper} {js : List Nat} {y : Nat → Value} {t : Tmp} {v : Value} : (t, v) ∈ pairs ops js y ↔ ∃ j ∈ js, dstOf ops j = some t ∧ v = y j := by
  unfold pairs
  rw [List.mem_filterMap]
  constructor
  · rintro ⟨j, hj, h⟩
    obtain ⟨t', ht, e⟩ := Option.map_eq_some_iff.1 h
    cases e
    exact ⟨j, hj, ht, rfl⟩
  · rintro ⟨j, hj, h, rfl⟩
    exact ⟨j, hj, by rw [h]; rfl⟩
theorem ext_getD {l l' : List Value} (hl : l.length = l'.length) (h : ∀ t, t < l.length → l.getD t undef = l'.getD t undef) : l = l' := by
  apply List.ext_getElem hl
  intro i h1 h2
  have := h i h1
  simpa [List.getD, h1, h2] using this

theorem count_filter_range (p : Nat → Bool) (n a : Nat) : ((List.range n).filter p).count a = if a < n ∧ p a = true then 1 else 0 := by
  by_cases hp : p a = true
  · rw [List.count_filter hp]
    by_cases ha : a < n
    · simp [ha, hp, List.count_range]
    · simp [ha, List.count_range]
  · rw [if_neg (by simp [hp])]
    exact List.count_eq_zero.2 fun h => hp (List.mem_filter.1 h).2

/-- No panic. -/
def NoQ : Exit → Act → World → Prop := fun _ _ _ => False

/-- One operation's part. -/
def TameOp (ro : Option Nat) (P : Program) (ops : Array Oper) (l0 : List Value) (ds : List Deferred) (E : Env) (L : List Item) (phi : Nat → Env → Value → Prop) (it : Nat → Value → List Item) (i : Nat) (o : Oper) : Prop :=
  ∀ (y : Nat → Value) (E1 : Env) (Lx : List Item) (w : World), E.Le E1 → (∀ j ∈ deps o, phi j E1 (y j)) → Sat E1 (L ++ ((deps o).flatMap (fun j => it j (y j)) ++ Lx)) w →
    (match gslot ops o with
     | none => OW ro P o (setAll l0 (pairs ops (deps o) y)) ds w (fun l' w' => ∃ v E2, l' = put (setAll l0 (pairs ops (deps o) y)) o.dst v ∧ E1.Le E2 ∧ phi i E2 v ∧ Sat E2 (L ++ (it i v ++ ((deps o).flatMap (fun j => it j (y j)) ++ Lx))) w') NoQ
     | some (t, b) => (gval (setAll l0 (pairs ops (deps o) y)) t = some b → OW ro P o (setAll l0 (pairs ops (deps o) y)) ds w (fun l' w' => ∃ v E2, l' = put (setAll l0 (pairs ops (deps o) y)) o.dst v ∧ E1.Le E2 ∧ phi i E2 v ∧ Sat E2 (L ++ (it i v ++ ((deps o).flatMap (fun j => it j (y j)) ++ Lx))) w') NoQ) ∧
        (gval (setAll l0 (pairs ops (deps o) y)) t ≠ some b → phi i E1 undef ∧ it i undef = []))

theorem TameOp.plain {ro : Option Nat} {P : Program} {ops : Array Oper} {l0 : List Value} {ds : List Deferred} {E : Env} {L : List Item} {phi : Nat → Env → Value → Prop} {it : Nat → Value → List Item} {i : Nat} {o : Oper} (hg : o.guard = none) (js : List Nat) (hj : deps o = js)
    (h : ∀ (y : Nat → Value) (E1 : Env) (Lx : List Item) (w : World), E.Le E1 → (∀ j ∈ js, phi j E1 (y j)) → Sat E1 (L ++ (js.flatMap (fun j => it j (y j)) ++ Lx)) w →
      OW ro P o (setAll l0 (pairs ops js y)) ds w (fun l' w' => ∃ v E2, l' = put (setAll l0 (pairs ops js y)) o.dst v ∧ E1.Le E2 ∧ phi i E2 v ∧ Sat E2 (L ++ (it i v ++ (js.flatMap (fun j => it j (y j)) ++ Lx))) w') NoQ) :
    TameOp ro P ops l0 ds E L phi it i o := by
  subst hj
  intro y E1 Lx w h1 h2 h3
  have e : gslot ops o = none := by simp [gslot, hg]
  rw [e]
  exact h y E1 Lx w h1 h2 h3

def TameOps (ro : Option Nat) (P : Program) (ops : Array Oper) (l0 : List Value) (ds : List Deferred) (E : Env) (L : List Item) (phi : Nat → Env → Value → Prop) (it : Nat → Value → List Item) : Nat → List Oper → Prop
  | _, [] => True
  | i, o :: r => TameOp ro P ops l0 ds E L phi it i o ∧ TameOps ro P ops l0 ds E L phi it (i + 1) r
theorem TameOps.get {ro : Option Nat} {P : Program} {ops : Array Oper} {l0 : List Value} {ds : List Deferred} {E : Env} {L : List Item} {phi : Nat → Env → Value → Prop} {it : Nat → Value → List Item} (os : List Oper) :
    ∀ (k : Nat), TameOps ro P ops l0 ds E L phi it k os → ∀ (i : Nat) (o : Oper), os[i]? = some o → TameOp ro P ops l0 ds E L phi it (k + i) o := by
  generalize hT : TameOp ro P ops l0 ds E L phi it = T
  have key : ∀ (os : List Oper) (k : Nat), TameOps ro P ops l0 ds E L phi it k os → ∀ (i : Nat) (o : Oper), os[i]? = some o → T (k + i) o := by
    intro os
    induction os with
    | nil => intro k _ i o e; simp at e
    | cons o r ih =>
      intro k h i o' e
      have h1 : T k o := hT ▸ h.1
      have h2 := ih (k + 1) h.2
      clear h
      cases i with
      | zero => simp at e; subst e; exact h1
      | succ i =>
        have h3 := h2 i o' (by simpa using e)
        have e' : k + 1 + i = k + (i + 1) := by omega
        rw [e'] at h3
        exact h3
  exact key os

/-- All values are known, nothing is made. -/
def QuietOps (ro : Option Nat) (P : Program) (ops : Array Oper) (l0 : List Value) (ds : List Deferred) (E : Env) (L : List Item) (vals : List Value) : Nat → List Oper → Prop
  | _, [] => True
  | i, o :: r => (o.guard = none ∧ ∀ (v : Value) (E1 : Env) (Lx : List Item) (w : World), vals[i]? = some v → E.Le E1 → Sat E1 (L ++ Lx) w →
      OW ro P o (setAll l0 (pairs ops (deps o) fun j => vals.getD j undef)) ds w (fun l' w' => l' = put (setAll l0 (pairs ops (deps o) fun j => vals.getD j undef)) o.dst v ∧ Sat E1 (L ++ Lx) w') NoQ) ∧ QuietOps ro P ops l0 ds E L vals (i + 1) r
theorem pairs_congr {ops : Array Oper} {js : List Nat} {y y' : Nat → Value} (h : ∀ j ∈ js, y j = y' j) : pairs ops js y = pairs ops js y' := by
  induction js with
  | nil => rfl
  | cons j js ih =>
    have := ih fun j hj => h j (List.mem_cons_of_mem _ hj)
    unfold pairs at this ⊢
    rw [List.filterMap_cons, List.filterMap_cons, h j (List.mem_cons_self ..), this]
theorem quiet_tame {ro : Option Nat} {P : Program} {ops : Array Oper} {l0 : List Value} {ds : List Deferred} {E : Env} {L : List Item} {vals : List Value} : ∀ (os : List Oper) (k : Nat), k + os.length ≤ vals.length → QuietOps ro P ops l0 ds E L vals k os →
    TameOps ro P ops l0 ds E L (fun i _ v => vals[i]? = some v) (fun _ _ => []) k os := by
  intro os
  induction os with
  | nil => intro k _ _; trivial
  | cons o r ih =>
    intro k hk h
    refine ⟨TameOp.plain h.1.1 _ rfl ?_, ih (k + 1) (by simp at hk ⊢; omega) h.2⟩
    intro y E1 Lx w hE hph hS
    have hkl : k < vals.length := by simp at hk; omega
    have hv : vals[k]? = some vals[k] := List.getElem?_eq_getElem hkl
    have hfl : (deps o).flatMap (fun j => (fun _ _ => [] : Nat → Value → List Item) j (y j)) = [] := by simp
    rw [hfl] at hS
    have hp : pairs ops (deps o) y = pairs ops (deps o) fun j => vals.getD j undef := pairs_congr fun j hj => by
      have := hph j hj
      simp [List.getD, this]
    rw [hp]
    refine OW.mono (h.1.2 _ E1 Lx w hv hE hS) ?_
    rintro l' w' ⟨h1, h2⟩
    exact ⟨_, E1, h1, Env.Le.refl _, hv, by rw [hfl]; exact h2⟩

/-- The same operation on another frame that shows the same to it. -/
theorem ow_view {ro : Option Nat} {P : Program} {o : Oper} {l lc : List Value} {ds : List Deferred} {w : World} {nx : Value → World → Prop} {next : List Value → World → Prop} {Q : Exit → Act → World → Prop}
    (hd : Oper.noDefer o = true) (hs : Oper.noSelect o = true) (hv : ∀ x ∈ o.op.operands, ev l x = ev lc x)
    (h : OW ro P o lc ds w (fun l' w' => ∃ v, l' = put lc o.dst v ∧ nx v w') NoQ) (hn : ∀ v w', nx v w' → next (put l o.dst v) w') (hdst : ∀ v v', put lc o.dst v = put lc o.dst v' → v = v') : OW ro P o l ds w next Q := by
  unfold OW Oper.wpIn at *
  refine ⟨fun _ _ => trivial, ?_⟩
  obtain ⟨_, h⟩ := h
  rw [semAt_plain hd, A_eval] at h ⊢
  rw [execOp_congr o (fun cs b e => by simp [Oper.noSelect, e] at hs) hv]
  generalize (execOp (ev lc) o).run P w = r at *
  have hput : ∀ v w', (∃ l', (A lc ds).put o.dst v = A l' ds ∧ ∃ v', l' = put lc o.dst v' ∧ nx v' w') → ∃ l', (A l ds).put o.dst v = A l' ds ∧ next l' w' := by
    rintro v w' ⟨l', e1, v', rfl, hx⟩
    rw [A_put] at e1
    have e2 : put lc o.dst v = put lc o.dst v' := by
      have := congrArg (fun a : Act => a.tmps.toList) e1
      simpa [A] using this
    obtain rfl := hdst _ _ e2
    exact ⟨_, A_put l ds o.dst v, hn _ _ hx⟩
  cases r with
  | halt x w' => cases x <;> simp only [Oper.uponIn, NoQ] at h <;> exact h.elim
  | ok x w' =>
    cases x <;> simp only [Oper.uponIn] at h ⊢ <;> first
      | exact h.elim
      | exact hput _ _ h
      | skip
    case enter f args =>
      refine ⟨h.1, h.2.mono ?_⟩
      intro e w'' he
      cases e with
      | returned v => exact hput _ _ he
      | panicked c => exact he.elim
      | outgrown => obtain ⟨_, _, hh⟩ := he; exact hh.elim
    case row r args => exact ⟨h.1, h.2.mono fun v w'' he => hput _ _ he⟩
    case round k f tmps asg bd =>
      refine ⟨h.1, h.2.mono ?_⟩
      intro e w'' he
      cases e with
      | returned v => exact hput _ _ he
      | panicked c => exact he.elim
      | outgrown => obtain ⟨_, _, hh⟩ := he; exact hh.elim
    case defer d =>
      obtain ⟨l', e1, _⟩ := h
      exfalso
      have := congrArg (fun a : Act => a.defers.length) e1
      cases hdd : o.dst <;> simp [A, Act.put, hdd] at this
end Go.Proofs.YtomfoaaaeidpnaaDoor
namespace Go.Proofs.YtomfoaaaeidpnaaDoor
open Go Go.RowKit

section
variable {ro : Option Nat} {P : Program} {ops : Array Oper} {l : List Value} {ds : List Deferred} {E : Env} {L : List Item} {Q : Exit → Act → World → Prop}

def listed (m : Nat) (Ls : Array Bool) : List Nat := (List.range m).filter fun j => Ls[j]? == some true

structure TInv (ops : Array Oper) (l : List Value) (ds : List Deferred) (E : Env) (L : List Item) (m : Nat) (phi : Nat → Env → Value → Prop) (it : Nat → Value → List Item) (Ls : Array Bool) (w : World) (y : Nat → Value) (E' : Env) (l' : List Value) : Prop where
  len : l'.length = l.length
  later : ∀ j, m ≤ j → j < ops.size → Ls[j]? = some false
  base : ∀ t, (∀ j, j < m → Ls[j]? = some true → dstOf ops j ≠ some t) → l'.getD t undef = l.getD t undef
  done : ∀ j t, j < m → Ls[j]? = some true → dstOf ops j = some t → l'.getD t undef = y j
  closed : ∀ j, j < m → Ls[j]? = some true → ∀ o, ops[j]? = some o → ∀ d ∈ deps o, Ls[d]? = some true
  le : E.Le E'
  phi : ∀ j, j < m → Ls[j]? = some true → phi j E' (y j)
  sat : Sat E' ((listed m Ls).flatMap (fun j => it j (y j)) ++ L) w

theorem mem_deps {o : Oper} {d : Nat} : d ∈ deps o ↔ ∃ e ∈ o.after, Region.binds .any e = true ∧ e.on = d := by
  unfold deps
  rw [List.mem_eraseDups, List.mem_map]
  constructor
  · rintro ⟨e, he, rfl⟩
    rw [List.mem_filter] at he
    exact ⟨e, Array.mem_toList_iff.1 he.1, he.2, rfl⟩
  · rintro ⟨e, he, hb, rfl⟩
    exact ⟨e, List.mem_filter.2 ⟨Array.mem_toList_iff.2 he, hb⟩, rfl⟩

theorem reach_sound {Ls : Array Bool} (hcl : ∀ j : Nat, Ls[j]? = some true → ∀ oj, ops[j]? = some oj → ∀ d ∈ deps oj, Ls[d]? = some true) : ∀ (n : Nat) (S : List Nat), (∀ d ∈ S, Ls[d]? = some true) → ∀ d ∈ reach ops n S, Ls[d]? = some true := by
  intro n
  induction n with
  | zero => intro S h d hd; exact h d hd
  | succ j ih =>
    intro S h d hd
    unfold reach at hd
    refine ih _ ?_ d hd
    split
    · rename_i hj
      intro x hx
      rcases List.mem_append.1 hx with hx | hx
      · cases ho : ops[j]? with
        | none => rw [ho] at hx; cases hx
        | some o =>
          rw [ho] at hx
          exact hcl j (h j (by simpa using hj)) o ho x (List.mem_filter.1 hx).1
      · exact h x hx
    · exact h
theorem deps_lt (hd : edgesDown ops = true) {j : Nat} {o : Oper} (ho : ops[j]? = some o) : ∀ d ∈ deps o, d < j := by
  intro d hdd
  obtain ⟨e, he, hb, rfl⟩ := mem_deps.1 hdd
  unfold edgesDown at hd
  rw [List.all_eq_true] at hd
  have hj := (Array.getElem?_eq_some_iff.1 ho).1
  have h1 := hd j (List.mem_range.2 hj)
  rw [ho] at h1
  simp only [Option.map_some, Option.getD_some] at h1
  rw [Array.all_eq_true_iff_forall_mem] at h1
  have h2 := h1 e he
  simpa [hb] using h2
theorem mem_listed {m : Nat} {Ls : Array Bool} {j : Nat} : j ∈ listed m Ls ↔ j < m ∧ Ls[j]? = some true := by
  simp [listed]
theorem count_listed (m : Nat) (Ls : Array Bool) (a : Nat) : (listed m Ls).count a = if a < m ∧ Ls[a]? = some true then 1 else 0 := by
  have := count_filter_range (fun j => Ls[j]? == some true) m a
  simpa [listed] using this
theorem count_nodup {l : List Nat} (h : l.Nodup) (a : Nat) : l.count a = if a ∈ l then 1 else 0 := by
  by_cases ha : a ∈ l
  · rw [if_pos ha]
    have h1 := List.nodup_iff_count.1 h a
    have h2 := List.count_pos_iff.2 ha
    omega
  · rw [if_neg ha, List.count_eq_zero.2 ha]

theorem perm_deps {m : Nat} {Ls : Array Bool} {ks : List Nat} (hn : ks.Nodup) (hk : ∀ d ∈ ks, d < m ∧ Ls[d]? = some true) : ∃ rest, (listed m Ls).Perm (ks ++ rest) := by
  refine ⟨(listed m Ls).filter fun j => !ks.contains j, List.perm_iff_count.2 fun a => ?_⟩
  rw [List.count_append, count_nodup hn]
  by_cases ha : a ∈ ks
  · obtain ⟨h1, h2⟩ := hk a ha
    rw [if_pos ha, count_listed, if_pos ⟨h1, h2⟩, List.count_eq_zero.2]
    intro h
    have := (List.mem_filter.1 h).2
    simp [ha] at this
  · rw [if_neg ha, List.count_filter (by simp [ha])]
    omega
theorem perm_next {m : Nat} {Ls : Array Bool} {i : Nat} (hi : i < m) (hf : Ls[i]? = some false) : (listed m (Ls.setIfInBounds i true)).Perm (i :: listed m Ls) := by
  refine List.perm_iff_count.2 fun a => ?_
  rw [List.count_cons, count_listed, count_listed, Array.getElem?_setIfInBounds]
  have hlt : i < Ls.size := (Array.getElem?_eq_some_iff.1 hf).1
  by_cases h : i = a
  · subst h
    rw [hf]; simp [hi, hlt]
  · simp [h]

theorem TInv.next {m : Nat} {phi : Nat → Env → Value → Prop} {it : Nat → Value → List Item} {Ls : Array Bool} {w w' : World} {y : Nat → Value} {E' E2 : Env} {l' : List Value} {i : Nat} {o : Oper} {t : Tmp} {v : Value} {Lr : List Item}
    (h : TInv ops l ds E L m phi it Ls w y E' l') (hi : i < m) (ho : ops[i]? = some o) (hf : Ls[i]? = some false) (hdst : dstOf ops i = some t) (ht : t < l.length) (huniq : ∀ j, j < m → j ≠ i → dstOf ops j ≠ some t)
    (hafter : ∀ d ∈ deps o, Ls[d]? = some true) (hphi : ∀ i E1 E2 v, Env.Le E1 E2 → phi i E1 v → phi i E2 v) (hle : E'.Le E2) (hp : phi i E2 v)
    (hr : ((listed m Ls).flatMap (fun j => it j (y j)) ++ L).Perm Lr) (hs : Sat E2 (it i v ++ Lr) w') :
    TInv ops l ds E L m phi it (Ls.setIfInBounds i true) w' (fun j => if j = i then v else y j) E2 (l'.set t v) := by
  have hlt : i < Ls.size := (Array.getElem?_eq_some_iff.1 hf).1
  have hnew : ∀ j, (Ls.setIfInBounds i true)[j]? = some true ↔ j = i ∨ Ls[j]? = some true := by
    intro j
    rw [Array.getElem?_setIfInBounds]
    by_cases hj : i = j
    · subst hj; simp [hlt]
    · simp [hj, Ne.symm hj]
  refine ⟨by simp [h.len], ?_, ?_, ?_, ?_, h.le.trans hle, ?_, ?_⟩
  · intro j h1 h2
    rw [Array.getElem?_setIfInBounds, if_neg (by omega)]
    exact h.later j h1 h2
  · intro u hu
    rw [getD_set, if_neg]
    · exact h.base u fun j hj hl => hu j hj ((hnew j).2 (.inr hl))
    · rintro ⟨rfl, _⟩
      exact hu i hi ((hnew i).2 (.inl rfl)) hdst
  · intro j u hj hl hd
    rw [getD_set]
    by_cases hji : j = i
    · subst hji
      rw [hdst] at hd
      cases hd
      rw [if_pos ⟨rfl, by rw [h.len]; exact ht⟩]; simp
    · rw [if_neg, if_neg hji]
      · exact h.done j u hj (((hnew j).1 hl).resolve_left hji) hd
      · rintro ⟨rfl, _⟩
        exact huniq j hj hji hd
  · intro j hj hl o' ho' d hd
    refine (hnew d).2 (.inr ?_)
    rcases (hnew j).1 hl with rfl | hl
    · rw [ho] at ho'; cases ho'; exact hafter d hd
    · exact h.closed j hj hl o' ho' d hd
  · intro j hj hl
    by_cases hji : j = i
    · subst hji; simpa using hp
    · rw [if_neg hji]; exact hphi _ _ _ _ hle (h.phi j hj (((hnew j).1 hl).resolve_left hji))
  · refine hs.perm ?_
    refine (List.Perm.append_left _ hr.symm).trans ?_
    have h1 : (it i v ++ ((listed m Ls).flatMap (fun j => it j (y j)) ++ L)) = ((i :: listed m Ls).flatMap (fun j => it j (if j = i then v else y j)) ++ L) := by
      rw [List.flatMap_cons, List.append_assoc]
      congr 1
      · simp
      · congr 1
        unfold List.flatMap
        congr 1
        apply List.map_congr_left
        intro j hj
        have hj' := (mem_listed.1 hj).2
        rw [if_neg (fun e => by subst e; rw [hf] at hj'; cases hj')]
    rw [h1]
    exact List.Perm.append_right _ (List.Perm.flatMap_right _ (perm_next hi hf).symm)

theorem wc_tame {id : Nat} {w : World} (m : Nat) (phi : Nat → Env → Value → Prop) (it : Nat → Value → List Item) (hm : P.follows .mixedOrders = true) (hc : tameChk ops m l.length = true) (hA : Sat E L w)
    (hphi : ∀ i E1 E2 v, Env.Le E1 E2 → phi i E1 v → phi i E2 v) (hops : TameOps ro P ops l ds E L phi it 0 (ops.toList.take m))
    (hK : ∀ (y : Nat → Value) (E' : Env) (w' : World), E.Le E' → (∀ j, j < m → phi j E' (y j)) → Sat E' ((List.range m).flatMap (fun j => it j (y j)) ++ L) w' →
      RL ro P ds (fun l w => Q .normal (A l ds) w) Q ((annot ops).drop m) (setAll l (pairs ops (List.range m) y)) w') :
    WC ro P (.region id ops true) Q l ds w := by
  unfold tameChk at hc
  simp only [Bool.and_eq_true, decide_eq_true_eq] at hc
  obtain ⟨⟨⟨⟨hdown, hmn⟩, hd1⟩, hd2⟩, hd3⟩ := hc
  refine wpIn_region_any hm ?_
  have hann : ∀ k, (hk : k < ops.size) → (annot ops).drop k = (ops[k], gslot ops ops[k]) :: (annot ops).drop (k + 1) := by
    intro k hk
    rw [List.drop_eq_getElem_cons (by simpa [annot] using hk)]
    simp [annot]
  let Inv : Array Bool → Act → World → Prop := fun Ls a w =>
    (∃ y E' l', a = A l' ds ∧ TInv ops l ds E L m phi it Ls w y E' l') ∨
    (∃ k l', m < k ∧ k ≤ ops.size ∧ (∀ j, j < k → Ls[j]? = some true) ∧ (∀ j, k ≤ j → j < ops.size → Ls[j]? = some false) ∧ a = A l' ds ∧ RL ro P ds (fun l w => Q .normal (A l ds) w) Q ((annot ops).drop k) l' w)
  refine wpAny_sets Inv hdown ?_ ?_ ops.size _ _ _ (by simp) ?_ ?_
  · intro Ls a w i o hI ho hsz hf hafter
    have hin : i < ops.size := (Array.getElem?_eq_some_iff.1 ho).1
    have hoi : ops[i] = o := (Array.getElem?_eq_some_iff.1 ho).2
    have hadep : ∀ d ∈ deps o, Ls[d]? = some true := by
      intro d hd
      obtain ⟨e, he, hb, rfl⟩ := mem_deps.1 hd
      exact hafter e he hb
    have hclosed : ∀ j : Nat, Ls[j]? = some true → ∀ oj, ops[j]? = some oj → ∀ d ∈ deps oj, Ls[d]? = some true := by
      intro j hj oj hoj d hd
      have hjn : j < ops.size := (Array.getElem?_eq_some_iff.1 hoj).1
      rcases hI with ⟨y, E', l', _, T⟩ | ⟨k, l', _, _, hlt, hge, _, _⟩
      · rcases Nat.lt_or_ge j m with h1 | h1
        · exact T.closed j h1 hj oj hoj d hd
        · rw [T.later j h1 hjn] at hj; cases hj
      · rcases Nat.lt_or_ge j k with h1 | h1
        · have := deps_lt hdown hoj d hd
          exact hlt d (by omega)
        · rw [hge j h1 hjn] at hj; cases hj
    have tailDeps : m ≤ i → Oper.noDefer o = true ∧ ∀ j, j < i → Ls[j]? = some true := by
      intro hmi
      have h1 := List.all_eq_true.1 hd3 i (List.mem_range.2 hin)
      rw [ho] at h1
      simp only [Option.all_some, Bool.or_eq_true, decide_eq_true_eq, Bool.and_eq_true] at h1
      have h2 := h1.resolve_left (by omega)
      refine ⟨h2.1, fun j hj => ?_⟩
      have h3 := List.all_eq_true.1 h2.2 j (List.mem_range.2 hj)
      exact reach_sound hclosed i (deps o) hadep j (by simpa using h3)
    -- an operation of the tail, carried out in its turn
    have tailStep : ∀ l', RL ro P ds (fun l w => Q .normal (A l ds) w) Q ((annot ops).drop i) l' w → a = A l' ds → m ≤ i → (∀ j, i < j → j < ops.size → Ls[j]? = some false) →
        (if Region.wanted o (yielded ops a.tmps) then o.wpIn (WF ro) 0 P a w (Inv (Ls.setIfInBounds i true)) Q else (∀ f, o.about P w a.eval = some f → (WF ro).fn f) ∧ Inv (Ls.setIfInBounds i true) (a.put o.dst undef) w) := by
      intro l' hRL ha hmi hlater
      subst ha
      obtain ⟨hnd, hall⟩ := tailDeps hmi
      rw [hann i hin, hoi] at hRL
      have hlt : i < Ls.size := by omega
      have mk : ∀ l'' w'', RL ro P ds (fun l w => Q .normal (A l ds) w) Q ((annot ops).drop (i + 1)) l'' w'' → Inv (Ls.setIfInBounds i true) (A l'' ds) w'' := by
        intro l'' w'' h
        refine .inr ⟨i + 1, l'', by omega, by omega, ?_, ?_, rfl, h⟩
        · intro j hj
          rw [Array.getElem?_setIfInBounds]
          by_cases hji : i = j
          · subst hji; simp [hlt]
          · rw [if_neg hji]; exact hall j (by omega)
        · intro j hj hjn
          rw [Array.getElem?_setIfInBounds, if_neg (by omega)]
          exact hlater j (by omega) hjn
      have hty : (A l' ds).tmps = ⟨l'⟩ := rfl
      rw [hty]
      unfold Region.wanted
      cases hg : o.guard with
      | none =>
        have e : gslot ops o = none := by simp [gslot, hg]
        rw [e] at hRL
        simp only [if_true]
        exact Oper.wpIn_mono (fun a w ⟨l'', e, h⟩ => e ▸ mk l'' w h) hRL
      | some jb =>
        obtain ⟨j, b⟩ := jb
        have e : gslot ops o = some ((ops[j]?).bind (·.dst), b) := by simp [gslot, hg]
        rw [e] at hRL
        simp only [RL] at hRL
        simp only [yielded_eq]
        by_cases hv : gval l' ((ops[j]?).bind (·.dst)) = some b
        · rw [if_pos hv] at hRL
          simp only [hv, beq_self_eq_true, if_true]
          exact Oper.wpIn_mono (fun a w ⟨l'', e, h⟩ => e ▸ mk l'' w h) hRL
        · rw [if_neg hv] at hRL
          have : (gval l' ((ops[j]?).bind (·.dst)) == some b) = false := by simpa using hv
          simp only [this, Bool.false_eq_true, if_false]
          refine ⟨fun _ _ => trivial, ?_⟩
          rw [A_put]
          exact mk _ _ hRL
    rcases hI with ⟨y, E', l', rfl, T⟩ | ⟨k, l', hmk, hkn, hlt, hge, rfl, hRL⟩
    · by_cases hmi : m ≤ i
      · -- the first of the tail
        obtain ⟨_, hall⟩ := tailDeps hmi
        have him : i = m := by
          rcases Nat.lt_or_ge m i with h1 | h1
          · have h2 := hall m h1
            have h3 := T.later m (Nat.le_refl _) (by omega)
            rw [h2] at h3; cases h3
          · omega
        subst him
        have hS : (listed i Ls) = List.range i := by
          unfold listed
          rw [List.filter_eq_self]
          intro j hj
          simp [hall j (List.mem_range.1 hj)]
        have hsat := T.sat
        rw [hS] at hsat
        have hfin := hK y E' w T.le (fun j hj => T.phi j hj (hall j hj)) hsat
        have hl' : l' = setAll l (pairs ops (List.range i) y) := by
          refine ext_getD (by rw [T.len, setAll_length]) fun t ht => ?_
          by_cases hx : ∃ j, j < i ∧ dstOf ops j = some t
          · obtain ⟨j, hj, hd⟩ := hx
            rw [T.done j t hj (hall j hj) hd]
            symm
            refine setAll_at ?_ ⟨y j, mem_pairs.2 ⟨j, List.mem_range.2 hj, hd, rfl⟩⟩ l (by rw [← T.len]; exact ht)
            intro v' hv'
            obtain ⟨j', hj', hd', rfl⟩ := mem_pairs.1 hv'
            have h1 := List.all_eq_true.1 hd1 j (List.mem_range.2 hj)
            rw [hd] at h1
            simp only [Option.any_some, Bool.and_eq_true] at h1
            have h2 := List.all_eq_true.1 h1.2 j' hj'
            simp only [Bool.or_eq_true, decide_eq_true_eq] at h2
            rcases h2 with h2 | h2
            · rw [h2]
            · exact absurd hd' h2
          · rw [T.base t fun j hj _ hd => hx ⟨j, hj, hd⟩]
            symm
            refine setAll_other (fun v hv => ?_) l
            obtain ⟨j, hj, hd, _⟩ := mem_pairs.1 hv
            exact hx ⟨j, List.mem_range.1 hj, hd⟩
        refine tailStep l' ?_ rfl hmi fun j hj hjn => T.later j (by omega) hjn
        rw [hl']; exact hfin
      · -- one of the tame ones
        have hi : i < m := by omega
        have h1 := List.all_eq_true.1 hd2 i (List.mem_range.2 hi)
        rw [ho] at h1
        simp only [Option.all_some, Bool.and_eq_true, decide_eq_true_eq] at h1
        obtain ⟨⟨⟨hnd, hns⟩, hnod⟩, hsl⟩ := h1
        have h2 := List.all_eq_true.1 hd1 i (List.mem_range.2 hi)
        cases hdst : dstOf ops i with
        | none => rw [hdst] at h2; simp at h2
        | some t =>
          rw [hdst] at h2
          simp only [Option.any_some, Bool.and_eq_true, decide_eq_true_eq] at h2
          obtain ⟨htl, huq⟩ := h2
          have huniq : ∀ j, j < m → j ≠ i → dstOf ops j ≠ some t := by
            intro j hj hji
            have h3 := List.all_eq_true.1 huq j (List.mem_range.2 hj)
            simp only [Bool.or_eq_true, decide_eq_true_eq] at h3
            exact h3.resolve_left (fun e => hji e.symm)
          have hdm : ∀ d ∈ deps o, d < m ∧ Ls[d]? = some true := by
            intro d hd
            have h3 := hadep d hd
            refine ⟨?_, h3⟩
            rcases Nat.lt_or_ge d m with h4 | h4
            · exact h4
            · have h5 := (Array.getElem?_eq_some_iff.1 h3).1
              have h6 := T.later d h4 (by omega)
              rw [h3] at h6; cases h6
          obtain ⟨rest, hrest⟩ := perm_deps hnod hdm
          have hp1 : ((listed m Ls).flatMap (fun j => it j (y j)) ++ L).Perm ((deps o).flatMap (fun j => it j (y j)) ++ (rest.flatMap (fun j => it j (y j)) ++ L)) := by
            rw [← List.append_assoc, ← List.flatMap_append]
            exact List.Perm.append_right _ (List.Perm.flatMap_right _ hrest)
          have htake : (ops.toList.take m)[i]? = some o := by
            rw [List.getElem?_take, if_pos hi]; simpa using ho
          have hop := TameOps.get (ops.toList.take m) 0 hops i o htake
          rw [Nat.zero_add] at hop
          have hq1 : ∀ X : List Item, (X ++ (rest.flatMap (fun j => it j (y j)) ++ L)).Perm (L ++ (X ++ rest.flatMap (fun j => it j (y j)))) := fun X => by
            rw [← List.append_assoc]; exact List.perm_append_comm
          have hop := hop y E' (rest.flatMap (fun j => it j (y j))) w T.le (fun j hj => T.phi j (hdm j hj).1 (hdm j hj).2) ((T.sat.perm hp1).perm (hq1 _))
          have hodst : o.dst = some t := by
            have := hdst
            unfold dstOf at this
            rw [ho] at this
            simpa using this
          have hview : ∀ u ∈ slotsOf ops o, l'.getD u undef = (setAll l (pairs ops (deps o) y)).getD u undef := by
            intro u hu
            by_cases hx : ∃ j, j < m ∧ Ls[j]? = some true ∧ dstOf ops j = some u
            · obtain ⟨j, hj, hl, hd⟩ := hx
              have h3 := List.all_eq_true.1 hsl u hu
              have h4 := List.all_eq_true.1 h3 j (List.mem_range.2 hj)
              simp only [Bool.or_eq_true, decide_eq_true_eq] at h4
              have hjd : j ∈ deps o := by
                rcases h4 with (h4 | h4) | h4
                · exact absurd hd h4
                · simpa using h4
                · exfalso
                  cases hoj : ops[j]? with
                  | none => rw [hoj] at h4; simp at h4
                  | some oj =>
                    rw [hoj] at h4
                    have := T.closed j hj hl oj hoj i (by simpa using h4)
                    rw [hf] at this; cases this
              rw [T.done j u hj hl hd]
              symm
              have h5 := List.all_eq_true.1 hd1 j (List.mem_range.2 hj)
              rw [hd] at h5
              simp only [Option.any_some, Bool.and_eq_true, decide_eq_true_eq] at h5
              refine setAll_at ?_ ⟨y j, mem_pairs.2 ⟨j, hjd, hd, rfl⟩⟩ l h5.1
              intro v' hv'
              obtain ⟨j', hj', hd', rfl⟩ := mem_pairs.1 hv'
              have h6 := List.all_eq_true.1 h5.2 j' (List.mem_range.2 (hdm j' hj').1)
              simp only [Bool.or_eq_true, decide_eq_true_eq] at h6
              rcases h6 with h6 | h6
              · rw [h6]
              · exact absurd hd' h6
            · rw [T.base u fun j hj hl hd => hx ⟨j, hj, hl, hd⟩]
              symm
              refine setAll_other (fun v hv => ?_) l
              obtain ⟨j, hj, hd, _⟩ := mem_pairs.1 hv
              exact hx ⟨j, (hdm j hj).1, (hdm j hj).2, hd⟩
          have hev : ∀ x ∈ o.op.operands, ev l' x = ev (setAll l (pairs ops (deps o) y)) x := by
            intro x hx
            cases x with
            | tmp u => exact hview u (List.mem_append_left _ (List.mem_filterMap.2 ⟨.tmp u, Array.mem_toList_iff.2 hx, rfl⟩))
            | _ => rfl
          have hinj : ∀ v v', put (setAll l (pairs ops (deps o) y)) o.dst v = put (setAll l (pairs ops (deps o) y)) o.dst v' → v = v' := by
            intro v v' e
            rw [hodst] at e
            simp only [put] at e
            have h3 := congrArg (fun l => List.getD l t undef) e
            simp only [getD_set, setAll_length, htl, and_self, if_true] at h3
            exact h3
          have hstep : OW ro P o (setAll l (pairs ops (deps o) y)) ds w (fun l' w' => ∃ v E2, l' = put (setAll l (pairs ops (deps o) y)) o.dst v ∧ E'.Le E2 ∧ phi i E2 v ∧ Sat E2 (L ++ (it i v ++ ((deps o).flatMap (fun j => it j (y j)) ++ rest.flatMap (fun j => it j (y j))))) w') NoQ →
              o.wpIn (WF ro) 0 P (A l' ds) w (Inv (Ls.setIfInBounds i true)) Q := by
            intro h
            have h7 := ow_view (Q := Q) (nx := fun v w' => ∃ E2, E'.Le E2 ∧ phi i E2 v ∧ Sat E2 (it i v ++ ((deps o).flatMap (fun j => it j (y j)) ++ (rest.flatMap (fun j => it j (y j)) ++ L))) w') (next := fun l'' w'' => Inv (Ls.setIfInBounds i true) (A l'' ds) w'') hnd hns hev
              (OW.mono h fun l'' w'' ⟨v, E2, e, h1, h2, h3⟩ => ⟨v, e, E2, h1, h2, h3.perm (by have := (hq1 (it i v ++ (deps o).flatMap (fun j => it j (y j)))).symm; simpa only [List.append_assoc] using this)⟩) (fun v w' ⟨E2, h1, h2, h3⟩ => by
                rw [hodst]
                exact .inl ⟨_, E2, l'.set t v, rfl, T.next hi ho hf hdst htl huniq hadep hphi h1 h2 hp1 h3⟩) hinj
            exact Oper.wpIn_mono (fun a w ⟨l'', e, h⟩ => e ▸ h) h7
          have hty : (A l' ds).tmps = ⟨l'⟩ := rfl
          rw [hty]
          unfold Region.wanted
          cases hg : o.guard with
          | none =>
            have e : gslot ops o = none := by simp [gslot, hg]
            rw [e] at hop
            simp only [if_true]
            exact hstep hop
          | some jb =>
            obtain ⟨j, b⟩ := jb
            have e : gslot ops o = some ((ops[j]?).bind (·.dst), b) := by simp [gslot, hg]
            rw [e] at hop
            have hgv : gval l' ((ops[j]?).bind (·.dst)) = gval (setAll l (pairs ops (deps o) y)) ((ops[j]?).bind (·.dst)) := by
              cases hdj : (ops[j]?).bind (·.dst) with
              | none => rfl
              | some u =>
                have hmem : u ∈ slotsOf ops o := by
                  unfold slotsOf
                  refine List.mem_append_right _ ?_
                  rw [hg]
                  simp only [dstOf, hdj, Option.toList_some, List.mem_singleton]
                simp only [gval, hview u hmem]
            simp only [yielded_eq, hgv]
            by_cases hv : gval (setAll l (pairs ops (deps o) y)) ((ops[j]?).bind (·.dst)) = some b
            · simp only [hv, beq_self_eq_true, if_true]
              exact hstep (hop.1 hv)
            · have hvb : (gval (setAll l (pairs ops (deps o) y)) ((ops[j]?).bind (·.dst)) == some b) = false := by simpa using hv
              simp only [hvb, Bool.false_eq_true, if_false]
              refine ⟨fun _ _ => trivial, ?_⟩
              rw [A_put, hodst]
              obtain ⟨h8, h9⟩ := hop.2 hv
              exact .inl ⟨_, E', l'.set t undef, rfl, T.next hi ho hf hdst htl huniq hadep hphi (Env.Le.refl _) h8 hp1 (by rw [h9]; exact T.sat.perm hp1)⟩
    · have hki : k ≤ i := by
        rcases Nat.lt_or_ge i k with h1 | h1
        · have := hlt i h1; rw [hf] at this; cases this
        · exact h1
      obtain ⟨_, hall⟩ := tailDeps (by omega)
      have hik : i = k := by
        rcases Nat.lt_or_ge k i with h1 | h1
        · have h2 := hall k h1
          have h3 := hge k (Nat.le_refl _) (by omega)
          rw [h2] at h3; cases h3
        · omega
      subst hik
      exact tailStep l' hRL rfl (by omega) fun j hj hjn => hge j (by omega) hjn
  · intro Ls a w hI hall
    rcases hI with ⟨y, E', l', rfl, T⟩ | ⟨k, l', hmk, hkn, hlt, hge, rfl, hRL⟩
    · have hmn' : m = ops.size := by
        rcases Nat.lt_or_ge m ops.size with h1 | h1
        · have h2 := hall m h1
          have h3 := T.later m (Nat.le_refl _) h1
          rw [h2] at h3; cases h3
        · omega
      have hS : (listed m Ls) = List.range m := by
        unfold listed
        rw [List.filter_eq_self]
        intro j hj
        simp [hall j (by rw [← hmn']; exact List.mem_range.1 hj)]
      have hsat := T.sat
      rw [hS] at hsat
      have hfin := hK y E' w T.le (fun j hj => T.phi j hj (hall j (by omega))) hsat
      have : (annot ops).drop m = [] := List.drop_eq_nil_of_le (by simp [annot, hmn'])
      rw [this] at hfin
      have hl' : l' = setAll l (pairs ops (List.range m) y) := by
        refine ext_getD (by rw [T.len, setAll_length]) fun t ht => ?_
        by_cases hx : ∃ j, j < m ∧ dstOf ops j = some t
        · obtain ⟨j, hj, hd⟩ := hx
          rw [T.done j t hj (hall j (by omega)) hd]
          symm
          refine setAll_at ?_ ⟨y j, mem_pairs.2 ⟨j, List.mem_range.2 hj, hd, rfl⟩⟩ l (by rw [← T.len]; exact ht)
          intro v' hv'
          obtain ⟨j', hj', hd', rfl⟩ := mem_pairs.1 hv'
          have h1 := List.all_eq_true.1 hd1 j (List.mem_range.2 hj)
          rw [hd] at h1
          simp only [Option.any_some, Bool.and_eq_true] at h1
          have h2 := List.all_eq_true.1 h1.2 j' hj'
          simp only [Bool.or_eq_true, decide_eq_true_eq] at h2
          rcases h2 with h2 | h2
          · rw [h2]
          · exact absurd hd' h2
        · rw [T.base t fun j hj _ hd => hx ⟨j, hj, hd⟩]
          symm
          refine setAll_other (fun v hv => ?_) l
          obtain ⟨j, hj, hd, _⟩ := mem_pairs.1 hv
          exact hx ⟨j, List.mem_range.1 hj, hd⟩
      rw [hl']
      exact hfin
    · have : k = ops.size := by
        rcases Nat.lt_or_ge k ops.size with h1 | h1
        · have h2 := hall k h1
          have h3 := hge k (Nat.le_refl _) h1
          rw [h2] at h3; cases h3
        · omega
      subst this
      have : (annot ops).drop ops.size = [] := List.drop_eq_nil_of_le (by simp [annot])
      rw [this] at hRL
      exact hRL
  · simp
  · refine .inl ⟨fun _ => undef, E, l, rfl, ⟨rfl, ?_, fun _ _ => rfl, ?_, ?_, Env.Le.refl E, ?_, ?_⟩⟩
    · intro j _ hj; simp [hj]
    · intro j t hj hl; rw [Array.getElem?_replicate] at hl; split at hl <;> cases hl
    · intro j hj hl; rw [Array.getElem?_replicate] at hl; split at hl <;> cases hl
    · intro j hj hl; rw [Array.getElem?_replicate] at hl; split at hl <;> cases hl
    · have : listed m (Array.replicate ops.size false) = [] := by
        unfold listed
        rw [List.filter_eq_nil_iff]
        intro j hj
        rw [Array.getElem?_replicate]
        split <;> simp
      rw [this]
      exact (hA.drew (w.drawn + 1)).perm (by simp)

theorem pairs_zip {m : Nat} {ts : List Tmp} {vals : List Value} (hl : vals.length = m) (hts : (List.range m).map (dstOf ops) = ts.map some) : pairs ops (List.range m) (fun j => vals.getD j undef) = ts.zip vals := by
  have key : ∀ (k : Nat) (ts : List Tmp) (vals0 : List Value), (List.range' k ts.length).map (dstOf ops) = ts.map some → vals0.drop k = vals0.drop k → k + ts.length = vals0.length →
      pairs ops (List.range' k ts.length) (fun j => vals0.getD j undef) = ts.zip (vals0.drop k) := by
    intro k ts
    induction ts generalizing k with
    | nil => intro vals0 _ _ _; simp [pairs]
    | cons t ts ih =>
      intro vals0 h _ hn
      simp only [List.length_cons, List.range'_succ, List.map_cons, List.cons.injEq] at h
      have := ih (k + 1) vals0 h.2 rfl (by simp at hn; omega)
      have hk : k < vals0.length := by simp at hn; omega
      rw [List.drop_eq_getElem_cons hk, List.zip_cons_cons, ← this]
      simp only [List.length_cons, List.range'_succ, pairs, List.filterMap_cons, h.1, Option.map_some]
      simp [List.getD, hk]
  have hlen : ts.length = m := by have := congrArg List.length hts; simpa using this.symm
  have := key 0 ts vals (by rw [hlen, ← List.range_eq_range']; exact hts) rfl (by omega)
  rw [hlen, ← List.range_eq_range'] at this
  simpa using this
theorem wc_quiet {id : Nat} {w : World} (m : Nat) (ts : List Tmp) (vals : List Value) (hl : vals.length = m) (hts : (List.range m).map (dstOf ops) = ts.map some) (hm : P.follows .mixedOrders = true) (hc : tameChk ops m l.length = true) (hA : Sat E L w) (hops : QuietOps ro P ops l ds E L vals 0 (ops.toList.take m))
    (hK : ∀ w', Sat E L w' → RL ro P ds (fun l w => Q .normal (A l ds) w) Q ((annot ops).drop m) (setAll l (ts.zip vals)) w') :
    WC ro P (.region id ops true) Q l ds w := by
  refine wc_tame m (fun i _ v => vals[i]? = some v) (fun _ _ => []) hm hc hA (fun _ _ _ _ _ h => h) (quiet_tame _ 0 (by simp; omega) hops) ?_
  intro y E' w' hE hph hS
  have hp : pairs ops (List.range m) y = pairs ops (List.range m) fun j => vals.getD j undef := pairs_congr fun j hj => by
    have := hph j (List.mem_range.1 hj)
    simp [List.getD, this]
  rw [hp, pairs_zip hl hts]
  refine hK w' (Sat.le ?_ hE)
  have hfl : (List.range m).flatMap (fun j => (fun _ _ => [] : Nat → Value → List Item) j (y j)) = [] := by simp
  rw [hfl] at hS
  exact hS
theorem QuietOps.nil {l0 : List Value} {vals : List Value} {k : Nat} : QuietOps ro P ops l0 ds E L vals k [] := trivial
theorem QuietOps.cons {l0 : List Value} {vals : List Value} {k : Nat} {o : Oper} {r : List Oper} (hg : o.guard = none) (js : List Nat) (hj : deps o = js)
    (h : ∀ (v : Value) (E1 : Env) (Lx : List Item) (w : World), vals[k]? = some v → E.Le E1 → Sat E1 (L ++ Lx) w →
      OW ro P o (setAll l0 (pairs ops js fun j => vals.getD j undef)) ds w (fun l' w' => l' = put (setAll l0 (pairs ops js fun j => vals.getD j undef)) o.dst v ∧ Sat E1 (L ++ Lx) w') NoQ)
    (hr : QuietOps ro P ops l0 ds E L vals (k + 1) r) : QuietOps ro P ops l0 ds E L vals k (o :: r) := by subst hj; exact ⟨⟨hg, h⟩, hr⟩
theorem pairs_zipy {m : Nat} {ts : List Tmp} (y : Nat → Value) (hts : (List.range m).map (dstOf ops) = ts.map some) : pairs ops (List.range m) y = ts.zip ((List.range m).map y) := by
  have h := pairs_zip (ops := ops) (m := m) (ts := ts) (vals := (List.range m).map y) (by simp) hts
  rw [← h]
  exact pairs_congr fun j hj => by simp [List.getD, List.mem_range.1 hj]
theorem TameOps.nil {l0 : List Value} {phi : Nat → Env → Value → Prop} {it : Nat → Value → List Item} {k : Nat} : TameOps ro P ops l0 ds E L phi it k [] := trivial
theorem pairs_zipj {js : List Nat} {tj : List Tmp} (y : Nat → Value) (h : js.map (dstOf ops) = tj.map some) : pairs ops js y = tj.zip (js.map y) := by
  induction js generalizing tj with
  | nil => cases tj with
    | nil => rfl
    | cons _ _ => simp at h
  | cons j js ih =>
    cases tj with
    | nil => simp at h
    | cons t tj =>
      simp only [List.map_cons, List.cons.injEq] at h
      have := ih h.2
      unfold pairs at this ⊢
      rw [List.filterMap_cons, h.1]
      simp only [Option.map_some, List.map_cons, List.zip_cons_cons, this]
theorem TameOps.cons {l0 : List Value} {phi : Nat → Env → Value → Prop} {it : Nat → Value → List Item} {k : Nat} {o : Oper} {r : List Oper} (hg : o.guard = none) (js : List Nat) (hj : deps o = js) (tj : List Tmp) (htj : js.map (dstOf ops) = tj.map some)
    (h : ∀ (y : Nat → Value) (E1 : Env) (Lx : List Item) (w : World), E.Le E1 → (∀ j ∈ js, phi j E1 (y j)) → Sat E1 (L ++ (js.flatMap (fun j => it j (y j)) ++ Lx)) w →
      OW ro P o (setAll l0 (tj.zip (js.map y))) ds w (fun l' w' => ∃ v E2, l' = put (setAll l0 (tj.zip (js.map y))) o.dst v ∧ E1.Le E2 ∧ phi k E2 v ∧ Sat E2 (L ++ (it k v ++ (js.flatMap (fun j => it j (y j)) ++ Lx))) w') NoQ)
    (hr : TameOps ro P ops l0 ds E L phi it (k + 1) r) : TameOps ro P ops l0 ds E L phi it k (o :: r) := ⟨TameOp.plain hg js hj (fun y => by rw [pairs_zipj y htj]; exact h y), hr⟩
theorem wc_tame' {id : Nat} {w : World} (m : Nat) (ts : List Tmp) (rs : List Nat) (phi : Nat → Env → Value → Prop) (it : Nat → Value → List Item) (hm : P.follows .mixedOrders = true) (hc : tameChk ops m l.length = true) (hts : (List.range m).map (dstOf ops) = ts.map some) (hrs : List.range m = rs) (hA : Sat E L w)
    (hphi : ∀ i E1 E2 v, Env.Le E1 E2 → phi i E1 v → phi i E2 v) (hops : TameOps ro P ops l ds E L phi it 0 (ops.toList.take m))
    (hK : ∀ (y : Nat → Value) (E' : Env) (w' : World), E.Le E' → (∀ j, j < m → phi j E' (y j)) → Sat E' (rs.flatMap (fun j => it j (y j)) ++ L) w' →
      RL ro P ds (fun l w => Q .normal (A l ds) w) Q ((annot ops).drop m) (setAll l (ts.zip (rs.map y))) w') :
    WC ro P (.region id ops true) Q l ds w := by
  subst hrs
  refine wc_tame m phi it hm hc hA hphi hops fun y E' w' h1 h2 h3 => ?_
  rw [pairs_zipy y hts]
  exact hK y E' w' h1 h2 h3
end
end Go.Proofs.YtomfoaaaeidpnaaDoor
