/-
  A loop over a function, over assertions.
-/
import Derived.Test.YtomfoaaaeidpnaaDoorSl5
import Derived.RangeFuncRecord
set_option linter.unusedVariables false
set_option linter.unusedSimpArgs false
namespace Go.Proofs.YtomfoaaaeidpnaaDoor
open Go Go.RowKit

/-- Item 'it' in front of everything. -/
theorem Sat.putObj {E : Env} {L : List Item} {w : World} (h : Sat E L w) (i : Nat) {b : Nat} {o : Obj} (hi : L[i]? = some (obj b o)) (o' : Obj) : Sat E (L.set i (obj b o')) (w.putObj b o') := h.setObj i hi o'

/-- The round that yield begins. -/
def YieldOK (P : Program) (k : Nat) (args : List Value) (w : World) (R : Bool → World → Prop) : Prop :=
  ∃ f tmps assign body, (Instr.yield k ⟨args⟩).run P w = .ok (.round k f tmps assign body) w ∧
    RoundIn (WF none) 0 P k f tmps assign body w fun e w' => ∃ b, e = .returned (.bool b) ∧ R b w'

/-- What an iterator owes: it hands over the elements xs, one by one, until a round says 'no more'. Between the rounds the caller's invariant J holds of the caller's items. -/
def Iter {α : Type} (P : Program) (f : FuncId) (ca : List Value) (enc : α → List Value) (xs : List α) (E : Env) (Lc : List Item) : Prop :=
  ∀ (k : Nat) (J Jx : List α → Env → List Item → Prop),
    (∀ pre x rest, xs = pre ++ x :: rest → ∀ E1 Li Lx w, E.Le E1 → J pre E1 Li → Sat E1 (Li ++ Lx) w →
      YieldOK P k (enc x) w fun b w' => ∃ E2 Li', E1.Le E2 ∧ Sat E2 (Li' ++ Lx) w' ∧ (if b then J (pre ++ [x]) E2 Li' else Jx (pre ++ [x]) E2 Li')) →
    ∀ Li L w, J [] E Li → Sat E (Li ++ (Lc ++ L)) w →
      Calls P f ⟨.func (.yield k) #[] #[] :: ca⟩ w fun e w' => (∃ v, e = .returned v) ∧ ∃ E' Li', E.Le E' ∧ Sat E' (Li' ++ (Lc ++ L)) w' ∧ (J xs E' Li' ∨ ∃ pre, Jx pre E' Li')

section
variable {ro : Option Nat} {P : Program} {l : List Value} {ds : List Deferred} {w : World} {next : List Value → World → Prop} {Q : Exit → Act → World → Prop}
variable {d : Option Tmp} {ty : TypeId} {pos : String} {aft : Array Edge} {g : Option (Nat × Bool)} {X Y Z : Operand} {E : Env} {L : List Item}

/-- The call of yield, in the iterator. -/
theorem ow_yield {k : Nat} {args : Array Operand} {tys : Array TypeId} {vs : List Value} (hx : ev l X = .func (.yield k) #[] #[]) (hv : args.toList.map (ev l) = vs) {R : Bool → World → Prop} (hY : YieldOK P k vs w R)
    (h : ∀ b w', R b w' → next (put l d (.bool b)) w') : OW ro P ⟨d, .call { callee := .value X, args := args, argTypes := tys }, ty, pos, aft, g⟩ l ds w next Q := by
  obtain ⟨f, tmps, assign, body, hy, hr⟩ := hY
  have e1 : args.map (ev l) = ⟨vs⟩ := by rw [← hv]; apply Array.ext'; simp
  refine ow_round (w' := w) (k := k) (f := f) (tmps := tmps) (assign := assign) (body := body) ?_ rfl (hr.mono ?_)
  · simp [execOp, resolve, Deferred.ofValue, hx, e1, invoke]
    simpa using hy
  · rintro e w' ⟨b, rfl, hR⟩
    exact ⟨_, rfl, h b w' hR⟩

/-- How a body may end. -/
def BodyEnd {α : Type} (I : List α → Env → List Item → Prop) (Ix : Code → List α → Env → List Item → Prop) (pre : List α) (E1 : Env) (Lx : List Item) : Exit → Act → World → Prop
  | .normal, _, w => ∃ E2 Li', E1.Le E2 ∧ Sat E2 (Li' ++ Lx) w ∧ I pre E2 Li'
  | .ret, _, w => ∃ E2 Li', E1.Le E2 ∧ Sat E2 (Li' ++ Lx) w ∧ Ix .ret pre E2 Li'
  | .exit i, _, w => ∃ E2 Li', E1.Le E2 ∧ Sat E2 (Li' ++ Lx) w ∧ Ix (.exit i) pre E2 Li'
  | _, _, _ => False

def setAll (l : List Value) : List (Tmp × Value) → List Value
  | [] => l
  | (t, v) :: r => setAll (l.set t v) r
theorem foldl_setAll (r : List (Tmp × Value)) : ∀ l : List Value, r.foldl (fun (tmps : Array Value) (t, a) => tmps.setIfInBounds t a) ⟨l⟩ = ⟨setAll l r⟩ := by
  induction r with
  | nil => intro l; rfl
  | cons x r ih => intro l; obtain ⟨t, v⟩ := x; simp only [List.foldl_cons, setAll]; rw [← ih]; simp

theorem wc_rangeFunc {α : Type} {f : FuncId} {ca : List Value} {enc : α → List Value} {xs : List α} {ps : Array Tmp} {assign body : Code} {Lc L0 Lf : List Item}
    (I : List α → Env → List Item → Prop) (Ix : Code → List α → Env → List Item → Prop)
    (hg : ev l X = .func (.func f) #[] ⟨ca⟩) (he : Enters P f) (hA : Sat E (L0 ++ (Lc ++ Lf)) w) (hit : Iter P f ca enc xs E Lc) (hps : ∀ x, (enc x).length = ps.size) (h0 : I [] E L0)
    (hbody : ∀ (k : Nat) (pre : List α) (x : α) (rest : List α), xs = pre ++ x :: rest → ∀ E1 Li Lx w1, E.Le E1 → I pre E1 Li → Sat E1 (Li ++ Lx) w1 →
      WC (some k) P assign (fun e a' w2 => e = .normal ∧ ∃ l' Li2, a' = A l' [] ∧ Sat E1 (Li2 ++ Lx) w2 ∧
        ∀ Lx2 w3, Sat E1 (Li2 ++ Lx2) w3 → WC (some k) P body (BodyEnd I Ix (pre ++ [x]) E1 Lx2) l' [] w3) (setAll l (ps.toList.zip (enc x))) [] w1)
    (hdone : ∀ (D : Nat) E2 Li' w', E.Le E2 → I xs E2 Li' → Sat E2 (Li' ++ (obj D (.deferred (some [])) :: (Lc ++ Lf))) w' → Q .normal (A l ({ target := .collected D, args := #[] } :: ds)) w')
    (hstop : ∀ (D : Nat) (c : Code) (pre : List α) E2 Li' w', E.Le E2 → Ix c pre E2 Li' → Sat E2 (Li' ++ (obj D (.deferred (some [])) :: (Lc ++ Lf))) w' → WC none P c Q l ({ target := .collected D, args := #[] } :: ds) w') :
    WC none P (.rangeFunc X ps assign body) Q l ds w := by
  refine wpIn_rangeFunc ?_
  intro fn _
  let rec_ : LoopState → Option Code → Loop := fun st pe => { state := st, pending := pe, fn, tmps := ⟨l⟩, params := ps, assign, body, defers := w.heap.size }
  obtain ⟨W1, hW1⟩ : ∃ W1, (w.alloc (.deferred (some []))).alloc (.loop (rec_ .ready none)) = W1 := ⟨_, rfl⟩
  have s1 : Sat E (obj (w.heap.size + 1) (.loop (rec_ .ready none)) :: obj w.heap.size (.deferred (some [])) :: (L0 ++ (Lc ++ Lf))) W1 := by
    have h1 : Sat E (obj w.heap.size (.deferred (some [])) :: (L0 ++ (Lc ++ Lf))) (w.alloc (.deferred (some []))) := hA.alloc _
    have h2 : Sat E (obj (w.alloc (.deferred (some []))).heap.size (.loop (rec_ .ready none)) :: obj w.heap.size (.deferred (some [])) :: (L0 ++ (Lc ++ Lf))) W1 := hW1 ▸ h1.alloc _
    rw [World.size_alloc] at h2
    exact h2
  let D := w.heap.size
  let K := w.heap.size + 1
  have hA1 : (A l ds).tmps = ⟨l⟩ := rfl
  refine ⟨K, [{ target := .collected D, args := #[] }], W1, { target := .fn (.func f) ⟨ca⟩, args := #[.func (.yield K) #[] #[]] }, W1, f, ⟨.func (.yield K) #[] #[] :: ca⟩, W1, ?_, ?_, fun _ _ => trivial, ?_, fun h => absurd h (by simp [Fence.wide]), ?_⟩
  · rw [← hW1, hA1]; exact run_enterLoop_outer _ _ _ _ _
  · simp only [resolve, rangeCall, A_eval, hg]
    simp only [Deferred.ofValue, Sem.run_pure, List.map_toArray, List.map_cons, List.map_nil, ev]
    rfl
  · simp [invoke]
    exact he _ _
  · have hwrap : ∀ {R}, Calls P f ⟨.func (.yield K) #[] #[] :: ca⟩ W1 R → CallsIn (WF none) (0 - 1) P f ⟨.func (.yield K) #[] #[] :: ca⟩ W1 R := fun h => callsIn_wide (n := 0 - 1).2 h
    refine hwrap ?_
    let J : List α → Env → List Item → Prop := fun pre E1 Li => ∃ Li0, Li = obj K (.loop (rec_ .ready none)) :: obj D (.deferred (some [])) :: Li0 ∧ I pre E1 Li0
    let Jx : List α → Env → List Item → Prop := fun pre E1 Li => ∃ c Li0, Li = obj K (.loop (rec_ .done (some c))) :: obj D (.deferred (some [])) :: Li0 ∧ Ix c pre E1 Li0
    refine (hit K J Jx ?_ (obj K (.loop (rec_ .ready none)) :: obj D (.deferred (some [])) :: L0) Lf W1 ⟨L0, rfl, h0⟩ (by simpa using s1)).mono ?_
    · rintro pre x rest hx E1 Li Lx W hE ⟨Li0, rfl, hI⟩ hS
      have hk : W.heap[K]? = some (.loop (rec_ .ready none)) := hS.at_ (i := 0) rfl
      have hy := run_yield (P := P) (args := ⟨enc x⟩) hk (by simpa [rec_] using hps x)
      have hf : ((rec_ .ready none).params.zip ⟨enc x⟩).foldl (fun (tmps : Array Value) (t, a) => tmps.setIfInBounds t a) (rec_ .ready none).tmps = ⟨setAll l (ps.toList.zip (enc x))⟩ := by
        have := foldl_setAll (ps.toList.zip (enc x)) l
        rw [← this]
        show (ps.zip ⟨enc x⟩).foldl _ _ = _
        rw [← Array.foldl_toList, Array.toList_zip]
      rw [hf] at hy
      refine ⟨fn, _, assign, body, hy, roundIn_of_wpIn trivial ?_⟩
      have hperm : ∀ (st : LoopState) (pe : Option Code) (Li : List Item), (obj K (.loop (rec_ st pe)) :: obj D (.deferred (some [])) :: Li ++ Lx).Perm (Li ++ (obj K (.loop (rec_ st pe)) :: obj D (.deferred (some [])) :: Lx)) := by
        intro st pe Li
        have h1 : (obj K (.loop (rec_ st pe)) :: obj D (.deferred (some [])) :: Li ++ Lx) = ([obj K (.loop (rec_ st pe)), obj D (.deferred (some []))] ++ Li) ++ Lx := by simp
        have h2 : (Li ++ (obj K (.loop (rec_ st pe)) :: obj D (.deferred (some [])) :: Lx)) = (Li ++ [obj K (.loop (rec_ st pe)), obj D (.deferred (some []))]) ++ Lx := by simp
        rw [h1, h2]
        exact List.Perm.append_right _ List.perm_append_comm
      have hb := hbody K pre x rest hx E1 Li0 _ W hE hI (hS.perm (hperm _ _ _))
      refine wpIn_mono (F := WF (some K)) hb ?_
      rintro e a' w2 ⟨rfl, l', Li2, rfl, hS2, hbd⟩
      have hS2' := hS2.perm (hperm _ _ Li2).symm
      have hk2 : w2.heap[K]? = some (.loop (rec_ .ready none)) := hS2'.at_ (i := 0) rfl
      refine ⟨_, run_beginRound (P := P) hk2 rfl, ?_⟩
      have hS3 : Sat E1 (obj K (.loop (rec_ .busy none)) :: obj D (.deferred (some [])) :: Li2 ++ Lx) (w2.putObj K (.loop { rec_ .ready none with state := .busy })) := hS2'.putObj 0 rfl _
      refine wpIn_mono (F := WF (some K)) (hbd _ _ (hS3.perm (hperm _ _ _))) ?_
      have fin : ∀ (jump : Option Code) (E2 : Env) (Li' : List Item) (W3 : World), Sat E2 (Li' ++ (obj K (.loop (rec_ .busy none)) :: obj D (.deferred (some [])) :: Lx)) W3 →
          (Instr.endRound K jump).run P W3 = .ok (.bool jump.isNone) (W3.putObj K (.loop { rec_ .busy none with state := if jump.isNone then .ready else .done, pending := jump })) ∧
          Sat E2 (obj K (.loop (rec_ (if jump.isNone then .ready else .done) jump)) :: obj D (.deferred (some [])) :: Li' ++ Lx) (W3.putObj K (.loop { rec_ .busy none with state := if jump.isNone then .ready else .done, pending := jump })) := by
        intro jump E2 Li' W3 h3
        have h4 := h3.perm (hperm _ _ Li').symm
        have hk4 : W3.heap[K]? = some (.loop (rec_ .busy none)) := h4.at_ (i := 0) rfl
        exact ⟨run_endRound (P := P) jump hk4, h4.putObj 0 rfl _⟩
      rintro e a3 W3 hp
      cases e with
      | normal =>
        obtain ⟨E2, Li', hE2, h3, hI3⟩ := hp
        obtain ⟨hr, h4⟩ := fin none E2 Li' W3 h3
        exact ⟨_, _, hr, true, rfl, E2, _, hE2, h4, ⟨Li', rfl, hI3⟩⟩
      | ret =>
        obtain ⟨E2, Li', hE2, h3, hI3⟩ := hp
        obtain ⟨hr, h4⟩ := fin (some .ret) E2 Li' W3 h3
        exact ⟨_, _, hr, false, rfl, E2, _, hE2, h4, ⟨.ret, Li', rfl, hI3⟩⟩
      | exit i =>
        obtain ⟨E2, Li', hE2, h3, hI3⟩ := hp
        obtain ⟨hr, h4⟩ := fin (some (.exit i)) E2 Li' W3 h3
        exact ⟨_, _, hr, false, rfl, E2, _, hE2, h4, ⟨.exit i, Li', rfl, hI3⟩⟩
      | goto i => exact hp.elim
      | panic ch => exact hp.elim
      | outgrown => exact hp.elim
    · rintro e W2 ⟨⟨v, rfl⟩, E', Li', hE', hS, (⟨Li0, rfl, hI⟩ | ⟨pre, c, Li0, rfl, hI⟩)⟩
      · have hk : W2.heap[K]? = some (.loop (rec_ .ready none)) := hS.at_ (i := 0) rfl
        refine ⟨none, _, run_endLoop (P := P) hk (by simp [rec_]), ?_⟩
        have h1 := (hS.putObj 0 rfl (.loop { rec_ .ready none with state := .exhausted })).sub (L' := obj D (.deferred (some [])) :: Li0 ++ (Lc ++ Lf)) (by simp)
        refine hdone D E' Li0 _ hE' hI (h1.perm ?_)
        simp only [List.cons_append]
        exact List.perm_middle.symm
      · have hk : W2.heap[K]? = some (.loop (rec_ .done (some c))) := hS.at_ (i := 0) rfl
        refine ⟨some c, _, run_endLoop (P := P) hk (by simp [rec_]), ?_⟩
        have h1 := (hS.putObj 0 rfl (.loop { rec_ .done (some c) with state := .exhausted })).sub (L' := obj D (.deferred (some [])) :: Li0 ++ (Lc ++ Lf)) (by simp)
        refine hstop D c pre E' Li0 _ hE' hI (h1.perm ?_)
        simp only [List.cons_append]
        exact List.perm_middle.symm
end
end Go.Proofs.YtomfoaaaeidpnaaDoor
