/-
  Arrays behind pointers; drawn regions with guards and told values.
-/
import Derived.Test.YtomfoaaaeidpnaaDoorSlD
import Derived.Test.YtomfoaaaeidpnaaDoorSlQ
set_option linter.unusedVariables false
set_option linter.unusedSimpArgs false
namespace Go.Proofs.YtomfoaaaeidpnaaDoor
open Go Go.RowKit
section
variable {ro : Option Nat} {P : Program} {l : List Value} {ds : List Deferred} {w : World} {next : List Value → World → Prop} {Q : Exit → Act → World → Prop}
variable {d : Option Tmp} {ty : TypeId} {pos : String} {aft : Array Edge} {g : Option (Nat × Bool)} {T T' : TypeId} {X Y Z : Operand}
variable {u u' : TypeDesc} {z z' : Value} {zs zs' : List Value} {sz sz' by_ by' : Nat}
theorem t_indexAddrA {n : Nat} {e : TypeId} {b off : Nat} {k : IntKind} {i : Int} [t : Ty P T (.array n e) z zs sz by_] [t' : Ty P e u' z' zs' sz' by'] (hx : ev l X = .pointer (some ⟨b, off, none⟩)) (hi : ev l Y = .int k i) (h0 : 0 ≤ i ∧ i < n)
    (h : next (put l d (.pointer (some ⟨b, off + i.toNat * sz', none⟩))) w) : OW ro P ⟨d, .indexAddr T X Y, ty, pos, aft, g⟩ l ds w next Q := by
  obtain ⟨ii, hii, hss⟩ := Option.map_eq_some_iff.1 t'.size
  refine ow_run (v := .pointer (some ((⟨b, off, none⟩ : Addr).add (i.toNat * sz')))) ?_ rfl (by rw [add_plain]; exact h)
  simp [execOp, hx, hi, Instr.indexAt, Instr.sureAddr, asIntOf, underlying, t.und, h0.1, h0.2, sizeOf, typeInfo, hii, hss]
/-- a[:] of an array behind a pointer. -/
theorem t_sliceA {n : Nat} {e : TypeId} {b off : Nat} [t : Ty P T (.array n e) z zs sz by_] [t' : Ty P e u' z' zs' sz' by'] (h0 : 0 < n) (hx : ev l X = .pointer (some ⟨b, off, none⟩))
    (h : next (put l d (.slice (some ⟨b, off, none⟩) n n)) w) : OW ro P ⟨d, .slice T X none none none, ty, pos, aft, g⟩ l ds w next Q := by
  obtain ⟨ii, hii, hss⟩ := Option.map_eq_some_iff.1 t'.size
  refine ow_run (v := .slice (some ⟨b, off, none⟩) n n) ?_ rfl h
  have : ¬ n = 0 := by omega
  simp [execOp, hx, Instr.sliceAt, Instr.sliceBounds, Instr.sureAddr, underlying, t.und, sizeOf, typeInfo, hii, hss, this, Addr.add]
end
section
variable {ro : Option Nat} {P : Program} {ops : Array Oper} {l : List Value} {ds : List Deferred} {E : Env} {L : List Item}
theorem TameOps.mGen {l0 : List Value} {phi : Nat → Env → Value → Prop} {k : Nat} {o : Oper} {r : List Oper} {t : Tmp} {b c : Bool} (hg : gslot ops o = some (some t, b)) (js : List Nat) (hj : deps o = js) (tj : List Tmp) (htj : js.map (dstOf ops) = tj.map some)
    (hgv : ∀ (y : Nat → Value) (E1 : Env), (∀ j ∈ js, phi j E1 (y j)) → (c = true → gval (setAll l0 (tj.zip (js.map y))) t = some b) ∧ (c = false → gval (setAll l0 (tj.zip (js.map y))) t ≠ some b))
    (h : c = true → ∀ (y : Nat → Value) (E1 : Env) (Lx : List Item) (w : World) (lf : List Value), E.Le E1 → (∀ j ∈ js, phi j E1 (y j)) → setAll l0 (tj.zip (js.map y)) = lf → Sat E1 (L ++ Lx) w →
      OW ro P o lf ds w (fun l' w' => ∃ v E2, l' = put lf o.dst v ∧ E1.Le E2 ∧ phi k E2 v ∧ Sat E2 (L ++ Lx) w') NoQ)
    (hoff : c = false → ∀ E1, phi k E1 undef)
    (hr : TameOps ro P ops l0 ds E L phi (fun _ _ => []) (k + 1) r) : TameOps ro P ops l0 ds E L phi (fun _ _ => []) k (o :: r) := by
  refine ⟨?_, hr⟩
  intro y E1 Lx w h1 h2 h3
  rw [hg]
  subst hj
  rw [pairs_zipj y htj]
  rw [flat_none _ y] at h3 ⊢
  obtain ⟨e1, e2⟩ := hgv y E1 h2
  cases c with
  | true => exact ⟨fun _ => h rfl y E1 Lx w _ h1 h2 rfl h3, fun hn => absurd (e1 rfl) hn⟩
  | false => exact ⟨fun hn => absurd hn (e2 rfl), fun _ => ⟨hoff rfl E1, rfl⟩⟩
theorem TameOps.mT {l0 : List Value} {phi : Nat → Env → Value → Prop} {k : Nat} {o : Oper} {r : List Oper} {t : Tmp} {b0 : Bool} (hg : gslot ops o = some (some t, true)) (js : List Nat) (hj : deps o = js) (tj : List Tmp) (htj : js.map (dstOf ops) = tj.map some)
    (hgv : ∀ (y : Nat → Value) (E1 : Env), (∀ j ∈ js, phi j E1 (y j)) → (setAll l0 (tj.zip (js.map y))).getD t undef = .bool b0)
    (h : b0 = true → ∀ (y : Nat → Value) (E1 : Env) (Lx : List Item) (w : World) (lf : List Value), E.Le E1 → (∀ j ∈ js, phi j E1 (y j)) → setAll l0 (tj.zip (js.map y)) = lf → Sat E1 (L ++ Lx) w →
      OW ro P o lf ds w (fun l' w' => ∃ v E2, l' = put lf o.dst v ∧ E1.Le E2 ∧ phi k E2 v ∧ Sat E2 (L ++ Lx) w') NoQ)
    (hoff : b0 = false → ∀ E1, phi k E1 undef)
    (hr : TameOps ro P ops l0 ds E L phi (fun _ _ => []) (k + 1) r) : TameOps ro P ops l0 ds E L phi (fun _ _ => []) k (o :: r) :=
  TameOps.mGen (c := b0) hg js hj tj htj (fun y E1 h2 => by simp only [gval, hgv y E1 h2]; cases b0 <;> simp) h hoff hr
theorem TameOps.mF {l0 : List Value} {phi : Nat → Env → Value → Prop} {k : Nat} {o : Oper} {r : List Oper} {t : Tmp} {b0 : Bool} (hg : gslot ops o = some (some t, false)) (js : List Nat) (hj : deps o = js) (tj : List Tmp) (htj : js.map (dstOf ops) = tj.map some)
    (hgv : ∀ (y : Nat → Value) (E1 : Env), (∀ j ∈ js, phi j E1 (y j)) → (setAll l0 (tj.zip (js.map y))).getD t undef = .bool b0)
    (h : (!b0) = true → ∀ (y : Nat → Value) (E1 : Env) (Lx : List Item) (w : World) (lf : List Value), E.Le E1 → (∀ j ∈ js, phi j E1 (y j)) → setAll l0 (tj.zip (js.map y)) = lf → Sat E1 (L ++ Lx) w →
      OW ro P o lf ds w (fun l' w' => ∃ v E2, l' = put lf o.dst v ∧ E1.Le E2 ∧ phi k E2 v ∧ Sat E2 (L ++ Lx) w') NoQ)
    (hoff : (!b0) = false → ∀ E1, phi k E1 undef)
    (hr : TameOps ro P ops l0 ds E L phi (fun _ _ => []) (k + 1) r) : TameOps ro P ops l0 ds E L phi (fun _ _ => []) k (o :: r) :=
  TameOps.mGen (c := !b0) hg js hj tj htj (fun y E1 h2 => by simp only [gval, hgv y E1 h2]; cases b0 <;> simp) h hoff hr
theorem TameOps.mTn {l0 : List Value} {phi : Nat → Env → Value → Prop} {k : Nat} {o : Oper} {r : List Oper} {t : Tmp} {g b0 : Bool} (hg : gslot ops o = some (some t, true)) (js : List Nat) (hj : deps o = js) (tj : List Tmp) (htj : js.map (dstOf ops) = tj.map some)
    (hgv : ∀ (y : Nat → Value) (E1 : Env), (∀ j ∈ js, phi j E1 (y j)) → (setAll l0 (tj.zip (js.map y))).getD t undef = sel g (.bool b0))
    (h : (g && b0) = true → ∀ (y : Nat → Value) (E1 : Env) (Lx : List Item) (w : World) (lf : List Value), E.Le E1 → (∀ j ∈ js, phi j E1 (y j)) → setAll l0 (tj.zip (js.map y)) = lf → Sat E1 (L ++ Lx) w →
      OW ro P o lf ds w (fun l' w' => ∃ v E2, l' = put lf o.dst v ∧ E1.Le E2 ∧ phi k E2 v ∧ Sat E2 (L ++ Lx) w') NoQ)
    (hoff : (g && b0) = false → ∀ E1, phi k E1 undef)
    (hr : TameOps ro P ops l0 ds E L phi (fun _ _ => []) (k + 1) r) : TameOps ro P ops l0 ds E L phi (fun _ _ => []) k (o :: r) :=
  TameOps.mGen (c := g && b0) hg js hj tj htj (fun y E1 h2 => by
    simp only [gval, hgv y E1 h2]
    cases g with
    | true => rw [sel_T]; cases b0 <;> simp
    | false => rw [sel_F]; simp [undef]) h hoff hr
theorem TameOps.mFn {l0 : List Value} {phi : Nat → Env → Value → Prop} {k : Nat} {o : Oper} {r : List Oper} {t : Tmp} {g b0 : Bool} (hg : gslot ops o = some (some t, false)) (js : List Nat) (hj : deps o = js) (tj : List Tmp) (htj : js.map (dstOf ops) = tj.map some)
    (hgv : ∀ (y : Nat → Value) (E1 : Env), (∀ j ∈ js, phi j E1 (y j)) → (setAll l0 (tj.zip (js.map y))).getD t undef = sel g (.bool b0))
    (h : (g && !b0) = true → ∀ (y : Nat → Value) (E1 : Env) (Lx : List Item) (w : World) (lf : List Value), E.Le E1 → (∀ j ∈ js, phi j E1 (y j)) → setAll l0 (tj.zip (js.map y)) = lf → Sat E1 (L ++ Lx) w →
      OW ro P o lf ds w (fun l' w' => ∃ v E2, l' = put lf o.dst v ∧ E1.Le E2 ∧ phi k E2 v ∧ Sat E2 (L ++ Lx) w') NoQ)
    (hoff : (g && !b0) = false → ∀ E1, phi k E1 undef)
    (hr : TameOps ro P ops l0 ds E L phi (fun _ _ => []) (k + 1) r) : TameOps ro P ops l0 ds E L phi (fun _ _ => []) k (o :: r) :=
  TameOps.mGen (c := g && !b0) hg js hj tj htj (fun y E1 h2 => by
    simp only [gval, hgv y E1 h2]
    cases g with
    | true => rw [sel_T]; cases b0 <;> simp
    | false => rw [sel_F]; simp [undef]) h hoff hr
end
theorem mix_mkH {vals : List Value} {ps : Nat → Option (Env → Value → Prop)} {i : Nat} {E : Env} {v : Value} {c : Bool} (hc : c = true) (hp : ps i = none) (hv : vals[i]? = some (sel c v)) : mixPhi vals ps i E v := by
  unfold mixPhi; rw [hp]; show vals[i]? = some v; rw [hv, hc, sel_T]
theorem mix_offH {vals : List Value} {ps : Nat → Option (Env → Value → Prop)} {i : Nat} {v : Value} {c : Bool} (hc : c = false) (hp : ps i = none) (hv : vals[i]? = some (sel c v)) : ∀ E : Env, mixPhi vals ps i E undef := by
  intro E; unfold mixPhi; rw [hp]; show vals[i]? = some undef; rw [hv, hc, sel_F]
theorem mix_mkG {vals : List Value} {ps : Nat → Option (Env → Value → Prop)} {i : Nat} {E : Env} {v : Value} {c : Bool} (hp : ps i = none) (hv : vals[i]? = some (sel c v)) (hc : c = true) : mixPhi vals ps i E v := by
  unfold mixPhi; rw [hp]; show vals[i]? = some v; rw [hv, hc, sel_T]
theorem mix_off {vals : List Value} {ps : Nat → Option (Env → Value → Prop)} {i : Nat} {v : Value} {c : Bool} (hp : ps i = none) (hv : vals[i]? = some (sel c v)) (hc : c = false) : ∀ E : Env, mixPhi vals ps i E undef := by
  intro E; unfold mixPhi; rw [hp]; show vals[i]? = some undef; rw [hv, hc, sel_F]
theorem mix_offP {vals : List Value} {ps : Nat → Option (Env → Value → Prop)} {i : Nat} {p : Env → Value → Prop} (hp : ps i = some p) (h : ∀ E, p E undef) : ∀ E : Env, mixPhi vals ps i E undef := by
  intro E; unfold mixPhi; rw [hp]; exact h E
/-- Both ways of a condition meet again. -/
def MidQ (ds : List Deferred) (M : List Value → World → Prop) (Q : Exit → Act → World → Prop) : Exit → Act → World → Prop
  | .normal, a, w => ∃ l, a = A l ds ∧ M l w
  | e, a, w => Q e a w
section
variable {ro : Option Nat} {P : Program} {Q : Exit → Act → World → Prop} {l : List Value} {ds : List Deferred} {w : World} {M : List Value → World → Prop}
theorem wc_mid {c y : Code} (M : List Value → World → Prop) (h : WC ro P c (MidQ ds M Q) l ds w) (hM : ∀ l w, M l w → WC ro P y Q l ds w) : WC ro P c (ThenQ ro P y Q) l ds w :=
  wc_mono h fun e a w h => by
    cases e with
    | normal => obtain ⟨l, rfl, h⟩ := h; exact tq_normal (hM l w h)
    | _ => exact h
theorem mq_normal (h : M l w) : MidQ ds M Q .normal (A l ds) w := ⟨l, rfl, h⟩
theorem mq_ret {a : Act} (h : Q .ret a w) : MidQ ds M Q .ret a w := h
theorem mq_exit {a : Act} {i : Nat} (h : Q (.exit i) a w) : MidQ ds M Q (.exit i) a w := h
end
attribute [irreducible] MidQ
end Go.Proofs.YtomfoaaaeidpnaaDoor
