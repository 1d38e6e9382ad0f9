/-
  The address of a slice's element.
-/
import Derived.Test.YtomfoaaaeidpnaaDoorSlW
set_option linter.unusedVariables false
set_option linter.unusedSimpArgs false
namespace Go.Proofs.YtomfoaaaeidpnaaDoor
open Go Go.RowKit
section
variable {ro : Option Nat} {P : Program} {l : List Value} {ds : List Deferred} {w : World} {next : List Value → World → Prop} {Q : Exit → Act → World → Prop}
variable {d : Option Tmp} {ty : TypeId} {pos : String} {aft : Array Edge} {g : Option (Nat × Bool)} {T T' : TypeId} {X Y Z : Operand}
variable {u u' : TypeDesc} {z z' : Value} {zs zs' : List Value} {sz sz' by_ by' : Nat}
theorem t_indexAddr' {e : TypeId} {a : Addr} {n c : Nat} {k : IntKind} {i : Int} [t : Ty P T (.slice e) z zs sz by_] [t' : Ty P e u' z' zs' sz' by'] (hx : ev l X = .slice (some a) n c) (hi : ev l Y = .int k i) (h0 : 0 ≤ i ∧ i < n)
    (h : next (put l d (.pointer (some (a.add (i.toNat * sz'))))) w) : OW ro P ⟨d, .indexAddr T X Y, ty, pos, aft, g⟩ l ds w next Q := by
  obtain ⟨ii, hii, hss⟩ := Option.map_eq_some_iff.1 t'.size
  refine ow_run (v := .pointer (some (a.add (i.toNat * sz')))) ?_ rfl h
  simp [execOp, hx, hi, Instr.indexAt, asIntOf, underlying, t.und, h0.1, h0.2, sizeOf, typeInfo, hii, hss]
theorem t_indexAddr {e : TypeId} {b off n c : Nat} {k : IntKind} {i : Int} [t : Ty P T (.slice e) z zs sz by_] [t' : Ty P e u' z' zs' sz' by'] (hx : ev l X = .slice (some ⟨b, off, none⟩) n c) (hi : ev l Y = .int k i) (h0 : 0 ≤ i ∧ i < n)
    (h : next (put l d (.pointer (some ⟨b, off + i.toNat * sz', none⟩))) w) : OW ro P ⟨d, .indexAddr T X Y, ty, pos, aft, g⟩ l ds w next Q :=
  t_indexAddr' hx hi h0 (by rw [add_plain]; exact h)
end
section
variable {ro : Option Nat} {P : Program} {ops : Array Oper} {l : List Value} {ds : List Deferred} {E : Env} {L : List Item}
/-- A guarded operation of a drawn region: its guard lets it run. -/
theorem TameOps.consg {l0 : List Value} {phi : Nat → Env → Value → Prop} {it : Nat → Value → List Item} {k : Nat} {o : Oper} {r : List Oper} {t : Tmp} {b : Bool} (hg : gslot ops o = some (some t, b)) (js : List Nat) (hj : deps o = js) (tj : List Tmp) (htj : js.map (dstOf ops) = tj.map some)
    (hon : ∀ (y : Nat → Value) (E1 : Env), (∀ j ∈ js, phi j E1 (y j)) → (setAll l0 (tj.zip (js.map y))).getD t undef = .bool b)
    (h : ∀ (y : Nat → Value) (E1 : Env) (Lx : List Item) (w : World), E.Le E1 → (∀ j ∈ js, phi j E1 (y j)) → Sat E1 (L ++ (js.flatMap (fun j => it j (y j)) ++ Lx)) w →
      OW ro P o (setAll l0 (tj.zip (js.map y))) ds w (fun l' w' => ∃ v E2, l' = put (setAll l0 (tj.zip (js.map y))) o.dst v ∧ E1.Le E2 ∧ phi k E2 v ∧ Sat E2 (L ++ (it k v ++ (js.flatMap (fun j => it j (y j)) ++ Lx))) w') NoQ)
    (hr : TameOps ro P ops l0 ds E L phi it (k + 1) r) : TameOps ro P ops l0 ds E L phi it k (o :: r) := by
  refine ⟨?_, hr⟩
  intro y E1 Lx w h1 h2 h3
  rw [hg]
  subst hj
  rw [pairs_zipj y htj]
  refine ⟨fun _ => h y E1 Lx w h1 h2 h3, fun hn => ?_⟩
  exact absurd (by simp only [gval, hon y E1 h2]) hn
/-- .. or does not. -/
theorem TameOps.consoff {l0 : List Value} {phi : Nat → Env → Value → Prop} {it : Nat → Value → List Item} {k : Nat} {o : Oper} {r : List Oper} {t : Tmp} {b : Bool} (hg : gslot ops o = some (some t, b)) (js : List Nat) (hj : deps o = js) (tj : List Tmp) (htj : js.map (dstOf ops) = tj.map some)
    (hoff : ∀ (y : Nat → Value) (E1 : Env), (∀ j ∈ js, phi j E1 (y j)) → (setAll l0 (tj.zip (js.map y))).getD t undef = .bool (!b) ∧ phi k E1 undef ∧ it k undef = [])
    (hr : TameOps ro P ops l0 ds E L phi it (k + 1) r) : TameOps ro P ops l0 ds E L phi it k (o :: r) := by
  refine ⟨?_, hr⟩
  intro y E1 Lx w h1 h2 h3
  rw [hg]
  subst hj
  rw [pairs_zipj y htj]
  obtain ⟨e1, e2, e3⟩ := hoff y E1 h2
  refine ⟨fun hn => ?_, fun _ => ⟨e2, e3⟩⟩
  simp only [gval, e1] at hn
  cases b <;> simp at hn
/-- Drawn regions all of whose values are known. -/
abbrev VOps (ro : Option Nat) (P : Program) (ops : Array Oper) (l0 : List Value) (ds : List Deferred) (E : Env) (L : List Item) (vals : List Value) : Nat → List Oper → Prop :=
  TameOps ro P ops l0 ds E L (fun i _ v => vals[i]? = some v) (fun _ _ => [])
theorem flat_none (js : List Nat) (f : Nat → Value) : js.flatMap (fun j => (fun _ _ => [] : Nat → Value → List Item) j (f j)) = [] := by simp
theorem map_vals {js : List Nat} {vals : List Value} {y : Nat → Value} (h : ∀ j ∈ js, vals[j]? = some (y j)) : js.map y = js.map fun j => vals.getD j undef :=
  List.map_congr_left fun j hj => by simp [List.getD, h j hj]
theorem VOps.cons {l0 : List Value} {vals : List Value} {k : Nat} {o : Oper} {r : List Oper} {v : Value} (hg : o.guard = none) (js : List Nat) (hj : deps o = js) (tj : List Tmp) (htj : js.map (dstOf ops) = tj.map some) (hv : vals[k]? = some v)
    (h : ∀ (E1 : Env) (Lx : List Item) (w : World), E.Le E1 → Sat E1 (L ++ Lx) w →
      OW ro P o (setAll l0 (tj.zip (js.map fun j => vals.getD j undef))) ds w (fun l' w' => l' = put (setAll l0 (tj.zip (js.map fun j => vals.getD j undef))) o.dst v ∧ Sat E1 (L ++ Lx) w') NoQ)
    (hr : VOps ro P ops l0 ds E L vals (k + 1) r) : VOps ro P ops l0 ds E L vals k (o :: r) := by
  refine TameOps.cons hg js hj tj htj (fun y E1 Lx w h1 h2 h3 => ?_) hr
  rw [flat_none js y] at h3 ⊢
  rw [map_vals h2]
  exact OW.mono (h E1 _ w h1 h3) fun l' w' ⟨e1, e2⟩ => ⟨v, E1, e1, Env.Le.refl _, hv, e2⟩
theorem VOps.consg {l0 : List Value} {vals : List Value} {k : Nat} {o : Oper} {r : List Oper} {v : Value} {t : Tmp} {b : Bool} (hg : gslot ops o = some (some t, b)) (js : List Nat) (hj : deps o = js) (tj : List Tmp) (htj : js.map (dstOf ops) = tj.map some)
    (hon : (setAll l0 (tj.zip (js.map fun j => vals.getD j undef))).getD t undef = .bool b) (hv : vals[k]? = some v)
    (h : ∀ (E1 : Env) (Lx : List Item) (w : World), E.Le E1 → Sat E1 (L ++ Lx) w →
      OW ro P o (setAll l0 (tj.zip (js.map fun j => vals.getD j undef))) ds w (fun l' w' => l' = put (setAll l0 (tj.zip (js.map fun j => vals.getD j undef))) o.dst v ∧ Sat E1 (L ++ Lx) w') NoQ)
    (hr : VOps ro P ops l0 ds E L vals (k + 1) r) : VOps ro P ops l0 ds E L vals k (o :: r) := by
  refine TameOps.consg hg js hj tj htj (fun y E1 h2 => by rw [map_vals h2]; exact hon) (fun y E1 Lx w h1 h2 h3 => ?_) hr
  rw [flat_none js y] at h3 ⊢
  rw [map_vals h2]
  exact OW.mono (h E1 _ w h1 h3) fun l' w' ⟨e1, e2⟩ => ⟨v, E1, e1, Env.Le.refl _, hv, e2⟩
theorem VOps.consoff {l0 : List Value} {vals : List Value} {k : Nat} {o : Oper} {r : List Oper} {t : Tmp} {b : Bool} (hg : gslot ops o = some (some t, b)) (js : List Nat) (hj : deps o = js) (tj : List Tmp) (htj : js.map (dstOf ops) = tj.map some)
    (hoff : (setAll l0 (tj.zip (js.map fun j => vals.getD j undef))).getD t undef = .bool (!b)) (hv : vals[k]? = some undef)
    (hr : VOps ro P ops l0 ds E L vals (k + 1) r) : VOps ro P ops l0 ds E L vals k (o :: r) :=
  TameOps.consoff hg js hj tj htj (fun y E1 h2 => ⟨by rw [map_vals h2]; exact hoff, hv, rfl⟩) hr
theorem wc_vals {id : Nat} {w : World} {P : Program} (m : Nat) (ts : List Tmp) (vals : List Value) (hl : vals.length = m) (hts : (List.range m).map (dstOf ops) = ts.map some) (hm : P.follows .mixedOrders = true) (hc : tameChk ops m l.length = true) (hA : Sat E L w) (hops : VOps ro P ops l ds E L vals 0 (ops.toList.take m))
    {Q : Exit → Act → World → Prop} (hK : ∀ w', Sat E L w' → RL ro P ds (fun l w => Q .normal (A l ds) w) Q ((annot ops).drop m) (setAll l (ts.zip vals)) w') :
    WC ro P (.region id ops true) Q l ds w := by
  refine wc_tame m (fun i _ v => vals[i]? = some v) (fun _ _ => []) hm hc hA (fun _ _ _ _ _ h => h) hops ?_
  intro y E' w' hE hph hS
  have hp : pairs ops (List.range m) y = pairs ops (List.range m) fun j => vals.getD j undef := pairs_congr fun j hj => by
    have := hph j (List.mem_range.1 hj)
    simp [List.getD, this]
  rw [hp, pairs_zip hl hts]
  refine hK w' (Sat.le ?_ hE)
  rw [flat_none _ y] at hS
  exact hS
end
end Go.Proofs.YtomfoaaaeidpnaaDoor
