/-
  Guarded operations without a parting of ways: what a guarded operation leaves is 'sel'.
-/
import Derived.Test.YtomfoaaaeidpnaaDoorSl9
import Derived.Test.YtomfoaaaeidpnaaDoorSlU
import Derived.DeepKeys
set_option linter.unusedVariables false
set_option linter.unusedSimpArgs false
namespace Go.Proofs.YtomfoaaaeidpnaaDoor
open Go Go.RowKit
section
variable {ro : Option Nat} {P : Program} {l : List Value} {ds : List Deferred} {w : World} {next : List Value → World → Prop} {Q : Exit → Act → World → Prop}
variable {d : Option Tmp} {ty : TypeId} {pos : String} {aft : Array Edge} {g : Option (Nat × Bool)} {T T' : TypeId} {X Y Z : Operand} {p : Prop} [Decidable p]
theorem ow_pick_pt (hc : ev l X = .bool (decide p)) (hp : p) (h : next (put l d (ev l Y)) w) : OW ro P ⟨d, .pick X Y Z, ty, pos, aft, g⟩ l ds w next Q :=
  ow_pick_t (by rw [hc, decide_eq_true hp]) h
theorem ow_pick_pf (hc : ev l X = .bool (decide p)) (hp : ¬p) (h : next (put l d (ev l Z)) w) : OW ro P ⟨d, .pick X Y Z, ty, pos, aft, g⟩ l ds w next Q :=
  ow_pick_f (by rw [hc, decide_eq_false hp]) h
theorem ow_pick_nt (hc : ev l X = .bool (!decide p)) (hp : ¬p) (h : next (put l d (ev l Y)) w) : OW ro P ⟨d, .pick X Y Z, ty, pos, aft, g⟩ l ds w next Q :=
  ow_pick_t (by rw [hc, decide_eq_false hp]; rfl) h
theorem ow_pick_nf (hc : ev l X = .bool (!decide p)) (hp : p) (h : next (put l d (ev l Z)) w) : OW ro P ⟨d, .pick X Y Z, ty, pos, aft, g⟩ l ds w next Q :=
  ow_pick_f (by rw [hc, decide_eq_true hp]; rfl) h
variable {K : List Value → World → Prop} {r : List GOp} {o : Oper}
theorem dec_not {v : Value} (h : v = .bool (!decide p)) : v = .bool (decide (¬p)) := by rw [h, decide_not]
theorem rl_nt {t : Tmp} (hg : l.getD t undef = .bool (!decide p)) (hp : ¬p) (h : OW ro P o l ds w (RL ro P ds K Q r) Q) : RL ro P ds K Q ((o, some (some t, true)) :: r) l w := rl_pt (dec_not hg) hp h
theorem rl_nf {t : Tmp} (hg : l.getD t undef = .bool (!decide p)) (hp : p) (h : RL ro P ds K Q r (put l o.dst undef) w) : RL ro P ds K Q ((o, some (some t, true)) :: r) l w := rl_pf (dec_not hg) (fun n => n hp) h
theorem rl_nn {t : Tmp} (hg : l.getD t undef = .bool (!decide p)) (h : ¬p → OW ro P o (l.set t (.bool true)) ds w (RL ro P ds K Q r) Q) (h' : p → RL ro P ds K Q r (put (l.set t (.bool false)) o.dst undef) w) : RL ro P ds K Q ((o, some (some t, true)) :: r) l w :=
  rl_pp (dec_not hg) h (fun n => h' (Decidable.of_not_not n))
theorem rl_mt {t : Tmp} (hg : l.getD t undef = .bool (!decide p)) (hp : p) (h : OW ro P o l ds w (RL ro P ds K Q r) Q) : RL ro P ds K Q ((o, some (some t, false)) :: r) l w := rl_qt (dec_not hg) (fun n => n hp) h
theorem rl_mf {t : Tmp} (hg : l.getD t undef = .bool (!decide p)) (hp : ¬p) (h : RL ro P ds K Q r (put l o.dst undef) w) : RL ro P ds K Q ((o, some (some t, false)) :: r) l w := rl_qf (dec_not hg) hp h
theorem rl_mm {t : Tmp} (hg : l.getD t undef = .bool (!decide p)) (h : p → OW ro P o (l.set t (.bool false)) ds w (RL ro P ds K Q r) Q) (h' : ¬p → RL ro P ds K Q r (put (l.set t (.bool true)) o.dst undef) w) : RL ro P ds K Q ((o, some (some t, false)) :: r) l w :=
  rl_qq (dec_not hg) (fun n => h (Decidable.of_not_not n)) h'
end
end Go.Proofs.YtomfoaaaeidpnaaDoor
namespace Go.Proofs.YtomfoaaaeidpnaaDoor
open Go Go.RowKit
section
variable {P : Program} {w : World} {l : List Value}
/-- What one result stands for. -/
def resOne (l : List Value) : ResultVar → Sem Value
  | .tmp t => pure ((⟨l⟩ : Array Value).getD t undef)
  | .cell a t => do loadVar t (← asAddr ((⟨l⟩ : Array Value).getD a undef))
theorem results_eq (fn : Func) : results fn ⟨l⟩ = (do let vs ← fn.results.mapM (resOne l); pure (if h : vs.size = 1 then vs[0] else .tuple vs)) := by
  unfold results; congr 1
theorem one_tmp {t : Tmp} {v : Value} (h : l.getD t undef = v) : (resOne l (.tmp t)).run P w = .ok v w := by
  subst h; simp [resOne, List.getD]
theorem one_cell {E : Env} {L : List Item} {a : Tmp} {T : TypeId} {b : Nat} {cs : List Value} {S : TypeId} {u : TypeDesc} {z : Value} {zs : List Value} {sz by_ : Nat} [t : Ty P T u z zs sz by_] (i : Nat) (hu : plainT u = false)
    (hx : l.getD a undef = .pointer (some ⟨b, 0, none⟩)) (hA : Sat E L w) (hi : L[i]? = some (cells b cs S)) (hk : cs.length = sz) : (resOne l (.cell a T)).run P w = .ok (.agg ⟨cs⟩) w := by
  obtain ⟨ii, hii, hss⟩ := Option.map_eq_some_iff.1 t.size
  have hl := run_loadCells_list (P := P) w ⟨b, 0, none⟩ cs (fun j v hj => by rw [add_plain, hA.cellOwn hi, Nat.zero_add]; exact hj)
  have hag : (isAgg T).run P w = .ok true w := by
    unfold isAgg
    have := t.und
    cases u <;> first | (simp [underlying, this]; done) | cases hu
  rw [hk] at hl
  have hx' : (⟨l⟩ : Array Value).getD a undef = .pointer (some ⟨b, 0, none⟩) := by simpa [List.getD] using hx
  simp [resOne, hx', asAddr, loadVar, hag, sizeOf, typeInfo, hii, hss, hl]
theorem resTwo {fn : Func} {r r' : ResultVar} {v v' : Value} (h : fn.results = #[r, r']) (h1 : (resOne l r).run P w = .ok v w) (h2 : (resOne l r').run P w = .ok v' w) : (results fn ⟨l⟩).run P w = .ok (.tuple ⟨[v, v']⟩) w := by
  rw [results_eq, h]; simp [h1, h2]
theorem resSole {fn : Func} {r : ResultVar} {v : Value} (h : fn.results = #[r]) (h1 : (resOne l r).run P w = .ok v w) : (results fn ⟨l⟩).run P w = .ok v w := by
  rw [results_eq, h]; simp [h1]
/-- A struct in a cell, and one more. -/
theorem ret2c {E E1 : Env} {L L1 : List Item} {fn : Func} {a t' : Tmp} {T : TypeId} {b : Nat} {cs : List Value} {S : TypeId} {u : TypeDesc} {z v' : Value} {zs : List Value} {sz by_ : Nat} [t : Ty P T u z zs sz by_] (i : Nat)
    (h : fn.results = #[.cell a T, .tmp t']) (hu : plainT u = false) (hx : l.getD a undef = .pointer (some ⟨b, 0, none⟩)) (hA : Sat E1 L1 w) (hi : L1[i]? = some (cells b cs S)) (hk : cs.length = sz) (hv : l.getD t' undef = v') (hB : Sat E L w) :
    FP P fn (Ret E L (.tuple ⟨[.agg ⟨cs⟩, v']⟩)) .ret (A l []) w := fp_ret (resTwo h (one_cell i hu hx hA hi hk) (one_tmp hv)) ⟨rfl, hB⟩
end
section
variable {ro : Option Nat} {P : Program} {l : List Value} {ds : List Deferred} {w : World} {next : List Value → World → Prop} {Q : Exit → Act → World → Prop}
variable {d : Option Tmp} {ty : TypeId} {pos : String} {aft : Array Edge} {g : Option (Nat × Bool)} {T T' : TypeId} {X Y Z : Operand}
theorem equal_agg {T : TypeId} {xs ys : List Value} {la lb : List Lit} {m D D' : Nat} (hk : P.keyTypeAt m T = true) (hm : m ≤ 10000) (fx : (Value.agg ⟨xs⟩).formed P T = true) (fy : (Value.agg ⟨ys⟩).formed P T = true)
    (ha : P.keyLits D T xs = some la) (hb : P.keyLits D' T ys = some lb) : ∃ r : Bool, (Op.equal T (.agg ⟨xs⟩) (.agg ⟨ys⟩)).run P w = .ok r w ∧ (r = true ↔ la = lb) := by
  have e : Op.maxDepth = (10000 - m) + m := by unfold Op.maxDepth; omega
  have := run_equalIn_deep (P := P) (10000 - m) m T hk w D D' (.agg ⟨xs⟩) (.agg ⟨ys⟩) la lb fx fy ha hb
  unfold Op.equal; rw [e]; exact this
theorem ow_eqa {xs ys : List Value} {la lb : List Lit} {m D D' : Nat} (hk : P.keyTypeAt m T = true) (hm : m ≤ 10000) (hg : P.eqGuardType P.depth T = false) (hx : ev l X = .agg ⟨xs⟩) (hy : ev l Y = .agg ⟨ys⟩) (fx : (Value.agg ⟨xs⟩).formed P T = true) (fy : (Value.agg ⟨ys⟩).formed P T = true)
    (ha : P.keyLits D T xs = some la) (hb : P.keyLits D' T ys = some lb) (h : ∀ r : Bool, (r = true ↔ la = lb) → next (put l d (.bool r)) w) : OW ro P ⟨d, .binOp .eql T X Y T', ty, pos, aft, g⟩ l ds w next Q := by
  obtain ⟨r, hr, hi⟩ := equal_agg (w := w) hk hm fx fy ha hb
  exact ow_run (v := .bool r) (by simp [execOp, hx, hy, eqGuard, binOp, hg, hr]) rfl (h r hi)
theorem ow_nea {xs ys : List Value} {la lb : List Lit} {m D D' : Nat} (hk : P.keyTypeAt m T = true) (hm : m ≤ 10000) (hg : P.eqGuardType P.depth T = false) (hx : ev l X = .agg ⟨xs⟩) (hy : ev l Y = .agg ⟨ys⟩) (fx : (Value.agg ⟨xs⟩).formed P T = true) (fy : (Value.agg ⟨ys⟩).formed P T = true)
    (ha : P.keyLits D T xs = some la) (hb : P.keyLits D' T ys = some lb) (h : ∀ r : Bool, (r = true ↔ la = lb) → next (put l d (.bool (!r))) w) : OW ro P ⟨d, .binOp .neq T X Y T', ty, pos, aft, g⟩ l ds w next Q := by
  obtain ⟨r, hr, hi⟩ := equal_agg (w := w) hk hm fx fy ha hb
  exact ow_run (v := .bool (!r)) (by simp [execOp, hx, hy, eqGuard, binOp, hg, hr]) rfl (h r hi)
end
end Go.Proofs.YtomfoaaaeidpnaaDoor
namespace Go.Proofs.YtomfoaaaeidpnaaDoor
open Go Go.RowKit
section
variable {ro : Option Nat} {P : Program} {l : List Value} {ds : List Deferred} {w : World} {next : List Value → World → Prop} {Q : Exit → Act → World → Prop}
variable {d : Option Tmp} {ty : TypeId} {pos : String} {aft : Array Edge} {g : Option (Nat × Bool)} {T T' : TypeId} {X Y Z : Operand}
variable {u u' : TypeDesc} {z z' : Value} {zs zs' : List Value} {sz sz' by_ by' : Nat}
theorem t_indexAddr' {e : TypeId} {a : Addr} {n c : Nat} {k : IntKind} {i : Int} [t : Ty P T (.slice e) z zs sz by_] [t' : Ty P e u' z' zs' sz' by'] (hx : ev l X = .slice (some a) n c) (hi : ev l Y = .int k i) (h0 : 0 ≤ i ∧ i < n)
    (h : next (put l d (.pointer (some (a.add (i.toNat * sz'))))) w) : OW ro P ⟨d, .indexAddr T X Y, ty, pos, aft, g⟩ l ds w next Q := by
  obtain ⟨ii, hii, hss⟩ := Option.map_eq_some_iff.1 t'.size
  refine ow_run (v := .pointer (some (a.add (i.toNat * sz')))) ?_ rfl h
  simp [execOp, hx, hi, Instr.indexAt, asIntOf, underlying, t.und, h0.1, h0.2, sizeOf, typeInfo, hii, hss]
theorem t_indexAddr {e : TypeId} {b off n c : Nat} {k : IntKind} {i : Int} [t : Ty P T (.slice e) z zs sz by_] [t' : Ty P e u' z' zs' sz' by'] (hx : ev l X = .slice (some ⟨b, off, none⟩) n c) (hi : ev l Y = .int k i) (h0 : 0 ≤ i ∧ i < n)
    (h : next (put l d (.pointer (some ⟨b, off + i.toNat * sz', none⟩))) w) : OW ro P ⟨d, .indexAddr T X Y, ty, pos, aft, g⟩ l ds w next Q :=
  t_indexAddr' hx hi h0 (by rw [add_plain]; exact h)
end
section
variable {ro : Option Nat} {P : Program} {ops : Array Oper} {l : List Value} {ds : List Deferred} {E : Env} {L : List Item}
/-- A guarded operation of a drawn region: its guard lets it run. -/
theorem TameOps.consg {l0 : List Value} {phi : Nat → Env → Value → Prop} {it : Nat → Value → List Item} {k : Nat} {o : Oper} {r : List Oper} {t : Tmp} {b : Bool} (hg : gslot ops o = some (some t, b)) (js : List Nat) (hj : deps o = js) (tj : List Tmp) (htj : js.map (dstOf ops) = tj.map some)
    (hon : ∀ (y : Nat → Value) (E1 : Env), (∀ j ∈ js, phi j E1 (y j)) → (setAll l0 (tj.zip (js.map y))).getD t undef = .bool b)
    (h : ∀ (y : Nat → Value) (E1 : Env) (Lx : List Item) (w : World), E.Le E1 → (∀ j ∈ js, phi j E1 (y j)) → Sat E1 (L ++ (js.flatMap (fun j => it j (y j)) ++ Lx)) w →
      OW ro P o (setAll l0 (tj.zip (js.map y))) ds w (fun l' w' => ∃ v E2, l' = put (setAll l0 (tj.zip (js.map y))) o.dst v ∧ E1.Le E2 ∧ phi k E2 v ∧ Sat E2 (L ++ (it k v ++ (js.flatMap (fun j => it j (y j)) ++ Lx))) w') NoQ)
    (hr : TameOps ro P ops l0 ds E L phi it (k + 1) r) : TameOps ro P ops l0 ds E L phi it k (o :: r) := by
  refine ⟨?_, hr⟩
  intro y E1 Lx w h1 h2 h3
  rw [hg]
  subst hj
  rw [pairs_zipj y htj]
  refine ⟨fun _ => h y E1 Lx w h1 h2 h3, fun hn => ?_⟩
  exact absurd (by simp only [gval, hon y E1 h2]) hn
/-- .. or does not. -/
theorem TameOps.consoff {l0 : List Value} {phi : Nat → Env → Value → Prop} {it : Nat → Value → List Item} {k : Nat} {o : Oper} {r : List Oper} {t : Tmp} {b : Bool} (hg : gslot ops o = some (some t, b)) (js : List Nat) (hj : deps o = js) (tj : List Tmp) (htj : js.map (dstOf ops) = tj.map some)
    (hoff : ∀ (y : Nat → Value) (E1 : Env), (∀ j ∈ js, phi j E1 (y j)) → (setAll l0 (tj.zip (js.map y))).getD t undef = .bool (!b) ∧ phi k E1 undef ∧ it k undef = [])
    (hr : TameOps ro P ops l0 ds E L phi it (k + 1) r) : TameOps ro P ops l0 ds E L phi it k (o :: r) := by
  refine ⟨?_, hr⟩
  intro y E1 Lx w h1 h2 h3
  rw [hg]
  subst hj
  rw [pairs_zipj y htj]
  obtain ⟨e1, e2, e3⟩ := hoff y E1 h2
  refine ⟨fun hn => ?_, fun _ => ⟨e2, e3⟩⟩
  simp only [gval, e1] at hn
  cases b <;> simp at hn
/-- Drawn regions all of whose values are known. -/
abbrev VOps (ro : Option Nat) (P : Program) (ops : Array Oper) (l0 : List Value) (ds : List Deferred) (E : Env) (L : List Item) (vals : List Value) : Nat → List Oper → Prop :=
  TameOps ro P ops l0 ds E L (fun i _ v => vals[i]? = some v) (fun _ _ => [])
theorem flat_none (js : List Nat) (f : Nat → Value) : js.flatMap (fun j => (fun _ _ => [] : Nat → Value → List Item) j (f j)) = [] := by simp
theorem map_vals {js : List Nat} {vals : List Value} {y : Nat → Value} (h : ∀ j ∈ js, vals[j]? = some (y j)) : js.map y = js.map fun j => vals.getD j undef :=
  List.map_congr_left fun j hj => by simp [List.getD, h j hj]
theorem VOps.cons {l0 : List Value} {vals : List Value} {k : Nat} {o : Oper} {r : List Oper} {v : Value} (hg : o.guard = none) (js : List Nat) (hj : deps o = js) (tj : List Tmp) (htj : js.map (dstOf ops) = tj.map some) (hv : vals[k]? = some v)
    (h : ∀ (E1 : Env) (Lx : List Item) (w : World), E.Le E1 → Sat E1 (L ++ Lx) w →
      OW ro P o (setAll l0 (tj.zip (js.map fun j => vals.getD j undef))) ds w (fun l' w' => l' = put (setAll l0 (tj.zip (js.map fun j => vals.getD j undef))) o.dst v ∧ Sat E1 (L ++ Lx) w') NoQ)
    (hr : VOps ro P ops l0 ds E L vals (k + 1) r) : VOps ro P ops l0 ds E L vals k (o :: r) := by
  refine TameOps.cons hg js hj tj htj (fun y E1 Lx w h1 h2 h3 => ?_) hr
  rw [flat_none js y] at h3 ⊢
  rw [map_vals h2]
  exact OW.mono (h E1 _ w h1 h3) fun l' w' ⟨e1, e2⟩ => ⟨v, E1, e1, Env.Le.refl _, hv, e2⟩
theorem VOps.consg {l0 : List Value} {vals : List Value} {k : Nat} {o : Oper} {r : List Oper} {v : Value} {t : Tmp} {b : Bool} (hg : gslot ops o = some (some t, b)) (js : List Nat) (hj : deps o = js) (tj : List Tmp) (htj : js.map (dstOf ops) = tj.map some)
    (hon : (setAll l0 (tj.zip (js.map fun j => vals.getD j undef))).getD t undef = .bool b) (hv : vals[k]? = some v)
    (h : ∀ (E1 : Env) (Lx : List Item) (w : World), E.Le E1 → Sat E1 (L ++ Lx) w →
      OW ro P o (setAll l0 (tj.zip (js.map fun j => vals.getD j undef))) ds w (fun l' w' => l' = put (setAll l0 (tj.zip (js.map fun j => vals.getD j undef))) o.dst v ∧ Sat E1 (L ++ Lx) w') NoQ)
    (hr : VOps ro P ops l0 ds E L vals (k + 1) r) : VOps ro P ops l0 ds E L vals k (o :: r) := by
  refine TameOps.consg hg js hj tj htj (fun y E1 h2 => by rw [map_vals h2]; exact hon) (fun y E1 Lx w h1 h2 h3 => ?_) hr
  rw [flat_none js y] at h3 ⊢
  rw [map_vals h2]
  exact OW.mono (h E1 _ w h1 h3) fun l' w' ⟨e1, e2⟩ => ⟨v, E1, e1, Env.Le.refl _, hv, e2⟩
theorem VOps.consoff {l0 : List Value} {vals : List Value} {k : Nat} {o : Oper} {r : List Oper} {t : Tmp} {b : Bool} (hg : gslot ops o = some (some t, b)) (js : List Nat) (hj : deps o = js) (tj : List Tmp) (htj : js.map (dstOf ops) = tj.map some)
    (hoff : (setAll l0 (tj.zip (js.map fun j => vals.getD j undef))).getD t undef = .bool (!b)) (hv : vals[k]? = some undef)
    (hr : VOps ro P ops l0 ds E L vals (k + 1) r) : VOps ro P ops l0 ds E L vals k (o :: r) :=
  TameOps.consoff hg js hj tj htj (fun y E1 h2 => ⟨by rw [map_vals h2]; exact hoff, hv, rfl⟩) hr
theorem wc_vals {id : Nat} {w : World} {P : Program} (m : Nat) (ts : List Tmp) (vals : List Value) (hl : vals.length = m) (hts : (List.range m).map (dstOf ops) = ts.map some) (hm : P.follows .mixedOrders = true) (hc : tameChk ops m l.length = true) (hA : Sat E L w) (hops : VOps ro P ops l ds E L vals 0 (ops.toList.take m))
    {Q : Exit → Act → World → Prop} (hK : ∀ w', Sat E L w' → RL ro P ds (fun l w => Q .normal (A l ds) w) Q ((annot ops).drop m) (setAll l (ts.zip vals)) w') :
    WC ro P (.region id ops true) Q l ds w := by
  refine wc_tame m (fun i _ v => vals[i]? = some v) (fun _ _ => []) hm hc hA (fun _ _ _ _ _ h => h) hops ?_
  intro y E' w' hE hph hS
  have hp : pairs ops (List.range m) y = pairs ops (List.range m) fun j => vals.getD j undef := pairs_congr fun j hj => by
    have := hph j (List.mem_range.1 hj)
    simp [List.getD, this]
  rw [hp, pairs_zip hl hts]
  refine hK w' (Sat.le ?_ hE)
  rw [flat_none _ y] at hS
  exact hS
end
end Go.Proofs.YtomfoaaaeidpnaaDoor
namespace Go.Proofs.YtomfoaaaeidpnaaDoor
open Go Go.RowKit
/-- What a guarded operation leaves: its value where its guard let it run, else nothing. -/
def sel (b : Bool) (v : Value) : Value := bif b then v else undef
theorem sel_T (v : Value) : sel true v = v := rfl
theorem sel_F (v : Value) : sel false v = undef := rfl
theorem sel_on {b : Bool} {x v : Value} (h : x = sel b v) (hb : b = true) : x = v := by rw [h, hb, sel_T]
theorem sel_in {g b : Bool} {x v : Value} (h : x = sel (g && b) v) (hb : g = true) : x = sel b v := by rw [h, hb, Bool.true_and]
theorem and_l {a b : Bool} (h : (a && b) = true) : a = true := (Bool.and_eq_true_iff.1 h).1
theorem and_r {a b : Bool} (h : (a && b) = true) : b = true := (Bool.and_eq_true_iff.1 h).2
attribute [irreducible] sel
section
variable {ro : Option Nat} {P : Program} {ops : Array Oper} {l : List Value} {ds : List Deferred} {E : Env} {L : List Item}
theorem VOps.consT {l0 : List Value} {vals : List Value} {k : Nat} {o : Oper} {r : List Oper} {v : Value} {t : Tmp} {b0 : Bool} (hg : gslot ops o = some (some t, true)) (js : List Nat) (hj : deps o = js) (tj : List Tmp) (htj : js.map (dstOf ops) = tj.map some)
    (hgv : (setAll l0 (tj.zip (js.map fun j => vals.getD j undef))).getD t undef = .bool b0) (hv : vals[k]? = some (sel b0 v))
    (h : b0 = true → ∀ (E1 : Env) (Lx : List Item) (w : World), E.Le E1 → Sat E1 (L ++ Lx) w →
      OW ro P o (setAll l0 (tj.zip (js.map fun j => vals.getD j undef))) ds w (fun l' w' => l' = put (setAll l0 (tj.zip (js.map fun j => vals.getD j undef))) o.dst v ∧ Sat E1 (L ++ Lx) w') NoQ)
    (hr : VOps ro P ops l0 ds E L vals (k + 1) r) : VOps ro P ops l0 ds E L vals k (o :: r) := by
  cases b0 with
  | true => exact VOps.consg hg js hj tj htj hgv (by rw [hv, sel_T]) (h rfl) hr
  | false => exact VOps.consoff hg js hj tj htj hgv (by rw [hv, sel_F]) hr
theorem VOps.consF {l0 : List Value} {vals : List Value} {k : Nat} {o : Oper} {r : List Oper} {v : Value} {t : Tmp} {b0 : Bool} (hg : gslot ops o = some (some t, false)) (js : List Nat) (hj : deps o = js) (tj : List Tmp) (htj : js.map (dstOf ops) = tj.map some)
    (hgv : (setAll l0 (tj.zip (js.map fun j => vals.getD j undef))).getD t undef = .bool b0) (hv : vals[k]? = some (sel (!b0) v))
    (h : (!b0) = true → ∀ (E1 : Env) (Lx : List Item) (w : World), E.Le E1 → Sat E1 (L ++ Lx) w →
      OW ro P o (setAll l0 (tj.zip (js.map fun j => vals.getD j undef))) ds w (fun l' w' => l' = put (setAll l0 (tj.zip (js.map fun j => vals.getD j undef))) o.dst v ∧ Sat E1 (L ++ Lx) w') NoQ)
    (hr : VOps ro P ops l0 ds E L vals (k + 1) r) : VOps ro P ops l0 ds E L vals k (o :: r) := by
  cases b0 with
  | false => exact VOps.consg hg js hj tj htj hgv (by rw [hv, Bool.not_false, sel_T]) (h rfl) hr
  | true => exact VOps.consoff hg js hj tj htj hgv (by rw [hv, Bool.not_true, sel_F]) hr
/-- A guard that is itself guarded did not run: its slot is empty. -/
theorem VOps.consoffu {l0 : List Value} {vals : List Value} {k : Nat} {o : Oper} {r : List Oper} {t : Tmp} {b : Bool} (hg : gslot ops o = some (some t, b)) (js : List Nat) (hj : deps o = js) (tj : List Tmp) (htj : js.map (dstOf ops) = tj.map some)
    (hoff : (setAll l0 (tj.zip (js.map fun j => vals.getD j undef))).getD t undef = undef) (hv : vals[k]? = some undef)
    (hr : VOps ro P ops l0 ds E L vals (k + 1) r) : VOps ro P ops l0 ds E L vals k (o :: r) := by
  refine ⟨?_, hr⟩
  intro y E1 Lx w h1 h2 h3
  rw [hg]
  subst hj
  rw [pairs_zipj y htj]
  refine ⟨fun hn => ?_, fun _ => ⟨hv, rfl⟩⟩
  rw [map_vals h2] at hn
  simp only [gval, hoff] at hn
  cases hn
theorem VOps.consTn {l0 : List Value} {vals : List Value} {k : Nat} {o : Oper} {r : List Oper} {v : Value} {t : Tmp} {g b0 : Bool} (hg : gslot ops o = some (some t, true)) (js : List Nat) (hj : deps o = js) (tj : List Tmp) (htj : js.map (dstOf ops) = tj.map some)
    (hgv : (setAll l0 (tj.zip (js.map fun j => vals.getD j undef))).getD t undef = sel g (.bool b0)) (hv : vals[k]? = some (sel (g && b0) v))
    (h : (g && b0) = true → ∀ (E1 : Env) (Lx : List Item) (w : World), E.Le E1 → Sat E1 (L ++ Lx) w →
      OW ro P o (setAll l0 (tj.zip (js.map fun j => vals.getD j undef))) ds w (fun l' w' => l' = put (setAll l0 (tj.zip (js.map fun j => vals.getD j undef))) o.dst v ∧ Sat E1 (L ++ Lx) w') NoQ)
    (hr : VOps ro P ops l0 ds E L vals (k + 1) r) : VOps ro P ops l0 ds E L vals k (o :: r) := by
  cases g with
  | false => exact VOps.consoffu hg js hj tj htj (by rw [hgv, sel_F]) (by rw [hv, Bool.false_and, sel_F]) hr
  | true => exact VOps.consT hg js hj tj htj (by rw [hgv, sel_T]) (by rw [hv, Bool.true_and]) (fun hb => h (by rw [Bool.true_and]; exact hb)) hr
theorem VOps.consFn {l0 : List Value} {vals : List Value} {k : Nat} {o : Oper} {r : List Oper} {v : Value} {t : Tmp} {g b0 : Bool} (hg : gslot ops o = some (some t, false)) (js : List Nat) (hj : deps o = js) (tj : List Tmp) (htj : js.map (dstOf ops) = tj.map some)
    (hgv : (setAll l0 (tj.zip (js.map fun j => vals.getD j undef))).getD t undef = sel g (.bool b0)) (hv : vals[k]? = some (sel (g && !b0) v))
    (h : (g && !b0) = true → ∀ (E1 : Env) (Lx : List Item) (w : World), E.Le E1 → Sat E1 (L ++ Lx) w →
      OW ro P o (setAll l0 (tj.zip (js.map fun j => vals.getD j undef))) ds w (fun l' w' => l' = put (setAll l0 (tj.zip (js.map fun j => vals.getD j undef))) o.dst v ∧ Sat E1 (L ++ Lx) w') NoQ)
    (hr : VOps ro P ops l0 ds E L vals (k + 1) r) : VOps ro P ops l0 ds E L vals k (o :: r) := by
  cases g with
  | false => exact VOps.consoffu hg js hj tj htj (by rw [hgv, sel_F]) (by rw [hv, Bool.false_and, sel_F]) hr
  | true => exact VOps.consF hg js hj tj htj (by rw [hgv, sel_T]) (by rw [hv, Bool.true_and]) (fun hb => h (by rw [Bool.true_and]; exact hb)) hr
end
section
variable {ro : Option Nat} {P : Program} {ds : List Deferred} {K : List Value → World → Prop} {Q : Exit → Act → World → Prop} {o : Oper} {r : List GOp} {l : List Value} {w : World} {E : Env} {L : List Item} {c : Operand} {x y : Code}
theorem rl_offu {t : Tmp} {b : Bool} (hg : l.getD t undef = undef) (h : RL ro P ds K Q r (put l o.dst undef) w) : RL ro P ds K Q ((o, some (some t, b)) :: r) l w := by
  unfold RL; rw [if_neg (by simp only [gval, hg]; intro hn; cases hn)]; exact h
theorem rl_T {t : Tmp} {b0 : Bool} {v : Value} (hgv : l.getD t undef = .bool b0) (hA : Sat E L w) (h : b0 = true → ∀ w, Sat E L w → OW ro P o l ds w (fun l' w' => l' = put l o.dst v ∧ Sat E L w') Q)
    (hK : ∀ w, Sat E L w → RL ro P ds K Q r (put l o.dst (sel b0 v)) w) : RL ro P ds K Q ((o, some (some t, true)) :: r) l w := by
  cases b0 with
  | true => exact rl_on hgv (OW.mono (h rfl w hA) fun l' w' ⟨e, h'⟩ => by subst e; have := hK w' h'; rwa [sel_T] at this)
  | false => exact rl_off hgv rfl (by have := hK w hA; rwa [sel_F] at this)
theorem rl_F {t : Tmp} {b0 : Bool} {v : Value} (hgv : l.getD t undef = .bool b0) (hA : Sat E L w) (h : (!b0) = true → ∀ w, Sat E L w → OW ro P o l ds w (fun l' w' => l' = put l o.dst v ∧ Sat E L w') Q)
    (hK : ∀ w, Sat E L w → RL ro P ds K Q r (put l o.dst (sel (!b0) v)) w) : RL ro P ds K Q ((o, some (some t, false)) :: r) l w := by
  cases b0 with
  | false => exact rl_on hgv (OW.mono (h rfl w hA) fun l' w' ⟨e, h'⟩ => by subst e; have := hK w' h'; rwa [Bool.not_false, sel_T] at this)
  | true => exact rl_off hgv rfl (by have := hK w hA; rwa [Bool.not_true, sel_F] at this)
theorem rl_Tn {t : Tmp} {g b0 : Bool} {v : Value} (hgv : l.getD t undef = sel g (.bool b0)) (hA : Sat E L w) (h : (g && b0) = true → ∀ w, Sat E L w → OW ro P o l ds w (fun l' w' => l' = put l o.dst v ∧ Sat E L w') Q)
    (hK : ∀ w, Sat E L w → RL ro P ds K Q r (put l o.dst (sel (g && b0) v)) w) : RL ro P ds K Q ((o, some (some t, true)) :: r) l w := by
  cases g with
  | false => exact rl_offu (by rw [hgv, sel_F]) (by have := hK w hA; rwa [Bool.false_and, sel_F] at this)
  | true => exact rl_T (by rw [hgv, sel_T]) hA (fun hb => h (by rw [Bool.true_and]; exact hb)) (fun w hA => by have := hK w hA; rwa [Bool.true_and] at this)
theorem rl_Fn {t : Tmp} {g b0 : Bool} {v : Value} (hgv : l.getD t undef = sel g (.bool b0)) (hA : Sat E L w) (h : (g && !b0) = true → ∀ w, Sat E L w → OW ro P o l ds w (fun l' w' => l' = put l o.dst v ∧ Sat E L w') Q)
    (hK : ∀ w, Sat E L w → RL ro P ds K Q r (put l o.dst (sel (g && !b0) v)) w) : RL ro P ds K Q ((o, some (some t, false)) :: r) l w := by
  cases g with
  | false => exact rl_offu (by rw [hgv, sel_F]) (by have := hK w hA; rwa [Bool.false_and, sel_F] at this)
  | true => exact rl_F (by rw [hgv, sel_T]) hA (fun hb => h (by rw [Bool.true_and]; exact hb)) (fun w hA => by have := hK w hA; rwa [Bool.true_and] at this)
theorem rl_v {v : Value} (hA : Sat E L w) (h : ∀ w, Sat E L w → OW ro P o l ds w (fun l' w' => l' = put l o.dst v ∧ Sat E L w') Q) (hK : ∀ w, Sat E L w → RL ro P ds K Q r (put l o.dst v) w) : RL ro P ds K Q ((o, none) :: r) l w :=
  rl_op (OW.mono (h w hA) fun l' w' ⟨e, h'⟩ => by subst e; exact hK w' h')
/-- A region that is not the one of number rid. -/
theorem wc_regionS {id : Nat} (rid : Nat) {ops : Array Oper} {b : Bool} (hn : (id == rid) = false) (h : WC ro P (.region id ops b) Q l ds w) : WC ro P (.region id ops b) Q l ds w := h
theorem wc_bb {b : Bool} (hc : ev l c = .bool b) (h : b = true → WC ro P x Q l ds w) (h' : b = false → WC ro P y Q l ds w) : WC ro P (.cond c x y) Q l ds w := by
  cases b with
  | true => exact wc_true hc (h rfl)
  | false => exact wc_false hc (h' rfl)
end
section
variable {ro : Option Nat} {P : Program} {l : List Value} {ds : List Deferred} {w : World} {next : List Value → World → Prop} {Q : Exit → Act → World → Prop}
variable {d : Option Tmp} {ty : TypeId} {pos : String} {aft : Array Edge} {g : Option (Nat × Bool)} {X Y Z : Operand} {v : Value}
theorem ow_move_v (hx : ev l X = v) (h : next (put l d v) w) : OW ro P ⟨d, .move X, ty, pos, aft, g⟩ l ds w next Q := ow_move (by rw [hx]; exact h)
theorem ow_assign_v (hx : ev l X = v) (h : next (put l d v) w) : OW ro P ⟨d, .assign X, ty, pos, aft, g⟩ l ds w next Q := ow_assign (by rw [hx]; exact h)
theorem ow_and {c e : Bool} (hx : ev l X = .bool c) (hy : ev l Y = sel c (.bool e)) (hz : ev l Z = .bool false) (h : next (put l d (.bool (c && e))) w) : OW ro P ⟨d, .pick X Y Z, ty, pos, aft, g⟩ l ds w next Q := by
  cases c with
  | true => exact ow_pick_t hx (by rw [hy, sel_T]; simpa using h)
  | false => exact ow_pick_f hx (by rw [hz]; simpa using h)
theorem ow_or {c e : Bool} (hx : ev l X = .bool c) (hy : ev l Y = .bool true) (hz : ev l Z = sel (!c) (.bool e)) (h : next (put l d (.bool (c || e))) w) : OW ro P ⟨d, .pick X Y Z, ty, pos, aft, g⟩ l ds w next Q := by
  cases c with
  | true => exact ow_pick_t hx (by rw [hy]; simpa using h)
  | false => exact ow_pick_f hx (by rw [hz, Bool.not_false, sel_T]; simpa using h)
theorem evs1 {x1 : Operand} {v1 : Value} (h1 : ev l x1 = v1) : (#[x1] : Array Operand).toList.map (ev l) = [v1] := by simp [h1]
theorem evs2 {x1 x2 : Operand} {v1 v2 : Value} (h1 : ev l x1 = v1) (h2 : ev l x2 = v2) : (#[x1, x2] : Array Operand).toList.map (ev l) = [v1, v2] := by simp [h1, h2]
theorem evs3 {x1 x2 x3 : Operand} {v1 v2 v3 : Value} (h1 : ev l x1 = v1) (h2 : ev l x2 = v2) (h3 : ev l x3 = v3) : (#[x1, x2, x3] : Array Operand).toList.map (ev l) = [v1, v2, v3] := by simp [h1, h2, h3]
theorem evs4 {x1 x2 x3 x4 : Operand} {v1 v2 v3 v4 : Value} (h1 : ev l x1 = v1) (h2 : ev l x2 = v2) (h3 : ev l x3 = v3) (h4 : ev l x4 = v4) : (#[x1, x2, x3, x4] : Array Operand).toList.map (ev l) = [v1, v2, v3, v4] := by simp [h1, h2, h3, h4]
end

section
variable {ro : Option Nat} {P : Program} {ops : Array Oper} {l : List Value} {ds : List Deferred} {E : Env} {L : List Item}
theorem put_eq {lf : List Value} {d : Option Tmp} {v v' : Value} (h : v = v') : put lf d v = put lf d v' := by rw [h]
/-- One operation of a drawn region: it leaves v, and the assertions as they were. -/
abbrev VOp (ro : Option Nat) (P : Program) (ds : List Deferred) (E : Env) (L : List Item) (l0 : List Value) (tv : List (Tmp × Value)) (o : Oper) (v : Value) : Prop :=
  ∀ (E1 : Env) (Lx : List Item) (w : World) (lf : List Value), E.Le E1 → setAll l0 tv = lf → Sat E1 (L ++ Lx) w → OW ro P o lf ds w (fun l' w' => l' = put lf o.dst v ∧ Sat E1 (L ++ Lx) w') NoQ
theorem VOps.c0 {l0 : List Value} {vals : List Value} {k : Nat} {o : Oper} {r : List Oper} {v : Value} (hg : o.guard = none) (js : List Nat) (hj : deps o = js) (tj : List Tmp) (htj : js.map (dstOf ops) = tj.map some) (hv : vals[k]? = some v)
    (h : VOp ro P ds E L l0 (tj.zip (js.map fun j => vals.getD j undef)) o v) (hr : VOps ro P ops l0 ds E L vals (k + 1) r) : VOps ro P ops l0 ds E L vals k (o :: r) :=
  VOps.cons hg js hj tj htj hv (fun E1 Lx w h1 h2 => h E1 Lx w _ h1 rfl h2) hr
theorem VOps.cT {l0 : List Value} {vals : List Value} {k : Nat} {o : Oper} {r : List Oper} {v : Value} {t : Tmp} {b0 : Bool} (hg : gslot ops o = some (some t, true)) (js : List Nat) (hj : deps o = js) (tj : List Tmp) (htj : js.map (dstOf ops) = tj.map some)
    (hgv : (setAll l0 (tj.zip (js.map fun j => vals.getD j undef))).getD t undef = .bool b0) (hv : vals[k]? = some (sel b0 v))
    (h : b0 = true → VOp ro P ds E L l0 (tj.zip (js.map fun j => vals.getD j undef)) o v) (hr : VOps ro P ops l0 ds E L vals (k + 1) r) : VOps ro P ops l0 ds E L vals k (o :: r) :=
  VOps.consT hg js hj tj htj hgv hv (fun hb E1 Lx w h1 h2 => h hb E1 Lx w _ h1 rfl h2) hr
theorem VOps.cF {l0 : List Value} {vals : List Value} {k : Nat} {o : Oper} {r : List Oper} {v : Value} {t : Tmp} {b0 : Bool} (hg : gslot ops o = some (some t, false)) (js : List Nat) (hj : deps o = js) (tj : List Tmp) (htj : js.map (dstOf ops) = tj.map some)
    (hgv : (setAll l0 (tj.zip (js.map fun j => vals.getD j undef))).getD t undef = .bool b0) (hv : vals[k]? = some (sel (!b0) v))
    (h : (!b0) = true → VOp ro P ds E L l0 (tj.zip (js.map fun j => vals.getD j undef)) o v) (hr : VOps ro P ops l0 ds E L vals (k + 1) r) : VOps ro P ops l0 ds E L vals k (o :: r) :=
  VOps.consF hg js hj tj htj hgv hv (fun hb E1 Lx w h1 h2 => h hb E1 Lx w _ h1 rfl h2) hr
theorem VOps.cTn {l0 : List Value} {vals : List Value} {k : Nat} {o : Oper} {r : List Oper} {v : Value} {t : Tmp} {g b0 : Bool} (hg : gslot ops o = some (some t, true)) (js : List Nat) (hj : deps o = js) (tj : List Tmp) (htj : js.map (dstOf ops) = tj.map some)
    (hgv : (setAll l0 (tj.zip (js.map fun j => vals.getD j undef))).getD t undef = sel g (.bool b0)) (hv : vals[k]? = some (sel (g && b0) v))
    (h : (g && b0) = true → VOp ro P ds E L l0 (tj.zip (js.map fun j => vals.getD j undef)) o v) (hr : VOps ro P ops l0 ds E L vals (k + 1) r) : VOps ro P ops l0 ds E L vals k (o :: r) :=
  VOps.consTn hg js hj tj htj hgv hv (fun hb E1 Lx w h1 h2 => h hb E1 Lx w _ h1 rfl h2) hr
theorem VOps.cFn {l0 : List Value} {vals : List Value} {k : Nat} {o : Oper} {r : List Oper} {v : Value} {t : Tmp} {g b0 : Bool} (hg : gslot ops o = some (some t, false)) (js : List Nat) (hj : deps o = js) (tj : List Tmp) (htj : js.map (dstOf ops) = tj.map some)
    (hgv : (setAll l0 (tj.zip (js.map fun j => vals.getD j undef))).getD t undef = sel g (.bool b0)) (hv : vals[k]? = some (sel (g && !b0) v))
    (h : (g && !b0) = true → VOp ro P ds E L l0 (tj.zip (js.map fun j => vals.getD j undef)) o v) (hr : VOps ro P ops l0 ds E L vals (k + 1) r) : VOps ro P ops l0 ds E L vals k (o :: r) :=
  VOps.consFn hg js hj tj htj hgv hv (fun hb E1 Lx w h1 h2 => h hb E1 Lx w _ h1 rfl h2) hr
end
section
variable {ro : Option Nat} {P : Program} {ops : Array Oper} {l : List Value} {ds : List Deferred} {E : Env} {L : List Item}
/-- One operation of a drawn region, what it leaves being told by phi; all that it makes becomes what stays. -/
theorem TameOps.m {l0 : List Value} {phi : Nat → Env → Value → Prop} {k : Nat} {o : Oper} {r : List Oper} (hg : o.guard = none) (js : List Nat) (hj : deps o = js) (tj : List Tmp) (htj : js.map (dstOf ops) = tj.map some)
    (h : ∀ (y : Nat → Value) (E1 : Env) (Lx : List Item) (w : World) (lf : List Value), E.Le E1 → (∀ j ∈ js, phi j E1 (y j)) → setAll l0 (tj.zip (js.map y)) = lf → Sat E1 (L ++ Lx) w →
      OW ro P o lf ds w (fun l' w' => ∃ v E2, l' = put lf o.dst v ∧ E1.Le E2 ∧ phi k E2 v ∧ Sat E2 (L ++ Lx) w') NoQ)
    (hr : TameOps ro P ops l0 ds E L phi (fun _ _ => []) (k + 1) r) : TameOps ro P ops l0 ds E L phi (fun _ _ => []) k (o :: r) :=
  TameOps.cons hg js hj tj htj (fun y E1 Lx w h1 h2 h3 => by
    rw [flat_none js y] at h3 ⊢
    exact h y E1 Lx w _ h1 h2 rfl h3) hr
theorem wc_mix {id : Nat} {w : World} (m : Nat) (ts : List Tmp) (rs : List Nat) (phi : Nat → Env → Value → Prop) (hm : P.follows .mixedOrders = true) (hc : tameChk ops m l.length = true) (hts : (List.range m).map (dstOf ops) = ts.map some) (hrs : List.range m = rs) (hA : Sat E L w)
    (hphi : ∀ i E1 E2 v, Env.Le E1 E2 → phi i E1 v → phi i E2 v) (hops : TameOps ro P ops l ds E L phi (fun _ _ => []) 0 (ops.toList.take m))
    {Q : Exit → Act → World → Prop} (hK : ∀ (y : Nat → Value) (E' : Env) (w' : World) (lf : List Value), E.Le E' → (∀ j, j < m → phi j E' (y j)) → setAll l (ts.zip (rs.map y)) = lf → Sat E' L w' →
      RL ro P ds (fun l w => Q .normal (A l ds) w) Q ((annot ops).drop m) lf w') :
    WC ro P (.region id ops true) Q l ds w := by
  refine wc_tame' m ts rs phi (fun _ _ => []) hm hc hts hrs hA hphi hops fun y E' w' h1 h2 h3 => ?_
  rw [flat_none rs y] at h3
  exact hK y E' w' _ h1 h2 rfl h3
end
/-- What the operations of a drawn region leave: a known value, or what a predicate tells. -/
def mixPhi (vals : List Value) (ps : Nat → Option (Env → Value → Prop)) (i : Nat) (E : Env) (v : Value) : Prop :=
  match ps i with
  | some p => p E v
  | none => vals[i]? = some v
theorem mix_known {vals : List Value} {ps : Nat → Option (Env → Value → Prop)} {i : Nat} {E : Env} {v u : Value} (h : mixPhi vals ps i E v) (hp : ps i = none) (hv : vals[i]? = some u) : u = v := by
  unfold mixPhi at h
  rw [hp] at h
  exact Option.some.inj (hv.symm.trans h)
theorem mix_pred {vals : List Value} {ps : Nat → Option (Env → Value → Prop)} {i : Nat} {E : Env} {v : Value} {p : Env → Value → Prop} (h : mixPhi vals ps i E v) (hp : ps i = some p) : p E v := by
  unfold mixPhi at h
  rw [hp] at h
  exact h
theorem mix_mk {vals : List Value} {ps : Nat → Option (Env → Value → Prop)} {i : Nat} {E : Env} {v : Value} (hp : ps i = none) (hv : vals[i]? = some v) : mixPhi vals ps i E v := by
  unfold mixPhi; rw [hp]; exact hv
theorem mix_mkP {vals : List Value} {ps : Nat → Option (Env → Value → Prop)} {i : Nat} {E : Env} {v : Value} {p : Env → Value → Prop} (hp : ps i = some p) (h : p E v) : mixPhi vals ps i E v := by
  unfold mixPhi; rw [hp]; exact h
theorem mix_mono {vals : List Value} {ps : Nat → Option (Env → Value → Prop)} (h : ∀ i p, ps i = some p → ∀ E1 E2 v, Env.Le E1 E2 → p E1 v → p E2 v) : ∀ i E1 E2 v, Env.Le E1 E2 → mixPhi vals ps i E1 v → mixPhi vals ps i E2 v := by
  intro i E1 E2 v hE hx
  unfold mixPhi at *
  cases hp : ps i with
  | none => rw [hp] at hx; exact hx
  | some p => rw [hp] at hx; exact h i p hp E1 E2 v hE hx
/-- What stays true as more comes to stay. -/
class PMono (p : Env → Value → Prop) : Prop where
  mono : ∀ {E E' : Env} {v : Value}, E.Le E' → p E v → p E' v
section
variable {ro : Option Nat} {P : Program} {ops : Array Oper} {l : List Value} {ds : List Deferred} {E : Env} {L : List Item}
theorem TameOps.mi {l0 : List Value} {phi : Nat → Env → Value → Prop} {it : Nat → Value → List Item} {k : Nat} {o : Oper} {r : List Oper} (hg : o.guard = none) (js : List Nat) (hj : deps o = js) (tj : List Tmp) (htj : js.map (dstOf ops) = tj.map some)
    (h : ∀ (y : Nat → Value) (E1 : Env) (Lx : List Item) (w : World) (lf : List Value), E.Le E1 → (∀ j ∈ js, phi j E1 (y j)) → setAll l0 (tj.zip (js.map y)) = lf → Sat E1 (js.flatMap (fun j => it j (y j)) ++ (L ++ Lx)) w →
      OW ro P o lf ds w (fun l' w' => ∃ v E2, l' = put lf o.dst v ∧ E1.Le E2 ∧ phi k E2 v ∧ Sat E2 (it k v ++ (js.flatMap (fun j => it j (y j)) ++ (L ++ Lx))) w') NoQ)
    (hr : TameOps ro P ops l0 ds E L phi it (k + 1) r) : TameOps ro P ops l0 ds E L phi it k (o :: r) :=
  TameOps.cons hg js hj tj htj (fun y E1 Lx w h1 h2 h3 => by
    have q1 : ∀ X Y Z : List Item, (X ++ (Y ++ Z)).Perm (Y ++ (X ++ Z)) := fun X Y Z => by
      rw [← List.append_assoc, ← List.append_assoc]; exact List.Perm.append_right _ List.perm_append_comm
    refine OW.mono (h y E1 Lx w _ h1 h2 rfl (h3.perm (q1 _ _ _))) fun l' w' ⟨v, E2, a1, a2, a3, a4⟩ => ⟨v, E2, a1, a2, a3, a4.perm ?_⟩
    exact List.Perm.trans (List.Perm.append_left _ (q1 _ _ _)) (q1 _ _ _)) hr
theorem wc_mixI {id : Nat} {w : World} (m : Nat) (ts : List Tmp) (rs : List Nat) (phi : Nat → Env → Value → Prop) (it : Nat → Value → List Item) (hm : P.follows .mixedOrders = true) (hc : tameChk ops m l.length = true) (hts : (List.range m).map (dstOf ops) = ts.map some) (hrs : List.range m = rs) (hA : Sat E L w)
    (hphi : ∀ i E1 E2 v, Env.Le E1 E2 → phi i E1 v → phi i E2 v) (hops : TameOps ro P ops l ds E L phi it 0 (ops.toList.take m))
    {Q : Exit → Act → World → Prop} (hK : ∀ (y : Nat → Value) (E' : Env) (w' : World) (lf : List Value), E.Le E' → (∀ j, j < m → phi j E' (y j)) → setAll l (ts.zip (rs.map y)) = lf → Sat E' (rs.flatMap (fun j => it j (y j)) ++ L) w' →
      RL ro P ds (fun l w => Q .normal (A l ds) w) Q ((annot ops).drop m) lf w') :
    WC ro P (.region id ops true) Q l ds w := wc_tame' m ts rs phi it hm hc hts hrs hA hphi hops fun y E' w' h1 h2 h3 => hK y E' w' _ h1 h2 rfl h3
end
/-- The block that a pointer leads to. -/
def pB : Value → Nat
  | .pointer (some a) => a.block
  | _ => 0
theorem pB_ptr (b o : Nat) : pB (.pointer (some ⟨b, o, none⟩)) = b := rfl
def ptrV : Env → Value → Prop := fun _ v => ∃ b, v = .pointer (some ⟨b, 0, none⟩)
instance : PMono ptrV := ⟨fun _ h => h⟩
def trueV : Env → Value → Prop := fun _ _ => True
instance : PMono trueV := ⟨fun _ h => h⟩
end Go.Proofs.YtomfoaaaeidpnaaDoor
