/-
  Choices whose condition is known to hold, or not to hold.
-/
import Derived.Test.YtomfoaaaeidpnaaDoorSl9
set_option linter.unusedVariables false
set_option linter.unusedSimpArgs false
namespace Go.Proofs.YtomfoaaaeidpnaaDoor
open Go Go.RowKit
section
variable {ro : Option Nat} {P : Program} {l : List Value} {ds : List Deferred} {w : World} {next : List Value → World → Prop} {Q : Exit → Act → World → Prop}
variable {d : Option Tmp} {ty : TypeId} {pos : String} {aft : Array Edge} {g : Option (Nat × Bool)} {T T' : TypeId} {X Y Z : Operand} {p : Prop} [Decidable p]
theorem ow_pick_pt (hc : ev l X = .bool (decide p)) (hp : p) (h : next (put l d (ev l Y)) w) : OW ro P ⟨d, .pick X Y Z, ty, pos, aft, g⟩ l ds w next Q :=
  ow_pick_t (by rw [hc, decide_eq_true hp]) h
theorem ow_pick_pf (hc : ev l X = .bool (decide p)) (hp : ¬p) (h : next (put l d (ev l Z)) w) : OW ro P ⟨d, .pick X Y Z, ty, pos, aft, g⟩ l ds w next Q :=
  ow_pick_f (by rw [hc, decide_eq_false hp]) h
theorem ow_pick_nt (hc : ev l X = .bool (!decide p)) (hp : ¬p) (h : next (put l d (ev l Y)) w) : OW ro P ⟨d, .pick X Y Z, ty, pos, aft, g⟩ l ds w next Q :=
  ow_pick_t (by rw [hc, decide_eq_false hp]; rfl) h
theorem ow_pick_nf (hc : ev l X = .bool (!decide p)) (hp : p) (h : next (put l d (ev l Z)) w) : OW ro P ⟨d, .pick X Y Z, ty, pos, aft, g⟩ l ds w next Q :=
  ow_pick_f (by rw [hc, decide_eq_true hp]; rfl) h
variable {K : List Value → World → Prop} {r : List GOp} {o : Oper}
theorem dec_not {v : Value} (h : v = .bool (!decide p)) : v = .bool (decide (¬p)) := by rw [h, decide_not]
theorem rl_nt {t : Tmp} (hg : l.getD t undef = .bool (!decide p)) (hp : ¬p) (h : OW ro P o l ds w (RL ro P ds K Q r) Q) : RL ro P ds K Q ((o, some (some t, true)) :: r) l w := rl_pt (dec_not hg) hp h
theorem rl_nf {t : Tmp} (hg : l.getD t undef = .bool (!decide p)) (hp : p) (h : RL ro P ds K Q r (put l o.dst undef) w) : RL ro P ds K Q ((o, some (some t, true)) :: r) l w := rl_pf (dec_not hg) (fun n => n hp) h
theorem rl_nn {t : Tmp} (hg : l.getD t undef = .bool (!decide p)) (h : ¬p → OW ro P o (l.set t (.bool true)) ds w (RL ro P ds K Q r) Q) (h' : p → RL ro P ds K Q r (put (l.set t (.bool false)) o.dst undef) w) : RL ro P ds K Q ((o, some (some t, true)) :: r) l w :=
  rl_pp (dec_not hg) h (fun n => h' (Decidable.of_not_not n))
theorem rl_mt {t : Tmp} (hg : l.getD t undef = .bool (!decide p)) (hp : p) (h : OW ro P o l ds w (RL ro P ds K Q r) Q) : RL ro P ds K Q ((o, some (some t, false)) :: r) l w := rl_qt (dec_not hg) (fun n => n hp) h
theorem rl_mf {t : Tmp} (hg : l.getD t undef = .bool (!decide p)) (hp : ¬p) (h : RL ro P ds K Q r (put l o.dst undef) w) : RL ro P ds K Q ((o, some (some t, false)) :: r) l w := rl_qf (dec_not hg) hp h
theorem rl_mm {t : Tmp} (hg : l.getD t undef = .bool (!decide p)) (h : p → OW ro P o (l.set t (.bool false)) ds w (RL ro P ds K Q r) Q) (h' : ¬p → RL ro P ds K Q r (put (l.set t (.bool true)) o.dst undef) w) : RL ro P ds K Q ((o, some (some t, false)) :: r) l w :=
  rl_qq (dec_not hg) (fun n => h (Decidable.of_not_not n)) h'
end
end Go.Proofs.YtomfoaaaeidpnaaDoor
