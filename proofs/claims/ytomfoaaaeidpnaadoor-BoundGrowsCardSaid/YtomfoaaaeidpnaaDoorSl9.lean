/-
  Small words for the walk.
-/
import Derived.Test.YtomfoaaaeidpnaaDoorSl8
import Derived.Test.YtomfoaaaeidpnaaDoorSlU
set_option linter.unusedVariables false
namespace Go.Proofs.YtomfoaaaeidpnaaDoor
open Go Go.RowKit
theorem rl_norm {ro : Option Nat} {P : Program} {ds : List Deferred} {K : List Value → World → Prop} {Q : Exit → Act → World → Prop} {r : List GOp} {l : List Value} {w : World}
    (h : ∀ l', l = l' → RL ro P ds K Q r l' w) : RL ro P ds K Q r l w := h l rfl
theorem wc_norm {ro : Option Nat} {P : Program} {ds : List Deferred} {c : Code} {Q : Exit → Act → World → Prop} {l : List Value} {w : World} (h : ∀ l', l = l' → WC ro P c Q l' ds w) : WC ro P c Q l ds w := h l rfl
theorem enter {P : Program} {f : FuncId} {fn : Func} {c : Code} {args : List Value} {w : World} {R : Ending → World → Prop} (hf : P.funcs[f]? = some fn) (hb : fn.body = some c) (n : Nat) (hn : fn.ntmps = n) (l : List Value)
    (hl : args ++ List.replicate (n - args.length) undef = l) (h : WC none P c (FP P fn R) l [] w) : Calls P f ⟨args⟩ w R :=
  calls_of hf hb l (by rw [hn, ← hl]; apply Array.ext'; simp) h
theorem ret1 {P : Program} {fn : Func} {E : Env} {L : List Item} {l : List Value} {w : World} {t : Tmp} {v : Value} (hA : Sat E L w) (h : fn.results = #[.tmp t]) (hv : l.getD t undef = v) : FP P fn (Ret E L v) .ret (A l []) w := fp_ret (res1 h hv) ⟨rfl, hA⟩
theorem ret2 {P : Program} {fn : Func} {E : Env} {L : List Item} {l : List Value} {w : World} {t u : Tmp} {v v' : Value} (hA : Sat E L w) (h : fn.results = #[.tmp t, .tmp u]) (hv : l.getD t undef = v) (hv' : l.getD u undef = v') : FP P fn (Ret E L (.tuple ⟨[v, v']⟩)) .ret (A l []) w := fp_ret (res2 h hv hv') ⟨rfl, hA⟩
theorem fp_mark {P : Program} {fn : Func} {R : Ending → World → Prop} {l : List Value} {w : World} {E : Env} {L : List Item} {D i : Nat} {v : Value} (hA : Sat E L w) (hi : L[i]? = some (obj D (.deferred (some []))))
    (hr : ∀ w', Sat E (L.set i (obj D (.deferred none))) w' → (results fn ⟨l⟩).run P w' = .ok v w' ∧ R (.returned v) w') : FP P fn R .ret (A l [{ target := .collected D, args := #[] }]) w := by
  have hk : w.heap[D]? = some (.deferred (some [])) := hA.at_ hi
  refine ⟨by simp, .inl ⟨D, _, rfl, run_takeDeferred hk, ?_⟩⟩
  exact ⟨v, hr _ (hA.putObj i hi _)⟩
theorem Sat.nilRow {E : Env} {L : List Item} {w : World} (h : Sat E L w) (e : TypeId) (sz : Nat) : Sat E (row e sz (.slice none 0 0) 0 [] :: L) w :=
  h.emp.change rfl rfl rfl (Nat.le_refl _) (fun _ _ _ => rfl) (World.ownsRow_nil w 0 e sz) (by simp [row, Value.ownBlock]) (by simp [row, Value.ownBlock])
theorem ret1m {P : Program} {fn : Func} {E1 E : Env} {L1 L : List Item} {l : List Value} {w : World} {D t : Nat} {v : Value} (i : Nat) (hA : Sat E1 L1 w) (hi : L1[i]? = some (obj D (.deferred (some [])))) (h : fn.results = #[.tmp t]) (hv : l.getD t undef = v)
    (hs : ∀ w', Sat E1 (L1.set i (obj D (.deferred none))) w' → Sat E L w') : FP P fn (Ret E L v) .ret (A l [{ target := .collected D, args := #[] }]) w := fp_mark hA hi fun w' h' => ⟨res1 h hv, rfl, hs w' h'⟩
theorem ret2m {P : Program} {fn : Func} {E1 E : Env} {L1 L : List Item} {l : List Value} {w : World} {D t t' : Nat} {v v' : Value} (i : Nat) (hA : Sat E1 L1 w) (hi : L1[i]? = some (obj D (.deferred (some [])))) (h : fn.results = #[.tmp t, .tmp t']) (hv : l.getD t undef = v) (hv' : l.getD t' undef = v')
    (hs : ∀ w', Sat E1 (L1.set i (obj D (.deferred none))) w' → Sat E L w') : FP P fn (Ret E L (.tuple ⟨[v, v']⟩)) .ret (A l [{ target := .collected D, args := #[] }]) w := fp_mark hA hi fun w' h' => ⟨res2 h hv hv', rfl, hs w' h'⟩
theorem fp_mark_end {P : Program} {fn : Func} {R : Ending → World → Prop} {l : List Value} {w : World} {E : Env} {L : List Item} {D i : Nat} {v : Value} (hA : Sat E L w) (hi : L[i]? = some (obj D (.deferred (some []))))
    (hr : ∀ w', Sat E (L.set i (obj D (.deferred none))) w' → (results fn ⟨l⟩).run P w' = .ok v w' ∧ R (.returned v) w') : FP P fn R .normal (A l [{ target := .collected D, args := #[] }]) w := fp_mark hA hi hr
section
variable {ro : Option Nat} {P : Program} {ds : List Deferred} {K : List Value → World → Prop} {Q : Exit → Act → World → Prop} {o : Oper} {r : List GOp} {l : List Value} {w : World} {c : Operand} {x y : Code} {p : Prop} [Decidable p]
theorem wc_pt (hc : ev l c = .bool (decide p)) (hp : p) (h : WC ro P x Q l ds w) : WC ro P (.cond c x y) Q l ds w := wc_true (by rw [hc, decide_eq_true hp]) h
theorem wc_pf (hc : ev l c = .bool (decide p)) (hp : ¬p) (h : WC ro P y Q l ds w) : WC ro P (.cond c x y) Q l ds w := wc_false (by rw [hc, decide_eq_false hp]) h
theorem wc_pp (hc : ev l c = .bool (decide p)) (h : p → WC ro P x Q l ds w) (h' : ¬p → WC ro P y Q l ds w) : WC ro P (.cond c x y) Q l ds w := by
  by_cases hp : p
  · exact wc_pt hc hp (h hp)
  · exact wc_pf hc hp (h' hp)
theorem wc_nt (hc : ev l c = .bool (!decide p)) (hp : ¬p) (h : WC ro P x Q l ds w) : WC ro P (.cond c x y) Q l ds w := wc_true (by rw [hc, decide_eq_false hp]; rfl) h
theorem wc_nf (hc : ev l c = .bool (!decide p)) (hp : p) (h : WC ro P y Q l ds w) : WC ro P (.cond c x y) Q l ds w := wc_false (by rw [hc, decide_eq_true hp]; rfl) h
theorem wc_nn (hc : ev l c = .bool (!decide p)) (h : ¬p → WC ro P x Q l ds w) (h' : p → WC ro P y Q l ds w) : WC ro P (.cond c x y) Q l ds w := by
  by_cases hp : p
  · exact wc_nf hc hp (h' hp)
  · exact wc_nt hc hp (h hp)
theorem rl_pt {t : Tmp} (hg : l.getD t undef = .bool (decide p)) (hp : p) (h : OW ro P o l ds w (RL ro P ds K Q r) Q) : RL ro P ds K Q ((o, some (some t, true)) :: r) l w := rl_on (by rw [hg, decide_eq_true hp]) h
theorem rl_pf {t : Tmp} (hg : l.getD t undef = .bool (decide p)) (hp : ¬p) (h : RL ro P ds K Q r (put l o.dst undef) w) : RL ro P ds K Q ((o, some (some t, true)) :: r) l w := rl_off (c := false) (by rw [hg, decide_eq_false hp]) rfl h
theorem rl_pp {t : Tmp} (hg : l.getD t undef = .bool (decide p)) (h : p → OW ro P o (l.set t (.bool true)) ds w (RL ro P ds K Q r) Q) (h' : ¬p → RL ro P ds K Q r (put (l.set t (.bool false)) o.dst undef) w) : RL ro P ds K Q ((o, some (some t, true)) :: r) l w := by
  have hs : ∀ b : Bool, l.getD t undef = .bool b → l.set t (.bool b) = l := by
    intro b hb
    apply List.ext_getElem (by simp)
    intro i h1 h2
    rw [List.getElem_set]
    split
    · rename_i e; subst e; simpa [List.getD, h2] using hb.symm
    · rfl
  by_cases hp : p
  · have := hs true (by rw [hg, decide_eq_true hp]); rw [this] at h; exact rl_pt hg hp (h hp)
  · have := hs false (by rw [hg, decide_eq_false hp]); rw [this] at h'; exact rl_pf hg hp (h' hp)
theorem rl_qt {t : Tmp} (hg : l.getD t undef = .bool (decide p)) (hp : ¬p) (h : OW ro P o l ds w (RL ro P ds K Q r) Q) : RL ro P ds K Q ((o, some (some t, false)) :: r) l w := rl_on (by rw [hg, decide_eq_false hp]) h
theorem rl_qf {t : Tmp} (hg : l.getD t undef = .bool (decide p)) (hp : p) (h : RL ro P ds K Q r (put l o.dst undef) w) : RL ro P ds K Q ((o, some (some t, false)) :: r) l w := rl_off (c := true) (by rw [hg, decide_eq_true hp]) rfl h
theorem rl_qq {t : Tmp} (hg : l.getD t undef = .bool (decide p)) (h : ¬p → OW ro P o (l.set t (.bool false)) ds w (RL ro P ds K Q r) Q) (h' : p → RL ro P ds K Q r (put (l.set t (.bool true)) o.dst undef) w) : RL ro P ds K Q ((o, some (some t, false)) :: r) l w := by
  have hs : ∀ b : Bool, l.getD t undef = .bool b → l.set t (.bool b) = l := by
    intro b hb
    apply List.ext_getElem (by simp)
    intro i h1 h2
    rw [List.getElem_set]
    split
    · rename_i e; subst e; simpa [List.getD, h2] using hb.symm
    · rfl
  by_cases hp : p
  · have := hs true (by rw [hg, decide_eq_true hp]); rw [this] at h'; exact rl_qf hg hp (h' hp)
  · have := hs false (by rw [hg, decide_eq_false hp]); rw [this] at h; exact rl_qt hg hp (h hp)
theorem ow_norm {next : List Value → World → Prop} (h : ∀ l', l = l' → OW ro P o l' ds w next Q) : OW ro P o l ds w next Q := h l rfl
end
section
variable {ro : Option Nat} {P : Program} {ds : List Deferred} {K : List Value → World → Prop} {Q : Exit → Act → World → Prop} {r : List GOp} {l : List Value} {w : World} {c : Code} {next : List Value → World → Prop}
variable {d : Option Tmp} {ty : TypeId} {pos : String} {aft : Array Edge} {g : Option (Nat × Bool)} {o : Oper}
theorem g_wc (h : WC ro P c Q l ds w) : WC ro P c Q l ds w := h
theorem g_rl (h : RL ro P ds K Q r l w) : RL ro P ds K Q r l w := h
theorem g_ow (h : OW ro P o l ds w next Q) : OW ro P o l ds w next Q := h
theorem g_bin {b : BinOp} {T X T' Y} (h : OW ro P ⟨d, .binOp b T X Y T', ty, pos, aft, g⟩ l ds w next Q) : OW ro P ⟨d, .binOp b T X Y T', ty, pos, aft, g⟩ l ds w next Q := h
theorem g_call {cc : Call} (h : OW ro P ⟨d, .call cc, ty, pos, aft, g⟩ l ds w next Q) : OW ro P ⟨d, .call cc, ty, pos, aft, g⟩ l ds w next Q := h
theorem g_callf (k : FuncId) {az ts} (h : OW ro P ⟨d, .call ⟨.value (.func k), az, ts⟩, ty, pos, aft, g⟩ l ds w next Q) : OW ro P ⟨d, .call ⟨.value (.func k), az, ts⟩, ty, pos, aft, g⟩ l ds w next Q := h
theorem g_callt {t : Tmp} {az ts} (h : OW ro P ⟨d, .call ⟨.value (.tmp t), az, ts⟩, ty, pos, aft, g⟩ l ds w next Q) : OW ro P ⟨d, .call ⟨.value (.tmp t), az, ts⟩, ty, pos, aft, g⟩ l ds w next Q := h
theorem g_conv {T T' X} (h : OW ro P ⟨d, .convert T T' X, ty, pos, aft, g⟩ l ds w next Q) : OW ro P ⟨d, .convert T T' X, ty, pos, aft, g⟩ l ds w next Q := h
theorem g_idx {T X Y} (h : OW ro P ⟨d, .index T X Y, ty, pos, aft, g⟩ l ds w next Q) : OW ro P ⟨d, .index T X Y, ty, pos, aft, g⟩ l ds w next Q := h
theorem g_load {T X} (h : OW ro P ⟨d, .load T X, ty, pos, aft, g⟩ l ds w next Q) : OW ro P ⟨d, .load T X, ty, pos, aft, g⟩ l ds w next Q := h
theorem g_store {T X Y} (h : OW ro P ⟨d, .store T X Y, ty, pos, aft, g⟩ l ds w next Q) : OW ro P ⟨d, .store T X Y, ty, pos, aft, g⟩ l ds w next Q := h
theorem ex_getD {l : List Value} {F : (Nat → Value) → List Value} (h : l = F (fun i => l.getD i undef)) : ∃ j, l = F j := ⟨_, h⟩
end
end Go.Proofs.YtomfoaaaeidpnaaDoor
