/-
  Short steps: what every step writes again, said once.
-/
import Derived.Test.YtomfoaaaeidpnaaDoorSlY
set_option linter.unusedVariables false
namespace Go.Proofs.YtomfoaaaeidpnaaDoor
open Go Go.RowKit
section
variable {ro : Option Nat} {P : Program} {ds : List Deferred} {K : List Value → World → Prop} {Q : Exit → Act → World → Prop} {r : List GOp} {l l' : List Value} {w : World} {c : Code} {o : Oper} {next : List Value → World → Prop}
theorem rn (h : RL ro P ds K Q r l' w)
    (e : l = l' := by (try simp only [put, ev, setRun, Value.cells, List.set_cons_succ, List.set_cons_zero, List.getD_cons_succ, List.getD_cons_zero, List.map_cons, List.map_nil, List.append_nil, List.nil_append, setAll, List.zip_cons_cons, List.zip_nil_right, Nat.reduceAdd, Nat.zero_add, Nat.add_zero]); first | done | rfl) : RL ro P ds K Q r l w := by subst e; exact h
end
section
variable {ro : Option Nat} {P : Program} {l : List Value} {ds : List Deferred} {w : World} {next : List Value → World → Prop} {Q : Exit → Act → World → Prop}
variable {d : Option Tmp} {ty : TypeId} {pos : String} {aft : Array Edge} {g : Option (Nat × Bool)} {T T' : TypeId} {X Y Z : Operand} {v v' : Value}
variable {E E0 : Env} {L : List Item} {u : TypeDesc} {z : Value} {zs : List Value} {sz by_ : Nat}
theorem opr (h : ev l X = v := by first | exact sel_on rfl (by assumption) | exact sel_on rfl (and_l (by assumption)) | rfl) : ev l X = v := h
theorem pe {lf : List Value} (h : v = v' := by (try simp only [ev, List.getD_cons_succ, List.getD_cons_zero, Nat.zero_add]); rfl) : put lf d v = put lf d v' := put_eq h
theorem t_loadx {b k : Nat} {cs : List Value} {S : TypeId} [t : Ty P T u z zs sz by_] (hx : ev l X = .pointer (some ⟨b, k, none⟩)) (hA : Sat E L w) (h : next (put l d v) w) (hu : plainT u = true := by rfl)
    (hi : ∃ i : Nat, L[i]? = some (cells b cs S) := by first | exact ⟨0, rfl⟩ | exact ⟨1, rfl⟩ | exact ⟨2, rfl⟩ | exact ⟨3, rfl⟩ | exact ⟨4, rfl⟩ | exact ⟨5, rfl⟩ | exact ⟨6, rfl⟩) (hv : cs[k]? = some v := by rfl) : OW ro P ⟨d, .load T X, ty, pos, aft, g⟩ l ds w next Q := by
  obtain ⟨i, hi⟩ := hi
  exact t_load i hu hx hA hi hv h
theorem t_loada {b k : Nat} {cs vs : List Value} {S : TypeId} [t : Ty P T u z zs sz by_] (hx : ev l X = .pointer (some ⟨b, k, none⟩)) (hA : Sat E L w) (h : next (put l d (.agg ⟨vs⟩)) w) (hu : plainT u = false := by rfl)
    (hi : ∃ i : Nat, L[i]? = some (cells b cs S) := by first | exact ⟨0, rfl⟩ | exact ⟨1, rfl⟩ | exact ⟨2, rfl⟩ | exact ⟨3, rfl⟩ | exact ⟨4, rfl⟩) (hk : k + sz ≤ cs.length := by exact Nat.le_of_ble_eq_true rfl)
    (hvs : (cs.drop k).take sz = vs := by (simp only [List.drop_zero, List.drop_succ_cons, List.take_succ_cons, List.take_zero]); exact rfl) : OW ro P ⟨d, .load T X, ty, pos, aft, g⟩ l ds w next Q := by
  obtain ⟨i, hi⟩ := hi
  exact t_load_agg i hu hx hA hi hk hvs h
end
section
variable {α : Type} {x0 x1 x2 x3 x4 x5 : α} {r : List α}
theorem at0 : (x0 :: r)[0]? = some x0 := rfl
theorem at1 : (x0 :: x1 :: r)[1]? = some x1 := rfl
theorem at2 : (x0 :: x1 :: x2 :: r)[2]? = some x2 := rfl
theorem at3 : (x0 :: x1 :: x2 :: x3 :: r)[3]? = some x3 := rfl
theorem at4 : (x0 :: x1 :: x2 :: x3 :: x4 :: r)[4]? = some x4 := rfl
theorem at5 : (x0 :: x1 :: x2 :: x3 :: x4 :: x5 :: r)[5]? = some x5 := rfl
end
section
variable {ro : Option Nat} {P : Program} {l l' : List Value} {ds : List Deferred} {w : World} {next : List Value → World → Prop} {Q : Exit → Act → World → Prop} {o : Oper}
variable {d : Option Tmp} {ty : TypeId} {pos : String} {aft : Array Edge} {g : Option (Nat × Bool)} {T T' : TypeId} {X Y Z : Operand} {v v' : Value}
variable {E E0 : Env} {L : List Item} {u : TypeDesc} {z : Value} {zs : List Value} {sz by_ : Nat}
theorem o_n (h : OW ro P o l' ds w next Q)
    (e : l = l' := by (try simp only [put, ev, setRun, Value.cells, List.set_cons_succ, List.set_cons_zero, List.getD_cons_succ, List.getD_cons_zero, List.map_cons, List.map_nil, List.append_nil, List.nil_append, setAll, List.zip_cons_cons, List.zip_nil_right, Nat.reduceAdd, Nat.zero_add, Nat.add_zero]); first | done | rfl) : OW ro P o l ds w next Q := by subst e; exact h
/-- An operation that only leaves a value. -/
def PureO (ro : Option Nat) (P : Program) (o : Oper) (l : List Value) (ds : List Deferred) (w : World) (v : Value) : Prop := ∀ (next : List Value → World → Prop) (Q : Exit → Act → World → Prop), next (put l o.dst v) w → OW ro P o l ds w next Q
theorem p_b (h : next (put l o.dst v) w) (hp : PureO ro P o l ds w v := by
    intro n q h
    first
    | exact ow_add64 rfl rfl (by omega) h | exact ow_sub64 rfl rfl (by omega) h | exact ow_mul64 rfl rfl (by omega) h | exact ow_quo64 rfl rfl (by omega) h | exact ow_remp rfl rfl (by omega) h | exact ow_eql rfl rfl h | exact ow_neq rfl rfl h | exact ow_lss rfl rfl h | exact ow_leq rfl rfl h | exact ow_gtr rfl rfl h | exact ow_geq rfl rfl h
    | exact ow_eqs rfl rfl h | exact ow_neqs rfl rfl h | exact t_eqlb rfl rfl h | exact t_neqb rfl rfl h | exact ow_add8 rfl rfl (by omega) h | exact ow_sub8 rfl rfl (by omega) h | exact ow_mul8 rfl rfl (by omega) h | exact ow_quo8 rfl rfl (by omega) h | exact ow_cat rfl rfl (by (try simp only [List.length_append, List.length_cons, List.length_nil]); omega) h) : OW ro P o l ds w next Q := hp _ _ h
theorem p_o (h : next (put l o.dst v) w) (hp : PureO ro P o l ds w v := by
    intro n q h
    first
    | exact ow_move h | exact ow_assign h | exact ow_pick_t rfl h | exact ow_pick_f rfl h | exact ow_pick_pt rfl (by omega) h | exact ow_pick_pf rfl (by omega) h | exact ow_pick_nt rfl (by omega) h | exact ow_pick_nf rfl (by omega) h | exact ow_extract rfl rfl h | exact ow_nilCheck rfl h | exact ow_makeFunc rfl rfl h | exact ow_not rfl h | exact t_fieldAddr rfl h | exact t_build rfl rfl rfl h) : OW ro P o l ds w next Q := hp _ _ h
theorem p_l (h : next (put l o.dst v) w) (hp : PureO ro P o l ds w v := by
    intro n q h
    first | exact t_len_str rfl h | exact t_len_slice rfl h) : OW ro P o l ds w next Q := hp _ _ h
theorem p_c (hA : Sat E L w) (h : next (put l o.dst v) w) (hp : PureO ro P o l ds w v := by
    intro n q h
    first | exact t_conv64 rfl (by omega) h | exact t_conv8 rfl (by omega) h | exact t_bytes_str 0 rfl (by assumption) rfl h | exact t_bytes_str 1 rfl (by assumption) rfl h | exact t_bytes_str 2 rfl (by assumption) rfl h | exact t_bytes_str 3 rfl (by assumption) rfl h | exact t_bytes_str 4 rfl (by assumption) rfl h | exact t_cells_str 0 rfl (by assumption) rfl rfl rfl h | exact t_cells_str 1 rfl (by assumption) rfl rfl rfl h | exact t_cells_str 2 rfl (by assumption) rfl rfl rfl h) : OW ro P o l ds w next Q := hp _ _ h
theorem h_n {L2 : List Item} {C : Prop} (hA : Sat E L w) (h : Sat E L2 w → C)
    (e : L = L2 := by (try simp only [ev, List.cons_append, List.eraseIdx_cons_succ, List.getD_cons_succ, List.getD_cons_zero, List.set_cons_succ, List.set_cons_zero, List.eraseIdx_cons_zero, List.map_cons, List.map_nil, setRun, zeroRow, Value.cells, Nat.zero_mul, Nat.zero_add, Nat.reduceMul, Nat.reduceAdd, List.append_nil, List.nil_append]); first | done | rfl) : C := h (e ▸ hA)
theorem t_appx {i : Nat} {e : TypeId} {b : Nat} {n c m : Nat} {xs news : List Value} {S : TypeId} {u' : TypeDesc} {z' : Value} {zs' : List Value} {sz' by' : Nat} [t : Ty P T (.slice e) z zs sz by_] [t' : Ty P e u' z' zs' sz' by'] (hx : ev l X = v) (hy : ev l Y = .slice (some ⟨b, 0, none⟩) m c) (hA : Sat E L w) (hj : L[0]? = some (cells b news S))
    (h : ∀ v' w', Sat E ((L.set i (row e sz' v' (n + m) (xs ++ news))).eraseIdx 0) w' → v'.oneCell' = true → (v' = .slice none 0 0 ↔ v = .slice none 0 0 ∧ m = 0) → next (put l d v') w')
    (hi : L[i]? = some (row e sz' v n xs) := by first | exact at1 | exact at2 | exact at3 | exact at4 | exact at5) (hsz : 0 < sz' := by decide) (hzl : zs'.length = sz' := by rfl) (hl : news.length = m * sz' := by rfl) (ho : ∀ u ∈ news, u.oneCell' = true := by simp [Value.oneCell'])
    (hr : n + m ≤ maxLen := by unfold maxLen; omega) (hb : (n + m) * by' ≤ 140737488355328 := by omega) :
    OW ro P ⟨d, .call { callee := .builtin .append, args := #[X, Y], argTypes := #[T, T] }, ty, pos, aft, g⟩ l ds w next Q := t_append1 i 0 hsz hzl hx hy hA hi hj hl ho hr hb h
theorem t_storex {i b k : Nat} {cs : List Value} {S : TypeId} [t : Ty P T u z zs 1 by_] (hx : ev l X = .pointer (some ⟨b, k, none⟩)) (hy : ev l Y = v) (hA : Sat E L w) (h : ∀ w', Sat E (L.set i (cells b (cs.set k v) S)) w' → next (put l d undef) w') (h1 : v.oneCell' = true := by first | rfl | assumption)
    (hi : L[i]? = some (cells b cs S) := by first | exact at0 | exact at1 | exact at2 | exact at3 | exact at4 | exact at5) (hk : k < cs.length := by simp) : OW ro P ⟨d, .store T X Y, ty, pos, aft, g⟩ l ds w next Q := t_store i hx hy h1 hA hi hk h
theorem t_storea {i b k : Nat} {cs vs : List Value} {S : TypeId} [t : Ty P T u z zs sz by_] (hx : ev l X = .pointer (some ⟨b, k, none⟩)) (hy : ev l Y = .agg ⟨vs⟩) (hA : Sat E L w) (h : ∀ w', Sat E (L.set i (cells b (cs.take k ++ vs ++ cs.drop (k + vs.length)) S)) w' → next (put l d undef) w')
    (h1 : ∀ v ∈ vs, v.oneCell' = true := by simp only [List.mem_cons, List.not_mem_nil, or_false, forall_eq_or_imp, forall_eq]; (repeat' apply And.intro) <;> first | rfl | assumption) (hl : vs.length = sz := by rfl)
    (hi : L[i]? = some (cells b cs S) := by first | exact at0 | exact at1 | exact at2 | exact at3 | exact at4 | exact at5) (hk : k + vs.length ≤ cs.length := by exact Nat.le_of_ble_eq_true rfl) : OW ro P ⟨d, .store T X Y, ty, pos, aft, g⟩ l ds w next Q := t_store_agg i hx hy h1 hl hA hi hk h
end
/-- One step that asks for nothing: structure, and what is decided. -/
theorem st {G G' : Prop} (h : G') (e : G' → G := by
    intro h
    first
    | (refine g_wc ?_; first | exact wc_seq h | exact wc_block h | exact wc_true rfl h | exact wc_false rfl h | exact wc_pt rfl (by omega) h | exact wc_pf rfl (by omega) h | exact wc_nt rfl (by omega) h | exact wc_nf rfl (by omega) h | exact wc_skip h | exact wc_exit h | exact wc_ret h)
    | (refine g_rl ?_; first | exact rl_op h | exact rl_nil h | exact rl_on rfl h | exact rl_pt rfl (by omega) h | exact rl_qt rfl (by omega) h | exact rl_nt rfl (by omega) h | exact rl_mt rfl (by omega) h)
    | exact tq_normal h | exact bq_normal h | exact bq_hit h | exact bq_miss (by decide) h | exact tq_exit h | exact lq_exit h | exact tq_ret h | exact bq_ret h | exact lq_ret h) : G := e h
/-- One step that leaves a value. -/
theorem su {G G' : Prop} (h : G') (e : G' → G := by
    intro h
    first
    | (refine g_rl ?_; first | exact rl_off rfl rfl h | exact rl_undef rfl h | exact rl_pf rfl (by omega) h | exact rl_qf rfl (by omega) h | exact rl_nf rfl (by omega) h | exact rl_mf rfl (by omega) h)
    | (refine g_ow ?_; first | (refine g_bin ?_; exact p_b h) | (refine g_call ?_; exact p_l h) | exact p_o h)) : G := e h
theorem h_m {E : Env} {L : List Item} {w : World} {L2 : List Item} {C : Prop} (hA : Sat E L w) (h : Sat E L2 w → C)
    (e : L = L2 := by (try simp only [List.drop_zero, List.drop_nil, List.drop_succ_cons, List.take_succ_cons, List.take_zero, List.length_cons, List.length_nil, Nat.zero_add, Nat.reduceAdd]); (try simp only [ev, List.cons_append, List.eraseIdx_cons_succ, List.getD_cons_succ, List.getD_cons_zero, List.set_cons_succ, List.set_cons_zero, List.eraseIdx_cons_zero, List.map_cons, List.map_nil, setRun, zeroRow, Value.cells, Nat.zero_mul, Nat.zero_add, Nat.reduceMul, Nat.reduceAdd, List.append_nil, List.nil_append]); first | done | rfl) : C := h (e ▸ hA)
end Go.Proofs.YtomfoaaaeidpnaaDoor
