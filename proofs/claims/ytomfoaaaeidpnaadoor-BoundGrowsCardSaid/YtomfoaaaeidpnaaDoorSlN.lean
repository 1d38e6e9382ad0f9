/-
  Short steps: what every step writes again, said once.
-/
import Derived.Test.YtomfoaaaeidpnaaDoorSlY
set_option linter.unusedVariables false
namespace Go.Proofs.YtomfoaaaeidpnaaDoor
open Go Go.RowKit
section
variable {ro : Option Nat} {P : Program} {ds : List Deferred} {K : List Value → World → Prop} {Q : Exit → Act → World → Prop} {r : List GOp} {l l' : List Value} {w : World} {c : Code} {o : Oper} {next : List Value → World → Prop}
theorem rn (h : RL ro P ds K Q r l' w)
    (e : l = l' := by (try simp only [put, ev, setRun, Value.cells, List.set_cons_succ, List.set_cons_zero, List.getD_cons_succ, List.getD_cons_zero, List.map_cons, List.map_nil, List.append_nil, List.nil_append, setAll, List.zip_cons_cons, List.zip_nil_right, Nat.reduceAdd, Nat.zero_add, Nat.add_zero]); first | done | rfl) : RL ro P ds K Q r l w := by subst e; exact h
end
section
variable {ro : Option Nat} {P : Program} {l : List Value} {ds : List Deferred} {w : World} {next : List Value → World → Prop} {Q : Exit → Act → World → Prop}
variable {d : Option Tmp} {ty : TypeId} {pos : String} {aft : Array Edge} {g : Option (Nat × Bool)} {T T' : TypeId} {X Y Z : Operand} {v v' : Value}
variable {E E0 : Env} {L : List Item} {u : TypeDesc} {z : Value} {zs : List Value} {sz by_ : Nat}
theorem opr (h : ev l X = v := by first | exact sel_on rfl (by assumption) | exact sel_on rfl (and_l (by assumption)) | rfl) : ev l X = v := h
theorem pe {lf : List Value} (h : v = v' := by (try simp only [ev, List.getD_cons_succ, List.getD_cons_zero, Nat.zero_add]); rfl) : put lf d v = put lf d v' := put_eq h
theorem t_loadx {b k : Nat} {cs : List Value} {S : TypeId} [t : Ty P T u z zs sz by_] (hx : ev l X = .pointer (some ⟨b, k, none⟩)) (hA : Sat E L w) (h : next (put l d v) w) (hu : plainT u = true := by rfl)
    (hi : ∃ i : Nat, L[i]? = some (cells b cs S) := by first | exact ⟨0, rfl⟩ | exact ⟨1, rfl⟩ | exact ⟨2, rfl⟩ | exact ⟨3, rfl⟩ | exact ⟨4, rfl⟩ | exact ⟨5, rfl⟩ | exact ⟨6, rfl⟩) (hv : cs[k]? = some v := by rfl) : OW ro P ⟨d, .load T X, ty, pos, aft, g⟩ l ds w next Q := by
  obtain ⟨i, hi⟩ := hi
  exact t_load i hu hx hA hi hv h
theorem t_loada {b k : Nat} {cs vs : List Value} {S : TypeId} [t : Ty P T u z zs sz by_] (hx : ev l X = .pointer (some ⟨b, k, none⟩)) (hA : Sat E L w) (h : next (put l d (.agg ⟨vs⟩)) w) (hu : plainT u = false := by rfl)
    (hi : ∃ i : Nat, L[i]? = some (cells b cs S) := by first | exact ⟨0, rfl⟩ | exact ⟨1, rfl⟩ | exact ⟨2, rfl⟩ | exact ⟨3, rfl⟩ | exact ⟨4, rfl⟩) (hk : k + sz ≤ cs.length := by exact Nat.le_of_ble_eq_true rfl)
    (hvs : (cs.drop k).take sz = vs := by (simp only [List.drop_zero, List.drop_succ_cons, List.take_succ_cons, List.take_zero]); exact rfl) : OW ro P ⟨d, .load T X, ty, pos, aft, g⟩ l ds w next Q := by
  obtain ⟨i, hi⟩ := hi
  exact t_load_agg i hu hx hA hi hk hvs h
end
section
variable {α : Type} {x0 x1 x2 x3 x4 x5 : α} {r : List α}
theorem at0 : (x0 :: r)[0]? = some x0 := rfl
theorem at1 : (x0 :: x1 :: r)[1]? = some x1 := rfl
theorem at2 : (x0 :: x1 :: x2 :: r)[2]? = some x2 := rfl
theorem at3 : (x0 :: x1 :: x2 :: x3 :: r)[3]? = some x3 := rfl
theorem at4 : (x0 :: x1 :: x2 :: x3 :: x4 :: r)[4]? = some x4 := rfl
theorem at5 : (x0 :: x1 :: x2 :: x3 :: x4 :: x5 :: r)[5]? = some x5 := rfl
end
section
variable {ro : Option Nat} {P : Program} {l l' : List Value} {ds : List Deferred} {w : World} {next : List Value → World → Prop} {Q : Exit → Act → World → Prop} {o : Oper}
variable {d : Option Tmp} {ty : TypeId} {pos : String} {aft : Array Edge} {g : Option (Nat × Bool)} {T T' : TypeId} {X Y Z : Operand} {v v' : Value}
variable {E E0 : Env} {L : List Item} {u : TypeDesc} {z : Value} {zs : List Value} {sz by_ : Nat}
theorem o_n (h : OW ro P o l' ds w next Q)
    (e : l = l' := by (try simp only [put, ev, setRun, Value.cells, List.set_cons_succ, List.set_cons_zero, List.getD_cons_succ, List.getD_cons_zero, List.map_cons, List.map_nil, List.append_nil, List.nil_append, setAll, List.zip_cons_cons, List.zip_nil_right, Nat.reduceAdd, Nat.zero_add, Nat.add_zero]); first | done | rfl) : OW ro P o l ds w next Q := by subst e; exact h
/-- An operation that only leaves a value. -/
def PureO (ro : Option Nat) (P : Program) (o : Oper) (l : List Value) (ds : List Deferred) (w : World) (v : Value) : Prop := ∀ (next : List Value → World → Prop) (Q : Exit → Act → World → Prop), next (put l o.dst v) w → OW ro P o l ds w next Q
theorem p_b (h : next (put l o.dst v) w) (hp : PureO ro P o l ds w v := by
    intro n q h
    first
    | exact ow_add64 rfl rfl (by omega) h | exact ow_sub64 rfl rfl (by omega) h | exact ow_mul64 rfl rfl (by omega) h | exact ow_quo64 rfl rfl (by omega) h | exact ow_remp rfl rfl (by omega) h | exact ow_eql rfl rfl h | exact ow_neq rfl rfl h | exact ow_lss rfl rfl h | exact ow_leq rfl rfl h | exact ow_gtr rfl rfl h | exact ow_geq rfl rfl h
    | exact ow_eqs rfl rfl h | exact ow_neqs rfl rfl h | exact t_eqlb rfl rfl h | exact t_neqb rfl rfl h | exact ow_add8 rfl rfl (by omega) h | exact ow_sub8 rfl rfl (by omega) h | exact ow_mul8 rfl rfl (by omega) h | exact ow_quo8 rfl rfl (by omega) h | exact ow_cat rfl rfl (by (try simp only [List.length_append, List.length_cons, List.length_nil]); omega) h) : OW ro P o l ds w next Q := hp _ _ h
theorem p_o (h : next (put l o.dst v) w) (hp : PureO ro P o l ds w v := by
    intro n q h
    first
    | exact ow_move h | exact ow_assign h | exact ow_pick_t rfl h | exact ow_pick_f rfl h | exact ow_pick_pt rfl (by omega) h | exact ow_pick_pf rfl (by omega) h | exact ow_pick_nt rfl (by omega) h | exact ow_pick_nf rfl (by omega) h | exact ow_extract rfl rfl h | exact ow_nilCheck rfl h | exact ow_makeFunc rfl rfl h | exact ow_not rfl h | exact t_fieldAddr rfl h | exact t_build rfl rfl rfl h) : OW ro P o l ds w next Q := hp _ _ h
theorem p_l (h : next (put l o.dst v) w) (hp : PureO ro P o l ds w v := by
    intro n q h
    first | exact t_len_str rfl h | exact t_len_slice rfl h) : OW ro P o l ds w next Q := hp _ _ h
theorem p_c (hA : Sat E L w) (h : next (put l o.dst v) w) (hp : PureO ro P o l ds w v := by
    intro n q h
    first | exact t_conv64 rfl (by omega) h | exact t_conv8 rfl (by omega) h | exact t_bytes_str 0 rfl (by assumption) rfl h | exact t_bytes_str 1 rfl (by assumption) rfl h | exact t_bytes_str 2 rfl (by assumption) rfl h | exact t_bytes_str 3 rfl (by assumption) rfl h | exact t_bytes_str 4 rfl (by assumption) rfl h | exact t_cells_str 0 rfl (by assumption) rfl rfl rfl h | exact t_cells_str 1 rfl (by assumption) rfl rfl rfl h | exact t_cells_str 2 rfl (by assumption) rfl rfl rfl h) : OW ro P o l ds w next Q := hp _ _ h
theorem h_n {L2 : List Item} {C : Prop} (hA : Sat E L w) (h : Sat E L2 w → C)
    (e : L = L2 := by (try simp only [ev, List.cons_append, List.eraseIdx_cons_succ, List.getD_cons_succ, List.getD_cons_zero, List.set_cons_succ, List.set_cons_zero, List.eraseIdx_cons_zero, List.map_cons, List.map_nil, setRun, zeroRow, Value.cells, Nat.zero_mul, Nat.zero_add, Nat.reduceMul, Nat.reduceAdd, List.append_nil, List.nil_append]); first | done | rfl) : C := h (e ▸ hA)
theorem t_appx {i : Nat} {e : TypeId} {b : Nat} {n c m : Nat} {xs news : List Value} {S : TypeId} {u' : TypeDesc} {z' : Value} {zs' : List Value} {sz' by' : Nat} [t : Ty P T (.slice e) z zs sz by_] [t' : Ty P e u' z' zs' sz' by'] (hx : ev l X = v) (hy : ev l Y = .slice (some ⟨b, 0, none⟩) m c) (hA : Sat E L w) (hj : L[0]? = some (cells b news S))
    (h : ∀ v' w', Sat E ((L.set i (row e sz' v' (n + m) (xs ++ news))).eraseIdx 0) w' → v'.oneCell' = true → (v' = .slice none 0 0 ↔ v = .slice none 0 0 ∧ m = 0) → next (put l d v') w')
    (hi : L[i]? = some (row e sz' v n xs) := by first | exact at1 | exact at2 | exact at3 | exact at4 | exact at5) (hsz : 0 < sz' := by decide) (hzl : zs'.length = sz' := by rfl) (hl : news.length = m * sz' := by rfl) (ho : ∀ u ∈ news, u.oneCell' = true := by simp [Value.oneCell'])
    (hr : n + m ≤ maxLen := by unfold maxLen; omega) (hb : (n + m) * by' ≤ 140737488355328 := by omega) :
    OW ro P ⟨d, .call { callee := .builtin .append, args := #[X, Y], argTypes := #[T, T] }, ty, pos, aft, g⟩ l ds w next Q := t_append1 i 0 hsz hzl hx hy hA hi hj hl ho hr hb h
theorem t_storex {i b k : Nat} {cs : List Value} {S : TypeId} [t : Ty P T u z zs 1 by_] (hx : ev l X = .pointer (some ⟨b, k, none⟩)) (hy : ev l Y = v) (hA : Sat E L w) (h : ∀ w', Sat E (L.set i (cells b (cs.set k v) S)) w' → next (put l d undef) w') (h1 : v.oneCell' = true := by first | rfl | assumption)
    (hi : L[i]? = some (cells b cs S) := by first | exact at0 | exact at1 | exact at2 | exact at3 | exact at4 | exact at5) (hk : k < cs.length := by simp) : OW ro P ⟨d, .store T X Y, ty, pos, aft, g⟩ l ds w next Q := t_store i hx hy h1 hA hi hk h
theorem t_storea {i b k : Nat} {cs vs : List Value} {S : TypeId} [t : Ty P T u z zs sz by_] (hx : ev l X = .pointer (some ⟨b, k, none⟩)) (hy : ev l Y = .agg ⟨vs⟩) (hA : Sat E L w) (h : ∀ w', Sat E (L.set i (cells b (cs.take k ++ vs ++ cs.drop (k + vs.length)) S)) w' → next (put l d undef) w')
    (h1 : ∀ v ∈ vs, v.oneCell' = true := by simp only [List.mem_cons, List.not_mem_nil, or_false, forall_eq_or_imp, forall_eq]; (repeat' apply And.intro) <;> first | rfl | assumption) (hl : vs.length = sz := by rfl)
    (hi : L[i]? = some (cells b cs S) := by first | exact at0 | exact at1 | exact at2 | exact at3 | exact at4 | exact at5) (hk : k + vs.length ≤ cs.length := by exact Nat.le_of_ble_eq_true rfl) : OW ro P ⟨d, .store T X Y, ty, pos, aft, g⟩ l ds w next Q := t_store_agg i hx hy h1 hl hA hi hk h
end
/-- One step that asks for nothing: structure, and what is decided. -/
theorem st {G G' : Prop} (h : G') (e : G' → G := by
    intro h
    first
    | (refine g_wc ?_; first | exact wc_seq h | exact wc_block h | exact wc_true rfl h | exact wc_false rfl h | exact wc_pt rfl (by omega) h | exact wc_pf rfl (by omega) h | exact wc_nt rfl (by omega) h | exact wc_nf rfl (by omega) h | exact wc_skip h | exact wc_exit h | exact wc_ret h)
    | (refine g_rl ?_; first | exact rl_op h | exact rl_nil h | exact rl_on rfl h | exact rl_pt rfl (by omega) h | exact rl_qt rfl (by omega) h | exact rl_nt rfl (by omega) h | exact rl_mt rfl (by omega) h)
    | exact tq_normal h | exact bq_normal h | exact bq_hit h | exact bq_miss (by decide) h | exact tq_exit h | exact lq_exit h | exact tq_ret h | exact bq_ret h | exact lq_ret h) : G := e h
/-- One step that leaves a value. -/
theorem su {G G' : Prop} (h : G') (e : G' → G := by
    intro h
    first
    | (refine g_rl ?_; first | exact rl_off rfl rfl h | exact rl_undef rfl h | exact rl_pf rfl (by omega) h | exact rl_qf rfl (by omega) h | exact rl_nf rfl (by omega) h | exact rl_mf rfl (by omega) h)
    | (refine g_ow ?_; first | (refine g_bin ?_; exact p_b h) | (refine g_call ?_; exact p_l h) | exact p_o h)) : G := e h
theorem h_m {E : Env} {L : List Item} {w : World} {L2 : List Item} {C : Prop} (hA : Sat E L w) (h : Sat E L2 w → C)
    (e : L = L2 := by (try simp only [List.drop_zero, List.drop_nil, List.drop_succ_cons, List.take_succ_cons, List.take_zero, List.length_cons, List.length_nil, Nat.zero_add, Nat.reduceAdd]); (try simp only [ev, List.cons_append, List.eraseIdx_cons_succ, List.getD_cons_succ, List.getD_cons_zero, List.set_cons_succ, List.set_cons_zero, List.eraseIdx_cons_zero, List.map_cons, List.map_nil, setRun, zeroRow, Value.cells, Nat.zero_mul, Nat.zero_add, Nat.reduceMul, Nat.reduceAdd, List.append_nil, List.nil_append]); first | done | rfl) : C := h (e ▸ hA)
/-- What is asked for later. -/
def Hd (p : Prop) : Prop := p
theorem Hd.o {p : Prop} (h : Hd p) : p := h
/-- One step that leaves a value, and what it leaves written again. -/
theorem sr {G G' : Prop} (h : G') (e : Hd G' → G := by
    intro h
    first
    | (refine g_rl ?_; first | (refine rl_off rfl rfl ?_; exact rn h.o) | (refine rl_undef rfl ?_; exact rn h.o) | (refine rl_pf rfl (by omega) ?_; exact rn h.o) | (refine rl_qf rfl (by omega) ?_; exact rn h.o) | (refine rl_nf rfl (by omega) ?_; exact rn h.o) | (refine rl_mf rfl (by omega) ?_; exact rn h.o))
    | (refine g_ow ?_; first | (refine g_bin ?_; refine p_b ?_; exact rn h.o) | (refine g_call ?_; refine p_l ?_; exact rn h.o) | (refine p_o ?_; exact rn h.o))) : G := e h
/-- One step that reads. -/
theorem sl {E : Env} {L : List Item} {w : World} {G G' : Prop} (hA : Sat E L w) (h : G') (e : Sat E L w → Hd G' → G := by
    intro hA h
    refine g_ow ?_
    first
    | (refine g_conv ?_; refine p_c hA ?_; exact rn h.o)
    | (refine g_load ?_; (first | refine t_loadx rfl hA ?_ | refine t_loada rfl hA ?_); exact rn h.o)) : G := e hA h
/-- One step that stores. -/
theorem s_w {E : Env} {L L2 : List Item} {w : World} {G : Prop} {G' : World → Prop} (hA : Sat E L w) (h : ∀ w', Sat E L2 w' → G' w') (e : Sat E L w → (∀ w', Sat E L2 w' → G' w') → G := by
    intro hA h
    refine g_store ?_
    (first | refine t_storex rfl rfl hA ?_ | refine t_storea rfl rfl hA ?_)
    intro w hA
    refine h_m hA ?_
    intro hA
    refine rn ?_
    exact h w hA) : G := e hA h
/-- One step that makes a block. -/
theorem s_b {E : Env} {L : List Item} {L2 : Nat → List Item} {w : World} {G : Prop} {G' : Nat → World → Prop} (hA : Sat E L w) (h : ∀ b w', Sat E (L2 b) w' → G' b w') (e : Sat E L w → (∀ b w', Sat E (L2 b) w' → G' b w') → G := by
    intro hA h
    refine g_ow ?_
    (first | refine t_alloc hA ?_ | refine ow_box rfl rfl hA ?_ | refine t_buildSlice rfl (by decide) rfl hA ?_)
    intro b w hA
    refine h_n hA ?_
    intro hA
    refine rn ?_
    exact h b w hA) : G := e hA h
/-- One step that makes a slice. -/
theorem s_v {E : Env} {L : List Item} {L2 : Value → List Item} {X : Value → Prop} {w : World} {G : Prop} {G' : Value → World → Prop} (hA : Sat E L w) (h : ∀ v w', Sat E (L2 v) w' → v.oneCell' = true → X v → G' v w')
    (e : Sat E L w → (∀ v w', Sat E (L2 v) w' → v.oneCell' = true → X v → G' v w') → G := by
    intro hA h
    refine g_ow ?_
    (first | (refine g_call ?_; refine t_appx rfl rfl hA rfl ?_) | refine t_make rfl rfl (by omega) (by omega) hA ?_)
    intro v w hA hone hnil
    refine h_n hA ?_
    intro hA
    refine rn ?_
    exact h v w hA hone hnil) : G := e hA h
/-- One step that parts the ways. -/
theorem sp {C D G G1 G2 : Prop} (h1 : C → G1) (h2 : D → G2) (e : (C → G1) → (D → G2) → G := by
    intro h1 h2
    first
    | exact wc_pp rfl h1 h2 | exact wc_nn rfl h1 h2
    | (refine rl_pp rfl (fun h => ?_) (fun h => ?_); (exact o_n (h1 h)); exact rn (h2 h)) | (refine rl_qq rfl (fun h => ?_) (fun h => ?_); (exact o_n (h1 h)); exact rn (h2 h))
    | (refine rl_nn rfl (fun h => ?_) (fun h => ?_); (exact o_n (h1 h)); exact rn (h2 h)) | (refine rl_mm rfl (fun h => ?_) (fun h => ?_); (exact o_n (h1 h)); exact rn (h2 h))) : G := e h1 h2
section
variable {ro : Option Nat} {P : Program} {l : List Value} {ds : List Deferred} {w : World} {next : List Value → World → Prop} {Q : Exit → Act → World → Prop} {o : Oper} {v : Value}
/-- An operation whose value is told by what it reads. -/
theorem oq (h : next (put l o.dst v) w) (hp : PureO ro P o l ds w v := by
    intro n q h
    first
    | (refine g_bin ?_; first | exact ow_add64 rfl rfl (by omega) h | exact ow_cat rfl rfl (by (try simp only [List.length_append, List.length_cons, List.length_nil]); omega) h | exact ow_add8 rfl rfl (by omega) h | exact ow_sub64 rfl rfl (by omega) h | exact ow_sub8 rfl rfl (by omega) h | exact ow_mul64 rfl rfl (by omega) h | exact ow_mul8 rfl rfl (by omega) h | exact ow_quo64 rfl rfl (by omega) h | exact ow_quo8 rfl rfl (by omega) h | exact ow_remp rfl rfl (by omega) h | exact ow_eql rfl rfl h | exact ow_eqs rfl rfl h | exact t_eqlb rfl rfl h | exact ow_neq rfl rfl h | exact ow_neqs rfl rfl h | exact t_neqb rfl rfl h | exact ow_lss rfl rfl h | exact ow_leq rfl rfl h | exact ow_gtr rfl rfl h | exact ow_geq rfl rfl h | exact ow_bits_and rfl rfl h | exact ow_shl rfl rfl (by omega) h | exact ow_shr rfl rfl (by omega) h)
    | (refine g_load ?_; first | exact t_loadx rfl (by assumption) h | exact t_loada rfl (by assumption) h)
    | (refine g_conv ?_; first | exact t_conv64 rfl (by omega) h | exact t_conv8 rfl (by omega) h)
    | (refine g_call ?_; first | exact t_len_str rfl h | exact t_len_slice rfl h)
    | exact ow_move_v rfl h
    | exact ow_assign_v rfl h
    | exact ow_and rfl (by first | rfl) rfl h
    | exact ow_or rfl rfl (by first | rfl) h
    | exact ow_pick rfl rfl rfl h
    | exact ow_extract rfl rfl h
    | exact ow_nilCheck rfl h
    | exact ow_not rfl h
    | exact ow_neg rfl h
    | exact t_fieldAddr rfl h
    | exact t_indexAddr rfl rfl (by omega) h
    | exact t_build rfl rfl rfl h
    | exact ow_makeFunc rfl rfl h) : OW ro P o l ds w next Q := hp _ _ h
/-- The same, where its guard is on. -/
theorem oqg (h : next (put l o.dst v) w) (hp : PureO ro P o l ds w v := by
    intro n q h
    first
    | (refine g_bin ?_; first | exact ow_add64 opr opr (by omega) h | exact ow_cat opr opr (by (try simp only [List.length_append, List.length_cons, List.length_nil]); omega) h | exact ow_add8 opr opr (by omega) h | exact ow_sub64 opr opr (by omega) h | exact ow_sub8 opr opr (by omega) h | exact ow_mul64 opr opr (by omega) h | exact ow_mul8 opr opr (by omega) h | exact ow_quo64 opr opr (by omega) h | exact ow_quo8 opr opr (by omega) h | exact ow_remp opr opr (by omega) h | exact ow_eql opr opr h | exact ow_eqs opr opr h | exact t_eqlb opr opr h | exact ow_neq opr opr h | exact ow_neqs opr opr h | exact t_neqb opr opr h | exact ow_lss opr opr h | exact ow_leq opr opr h | exact ow_gtr opr opr h | exact ow_geq opr opr h | exact ow_bits_and opr opr h | exact ow_shl opr opr (by omega) h | exact ow_shr opr opr (by omega) h)
    | (refine g_load ?_; first | exact t_loadx opr (by assumption) h | exact t_loada opr (by assumption) h)
    | (refine g_conv ?_; first | exact t_conv64 opr (by omega) h | exact t_conv8 opr (by omega) h)
    | (refine g_call ?_; first | exact t_len_str opr h | exact t_len_slice opr h)
    | exact ow_move_v opr h
    | exact ow_assign_v opr h
    | exact ow_and opr (by first | rfl | exact sel_in rfl (by assumption)) rfl h
    | exact ow_or opr rfl (by first | rfl | exact sel_in rfl (by assumption)) h
    | exact ow_pick opr opr opr h
    | exact ow_extract opr rfl h
    | exact ow_nilCheck opr h
    | exact ow_not opr h
    | exact ow_neg opr h
    | exact t_fieldAddr opr h
    | exact t_indexAddr opr opr (by omega) h
    | exact t_build rfl rfl rfl h
    | exact ow_makeFunc rfl rfl h) : OW ro P o l ds w next Q := hp _ _ h
end
section
variable {ro : Option Nat} {P : Program} {E : Env} {L : List Item} {w : World} {l l2 : List Value} {ds : List Deferred} {K : List Value → World → Prop} {Q : Exit → Act → World → Prop} {o : Oper} {r : List GOp} {v : Value}
/-- One operation in order, with nothing told about it. -/
theorem rv {G : Prop} {G' : World → Prop} (hA : Sat E L w) (h : ∀ w, Sat E L w → G' w) (e : Sat E L w → (∀ w, Sat E L w → G' w) → G := by
    intro hA h
    exact rl_v hA (by intro w hA; refine oq ?_; exact ⟨pe, hA⟩) (by intro w hA; refine rn ?_; exact h w hA)) : G := e hA h
theorem rf {G : Prop} {G' : World → Prop} (hA : Sat E L w) (h : ∀ w, Sat E L w → G' w) (e : Sat E L w → (∀ w, Sat E L w → G' w) → G := by
    intro hA h
    first
    | exact rl_F rfl hA (by intro hg w hA; refine oqg ?_; exact ⟨pe, hA⟩) (by intro w hA; refine rn ?_; exact h w hA)
    | exact rl_Fn rfl hA (by intro hg w hA; refine oqg ?_; exact ⟨pe, hA⟩) (by intro w hA; refine rn ?_; exact h w hA)) : G := e hA h
theorem rt {G : Prop} {G' : World → Prop} (hA : Sat E L w) (h : ∀ w, Sat E L w → G' w) (e : Sat E L w → (∀ w, Sat E L w → G' w) → G := by
    intro hA h
    first
    | exact rl_T rfl hA (by intro hg w hA; refine oqg ?_; exact ⟨pe, hA⟩) (by intro w hA; refine rn ?_; exact h w hA)
    | exact rl_Tn rfl hA (by intro hg w hA; refine oqg ?_; exact ⟨pe, hA⟩) (by intro w hA; refine rn ?_; exact h w hA)) : G := e hA h
end
/-- What is written in another form. -/
theorem hz {α : Type} {lf l1 l2 : List α} (hl : l1 = lf) (e : l1 = l2 := by (try simp only [setAll, List.zip_cons_cons, List.zip_nil_right, List.map_cons, List.map_nil, List.getD_cons_succ, List.getD_cons_zero, List.set_cons_succ, List.set_cons_zero]); first | done | rfl) : l2 = lf := e ▸ hl
theorem mn {D : Nat → Prop} {vals : List Value} {ps : Nat → Option (Env → Value → Prop)} {E : Env} {y : Nat → Value} {u : Value} (hph : ∀ j, D j → mixPhi vals ps j E (y j)) (j : Nat) (hj : D j := by decide) (hp : ps j = none := by rfl) (hv : vals[j]? = some u := by rfl) : u = y j := mix_known (hph j hj) hp hv
theorem mp {D : Nat → Prop} {vals : List Value} {ps : Nat → Option (Env → Value → Prop)} {E : Env} {y : Nat → Value} {p : Env → Value → Prop} (hph : ∀ j, D j → mixPhi vals ps j E (y j)) (j : Nat) (hj : D j := by decide) (hp : ps j = some p := by rfl) : p E (y j) := mix_pred (hph j hj) hp
end Go.Proofs.YtomfoaaaeidpnaaDoor
