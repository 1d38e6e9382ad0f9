/-
  What bound counts in numbers, its functions on numbers, and bound.sum of each type, walked.
-/
import Derived.Test.YtomfoaaaeidpnaaDoorM1
import Derived.Test.YtomfoaaaeidpnaaDoorSlD
set_option linter.unusedVariables false
set_option linter.unusedSimpArgs false
namespace Go.Proofs.YtomfoaaaeidpnaaDoor
open Go Go.RowKit
def escN (v k : Nat) : Nat := 2 * Nat.log2 (v / 2 ^ k + 1) + 1 + k
def compN (v : Int) : Nat := 11 + (if 9 ≤ v.natAbs then escN (v.natAbs - 9) 3 else 0)
def levelN (v : Int) : Nat := if v = 0 then 0 else 16 + (if 15 ≤ v.natAbs then escN (v.natAbs - 15) 0 else 0)
def sumN {α : Type} (f : α → Nat) (l : List α) : Nat := (l.map f).sum
def blockN (l : List Int) : Nat := if sumN levelN l = 0 then 1 else 1 + (2 * l.length - 2) + sumN levelN l
def predN (p : UInt8) : Nat := if p.toNat = 0 then 1 else 4
def refN (r : Int) : Nat := (r + 1).toNat
def vecN (v : Vec) : Nat := compN v.x + compN v.y
theorem sumN_nil {α : Type} (f : α → Nat) : sumN f [] = 0 := rfl
theorem sumN_cons {α : Type} (f : α → Nat) (a : α) (l : List α) : sumN f (a :: l) = f a + sumN f l := by simp [sumN]
theorem sumN_append {α : Type} (f : α → Nat) (a b : List α) : sumN f (a ++ b) = sumN f a + sumN f b := by simp [sumN]
theorem sumN_take {α : Type} (f : α → Nat) (l : List α) (i : Nat) (x : α) (h : l[i]? = some x) : sumN f (l.take (i + 1)) = sumN f (l.take i) + f x := by
  obtain ⟨hi, rfl⟩ := List.getElem?_eq_some_iff.1 h
  rw [List.take_succ_eq_append_getElem hi, sumN_append, sumN_cons, sumN_nil]; rfl
theorem sumN_le {α : Type} (f : α → Nat) (l : List α) (c : Nat) (h : ∀ x ∈ l, f x ≤ c) : sumN f l ≤ c * l.length := by
  induction l with
  | nil => exact Nat.le_refl _
  | cons a r ih =>
    rw [sumN_cons, List.length_cons, Nat.mul_add, Nat.mul_one]
    have h1 := h a (List.mem_cons_self ..)
    have h2 := ih fun x hx => h x (List.mem_cons_of_mem _ hx)
    omega
theorem sumN_mono {α : Type} (f : α → Nat) (l : List α) (i : Nat) : sumN f (l.take i) ≤ sumN f l := by
  conv => rhs; rw [← List.take_append_drop i l, sumN_append]
  omega
theorem log2_lt (n k : Nat) (h : n < 2 ^ k) (h0 : 1 ≤ k) : Nat.log2 n < k := by
  by_cases h1 : n = 0
  · subst h1; rw [Nat.log2_zero]; omega
  · exact (Nat.log2_lt h1).2 h
theorem escN_le (v k : Nat) (h : v < 1000000) (hk : k ≤ 3) : escN v k ≤ 50 := by
  unfold escN
  have h1 : v / 2 ^ k ≤ v := Nat.div_le_self _ _
  have := log2_lt (v / 2 ^ k + 1) 20 (by omega) (by omega)
  omega
theorem compN_le (v : Int) (h : v.natAbs ≤ 100000) : compN v ≤ 61 := by
  unfold compN
  have := escN_le (v.natAbs - 9) 3 (by omega) (by omega)
  split <;> omega
theorem levelN_le (v : Int) (h : v.natAbs ≤ 100000) : levelN v ≤ 66 := by
  unfold levelN
  have := escN_le (v.natAbs - 15) 0 (by omega) (by omega)
  split
  · omega
  · split <;> omega
theorem blockN_le (l : List Int) (h : ∀ x ∈ l, x.natAbs ≤ 100000) : blockN l ≤ 1 + 68 * l.length := by
  have := sumN_le levelN l 66 fun x hx => levelN_le x (h x hx)
  unfold blockN
  split <;> omega
theorem predN_le (p : UInt8) : predN p ≤ 4 := by unfold predN; split <;> omega
attribute [local irreducible] WC RL OW bodyPostM ThenQ BlockQ LoopQ ScopeQ
section
variable {ro : Option Nat} {P : Program} {l : List Value} {ds : List Deferred} {w : World} {next : List Value → World → Prop} {Q : Exit → Act → World → Prop}
variable {d : Option Tmp} {ty : TypeId} {pos : String} {aft : Array Edge} {g : Option (Nat × Bool)} {T T' : TypeId} {X Y : Operand}
theorem t_unI {x : Int} (hx : ev l X = .int .i64 x) (hr : -9223372036854775807 ≤ x ∧ x ≤ 9223372036854775807) (h : next (put l d (.int .i64 (-x))) w) : OW ro P ⟨d, .unOp .neg T X, ty, pos, aft, g⟩ l ds w next Q :=
  ow_neg hx (by rw [IntWalk.i64_in _ (by omega)]; exact h)
theorem t_shrN {x y : Nat} {j : IntKind} (hx : ev l X = .int .i64 (x : Int)) (hy : ev l Y = .int j (y : Int)) (hk : y ≤ 64) {q : Nat} (hq : x / 2 ^ y = q) (h : next (put l d (.int .i64 (q : Int))) w) : OW ro P ⟨d, .binOp .shr T X Y T', ty, pos, aft, g⟩ l ds w next Q := by
  refine ow_shr hx hy (by omega) ?_
  have e : min ((y : Int)).toNat IntKind.i64.bits = y := by show min ((y : Int)).toNat 64 = y; omega
  rw [e, Int.fdiv_eq_ediv_of_nonneg _ (by exact_mod_cast Nat.zero_le _)]
  rw [← hq] at h
  exact_mod_cast h
theorem t_shr1 {x : Nat} {j : IntKind} (hx : ev l X = .int .i64 (x : Int)) (hy : ev l Y = .int j 1) (h : next (put l d (.int .i64 ((x / 2 : Nat) : Int))) w) : OW ro P ⟨d, .binOp .shr T X Y T', ty, pos, aft, g⟩ l ds w next Q :=
  t_shrN (y := 1) hx hy (by omega) rfl h
theorem t_convU {n : Nat} {u : TypeDesc} {z z' : Value} {zs zs' : List Value} {sz sz' by_ by' : Nat} [t : Ty P T u z zs sz by_] [t' : Ty P T' (.int .u64) z' zs' sz' by'] (hx : ev l X = .int .i64 (n : Int)) (hr : n ≤ 1000000) (h : next (put l d (.int .u64 (n : Int))) w) : OW ro P ⟨d, .convert T T' X, ty, pos, aft, g⟩ l ds w next Q :=
  t_conv hx (by rw [IntKind.wrap_u64, Int.emod_eq_of_lt (by omega) (by omega)]; exact h)
theorem t_quo2 {x : Nat} (hx : ev l X = .int .i64 (x : Int)) (hy : ev l Y = .int .i64 2) (hr : x ≤ 1000000) (h : next (put l d (.int .i64 ((x / 2 : Nat) : Int))) w) : OW ro P ⟨d, .binOp .quo T X Y T', ty, pos, aft, g⟩ l ds w next Q := by
  refine ow_quo64 hx hy (by omega) ?_
  exact_mod_cast h
theorem t_maxI {k k' : IntKind} {x y : Int} (hx : ev l X = .int k x) (hy : ev l Y = .int k' y) (h : next (put l d (.int k (max x y))) w) :
    OW ro P ⟨d, .call { callee := .builtin .max, args := #[X, Y], argTypes := #[T, T'] }, ty, pos, aft, g⟩ l ds w next Q := by
  refine ow_run (v := .int k (max x y)) ?_ rfl h
  simp [execOp, resolve, invoke, builtin, hx, hy, Lib.run_max_ints]
end
theorem log2_half {n : Nat} (h : 2 ≤ n) : Nat.log2 n = Nat.log2 (n / 2) + 1 := by
  rw [Nat.log2_def, if_pos h]
section
variable (E : Env) (L : List Item) (w : World)
theorem babs_calls (v : Int) (hr : v.natAbs ≤ 100000) (hA : Sat E L w) : Calls Tryd.prog 130 ⟨[vi v]⟩ w (Ret E L (vi v.natAbs)) := by
  have e : (v.natAbs : Int) = max v (-v) := by omega
  rw [e]
  refine enter (fn := Tryd.f130) Tryd.func130 rfl 7 rfl [vi v, undef, undef, undef, undef, undef, undef] rfl ?_
  repeat' (first | (refine g_ow ?_; refine t_unI rfl (by omega) ?_; refine rn ?_) | (refine g_ow ?_; refine t_maxI rfl rfl ?_; refine rn ?_) | refine st ?_ | refine sr ?_ | refine sl hA ?_ | (refine s_w hA ?_; clear hA; (try clear w); intro w hA) | (refine s_v hA ?_; clear hA; (try clear w); intro v w hA hone hnil) | (refine s_b hA ?_; clear hA; (try clear w); intro b w hA) | refine sp (fun h => ?_) (fun h => ?_) | (refine wc_region ?_))
  exact ret1 hA rfl rfl
theorem rabs_calls (v : Int) (hr : v.natAbs ≤ 100000) (hA : Sat E L w) : Calls Tryd.prog 101 ⟨[vi v]⟩ w (Ret E L (vi v.natAbs)) := by
  have e : (v.natAbs : Int) = max v (-v) := by omega
  rw [e]
  refine enter (fn := Tryd.f101) Tryd.func101 rfl 7 rfl [vi v, undef, undef, undef, undef, undef, undef] rfl ?_
  repeat' (first | (refine g_ow ?_; refine t_unI rfl (by omega) ?_; refine rn ?_) | (refine g_ow ?_; refine t_maxI rfl rfl ?_; refine rn ?_) | refine st ?_ | refine sr ?_ | refine sl hA ?_ | (refine s_w hA ?_; clear hA; (try clear w); intro w hA) | (refine s_v hA ?_; clear hA; (try clear w); intro v w hA hone hnil) | (refine s_b hA ?_; clear hA; (try clear w); intro b w hA) | refine sp (fun h => ?_) (fun h => ?_) | (refine wc_region ?_))
  exact ret1 hA rfl rfl
theorem besc_calls (v k : Nat) (hv : v < 1000000) (hk : k ≤ 3) (hA : Sat E L w) : Calls Tryd.prog 131 ⟨[vi v, vi k]⟩ w (Ret E L (vi (escN v k))) := by
  refine enter (fn := Tryd.f131) Tryd.func131 rfl 22 rfl [vi v, vi k, undef, undef, undef, undef, undef, undef, undef, undef, undef, undef, undef, undef, undef, undef, undef, undef, undef, undef, undef, undef] rfl ?_
  have hd : v / 2 ^ k ≤ v := Nat.div_le_self _ _
  have hT := log2_lt (v / 2 ^ k + 1) 20 (by omega) (by omega)
  unfold escN
  generalize hq : v / 2 ^ k = q at *
  repeat' (first | (refine wc_scope ?_) | (refine wc_label ?_) | (refine sq_normal ?_) | (refine g_bin ?_; refine t_shrN rfl rfl (by omega) hq ?_; refine rn ?_) | refine st ?_ | refine sr ?_ | refine sl hA ?_ | (refine s_w hA ?_; clear hA; (try clear w); intro w hA) | (refine s_v hA ?_; clear hA; (try clear w); intro v w hA hone hnil) | (refine s_b hA ?_; clear hA; (try clear w); intro b w hA) | refine sp (fun h => ?_) (fun h => ?_) | (refine wc_region ?_))
  generalize hT' : Nat.log2 (q + 1) = T at *
  refine wc_loopn (fun m l w => ∃ (n c : Nat), (∃ jk : Nat → Value, l = [vi v, vi k, jk 2, jk 3, vi 0, vi n, vi c, jk 7, jk 8, jk 9, jk 10, jk 11, jk 12, jk 13, jk 14, jk 15, jk 16, jk 17, jk 18, jk 19, jk 20, jk 21]) ∧ m = Nat.log2 n ∧ c + m = T ∧ 1 ≤ n ∧ n ≤ 1000000 ∧ Sat E L w) T ⟨q + 1, 0, (ex_getD rfl), hT'.symm, by omega, by omega, by omega, hA⟩ ?_
  clear hA
  rintro m l w ⟨n, c, ⟨jk, rfl⟩, hm, hc, h1, h2, hA⟩
  by_cases hn : n = 1
  · subst hn
    have hm : m = 0 := hm.trans (by decide)
    repeat' (first | (refine sq_normal ?_) | (refine sq_exit ?_) | (refine sq_ret ?_) | refine st ?_ | refine sr ?_ | refine sl hA ?_ | (refine s_w hA ?_; clear hA; (try clear w); intro w hA) | (refine s_v hA ?_; clear hA; (try clear w); intro v w hA hone hnil) | (refine s_b hA ?_; clear hA; (try clear w); intro b w hA) | refine sp (fun h => ?_) (fun h => ?_) | (refine wc_region ?_))
    exact ret1 hA rfl (by show vi _ = vi _; congr 1; omega)
  · have hh := log2_half (n := n) (by omega)
    repeat' (first | (refine sq_normal ?_) | (refine sq_exit ?_) | (refine sq_ret ?_) | (refine g_bin ?_; refine t_shr1 rfl rfl ?_; refine rn ?_) | refine st ?_ | refine sr ?_ | refine sl hA ?_ | (refine s_w hA ?_; clear hA; (try clear w); intro w hA) | (refine s_v hA ?_; clear hA; (try clear w); intro v w hA hone hnil) | (refine s_b hA ?_; clear hA; (try clear w); intro b w hA) | refine sp (fun h => ?_) (fun h => ?_) | (refine wc_region ?_))
    exact lq_next (m - 1) (by omega) ⟨n / 2, c + 1, (ex_getD rfl), by omega, by omega, by omega, by omega, hA⟩
theorem resc_calls (v k : Nat) (hv : v < 1000000) (hk : k ≤ 3) (hA : Sat E L w) : Calls Tryd.prog 102 ⟨[vi v, vi k]⟩ w (Ret E L (vi (escN v k))) := by
  refine enter (fn := Tryd.f102) Tryd.func102 rfl 23 rfl [vi v, vi k, undef, undef, undef, undef, undef, undef, undef, undef, undef, undef, undef, undef, undef, undef, undef, undef, undef, undef, undef, undef, undef] rfl ?_
  have hd : v / 2 ^ k ≤ v := Nat.div_le_self _ _
  have hT := log2_lt (v / 2 ^ k + 1) 20 (by omega) (by omega)
  unfold escN
  generalize hq : v / 2 ^ k = q at *
  repeat' (first | (refine g_ow ?_; refine t_convU rfl (by omega) ?_; refine rn ?_) | (refine g_bin ?_; refine t_shrN rfl rfl (by omega) hq ?_; refine rn ?_) | refine st ?_ | refine sr ?_ | refine sl hA ?_ | (refine s_w hA ?_; clear hA; (try clear w); intro w hA) | (refine s_v hA ?_; clear hA; (try clear w); intro v w hA hone hnil) | (refine s_b hA ?_; clear hA; (try clear w); intro b w hA) | refine sp (fun h => ?_) (fun h => ?_) | (refine wc_region ?_))
  generalize hT' : Nat.log2 (q + 1) = T at *
  refine wc_loopn (fun m l w => ∃ (n c : Nat), (∃ jk : Nat → Value, l = [vi v, vi k, jk 2, jk 3, vi 0, vi c, vi n, jk 7, jk 8, jk 9, jk 10, jk 11, jk 12, jk 13, jk 14, jk 15, jk 16, jk 17, jk 18, jk 19, jk 20, jk 21, jk 22]) ∧ m = Nat.log2 n ∧ c + m = T ∧ 1 ≤ n ∧ n ≤ 1000000 ∧ Sat E L w) T ⟨q + 1, 0, (ex_getD rfl), hT'.symm, by omega, by omega, by omega, hA⟩ ?_
  clear hA
  rintro m l w ⟨n, c, ⟨jk, rfl⟩, hm, hc, h1, h2, hA⟩
  by_cases hn : n = 1
  · subst hn
    have hm : m = 0 := hm.trans (by decide)
    repeat' (first | refine st ?_ | refine sr ?_ | refine sl hA ?_ | (refine s_w hA ?_; clear hA; (try clear w); intro w hA) | (refine s_v hA ?_; clear hA; (try clear w); intro v w hA hone hnil) | (refine s_b hA ?_; clear hA; (try clear w); intro b w hA) | refine sp (fun h => ?_) (fun h => ?_) | (refine wc_region ?_))
    exact ret1 hA rfl (by show vi _ = vi _; congr 1; omega)
  · have hh := log2_half (n := n) (by omega)
    repeat' (first | (refine g_bin ?_; refine t_quo2 rfl rfl (by omega) ?_; refine rn ?_) | refine st ?_ | refine sr ?_ | refine sl hA ?_ | (refine s_w hA ?_; clear hA; (try clear w); intro w hA) | (refine s_v hA ?_; clear hA; (try clear w); intro v w hA hone hnil) | (refine s_b hA ?_; clear hA; (try clear w); intro b w hA) | refine sp (fun h => ?_) (fun h => ?_) | (refine wc_region ?_))
    exact lq_next (m - 1) (by omega) ⟨n / 2, c + 1, (ex_getD rfl), by omega, by omega, by omega, by omega, hA⟩
theorem bcomp_calls (v : Int) (hr : v.natAbs ≤ 100000) (hA : Sat E L w) : Calls Tryd.prog 97 ⟨[vi v]⟩ w (Ret E L (vi (compN v))) := by
  unfold compN
  refine enter (fn := Tryd.f97) Tryd.func97 rfl 11 rfl [vi v, undef, undef, undef, undef, undef, undef, undef, undef, undef, undef] rfl ?_
  by_cases h : 9 ≤ v.natAbs
  · rw [if_pos h]
    have hs : (v.natAbs : Int) - 9 = ((v.natAbs - 9 : Nat) : Int) := by omega
    have he := escN_le (v.natAbs - 9) 3 (by omega) (by omega)
    repeat' (first | (refine g_callf 130 ?_; refine ow_call Tryd.call130 rfl ((babs_calls _ _ _ v hr hA).mono ?_); clear hA; (try clear w); rintro e w ⟨rfl, hA⟩; refine ⟨_, rfl, ?_⟩; refine rn ?_) | (refine g_callf 131 ?_; refine ow_call Tryd.call131 rfl ((hs ▸ besc_calls _ _ _ (v.natAbs - 9) 3 (by omega) (by omega) hA).mono ?_); clear hA; (try clear w); rintro e w ⟨rfl, hA⟩; refine ⟨_, rfl, ?_⟩; refine rn ?_) | refine st ?_ | refine sr ?_ | refine sl hA ?_ | (refine s_w hA ?_; clear hA; (try clear w); intro w hA) | (refine s_v hA ?_; clear hA; (try clear w); intro v w hA hone hnil) | (refine s_b hA ?_; clear hA; (try clear w); intro b w hA) | refine sp (fun h => ?_) (fun h => ?_) | (refine wc_region ?_))
    exact ret1 hA rfl rfl
  · rw [if_neg h]
    repeat' (first | (refine g_callf 130 ?_; refine ow_call Tryd.call130 rfl ((babs_calls _ _ _ v hr hA).mono ?_); clear hA; (try clear w); rintro e w ⟨rfl, hA⟩; refine ⟨_, rfl, ?_⟩; refine rn ?_) | refine st ?_ | refine sr ?_ | refine sl hA ?_ | (refine s_w hA ?_; clear hA; (try clear w); intro w hA) | (refine s_v hA ?_; clear hA; (try clear w); intro v w hA hone hnil) | (refine s_b hA ?_; clear hA; (try clear w); intro b w hA) | refine sp (fun h => ?_) (fun h => ?_) | (refine wc_region ?_))
    exact ret1 hA rfl rfl
theorem rcomp_calls (v : Int) (hr : v.natAbs ≤ 100000) (hA : Sat E L w) : Calls Tryd.prog 48 ⟨[vi v]⟩ w (Ret E L (vi (compN v))) := by
  unfold compN
  refine enter (fn := Tryd.f48) Tryd.func48 rfl 11 rfl [vi v, undef, undef, undef, undef, undef, undef, undef, undef, undef, undef] rfl ?_
  by_cases h : 9 ≤ v.natAbs
  · rw [if_pos h]
    have hs : (v.natAbs : Int) - 9 = ((v.natAbs - 9 : Nat) : Int) := by omega
    have he := escN_le (v.natAbs - 9) 3 (by omega) (by omega)
    repeat' (first | (refine g_callf 101 ?_; refine ow_call Tryd.call101 rfl ((rabs_calls _ _ _ v hr hA).mono ?_); clear hA; (try clear w); rintro e w ⟨rfl, hA⟩; refine ⟨_, rfl, ?_⟩; refine rn ?_) | (refine g_callf 102 ?_; refine ow_call Tryd.call102 rfl ((hs ▸ resc_calls _ _ _ (v.natAbs - 9) 3 (by omega) (by omega) hA).mono ?_); clear hA; (try clear w); rintro e w ⟨rfl, hA⟩; refine ⟨_, rfl, ?_⟩; refine rn ?_) | refine st ?_ | refine sr ?_ | refine sl hA ?_ | (refine s_w hA ?_; clear hA; (try clear w); intro w hA) | (refine s_v hA ?_; clear hA; (try clear w); intro v w hA hone hnil) | (refine s_b hA ?_; clear hA; (try clear w); intro b w hA) | refine sp (fun h => ?_) (fun h => ?_) | (refine wc_region ?_))
    exact ret1 hA rfl rfl
  · rw [if_neg h]
    repeat' (first | (refine g_callf 101 ?_; refine ow_call Tryd.call101 rfl ((rabs_calls _ _ _ v hr hA).mono ?_); clear hA; (try clear w); rintro e w ⟨rfl, hA⟩; refine ⟨_, rfl, ?_⟩; refine rn ?_) | refine st ?_ | refine sr ?_ | refine sl hA ?_ | (refine s_w hA ?_; clear hA; (try clear w); intro w hA) | (refine s_v hA ?_; clear hA; (try clear w); intro v w hA hone hnil) | (refine s_b hA ?_; clear hA; (try clear w); intro b w hA) | refine sp (fun h => ?_) (fun h => ?_) | (refine wc_region ?_))
    exact ret1 hA rfl rfl
theorem blevel_calls (v : Int) (hr : v.natAbs ≤ 100000) (hA : Sat E L w) : Calls Tryd.prog 132 ⟨[vi v]⟩ w (Ret E L (vi (levelN v))) := by
  unfold levelN
  refine enter (fn := Tryd.f132) Tryd.func132 rfl 15 rfl [vi v, undef, undef, undef, undef, undef, undef, undef, undef, undef, undef, undef, undef, undef, undef] rfl ?_
  by_cases h0 : v = 0
  · rw [if_pos h0]
    repeat' (first | (refine g_callf 130 ?_; refine ow_call Tryd.call130 rfl ((babs_calls _ _ _ v hr hA).mono ?_); clear hA; (try clear w); rintro e w ⟨rfl, hA⟩; refine ⟨_, rfl, ?_⟩; refine rn ?_) | refine st ?_ | refine sr ?_ | refine sl hA ?_ | (refine s_w hA ?_; clear hA; (try clear w); intro w hA) | (refine s_v hA ?_; clear hA; (try clear w); intro v w hA hone hnil) | (refine s_b hA ?_; clear hA; (try clear w); intro b w hA) | refine sp (fun h => ?_) (fun h => ?_) | (refine wc_region ?_))
    exact ret1 hA rfl rfl
  · rw [if_neg h0]
    by_cases h : 15 ≤ v.natAbs
    · rw [if_pos h]
      have hs : (v.natAbs : Int) - 15 = ((v.natAbs - 15 : Nat) : Int) := by omega
      have he := escN_le (v.natAbs - 15) 0 (by omega) (by omega)
      repeat' (first | (refine g_callf 130 ?_; refine ow_call Tryd.call130 rfl ((babs_calls _ _ _ v hr hA).mono ?_); clear hA; (try clear w); rintro e w ⟨rfl, hA⟩; refine ⟨_, rfl, ?_⟩; refine rn ?_) | (refine g_callf 131 ?_; refine ow_call Tryd.call131 rfl ((hs ▸ besc_calls _ _ _ (v.natAbs - 15) 0 (by omega) (by omega) hA).mono ?_); clear hA; (try clear w); rintro e w ⟨rfl, hA⟩; refine ⟨_, rfl, ?_⟩; refine rn ?_) | refine st ?_ | refine sr ?_ | refine sl hA ?_ | (refine s_w hA ?_; clear hA; (try clear w); intro w hA) | (refine s_v hA ?_; clear hA; (try clear w); intro v w hA hone hnil) | (refine s_b hA ?_; clear hA; (try clear w); intro b w hA) | refine sp (fun h => ?_) (fun h => ?_) | (refine wc_region ?_))
      exact ret1 hA rfl rfl
    · rw [if_neg h]
      repeat' (first | (refine g_callf 130 ?_; refine ow_call Tryd.call130 rfl ((babs_calls _ _ _ v hr hA).mono ?_); clear hA; (try clear w); rintro e w ⟨rfl, hA⟩; refine ⟨_, rfl, ?_⟩; refine rn ?_) | refine st ?_ | refine sr ?_ | refine sl hA ?_ | (refine s_w hA ?_; clear hA; (try clear w); intro w hA) | (refine s_v hA ?_; clear hA; (try clear w); intro v w hA hone hnil) | (refine s_b hA ?_; clear hA; (try clear w); intro b w hA) | refine sp (fun h => ?_) (fun h => ?_) | (refine wc_region ?_))
      exact ret1 hA rfl rfl
theorem bpred_calls (p : UInt8) (hA : Sat E L w) : Calls Tryd.prog 92 ⟨[u8 p]⟩ w (Ret E L (vi (predN p))) := by
  unfold predN
  refine enter (fn := Tryd.f92) Tryd.func92 rfl 5 rfl [u8 p, undef, undef, undef, undef] rfl ?_
  by_cases h : p.toNat = 0
  · rw [if_pos h]
    repeat' (first | refine st ?_ | refine sr ?_ | refine sl hA ?_ | (refine s_w hA ?_; clear hA; (try clear w); intro w hA) | (refine s_v hA ?_; clear hA; (try clear w); intro v w hA hone hnil) | (refine s_b hA ?_; clear hA; (try clear w); intro b w hA) | refine sp (fun h => ?_) (fun h => ?_) | (refine wc_region ?_))
    exact ret1 hA rfl rfl
  · rw [if_neg h]
    repeat' (first | refine st ?_ | refine sr ?_ | refine sl hA ?_ | (refine s_w hA ?_; clear hA; (try clear w); intro w hA) | (refine s_v hA ?_; clear hA; (try clear w); intro v w hA hone hnil) | (refine s_b hA ?_; clear hA; (try clear w); intro b w hA) | refine sp (fun h => ?_) (fun h => ?_) | (refine wc_region ?_))
    exact ret1 hA rfl rfl
theorem bref_calls (r : Int) (hr : 0 ≤ r ∧ r ≤ 31) (hA : Sat E L w) : Calls Tryd.prog 94 ⟨[vi r]⟩ w (Ret E L (vi (refN r))) := by
  have e : ((refN r : Nat) : Int) = r + 1 := by unfold refN; omega
  rw [e]
  refine enter (fn := Tryd.f94) Tryd.func94 rfl 5 rfl [vi r, undef, undef, undef, undef] rfl ?_
  repeat' (first | refine st ?_ | refine sr ?_ | refine sl hA ?_ | (refine s_w hA ?_; clear hA; (try clear w); intro w hA) | (refine s_v hA ?_; clear hA; (try clear w); intro v w hA hone hnil) | (refine s_b hA ?_; clear hA; (try clear w); intro b w hA) | refine sp (fun h => ?_) (fun h => ?_) | (refine wc_region ?_))
  exact ret1 hA rfl rfl
theorem bvec_calls (v : Vec) (hr : v.x.natAbs ≤ 8192 ∧ v.y.natAbs ≤ 8192) (hA : Sat E L w) : Calls Tryd.prog 96 ⟨[.agg ⟨vecC v⟩]⟩ w (Ret E L (vi (vecN v))) := by
  have h1 := compN_le v.x (by omega)
  have h2 := compN_le v.y (by omega)
  unfold vecN
  refine enter (fn := Tryd.f96) Tryd.func96 rfl 10 rfl [.agg ⟨vecC v⟩, undef, undef, undef, undef, undef, undef, undef, undef, undef] rfl ?_
  repeat' (first | refine st ?_ | refine sr ?_ | refine sl hA ?_ | (refine s_w hA ?_; clear hA; (try clear w); intro w hA) | (refine s_v hA ?_; clear hA; (try clear w); intro v w hA hone hnil) | (refine s_b hA ?_; clear hA; (try clear w); intro b w hA) | refine sp (fun h => ?_) (fun h => ?_) | (refine wc_region ?_))
  refine' wc_vals 7 [3, 4, 5, 6, 7, 8, 9] [_, _, _, _, _, _, _] rfl (by kernel_rfl) (by kernel_rfl) (by kernel_rfl) hA ?ops1 ?k1
  case ops1 =>
    refine' VOps.c0 rfl [] (by decide) [] (by decide) rfl ?o1_0 ?r1_0
    case o1_0 => intro E' Lx w lf hE hl hA; replace hl := hz hl; subst hl; first | (refine oq ?_; exact ⟨pe, hA⟩)
    refine' VOps.c0 rfl [0] (by decide) [3] (by decide) rfl ?o1_1 ?r1_1
    case o1_1 => intro E' Lx w lf hE hl hA; replace hl := hz hl; subst hl; first | (refine oq ?_; exact ⟨pe, hA⟩)
    refine' VOps.c0 rfl [1] (by decide) [4] (by decide) rfl ?o1_2 ?r1_2
    case o1_2 => intro E' Lx w lf hE hl hA; replace hl := hz hl; subst hl; first | (refine ow_call Tryd.call97 rfl ((bcomp_calls _ _ _ v.x (by omega) hA).mono ?_); clear hA; rintro e w ⟨rfl, hA⟩; refine ⟨_, rfl, ?_⟩; exact ⟨put_eq (by rfl), hA⟩)
    refine' VOps.c0 rfl [] (by decide) [] (by decide) rfl ?o1_3 ?r1_3
    case o1_3 => intro E' Lx w lf hE hl hA; replace hl := hz hl; subst hl; first | (refine oq ?_; exact ⟨pe, hA⟩)
    refine' VOps.c0 rfl [3] (by decide) [6] (by decide) rfl ?o1_4 ?r1_4
    case o1_4 => intro E' Lx w lf hE hl hA; replace hl := hz hl; subst hl; first | (refine oq ?_; exact ⟨pe, hA⟩)
    refine' VOps.c0 rfl [4, 2] (by decide) [7, 5] (by decide) rfl ?o1_5 ?r1_5
    case o1_5 => intro E' Lx w lf hE hl hA; replace hl := hz hl; subst hl; first | (refine ow_call Tryd.call97 rfl ((bcomp_calls _ _ _ v.y (by omega) hA).mono ?_); clear hA; rintro e w ⟨rfl, hA⟩; refine ⟨_, rfl, ?_⟩; exact ⟨put_eq (by rfl), hA⟩)
    refine' VOps.c0 rfl [2, 5] (by decide) [5, 8] (by decide) rfl ?o1_6 ?r1_6
    case o1_6 => intro E' Lx w lf hE hl hA; replace hl := hz hl; subst hl; first | (refine oq ?_; exact ⟨pe, hA⟩)
    exact TameOps.nil
  case' k1 => (try clear hA); intro w hA; refine rn ?_
  repeat' (first | refine st ?_ | refine sr ?_ | refine sl hA ?_ | (refine s_w hA ?_; clear hA; (try clear w); intro w hA) | (refine s_v hA ?_; clear hA; (try clear w); intro v w hA hone hnil) | (refine s_b hA ?_; clear hA; (try clear w); intro b w hA) | refine sp (fun h => ?_) (fun h => ?_) | (refine wc_region ?_))
  exact ret1 hA.tail rfl rfl
end
set_option maxHeartbeats 4000000 in
theorem sumU_calls (k : Nat) (hk : Enters Tryd.prog k) (g : UInt8 → Nat) (v : Value) (xs : List UInt8) (E : Env) (L : List Item) (w : World) (hA : Sat E L w) (hx : ListE u8R 1 E v xs) (hn : sumN g xs ≤ 1000000000000000)
    (hof : ∀ x ∈ xs, ∀ (E' : Env) (L : List Item) (w : World), E.Le E' → Sat E' L w → Calls Tryd.prog k ⟨[u8 x]⟩ w (Ret E' L (vi ((g x : Nat) : Int)))) :
    Calls Tryd.prog 91 ⟨[.func (.func k) ⟨[]⟩ ⟨[]⟩, v]⟩ w (Ret E L (vi ((sumN g xs : Nat) : Int))) := by
  obtain ⟨cx, hcx⟩ := hx.sl
  have ov := hx.one
  have hlen := hcx.le
  refine enter (fn := Tryd.f91) Tryd.func91 rfl 21 rfl [.func (.func k) ⟨[]⟩ ⟨[]⟩, v, undef, undef, undef, undef, undef, undef, undef, undef, undef, undef, undef, undef, undef, undef, undef, undef, undef, undef, undef] rfl ?_
  repeat' (first | (refine g_call ?_; refine t_lenS rfl hcx ?_; refine rn ?_) | refine st ?_ | refine sr ?_ | refine sl hA ?_ | (refine s_w hA ?_; clear hA; (try clear w); intro w hA) | (refine s_v hA ?_; clear hA; (try clear w); intro v w hA hone hnil) | (refine s_b hA ?_; clear hA; (try clear w); intro b w hA) | refine sp (fun h => ?_) (fun h => ?_) | (refine wc_region ?_))
  refine wc_loopn (fun m l w => ∃ (i : Nat), (∃ jk : Nat → Value, l = [.func (.func k) ⟨[]⟩ ⟨[]⟩, v, jk 2, jk 3, vi 0, vi ((sumN g (xs.take i) : Nat) : Int), jk 6, jk 7, v, vi (xs.length : Int), vi (i : Int), jk 11, jk 12, jk 13, jk 14, jk 15, jk 16, jk 17, jk 18, jk 19, jk 20]) ∧ i + m = xs.length ∧ Sat E L w) xs.length ⟨0, (ex_getD rfl), by omega, hA⟩ ?_
  clear hA
  rintro m l w ⟨i, ⟨jk, rfl⟩, hi, hA⟩
  by_cases hlt : i < xs.length
  · obtain ⟨x, hxi⟩ : ∃ x, xs[i]? = some x := ⟨_, List.getElem?_eq_getElem (by omega)⟩
    have hmem := List.mem_of_getElem? hxi
    obtain ⟨cs, hcsl, rfl, hg⟩ := hx.get hxi
    have hx0 : E.cell? ⟨sB v, sO v + (i : Int).toNat * 1, none⟩ = some (u8 x) := hg 0 _ rfl
    have hst := sumN_take g xs i x hxi
    have hmo := sumN_mono g xs (i + 1)
    repeat' (first | (refine g_ow ?_; refine t_indexAddrS rfl hcx rfl (by omega) ?_; refine rn ?_) | (refine g_ow ?_; refine t_load_env rfl rfl hA hx0 ?_; refine rn ?_) | (refine g_callt ?_; refine ow_callv rfl hk rfl ((hof x hmem E _ w (Env.Le.refl _) hA).mono ?_); clear hA; rintro e w ⟨rfl, hA⟩; refine ⟨_, rfl, ?_⟩; refine rn ?_) | refine st ?_ | refine sr ?_ | refine sl hA ?_ | (refine s_w hA ?_; clear hA; (try clear w); intro w hA) | (refine s_v hA ?_; clear hA; (try clear w); intro v w hA hone hnil) | (refine s_b hA ?_; clear hA; (try clear w); intro b w hA) | refine sp (fun h => ?_) (fun h => ?_) | (refine wc_region ?_))
    have e5 : ((sumN g (xs.take i) : Nat) : Int) + ((g x : Nat) : Int) = ((sumN g (xs.take (i + 1)) : Nat) : Int) := by omega
    rw [e5]
    refine lq_next (m - 1) (by omega) ⟨i + 1, (ex_getD rfl), by omega, hA⟩
  · have ei : i = xs.length := by omega
    have e1 : xs.take i = xs := by rw [ei, List.take_length]
    rw [e1]
    repeat' (first | refine st ?_ | refine sr ?_ | refine sl hA ?_ | (refine s_w hA ?_; clear hA; (try clear w); intro w hA) | (refine s_v hA ?_; clear hA; (try clear w); intro v w hA hone hnil) | (refine s_b hA ?_; clear hA; (try clear w); intro b w hA) | refine sp (fun h => ?_) (fun h => ?_) | (refine wc_region ?_))
    exact ret1 hA rfl rfl
set_option maxHeartbeats 4000000 in
theorem sumI_calls (k : Nat) (hk : Enters Tryd.prog k) (g : Int → Nat) (v : Value) (xs : List Int) (E : Env) (L : List Item) (w : World) (hA : Sat E L w) (hx : ListE intR 1 E v xs) (hn : sumN g xs ≤ 1000000000000000)
    (hof : ∀ x ∈ xs, ∀ (E' : Env) (L : List Item) (w : World), E.Le E' → Sat E' L w → Calls Tryd.prog k ⟨[vi x]⟩ w (Ret E' L (vi ((g x : Nat) : Int)))) :
    Calls Tryd.prog 93 ⟨[.func (.func k) ⟨[]⟩ ⟨[]⟩, v]⟩ w (Ret E L (vi ((sumN g xs : Nat) : Int))) := by
  obtain ⟨cx, hcx⟩ := hx.sl
  have ov := hx.one
  have hlen := hcx.le
  refine enter (fn := Tryd.f93) Tryd.func93 rfl 21 rfl [.func (.func k) ⟨[]⟩ ⟨[]⟩, v, undef, undef, undef, undef, undef, undef, undef, undef, undef, undef, undef, undef, undef, undef, undef, undef, undef, undef, undef] rfl ?_
  repeat' (first | (refine g_call ?_; refine t_lenS rfl hcx ?_; refine rn ?_) | refine st ?_ | refine sr ?_ | refine sl hA ?_ | (refine s_w hA ?_; clear hA; (try clear w); intro w hA) | (refine s_v hA ?_; clear hA; (try clear w); intro v w hA hone hnil) | (refine s_b hA ?_; clear hA; (try clear w); intro b w hA) | refine sp (fun h => ?_) (fun h => ?_) | (refine wc_region ?_))
  refine wc_loopn (fun m l w => ∃ (i : Nat), (∃ jk : Nat → Value, l = [.func (.func k) ⟨[]⟩ ⟨[]⟩, v, jk 2, jk 3, vi 0, vi ((sumN g (xs.take i) : Nat) : Int), jk 6, jk 7, v, vi (xs.length : Int), vi (i : Int), jk 11, jk 12, jk 13, jk 14, jk 15, jk 16, jk 17, jk 18, jk 19, jk 20]) ∧ i + m = xs.length ∧ Sat E L w) xs.length ⟨0, (ex_getD rfl), by omega, hA⟩ ?_
  clear hA
  rintro m l w ⟨i, ⟨jk, rfl⟩, hi, hA⟩
  by_cases hlt : i < xs.length
  · obtain ⟨x, hxi⟩ : ∃ x, xs[i]? = some x := ⟨_, List.getElem?_eq_getElem (by omega)⟩
    have hmem := List.mem_of_getElem? hxi
    obtain ⟨cs, hcsl, ⟨rfl, h64⟩, hg⟩ := hx.get hxi
    have hx0 : E.cell? ⟨sB v, sO v + (i : Int).toNat * 1, none⟩ = some (vi x) := hg 0 _ rfl
    have hst := sumN_take g xs i x hxi
    have hmo := sumN_mono g xs (i + 1)
    repeat' (first | (refine g_ow ?_; refine t_indexAddrS rfl hcx rfl (by omega) ?_; refine rn ?_) | (refine g_ow ?_; refine t_load_env rfl rfl hA hx0 ?_; refine rn ?_) | (refine g_callt ?_; refine ow_callv rfl hk rfl ((hof x hmem E _ w (Env.Le.refl _) hA).mono ?_); clear hA; rintro e w ⟨rfl, hA⟩; refine ⟨_, rfl, ?_⟩; refine rn ?_) | refine st ?_ | refine sr ?_ | refine sl hA ?_ | (refine s_w hA ?_; clear hA; (try clear w); intro w hA) | (refine s_v hA ?_; clear hA; (try clear w); intro v w hA hone hnil) | (refine s_b hA ?_; clear hA; (try clear w); intro b w hA) | refine sp (fun h => ?_) (fun h => ?_) | (refine wc_region ?_))
    have e5 : ((sumN g (xs.take i) : Nat) : Int) + ((g x : Nat) : Int) = ((sumN g (xs.take (i + 1)) : Nat) : Int) := by omega
    rw [e5]
    refine lq_next (m - 1) (by omega) ⟨i + 1, (ex_getD rfl), by omega, hA⟩
  · have ei : i = xs.length := by omega
    have e1 : xs.take i = xs := by rw [ei, List.take_length]
    rw [e1]
    repeat' (first | refine st ?_ | refine sr ?_ | refine sl hA ?_ | (refine s_w hA ?_; clear hA; (try clear w); intro w hA) | (refine s_v hA ?_; clear hA; (try clear w); intro v w hA hone hnil) | (refine s_b hA ?_; clear hA; (try clear w); intro b w hA) | refine sp (fun h => ?_) (fun h => ?_) | (refine wc_region ?_))
    exact ret1 hA rfl rfl
set_option maxHeartbeats 4000000 in
theorem sumV_calls (k : Nat) (hk : Enters Tryd.prog k) (g : Vec → Nat) (v : Value) (xs : List Vec) (E : Env) (L : List Item) (w : World) (hA : Sat E L w) (hx : ListE vecR 2 E v xs) (hn : sumN g xs ≤ 1000000000000000)
    (hof : ∀ x ∈ xs, ∀ (E' : Env) (L : List Item) (w : World), E.Le E' → Sat E' L w → Calls Tryd.prog k ⟨[.agg ⟨vecC x⟩]⟩ w (Ret E' L (vi ((g x : Nat) : Int)))) :
    Calls Tryd.prog 95 ⟨[.func (.func k) ⟨[]⟩ ⟨[]⟩, v]⟩ w (Ret E L (vi ((sumN g xs : Nat) : Int))) := by
  obtain ⟨cx, hcx⟩ := hx.sl
  have ov := hx.one
  have hlen := hcx.le
  refine enter (fn := Tryd.f95) Tryd.func95 rfl 21 rfl [.func (.func k) ⟨[]⟩ ⟨[]⟩, v, undef, undef, undef, undef, undef, undef, undef, undef, undef, undef, undef, undef, undef, undef, undef, undef, undef, undef, undef] rfl ?_
  repeat' (first | (refine g_call ?_; refine t_lenS rfl hcx ?_; refine rn ?_) | refine st ?_ | refine sr ?_ | refine sl hA ?_ | (refine s_w hA ?_; clear hA; (try clear w); intro w hA) | (refine s_v hA ?_; clear hA; (try clear w); intro v w hA hone hnil) | (refine s_b hA ?_; clear hA; (try clear w); intro b w hA) | refine sp (fun h => ?_) (fun h => ?_) | (refine wc_region ?_))
  refine wc_loopn (fun m l w => ∃ (i : Nat), (∃ jk : Nat → Value, l = [.func (.func k) ⟨[]⟩ ⟨[]⟩, v, jk 2, jk 3, vi 0, vi ((sumN g (xs.take i) : Nat) : Int), jk 6, jk 7, v, vi (xs.length : Int), vi (i : Int), jk 11, jk 12, jk 13, jk 14, jk 15, jk 16, jk 17, jk 18, jk 19, jk 20]) ∧ i + m = xs.length ∧ Sat E L w) xs.length ⟨0, (ex_getD rfl), by omega, hA⟩ ?_
  clear hA
  rintro m l w ⟨i, ⟨jk, rfl⟩, hi, hA⟩
  by_cases hlt : i < xs.length
  · obtain ⟨x, hxi⟩ : ∃ x, xs[i]? = some x := ⟨_, List.getElem?_eq_getElem (by omega)⟩
    have hmem := List.mem_of_getElem? hxi
    obtain ⟨cs, hcsl, ⟨rfl, h64⟩, hg⟩ := hx.get hxi
    have hx0 : ∀ t z, (vecC x)[t]? = some z → E.cell? ⟨sB v, sO v + (i : Int).toNat * 2 + t, none⟩ = some z := hg
    have hst := sumN_take g xs i x hxi
    have hmo := sumN_mono g xs (i + 1)
    repeat' (first | (refine g_ow ?_; refine t_indexAddrS rfl hcx rfl (by omega) ?_; refine rn ?_) | (refine g_ow ?_; refine t_load_agg_env rfl rfl hA hx0 rfl ?_; refine rn ?_) | (refine g_callt ?_; refine ow_callv rfl hk rfl ((hof x hmem E _ w (Env.Le.refl _) hA).mono ?_); clear hA; rintro e w ⟨rfl, hA⟩; refine ⟨_, rfl, ?_⟩; refine rn ?_) | refine st ?_ | refine sr ?_ | refine sl hA ?_ | (refine s_w hA ?_; clear hA; (try clear w); intro w hA) | (refine s_v hA ?_; clear hA; (try clear w); intro v w hA hone hnil) | (refine s_b hA ?_; clear hA; (try clear w); intro b w hA) | refine sp (fun h => ?_) (fun h => ?_) | (refine wc_region ?_))
    have e5 : ((sumN g (xs.take i) : Nat) : Int) + ((g x : Nat) : Int) = ((sumN g (xs.take (i + 1)) : Nat) : Int) := by omega
    rw [e5]
    refine lq_next (m - 1) (by omega) ⟨i + 1, (ex_getD rfl), by omega, hA.tail⟩
  · have ei : i = xs.length := by omega
    have e1 : xs.take i = xs := by rw [ei, List.take_length]
    rw [e1]
    repeat' (first | refine st ?_ | refine sr ?_ | refine sl hA ?_ | (refine s_w hA ?_; clear hA; (try clear w); intro w hA) | (refine s_v hA ?_; clear hA; (try clear w); intro v w hA hone hnil) | (refine s_b hA ?_; clear hA; (try clear w); intro b w hA) | refine sp (fun h => ?_) (fun h => ?_) | (refine wc_region ?_))
    exact ret1 hA rfl rfl
set_option maxHeartbeats 4000000 in
theorem sumL_calls (k : Nat) (hk : Enters Tryd.prog k) (g : (List Int) → Nat) (v : Value) (xs : List (List Int)) (E : Env) (L : List Item) (w : World) (hA : Sat E L w) (hx : ListE (listR intR 1) 1 E v xs) (hn : sumN g xs ≤ 1000000000000000)
    (hof : ∀ x ∈ xs, ∀ q, ∀ (E' : Env) (L : List Item) (w : World), E.Le E' → ListE intR 1 E' q x → Sat E' L w → Calls Tryd.prog k ⟨[q]⟩ w (Ret E' L (vi ((g x : Nat) : Int)))) :
    Calls Tryd.prog 98 ⟨[.func (.func k) ⟨[]⟩ ⟨[]⟩, v]⟩ w (Ret E L (vi ((sumN g xs : Nat) : Int))) := by
  obtain ⟨cx, hcx⟩ := hx.sl
  have ov := hx.one
  have hlen := hcx.le
  refine enter (fn := Tryd.f98) Tryd.func98 rfl 21 rfl [.func (.func k) ⟨[]⟩ ⟨[]⟩, v, undef, undef, undef, undef, undef, undef, undef, undef, undef, undef, undef, undef, undef, undef, undef, undef, undef, undef, undef] rfl ?_
  repeat' (first | (refine g_call ?_; refine t_lenS rfl hcx ?_; refine rn ?_) | refine st ?_ | refine sr ?_ | refine sl hA ?_ | (refine s_w hA ?_; clear hA; (try clear w); intro w hA) | (refine s_v hA ?_; clear hA; (try clear w); intro v w hA hone hnil) | (refine s_b hA ?_; clear hA; (try clear w); intro b w hA) | refine sp (fun h => ?_) (fun h => ?_) | (refine wc_region ?_))
  refine wc_loopn (fun m l w => ∃ (i : Nat), (∃ jk : Nat → Value, l = [.func (.func k) ⟨[]⟩ ⟨[]⟩, v, jk 2, jk 3, vi 0, vi ((sumN g (xs.take i) : Nat) : Int), jk 6, jk 7, v, vi (xs.length : Int), vi (i : Int), jk 11, jk 12, jk 13, jk 14, jk 15, jk 16, jk 17, jk 18, jk 19, jk 20]) ∧ i + m = xs.length ∧ Sat E L w) xs.length ⟨0, (ex_getD rfl), by omega, hA⟩ ?_
  clear hA
  rintro m l w ⟨i, ⟨jk, rfl⟩, hi, hA⟩
  by_cases hlt : i < xs.length
  · obtain ⟨x, hxi⟩ : ∃ x, xs[i]? = some x := ⟨_, List.getElem?_eq_getElem (by omega)⟩
    have hmem := List.mem_of_getElem? hxi
    obtain ⟨cs, hcsl, ⟨q, rfl, hq⟩, hg⟩ := hx.get hxi
    have hx0 : E.cell? ⟨sB v, sO v + (i : Int).toNat * 1, none⟩ = some q := hg 0 _ rfl
    have oq := hq.one
    have hst := sumN_take g xs i x hxi
    have hmo := sumN_mono g xs (i + 1)
    repeat' (first | (refine g_ow ?_; refine t_indexAddrS rfl hcx rfl (by omega) ?_; refine rn ?_) | (refine g_ow ?_; refine t_load_env rfl rfl hA hx0 ?_; refine rn ?_) | (refine g_callt ?_; refine ow_callv rfl hk rfl ((hof x hmem q E _ w (Env.Le.refl _) hq hA).mono ?_); clear hA; rintro e w ⟨rfl, hA⟩; refine ⟨_, rfl, ?_⟩; refine rn ?_) | refine st ?_ | refine sr ?_ | refine sl hA ?_ | (refine s_w hA ?_; clear hA; (try clear w); intro w hA) | (refine s_v hA ?_; clear hA; (try clear w); intro v w hA hone hnil) | (refine s_b hA ?_; clear hA; (try clear w); intro b w hA) | refine sp (fun h => ?_) (fun h => ?_) | (refine wc_region ?_))
    have e5 : ((sumN g (xs.take i) : Nat) : Int) + ((g x : Nat) : Int) = ((sumN g (xs.take (i + 1)) : Nat) : Int) := by omega
    rw [e5]
    refine lq_next (m - 1) (by omega) ⟨i + 1, (ex_getD rfl), by omega, hA⟩
  · have ei : i = xs.length := by omega
    have e1 : xs.take i = xs := by rw [ei, List.take_length]
    rw [e1]
    repeat' (first | refine st ?_ | refine sr ?_ | refine sl hA ?_ | (refine s_w hA ?_; clear hA; (try clear w); intro w hA) | (refine s_v hA ?_; clear hA; (try clear w); intro v w hA hone hnil) | (refine s_b hA ?_; clear hA; (try clear w); intro b w hA) | refine sp (fun h => ?_) (fun h => ?_) | (refine wc_region ?_))
    exact ret1 hA rfl rfl
end Go.Proofs.YtomfoaaaeidpnaaDoor
