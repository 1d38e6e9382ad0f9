/-
  mb.ranged, mb.Size, mb.cbp, walked.
-/
import Derived.Test.YtomfoaaaeidpnaaDoorM1
set_option linter.unusedVariables false
set_option linter.unusedSimpArgs false
namespace Go.Proofs.YtomfoaaaeidpnaaDoor
open Go Go.RowKit
attribute [local irreducible] WC RL OW bodyPostM ThenQ BlockQ LoopQ ScopeQ
theorem rangedL_in {l : List Int} {n lo hi : Int} (hn : (l.length : Int) = n) (h : ∀ (j : Nat) x, l[j]? = some x → lo ≤ x ∧ x ≤ hi) : rangedL l n lo hi = 0 := by
  unfold rangedL
  rw [if_neg (by omega), if_pos (List.all_eq_true.2 fun x hx => ?_)]
  obtain ⟨j, hj⟩ := List.getElem?_of_mem hx
  exact decide_eq_true (h j x hj)
theorem rangedL_out {l : List Int} {n lo hi : Int} (hn : (l.length : Int) = n) {j : Nat} {x : Int} (hx : l[j]? = some x) (h : ¬ (lo ≤ x ∧ x ≤ hi)) : rangedL l n lo hi = 3 := by
  unfold rangedL
  rw [if_neg (by omega), if_neg (by
    intro ha
    exact h (of_decide_eq_true (List.all_eq_true.1 ha x (List.mem_of_getElem? hx))))]
theorem rangedU_in {l : List UInt8} {n : Int} {lo hi : Nat} (hn : (l.length : Int) = n) (h : ∀ (j : Nat) x, l[j]? = some x → lo ≤ x.toNat ∧ x.toNat ≤ hi) : rangedU l n lo hi = 0 := by
  unfold rangedU
  rw [if_neg (by omega), if_pos (List.all_eq_true.2 fun x hx => ?_)]
  obtain ⟨j, hj⟩ := List.getElem?_of_mem hx
  exact decide_eq_true (h j x hj)
theorem rangedU_out {l : List UInt8} {n : Int} {lo hi : Nat} (hn : (l.length : Int) = n) {j : Nat} {x : UInt8} (hx : l[j]? = some x) (h : ¬ (lo ≤ x.toNat ∧ x.toNat ≤ hi)) : rangedU l n lo hi = 3 := by
  unfold rangedU
  rw [if_neg (by omega), if_neg (by
    intro ha
    exact h (of_decide_eq_true (List.all_eq_true.1 ha x (List.mem_of_getElem? hx))))]
set_option maxHeartbeats 4000000 in
theorem rangedI_calls (v : Value) (xs : List Int) (n lo hi : Int) (E : Env) (L : List Item) (w : World) (hA : Sat E L w) (hx : ListE intR 1 E v xs) :
    Calls Tryd.prog 69 ⟨[v, .int .i64 n, .int .i64 lo, .int .i64 hi]⟩ w (Ret E L (vi (rangedL xs n lo hi))) := by
  obtain ⟨cx, hcx⟩ := hx.sl
  refine enter (fn := Tryd.f69) Tryd.func69 rfl 33 rfl [v, .int .i64 n, .int .i64 lo, .int .i64 hi, undef, undef, undef, undef, undef, undef, undef, undef, undef, undef, undef, undef, undef, undef, undef, undef, undef, undef, undef, undef, undef, undef, undef, undef, undef, undef, undef, undef, undef] rfl ?_
  by_cases hn : (xs.length : Int) = n
  · have hlen := hcx.le
    repeat' (first | (refine g_call ?_; refine t_lenS rfl hcx ?_; refine rn ?_) | refine st ?_ | refine sr ?_ | refine sl hA ?_ | (refine s_w hA ?_; clear hA; (try clear w); intro w hA) | (refine s_v hA ?_; clear hA; (try clear w); intro v w hA hone hnil) | (refine s_b hA ?_; clear hA; (try clear w); intro b w hA) | refine sp (fun h => ?_) (fun h => ?_) | (refine wc_region ?_))
    refine wc_loopn (fun m l w => ∃ (i : Nat), (∃ jk : Nat → Value, l = [v, .int .i64 n, .int .i64 lo, .int .i64 hi, jk 4, jk 5, jk 6, jk 7, jk 8, jk 9, jk 10, jk 11, jk 12, jk 13, .int .i64 n, .int .i64 (i : Int), jk 16, jk 17, jk 18, jk 19, jk 20, jk 21, jk 22, jk 23, jk 24, jk 25, jk 26, jk 27, jk 28, jk 29, jk 30, jk 31, jk 32]) ∧ i + m = xs.length ∧ (∀ j x, j < i → xs[j]? = some x → lo ≤ x ∧ x ≤ hi) ∧ Sat E L w) xs.length ⟨0, (ex_getD rfl), by omega, fun j x hj => absurd hj (by omega), hA⟩ ?_
    clear hA
    rintro m l w ⟨i, ⟨jk, rfl⟩, hi', hj, hA⟩
    by_cases hlt : i < xs.length
    · obtain ⟨x, hxi⟩ : ∃ x, xs[i]? = some x := ⟨_, List.getElem?_eq_getElem (by omega)⟩
      obtain ⟨cs, hcsl, ⟨rfl, h64⟩, hg⟩ := hx.get hxi
      have hx0 : E.cell? ⟨sB v, sO v + (i : Int).toNat * 1, none⟩ = some (vi x) := hg 0 _ rfl
      repeat' (first | refine st ?_ | refine sr ?_ | refine sl hA ?_ | (refine s_w hA ?_; clear hA; (try clear w); intro w hA) | (refine s_v hA ?_; clear hA; (try clear w); intro v w hA hone hnil) | (refine s_b hA ?_; clear hA; (try clear w); intro b w hA) | refine sp (fun h => ?_) (fun h => ?_) | (refine wc_regionS 6 rfl ?_; refine wc_region ?_))
      refine wc_region ?_
      refine rv hA ?_; clear hA; intro w hA
      refine rv hA ?_; clear hA; intro w hA
      refine' rl_v hA ?o6_2 ?k6_2
      case o6_2 => intro w hA; first | (refine t_indexAddrS rfl hcx rfl (by omega) ?_; exact ⟨pe, hA⟩) | (refine oq ?_; exact ⟨pe, hA⟩) | (refine t_indexAddrS rfl rfl (by omega) ?_; exact ⟨pe, hA⟩)
      clear hA; intro w hA; refine rn ?_
      refine' rl_v hA ?o6_3 ?k6_3
      case o6_3 => intro w hA; first | (refine t_load_env rfl rfl hA hx0 ?_; exact ⟨pe, hA⟩) | (refine oq ?_; exact ⟨pe, hA⟩)
      clear hA; intro w hA; refine rn ?_
      refine rv hA ?_; clear hA; intro w hA
      refine rv hA ?_; clear hA; intro w hA
      refine rv hA ?_; clear hA; intro w hA
      refine rf hA ?_; clear hA; intro w hA
      refine rf hA ?_; clear hA; intro w hA
      first | refine' rl_F rfl hA ?o6_9 ?k6_9 | refine' rl_Fn rfl hA ?o6_9 ?k6_9
      case o6_9 => intro hg w hA; first | (refine t_indexAddrS opr hcx opr (by omega) ?_; exact ⟨pe, hA⟩) | (refine oqg ?_; exact ⟨pe, hA⟩) | (refine t_indexAddrS opr opr (by omega) ?_; exact ⟨pe, hA⟩)
      clear hA; intro w hA; refine rn ?_
      first | refine' rl_F rfl hA ?o6_10 ?k6_10 | refine' rl_Fn rfl hA ?o6_10 ?k6_10
      case o6_10 => intro hg w hA; first | (refine t_load_env rfl opr hA hx0 ?_; exact ⟨pe, hA⟩) | (refine oqg ?_; exact ⟨pe, hA⟩)
      clear hA; intro w hA; refine rn ?_
      refine rf hA ?_; clear hA; intro w hA
      refine rf hA ?_; clear hA; intro w hA
      refine rv hA ?_; clear hA; intro w hA
      refine rl_nil ?_
      by_cases hin : lo ≤ x ∧ x ≤ hi
      · repeat' (first | (refine wc_bb rfl (fun h => ?_) (fun h => ?_)) | refine st ?_ | refine sr ?_ | refine sl hA ?_ | (refine s_w hA ?_; clear hA; (try clear w); intro w hA) | (refine s_v hA ?_; clear hA; (try clear w); intro v w hA hone hnil) | (refine s_b hA ?_; clear hA; (try clear w); intro b w hA) | refine sp (fun h => ?_) (fun h => ?_) | (refine wc_region ?_))
        · exfalso
          simp at h; omega
        · refine lq_next (m - 1) (by omega) ⟨i + 1, (ex_getD rfl), by omega, fun j y hj' hy => ?_, hA⟩
          by_cases e : j = i
          · subst e; rw [hxi] at hy; cases hy; exact hin
          · exact hj j y (by omega) hy
      · rw [rangedL_out hn hxi hin]
        repeat' (first | (refine wc_bb rfl (fun h => ?_) (fun h => ?_)) | refine st ?_ | refine sr ?_ | refine sl hA ?_ | (refine s_w hA ?_; clear hA; (try clear w); intro w hA) | (refine s_v hA ?_; clear hA; (try clear w); intro v w hA hone hnil) | (refine s_b hA ?_; clear hA; (try clear w); intro b w hA) | refine sp (fun h => ?_) (fun h => ?_) | (refine wc_region ?_))
        · exact ret1 hA rfl rfl
        · exfalso
          simp at h; omega
    · rw [rangedL_in hn fun j x hjx => hj j x (by have := (List.getElem?_eq_some_iff.1 hjx).1; omega) hjx]
      repeat' (first | refine st ?_ | refine sr ?_ | refine sl hA ?_ | (refine s_w hA ?_; clear hA; (try clear w); intro w hA) | (refine s_v hA ?_; clear hA; (try clear w); intro v w hA hone hnil) | (refine s_b hA ?_; clear hA; (try clear w); intro b w hA) | refine sp (fun h => ?_) (fun h => ?_) | (refine wc_region ?_))
      exact ret1 hA rfl rfl
  · have e : rangedL xs n lo hi = 2 := if_pos hn
    rw [e]
    repeat' (first | (refine g_call ?_; refine t_lenS rfl hcx ?_; refine rn ?_) | refine st ?_ | refine sr ?_ | refine sl hA ?_ | (refine s_w hA ?_; clear hA; (try clear w); intro w hA) | (refine s_v hA ?_; clear hA; (try clear w); intro v w hA hone hnil) | (refine s_b hA ?_; clear hA; (try clear w); intro b w hA) | refine sp (fun h => ?_) (fun h => ?_) | (refine wc_region ?_))
    exact ret1 hA rfl rfl
set_option maxHeartbeats 4000000 in
theorem rangedU_calls (v : Value) (xs : List UInt8) (n : Int) (lo hi : UInt8) (E : Env) (L : List Item) (w : World) (hA : Sat E L w) (hx : ListE u8R 1 E v xs) :
    Calls Tryd.prog 66 ⟨[v, .int .i64 n, u8 lo, u8 hi]⟩ w (Ret E L (vi (rangedU xs n lo.toNat hi.toNat))) := by
  obtain ⟨cx, hcx⟩ := hx.sl
  refine enter (fn := Tryd.f66) Tryd.func66 rfl 33 rfl [v, .int .i64 n, u8 lo, u8 hi, undef, undef, undef, undef, undef, undef, undef, undef, undef, undef, undef, undef, undef, undef, undef, undef, undef, undef, undef, undef, undef, undef, undef, undef, undef, undef, undef, undef, undef] rfl ?_
  by_cases hn : (xs.length : Int) = n
  · have hlen := hcx.le
    repeat' (first | (refine g_call ?_; refine t_lenS rfl hcx ?_; refine rn ?_) | refine st ?_ | refine sr ?_ | refine sl hA ?_ | (refine s_w hA ?_; clear hA; (try clear w); intro w hA) | (refine s_v hA ?_; clear hA; (try clear w); intro v w hA hone hnil) | (refine s_b hA ?_; clear hA; (try clear w); intro b w hA) | refine sp (fun h => ?_) (fun h => ?_) | (refine wc_region ?_))
    refine wc_loopn (fun m l w => ∃ (i : Nat), (∃ jk : Nat → Value, l = [v, .int .i64 n, u8 lo, u8 hi, jk 4, jk 5, jk 6, jk 7, jk 8, jk 9, jk 10, jk 11, jk 12, jk 13, .int .i64 n, .int .i64 (i : Int), jk 16, jk 17, jk 18, jk 19, jk 20, jk 21, jk 22, jk 23, jk 24, jk 25, jk 26, jk 27, jk 28, jk 29, jk 30, jk 31, jk 32]) ∧ i + m = xs.length ∧ (∀ j x, j < i → xs[j]? = some x → lo.toNat ≤ x.toNat ∧ x.toNat ≤ hi.toNat) ∧ Sat E L w) xs.length ⟨0, (ex_getD rfl), by omega, fun j x hj => absurd hj (by omega), hA⟩ ?_
    clear hA
    rintro m l w ⟨i, ⟨jk, rfl⟩, hi', hj, hA⟩
    by_cases hlt : i < xs.length
    · obtain ⟨x, hxi⟩ : ∃ x, xs[i]? = some x := ⟨_, List.getElem?_eq_getElem (by omega)⟩
      obtain ⟨cs, hcsl, rfl, hg⟩ := hx.get hxi
      have hx0 : E.cell? ⟨sB v, sO v + (i : Int).toNat * 1, none⟩ = some (u8 x) := hg 0 _ rfl
      repeat' (first | refine st ?_ | refine sr ?_ | refine sl hA ?_ | (refine s_w hA ?_; clear hA; (try clear w); intro w hA) | (refine s_v hA ?_; clear hA; (try clear w); intro v w hA hone hnil) | (refine s_b hA ?_; clear hA; (try clear w); intro b w hA) | refine sp (fun h => ?_) (fun h => ?_) | (refine wc_regionS 6 rfl ?_; refine wc_region ?_))
      refine wc_region ?_
      refine rv hA ?_; clear hA; intro w hA
      refine rv hA ?_; clear hA; intro w hA
      refine' rl_v hA ?o6_2 ?k6_2
      case o6_2 => intro w hA; first | (refine t_indexAddrS rfl hcx rfl (by omega) ?_; exact ⟨pe, hA⟩) | (refine oq ?_; exact ⟨pe, hA⟩) | (refine t_indexAddrS rfl rfl (by omega) ?_; exact ⟨pe, hA⟩)
      clear hA; intro w hA; refine rn ?_
      refine' rl_v hA ?o6_3 ?k6_3
      case o6_3 => intro w hA; first | (refine t_load_env rfl rfl hA hx0 ?_; exact ⟨pe, hA⟩) | (refine oq ?_; exact ⟨pe, hA⟩)
      clear hA; intro w hA; refine rn ?_
      refine rv hA ?_; clear hA; intro w hA
      refine rv hA ?_; clear hA; intro w hA
      refine rv hA ?_; clear hA; intro w hA
      refine rf hA ?_; clear hA; intro w hA
      refine rf hA ?_; clear hA; intro w hA
      first | refine' rl_F rfl hA ?o6_9 ?k6_9 | refine' rl_Fn rfl hA ?o6_9 ?k6_9
      case o6_9 => intro hg w hA; first | (refine t_indexAddrS opr hcx opr (by omega) ?_; exact ⟨pe, hA⟩) | (refine oqg ?_; exact ⟨pe, hA⟩) | (refine t_indexAddrS opr opr (by omega) ?_; exact ⟨pe, hA⟩)
      clear hA; intro w hA; refine rn ?_
      first | refine' rl_F rfl hA ?o6_10 ?k6_10 | refine' rl_Fn rfl hA ?o6_10 ?k6_10
      case o6_10 => intro hg w hA; first | (refine t_load_env rfl opr hA hx0 ?_; exact ⟨pe, hA⟩) | (refine oqg ?_; exact ⟨pe, hA⟩)
      clear hA; intro w hA; refine rn ?_
      refine rf hA ?_; clear hA; intro w hA
      refine rf hA ?_; clear hA; intro w hA
      refine rv hA ?_; clear hA; intro w hA
      refine rl_nil ?_
      by_cases hin : lo.toNat ≤ x.toNat ∧ x.toNat ≤ hi.toNat
      · repeat' (first | (refine wc_bb rfl (fun h => ?_) (fun h => ?_)) | refine st ?_ | refine sr ?_ | refine sl hA ?_ | (refine s_w hA ?_; clear hA; (try clear w); intro w hA) | (refine s_v hA ?_; clear hA; (try clear w); intro v w hA hone hnil) | (refine s_b hA ?_; clear hA; (try clear w); intro b w hA) | refine sp (fun h => ?_) (fun h => ?_) | (refine wc_region ?_))
        · exfalso
          simp at h; omega
        · refine lq_next (m - 1) (by omega) ⟨i + 1, (ex_getD rfl), by omega, fun j y hj' hy => ?_, hA⟩
          by_cases e : j = i
          · subst e; rw [hxi] at hy; cases hy; exact hin
          · exact hj j y (by omega) hy
      · rw [rangedU_out hn hxi hin]
        repeat' (first | (refine wc_bb rfl (fun h => ?_) (fun h => ?_)) | refine st ?_ | refine sr ?_ | refine sl hA ?_ | (refine s_w hA ?_; clear hA; (try clear w); intro w hA) | (refine s_v hA ?_; clear hA; (try clear w); intro v w hA hone hnil) | (refine s_b hA ?_; clear hA; (try clear w); intro b w hA) | refine sp (fun h => ?_) (fun h => ?_) | (refine wc_region ?_))
        · exact ret1 hA rfl rfl
        · exfalso
          simp at h; omega
    · rw [rangedU_in hn fun j x hjx => hj j x (by have := (List.getElem?_eq_some_iff.1 hjx).1; omega) hjx]
      repeat' (first | refine st ?_ | refine sr ?_ | refine sl hA ?_ | (refine s_w hA ?_; clear hA; (try clear w); intro w hA) | (refine s_v hA ?_; clear hA; (try clear w); intro v w hA hone hnil) | (refine s_b hA ?_; clear hA; (try clear w); intro b w hA) | refine sp (fun h => ?_) (fun h => ?_) | (refine wc_region ?_))
      exact ret1 hA rfl rfl
  · have e : rangedU xs n lo.toNat hi.toNat = 2 := if_pos hn
    rw [e]
    repeat' (first | (refine g_call ?_; refine t_lenS rfl hcx ?_; refine rn ?_) | refine st ?_ | refine sr ?_ | refine sl hA ?_ | (refine s_w hA ?_; clear hA; (try clear w); intro w hA) | (refine s_v hA ?_; clear hA; (try clear w); intro v w hA hone hnil) | (refine s_b hA ?_; clear hA; (try clear w); intro b w hA) | refine sp (fun h => ?_) (fun h => ?_) | (refine wc_region ?_))
    exact ret1 hA rfl rfl
theorem size_at (c : UInt8) (h : c.toNat < 5) : ([16, 15, 16, 4, 15] : List Int)[c.toNat]? = some (sizeN c : Int) := by
  unfold sizeN
  have : c.toNat = 0 ∨ c.toNat = 1 ∨ c.toNat = 2 ∨ c.toNat = 3 ∨ c.toNat = 4 := by omega
  rcases this with h | h | h | h | h <;> simp [h]
/-- The results of Size. -/
def sizeE (c : UInt8) : Int := if 5 ≤ c.toNat then 3 else 0
theorem sizeN_big (c : UInt8) (h : 5 ≤ c.toNat) : sizeN c = 0 := by
  unfold sizeN; rw [if_neg (by omega), if_neg (by omega), if_neg (by omega), if_neg (by omega), if_neg (by omega)]
theorem size_calls (c : UInt8) (E : Env) (L : List Item) (w : World) (hA : Sat E L w) (hG : MbG E) :
    Calls Tryd.prog 108 ⟨[u8 c]⟩ w (Ret E L (.tuple ⟨[vi (sizeN c), vi (sizeE c)]⟩)) := by
  refine enter (fn := Tryd.f108) Tryd.func108 rfl 10 rfl [u8 c, undef, undef, undef, undef, undef, undef, undef, undef, undef] rfl ?_
  have hc8 := c.toNat_lt
  by_cases h : 5 ≤ c.toNat
  · rw [sizeN_big c h, sizeE, if_pos h]
    repeat' (first | (refine g_ow ?_; refine t_conv64 rfl (by omega) ?_; refine rn ?_) | refine st ?_ | refine sr ?_ | refine sl hA ?_ | (refine s_w hA ?_; clear hA; (try clear w); intro w hA) | (refine s_v hA ?_; clear hA; (try clear w); intro v w hA hone hnil) | (refine s_b hA ?_; clear hA; (try clear w); intro b w hA) | refine sp (fun h => ?_) (fun h => ?_) | (refine wc_region ?_))
    exact ret2 hA rfl rfl rfl
  · rw [sizeE, if_neg h]
    have hc : E.cell? ⟨0, ((c.toNat : Int)).toNat * 1, none⟩ = some (vi (sizeN c)) := by
      rw [Int.toNat_natCast, Nat.mul_one]
      exact hG.sizes _ _ (size_at c (by omega))
    repeat' (first | (refine g_ow ?_; refine t_conv64 rfl (by omega) ?_; refine rn ?_) | (refine g_ow ?_; refine t_indexAddrA rfl rfl (by omega) ?_; refine rn ?_) | (refine g_ow ?_; refine t_load_env rfl rfl hA hc ?_; refine rn ?_) | refine st ?_ | refine sr ?_ | refine sl hA ?_ | (refine s_w hA ?_; clear hA; (try clear w); intro w hA) | (refine s_v hA ?_; clear hA; (try clear w); intro v w hA hone hnil) | (refine s_b hA ?_; clear hA; (try clear w); intro b w hA) | refine sp (fun h => ?_) (fun h => ?_) | (refine wc_region ?_))
    exact ret2 hA rfl rfl rfl
/-- The error of Cbp. -/
def cbpE (m : Mb) : Int := if 47 < m.cbp.toNat ∨ m.kind.toNat = 1 ∧ m.cbp.toNat % 16 ≠ 0 ∧ m.cbp.toNat % 16 ≠ 15 then 3 else 0
theorem cbp_calls (m : Mb) (r v b : Value) (E : Env) (L : List Item) (w : World) (hA : Sat E L w) :
    Calls Tryd.prog 74 ⟨[.agg ⟨mbC m r v b⟩]⟩ w (Ret E L (vi (cbpE m))) := by
  refine enter (fn := Tryd.f74) Tryd.func74 rfl 23 rfl [.agg ⟨mbC m r v b⟩, undef, undef, undef, undef, undef, undef, undef, undef, undef, undef, undef, undef, undef, undef, undef, undef, undef, undef, undef, undef, undef, undef] rfl ?_
  repeat' (first | refine st ?_ | refine sr ?_ | refine sl hA ?_ | (refine s_w hA ?_; clear hA; (try clear w); intro w hA) | (refine s_v hA ?_; clear hA; (try clear w); intro v w hA hone hnil) | (refine s_b hA ?_; clear hA; (try clear w); intro b w hA) | refine sp (fun h => ?_) (fun h => ?_) | (refine wc_regionS 1 rfl ?_; refine wc_region ?_))
  have hk := m.cbp.toNat_lt
  refine wc_region ?_
  refine rv hA ?_; clear hA; intro w hA
  refine rv hA ?_; clear hA; intro w hA
  refine rv hA ?_; clear hA; intro w hA
  refine rv hA ?_; clear hA; intro w hA
  refine rf hA ?_; clear hA; intro w hA
  refine rf hA ?_; clear hA; intro w hA
  refine rf hA ?_; clear hA; intro w hA
  refine rf hA ?_; clear hA; intro w hA
  refine rt hA ?_; clear hA; intro w hA
  refine rt hA ?_; clear hA; intro w hA
  refine rt hA ?_; clear hA; intro w hA
  refine rt hA ?_; clear hA; intro w hA
  refine rf hA ?_; clear hA; intro w hA
  refine rf hA ?_; clear hA; intro w hA
  refine rt hA ?_; clear hA; intro w hA
  refine rt hA ?_; clear hA; intro w hA
  refine rt hA ?_; clear hA; intro w hA
  refine rt hA ?_; clear hA; intro w hA
  refine rf hA ?_; clear hA; intro w hA
  refine rv hA ?_; clear hA; intro w hA
  refine rl_nil ?_
  by_cases h : 47 < m.cbp.toNat ∨ m.kind.toNat = 1 ∧ m.cbp.toNat % 16 ≠ 0 ∧ m.cbp.toNat % 16 ≠ 15
  · rw [cbpE, if_pos h]
    repeat' (first | (refine wc_bb rfl (fun h' => ?_) (fun h' => ?_)) | refine st ?_ | refine sr ?_ | refine sl hA ?_ | (refine s_w hA ?_; clear hA; (try clear w); intro w hA) | (refine s_v hA ?_; clear hA; (try clear w); intro v w hA hone hnil) | (refine s_b hA ?_; clear hA; (try clear w); intro b w hA) | refine sp (fun h => ?_) (fun h => ?_) | (refine wc_region ?_))
    · exact ret1 hA.tail rfl rfl
    · exfalso
      simp at h'; omega
  · rw [cbpE, if_neg h]
    repeat' (first | (refine wc_bb rfl (fun h' => ?_) (fun h' => ?_)) | refine st ?_ | refine sr ?_ | refine sl hA ?_ | (refine s_w hA ?_; clear hA; (try clear w); intro w hA) | (refine s_v hA ?_; clear hA; (try clear w); intro v w hA hone hnil) | (refine s_b hA ?_; clear hA; (try clear w); intro b w hA) | refine sp (fun h => ?_) (fun h => ?_) | (refine wc_region ?_))
    · exfalso
      simp at h'; omega
    · exact ret1 hA.tail rfl rfl
end Go.Proofs.YtomfoaaaeidpnaaDoor
