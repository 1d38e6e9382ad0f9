/-
  spindlekit's Equal functions over lists, walked.
-/
import Derived.Test.YtomfoaaaeidpnaaDoorK1
set_option linter.unusedVariables false
set_option linter.unusedSimpArgs false
namespace Go.Proofs.YtomfoaaaeidpnaaDoor
open Go Go.RowKit
attribute [local irreducible] WC RL OW bodyPostM ThenQ BlockQ LoopQ

set_option maxHeartbeats 2000000 in
theorem equalInts_calls (v v' : Value) (xs ys : List Int) (E : Env) (L : List Item) (w : World) (hA : Sat E L w) (hx : ListE intR 1 E v xs) (hy : ListE intR 1 E v' ys) :
    Calls Tryd.prog 50 ⟨[v, v']⟩ w (Ret E L (.bool (decide (xs = ys)))) := by
  obtain ⟨cx, hcx⟩ := hx.sl
  obtain ⟨cy, hcy⟩ := hy.sl
  have hle := hcx.le
  refine enter (fn := Tryd.f50) Tryd.func50 rfl 26 rfl [v, v', undef, undef, undef, undef, undef, undef, undef, undef, undef, undef, undef, undef, undef, undef, undef, undef, undef, undef, undef, undef, undef, undef, undef, undef] rfl ?_
  repeat' (first | (refine g_call ?_; refine t_lenS rfl hcx ?_; refine rn ?_) | (refine g_call ?_; refine t_lenS rfl hcy ?_; refine rn ?_) | refine st ?_ | refine sr ?_ | refine sl hA ?_ | (refine s_w hA ?_; clear hA; (try clear w); intro w hA) | (refine s_v hA ?_; clear hA; (try clear w); intro v w hA hone hnil) | (refine s_b hA ?_; clear hA; (try clear w); intro b w hA) | refine sp (fun h => ?_) (fun h => ?_) | (refine wc_region ?_))
  · refine ret1 hA rfl ?_
    rw [decide_eq_false (show ¬ xs = ys from fun e => h (by rw [e]))]; rfl
  have hl : xs.length = ys.length := by omega
  refine wc_loopn (fun m l w => ∃ (i : Nat), (∃ jk : Nat → Value, l = [v, v', jk 2, jk 3, .bool false, .int .i64 (i : Int), jk 6, jk 7, jk 8, jk 9, jk 10, jk 11, jk 12, jk 13, jk 14, jk 15, jk 16, jk 17, jk 18, jk 19, jk 20, jk 21, jk 22, jk 23, jk 24, jk 25]) ∧ Sat E L w ∧ i + m = xs.length ∧ ∀ j, j < i → xs[j]? = ys[j]?) xs.length ⟨0, (ex_getD rfl), hA, by omega, by intro j hj; omega⟩ ?_
  clear hA h
  rintro m l w ⟨i, ⟨jk, rfl⟩, hA, hi, hj⟩
  by_cases hlt : i < xs.length
  · obtain ⟨x, hxi⟩ : ∃ x, xs[i]? = some x := ⟨_, List.getElem?_eq_getElem hlt⟩
    obtain ⟨y, hyi⟩ : ∃ y, ys[i]? = some y := ⟨_, List.getElem?_eq_getElem (by omega)⟩
    obtain ⟨cs, hcsl, hR, hcx1⟩ := hx.get hxi
    obtain ⟨cs', hcsl', hR', hcy1⟩ := hy.get hyi
    obtain ⟨rfl, hx64⟩ := hR; obtain ⟨rfl, hy64⟩ := hR'
    have hx0 : E.cell? ⟨sB v, sO v + (i : Int).toNat * 1, none⟩ = some (vi x) := hcx1 0 _ rfl
    have hy0 : E.cell? ⟨sB v', sO v' + (i : Int).toNat * 1, none⟩ = some (vi y) := hcy1 0 _ rfl
    repeat' (first | (refine g_call ?_; refine t_lenS rfl hcx ?_; refine rn ?_) | refine st ?_ | refine sr ?_ | refine sl hA ?_ | (refine s_w hA ?_; clear hA; (try clear w); intro w hA) | (refine s_v hA ?_; clear hA; (try clear w); intro v w hA hone hnil) | (refine s_b hA ?_; clear hA; (try clear w); intro b w hA) | refine sp (fun h => ?_) (fun h => ?_) | (refine wc_region ?_))
    refine' wc_vals 9 [17, 18, 19, 20, 21, 22, 23, 24, 25] [_, _, _, _, _, _, _, _, _] rfl (by kernel_rfl) (by kernel_rfl) (by kernel_rfl) hA ?ops6 ?k6
    case ops6 =>
      refine' VOps.c0 rfl [] (by decide) [] (by decide) rfl ?o6_0 ?r6_0
      case o6_0 => intro E' Lx w lf hE hl hA; replace hl := hz hl; subst hl; first | (refine oq ?_; exact ⟨pe, hA⟩)
      refine' VOps.c0 rfl [] (by decide) [] (by decide) rfl ?o6_1 ?r6_1
      case o6_1 => intro E' Lx w lf hE hl hA; replace hl := hz hl; subst hl; first | (refine oq ?_; exact ⟨pe, hA⟩)
      refine' VOps.c0 rfl [0, 1] (by decide) [17, 18] (by decide) rfl ?o6_2 ?r6_2
      case o6_2 => intro E' Lx w lf hE hl hA; replace hl := hz hl; subst hl; first | (refine t_indexAddrS rfl hcx rfl (by omega) ?_; exact ⟨pe, hA⟩) | (refine t_indexAddrS rfl hcy rfl (by omega) ?_; exact ⟨pe, hA⟩) | (refine oq ?_; exact ⟨pe, hA⟩) | (refine t_indexAddrS rfl rfl (by omega) ?_; exact ⟨pe, hA⟩)
      refine' VOps.c0 rfl [2] (by decide) [19] (by decide) rfl ?o6_3 ?r6_3
      case o6_3 => intro E' Lx w lf hE hl hA; replace hl := hz hl; subst hl; first | (refine t_load_env rfl rfl hA (hE.cell hx0) ?_; exact ⟨pe, hA⟩) | (refine t_load_env rfl rfl hA (hE.cell hy0) ?_; exact ⟨pe, hA⟩) | (refine oq ?_; exact ⟨pe, hA⟩)
      refine' VOps.c0 rfl [] (by decide) [] (by decide) rfl ?o6_4 ?r6_4
      case o6_4 => intro E' Lx w lf hE hl hA; replace hl := hz hl; subst hl; first | (refine oq ?_; exact ⟨pe, hA⟩)
      refine' VOps.c0 rfl [] (by decide) [] (by decide) rfl ?o6_5 ?r6_5
      case o6_5 => intro E' Lx w lf hE hl hA; replace hl := hz hl; subst hl; first | (refine oq ?_; exact ⟨pe, hA⟩)
      refine' VOps.c0 rfl [4, 5] (by decide) [21, 22] (by decide) rfl ?o6_6 ?r6_6
      case o6_6 => intro E' Lx w lf hE hl hA; replace hl := hz hl; subst hl; first | (refine t_indexAddrS rfl hcx rfl (by omega) ?_; exact ⟨pe, hA⟩) | (refine t_indexAddrS rfl hcy rfl (by omega) ?_; exact ⟨pe, hA⟩) | (refine oq ?_; exact ⟨pe, hA⟩) | (refine t_indexAddrS rfl rfl (by omega) ?_; exact ⟨pe, hA⟩)
      refine' VOps.c0 rfl [6] (by decide) [23] (by decide) rfl ?o6_7 ?r6_7
      case o6_7 => intro E' Lx w lf hE hl hA; replace hl := hz hl; subst hl; first | (refine t_load_env rfl rfl hA (hE.cell hx0) ?_; exact ⟨pe, hA⟩) | (refine t_load_env rfl rfl hA (hE.cell hy0) ?_; exact ⟨pe, hA⟩) | (refine oq ?_; exact ⟨pe, hA⟩)
      refine' VOps.c0 rfl [3, 7] (by decide) [20, 24] (by decide) rfl ?o6_8 ?r6_8
      case o6_8 => intro E' Lx w lf hE hl hA; replace hl := hz hl; subst hl; first | (refine ow_neq rfl rfl ?_; exact ⟨pe, hA⟩) | (refine oq ?_; exact ⟨pe, hA⟩)
      exact TameOps.nil
    case' k6 => (try clear hA); intro w hA; refine rn ?_
    repeat' (first | refine st ?_ | refine sr ?_ | refine sl hA ?_ | (refine s_w hA ?_; clear hA; (try clear w); intro w hA) | (refine s_v hA ?_; clear hA; (try clear w); intro v w hA hone hnil) | (refine s_b hA ?_; clear hA; (try clear w); intro b w hA) | refine sp (fun h => ?_) (fun h => ?_) | (refine wc_region ?_))
    · refine ret1 hA rfl ?_
      have hne : ¬ x = y := by first | exact h | simpa using h
      rw [decide_eq_false (show ¬ xs = ys from fun e => hne (by rw [e, hyi] at hxi; exact (Option.some.inj hxi).symm))]; rfl
    · refine lq_next (m - 1) (by omega) ⟨i + 1, (ex_getD rfl), hA, by omega, ?_⟩
      have heq : x = y := by first | exact h | simpa using h
      intro j hj'
      rcases Nat.lt_or_ge j i with h1 | h1
      · exact hj j h1
      · obtain rfl : j = i := by omega
        rw [hxi, hyi, heq]
  · repeat' (first | (refine g_call ?_; refine t_lenS rfl hcx ?_; refine rn ?_) | refine st ?_ | refine sr ?_ | refine sl hA ?_ | (refine s_w hA ?_; clear hA; (try clear w); intro w hA) | (refine s_v hA ?_; clear hA; (try clear w); intro v w hA hone hnil) | (refine s_b hA ?_; clear hA; (try clear w); intro b w hA) | refine sp (fun h => ?_) (fun h => ?_) | (refine wc_region ?_))
    refine ret1 hA rfl ?_
    rw [decide_eq_true (ext_at hl fun j hj' => hj j (by omega))]; rfl

set_option maxHeartbeats 2000000 in
theorem equalVecs_calls (v v' : Value) (xs ys : List Vec) (E : Env) (L : List Item) (w : World) (hA : Sat E L w) (hx : ListE vecR 2 E v xs) (hy : ListE vecR 2 E v' ys) :
    Calls Tryd.prog 51 ⟨[v, v']⟩ w (Ret E L (.bool (decide (xs = ys)))) := by
  obtain ⟨cx, hcx⟩ := hx.sl
  obtain ⟨cy, hcy⟩ := hy.sl
  have hle := hcx.le
  refine enter (fn := Tryd.f51) Tryd.func51 rfl 26 rfl [v, v', undef, undef, undef, undef, undef, undef, undef, undef, undef, undef, undef, undef, undef, undef, undef, undef, undef, undef, undef, undef, undef, undef, undef, undef] rfl ?_
  repeat' (first | (refine g_call ?_; refine t_lenS rfl hcx ?_; refine rn ?_) | (refine g_call ?_; refine t_lenS rfl hcy ?_; refine rn ?_) | refine st ?_ | refine sr ?_ | refine sl hA ?_ | (refine s_w hA ?_; clear hA; (try clear w); intro w hA) | (refine s_v hA ?_; clear hA; (try clear w); intro v w hA hone hnil) | (refine s_b hA ?_; clear hA; (try clear w); intro b w hA) | refine sp (fun h => ?_) (fun h => ?_) | (refine wc_region ?_))
  · refine ret1 hA rfl ?_
    rw [decide_eq_false (show ¬ xs = ys from fun e => h (by rw [e]))]; rfl
  have hl : xs.length = ys.length := by omega
  refine wc_loopn (fun m l w => ∃ (i : Nat), (∃ jk : Nat → Value, l = [v, v', jk 2, jk 3, .bool false, .int .i64 (i : Int), jk 6, jk 7, jk 8, jk 9, jk 10, jk 11, jk 12, jk 13, jk 14, jk 15, jk 16, jk 17, jk 18, jk 19, jk 20, jk 21, jk 22, jk 23, jk 24, jk 25]) ∧ Sat E L w ∧ i + m = xs.length ∧ ∀ j, j < i → xs[j]? = ys[j]?) xs.length ⟨0, (ex_getD rfl), hA, by omega, by intro j hj; omega⟩ ?_
  clear hA h
  rintro m l w ⟨i, ⟨jk, rfl⟩, hA, hi, hj⟩
  by_cases hlt : i < xs.length
  · obtain ⟨x, hxi⟩ : ∃ x, xs[i]? = some x := ⟨_, List.getElem?_eq_getElem hlt⟩
    obtain ⟨y, hyi⟩ : ∃ y, ys[i]? = some y := ⟨_, List.getElem?_eq_getElem (by omega)⟩
    obtain ⟨cs, hcsl, hR, hcx1⟩ := hx.get hxi
    obtain ⟨cs', hcsl', hR', hcy1⟩ := hy.get hyi
    obtain ⟨rfl, hx64⟩ := hR; obtain ⟨rfl, hy64⟩ := hR'
    repeat' (first | (refine g_call ?_; refine t_lenS rfl hcx ?_; refine rn ?_) | refine st ?_ | refine sr ?_ | refine sl hA ?_ | (refine s_w hA ?_; clear hA; (try clear w); intro w hA) | (refine s_v hA ?_; clear hA; (try clear w); intro v w hA hone hnil) | (refine s_b hA ?_; clear hA; (try clear w); intro b w hA) | refine sp (fun h => ?_) (fun h => ?_) | (refine wc_region ?_))
    refine' wc_vals 9 [17, 18, 19, 20, 21, 22, 23, 24, 25] [_, _, _, _, _, _, _, _, _] rfl (by kernel_rfl) (by kernel_rfl) (by kernel_rfl) hA ?ops6 ?k6
    case ops6 =>
      refine' VOps.c0 rfl [] (by decide) [] (by decide) rfl ?o6_0 ?r6_0
      case o6_0 => intro E' Lx w lf hE hl hA; replace hl := hz hl; subst hl; first | (refine oq ?_; exact ⟨pe, hA⟩)
      refine' VOps.c0 rfl [] (by decide) [] (by decide) rfl ?o6_1 ?r6_1
      case o6_1 => intro E' Lx w lf hE hl hA; replace hl := hz hl; subst hl; first | (refine oq ?_; exact ⟨pe, hA⟩)
      refine' VOps.c0 rfl [0, 1] (by decide) [17, 18] (by decide) rfl ?o6_2 ?r6_2
      case o6_2 => intro E' Lx w lf hE hl hA; replace hl := hz hl; subst hl; first | (refine t_indexAddrS rfl hcx rfl (by omega) ?_; exact ⟨pe, hA⟩) | (refine t_indexAddrS rfl hcy rfl (by omega) ?_; exact ⟨pe, hA⟩) | (refine oq ?_; exact ⟨pe, hA⟩) | (refine t_indexAddrS rfl rfl (by omega) ?_; exact ⟨pe, hA⟩)
      refine' VOps.c0 rfl [2] (by decide) [19] (by decide) rfl ?o6_3 ?r6_3
      case o6_3 => intro E' Lx w lf hE hl hA; replace hl := hz hl; subst hl; first | (refine t_load_agg_env rfl rfl hA (fun j u hj => hE.cell (hcx1 j u hj)) rfl ?_; exact ⟨pe, hA⟩) | (refine t_load_agg_env rfl rfl hA (fun j u hj => hE.cell (hcy1 j u hj)) rfl ?_; exact ⟨pe, hA⟩) | (refine oq ?_; exact ⟨pe, hA⟩)
      refine' VOps.c0 rfl [] (by decide) [] (by decide) rfl ?o6_4 ?r6_4
      case o6_4 => intro E' Lx w lf hE hl hA; replace hl := hz hl; subst hl; first | (refine oq ?_; exact ⟨pe, hA⟩)
      refine' VOps.c0 rfl [] (by decide) [] (by decide) rfl ?o6_5 ?r6_5
      case o6_5 => intro E' Lx w lf hE hl hA; replace hl := hz hl; subst hl; first | (refine oq ?_; exact ⟨pe, hA⟩)
      refine' VOps.c0 rfl [4, 5] (by decide) [21, 22] (by decide) rfl ?o6_6 ?r6_6
      case o6_6 => intro E' Lx w lf hE hl hA; replace hl := hz hl; subst hl; first | (refine t_indexAddrS rfl hcx rfl (by omega) ?_; exact ⟨pe, hA⟩) | (refine t_indexAddrS rfl hcy rfl (by omega) ?_; exact ⟨pe, hA⟩) | (refine oq ?_; exact ⟨pe, hA⟩) | (refine t_indexAddrS rfl rfl (by omega) ?_; exact ⟨pe, hA⟩)
      refine' VOps.c0 rfl [6] (by decide) [23] (by decide) rfl ?o6_7 ?r6_7
      case o6_7 => intro E' Lx w lf hE hl hA; replace hl := hz hl; subst hl; first | (refine t_load_agg_env rfl rfl hA (fun j u hj => hE.cell (hcx1 j u hj)) rfl ?_; exact ⟨pe, hA⟩) | (refine t_load_agg_env rfl rfl hA (fun j u hj => hE.cell (hcy1 j u hj)) rfl ?_; exact ⟨pe, hA⟩) | (refine oq ?_; exact ⟨pe, hA⟩)
      refine' VOps.c0 rfl [3, 7] (by decide) [20, 24] (by decide) rfl ?o6_8 ?r6_8
      case o6_8 => intro E' Lx w lf hE hl hA; replace hl := hz hl; subst hl; first | (refine t_neVec rfl rfl hx64 hy64 ?_; exact ⟨pe, hA⟩) | (refine oq ?_; exact ⟨pe, hA⟩)
      exact TameOps.nil
    case' k6 => (try clear hA); intro w hA; refine rn ?_
    repeat' (first | refine st ?_ | refine sr ?_ | refine sl hA ?_ | (refine s_w hA ?_; clear hA; (try clear w); intro w hA) | (refine s_v hA ?_; clear hA; (try clear w); intro v w hA hone hnil) | (refine s_b hA ?_; clear hA; (try clear w); intro b w hA) | refine sp (fun h => ?_) (fun h => ?_) | (refine wc_region ?_))
    · refine ret1 hA rfl ?_
      have hne : ¬ x = y := by first | exact h | simpa using h
      rw [decide_eq_false (show ¬ xs = ys from fun e => hne (by rw [e, hyi] at hxi; exact (Option.some.inj hxi).symm))]; rfl
    · refine lq_next (m - 1) (by omega) ⟨i + 1, (ex_getD rfl), hA, by omega, ?_⟩
      have heq : x = y := by first | exact h | simpa using h
      intro j hj'
      rcases Nat.lt_or_ge j i with h1 | h1
      · exact hj j h1
      · obtain rfl : j = i := by omega
        rw [hxi, hyi, heq]
  · repeat' (first | (refine g_call ?_; refine t_lenS rfl hcx ?_; refine rn ?_) | refine st ?_ | refine sr ?_ | refine sl hA ?_ | (refine s_w hA ?_; clear hA; (try clear w); intro w hA) | (refine s_v hA ?_; clear hA; (try clear w); intro v w hA hone hnil) | (refine s_b hA ?_; clear hA; (try clear w); intro b w hA) | refine sp (fun h => ?_) (fun h => ?_) | (refine wc_region ?_))
    refine ret1 hA rfl ?_
    rw [decide_eq_true (ext_at hl fun j hj' => hj j (by omega))]; rfl

set_option maxHeartbeats 2000000 in
theorem equalBlocks_calls (v v' : Value) (xs ys : List (List Int)) (E : Env) (L : List Item) (w : World) (hA : Sat E L w) (hx : ListE (listR intR 1) 1 E v xs) (hy : ListE (listR intR 1) 1 E v' ys) :
    Calls Tryd.prog 52 ⟨[v, v']⟩ w (Ret E L (.bool (decide (xs = ys)))) := by
  obtain ⟨cx, hcx⟩ := hx.sl
  obtain ⟨cy, hcy⟩ := hy.sl
  have hle := hcx.le
  refine enter (fn := Tryd.f52) Tryd.func52 rfl 27 rfl [v, v', undef, undef, undef, undef, undef, undef, undef, undef, undef, undef, undef, undef, undef, undef, undef, undef, undef, undef, undef, undef, undef, undef, undef, undef, undef] rfl ?_
  repeat' (first | (refine g_call ?_; refine t_lenS rfl hcx ?_; refine rn ?_) | (refine g_call ?_; refine t_lenS rfl hcy ?_; refine rn ?_) | refine st ?_ | refine sr ?_ | refine sl hA ?_ | (refine s_w hA ?_; clear hA; (try clear w); intro w hA) | (refine s_v hA ?_; clear hA; (try clear w); intro v w hA hone hnil) | (refine s_b hA ?_; clear hA; (try clear w); intro b w hA) | refine sp (fun h => ?_) (fun h => ?_) | (refine wc_region ?_))
  · refine ret1 hA rfl ?_
    rw [decide_eq_false (show ¬ xs = ys from fun e => h (by rw [e]))]; rfl
  have hl : xs.length = ys.length := by omega
  refine wc_loopn (fun m l w => ∃ (i : Nat), (∃ jk : Nat → Value, l = [v, v', jk 2, jk 3, .bool false, .int .i64 (i : Int), jk 6, jk 7, jk 8, jk 9, jk 10, jk 11, jk 12, jk 13, jk 14, jk 15, jk 16, jk 17, jk 18, jk 19, jk 20, jk 21, jk 22, jk 23, jk 24, jk 25, jk 26]) ∧ Sat E L w ∧ i + m = xs.length ∧ ∀ j, j < i → xs[j]? = ys[j]?) xs.length ⟨0, (ex_getD rfl), hA, by omega, by intro j hj; omega⟩ ?_
  clear hA h
  rintro m l w ⟨i, ⟨jk, rfl⟩, hA, hi, hj⟩
  by_cases hlt : i < xs.length
  · obtain ⟨x, hxi⟩ : ∃ x, xs[i]? = some x := ⟨_, List.getElem?_eq_getElem hlt⟩
    obtain ⟨y, hyi⟩ : ∃ y, ys[i]? = some y := ⟨_, List.getElem?_eq_getElem (by omega)⟩
    obtain ⟨cs, hcsl, hR, hcx1⟩ := hx.get hxi
    obtain ⟨cs', hcsl', hR', hcy1⟩ := hy.get hyi
    obtain ⟨u, rfl, hux⟩ := hR; obtain ⟨u', rfl, huy⟩ := hR'
    have hx0 : E.cell? ⟨sB v, sO v + (i : Int).toNat * 1, none⟩ = some (u) := hcx1 0 _ rfl
    have hy0 : E.cell? ⟨sB v', sO v' + (i : Int).toNat * 1, none⟩ = some (u') := hcy1 0 _ rfl
    repeat' (first | (refine g_call ?_; refine t_lenS rfl hcx ?_; refine rn ?_) | refine st ?_ | refine sr ?_ | refine sl hA ?_ | (refine s_w hA ?_; clear hA; (try clear w); intro w hA) | (refine s_v hA ?_; clear hA; (try clear w); intro v w hA hone hnil) | (refine s_b hA ?_; clear hA; (try clear w); intro b w hA) | refine sp (fun h => ?_) (fun h => ?_) | (refine wc_region ?_))
    refine' wc_vals 10 [17, 18, 19, 20, 21, 22, 23, 24, 25, 26] [_, _, _, _, _, _, _, _, _, _] rfl (by kernel_rfl) (by kernel_rfl) (by kernel_rfl) hA ?ops6 ?k6
    case ops6 =>
      refine' VOps.c0 rfl [] (by decide) [] (by decide) rfl ?o6_0 ?r6_0
      case o6_0 => intro E' Lx w lf hE hl hA; replace hl := hz hl; subst hl; first | (refine oq ?_; exact ⟨pe, hA⟩)
      refine' VOps.c0 rfl [] (by decide) [] (by decide) rfl ?o6_1 ?r6_1
      case o6_1 => intro E' Lx w lf hE hl hA; replace hl := hz hl; subst hl; first | (refine oq ?_; exact ⟨pe, hA⟩)
      refine' VOps.c0 rfl [0, 1] (by decide) [17, 18] (by decide) rfl ?o6_2 ?r6_2
      case o6_2 => intro E' Lx w lf hE hl hA; replace hl := hz hl; subst hl; first | (refine t_indexAddrS rfl hcx rfl (by omega) ?_; exact ⟨pe, hA⟩) | (refine t_indexAddrS rfl hcy rfl (by omega) ?_; exact ⟨pe, hA⟩) | (refine oq ?_; exact ⟨pe, hA⟩) | (refine t_indexAddrS rfl rfl (by omega) ?_; exact ⟨pe, hA⟩)
      refine' VOps.c0 rfl [2] (by decide) [19] (by decide) rfl ?o6_3 ?r6_3
      case o6_3 => intro E' Lx w lf hE hl hA; replace hl := hz hl; subst hl; first | (refine t_load_env rfl rfl hA (hE.cell hx0) ?_; exact ⟨pe, hA⟩) | (refine t_load_env rfl rfl hA (hE.cell hy0) ?_; exact ⟨pe, hA⟩) | (refine oq ?_; exact ⟨pe, hA⟩)
      refine' VOps.c0 rfl [] (by decide) [] (by decide) rfl ?o6_4 ?r6_4
      case o6_4 => intro E' Lx w lf hE hl hA; replace hl := hz hl; subst hl; first | (refine oq ?_; exact ⟨pe, hA⟩)
      refine' VOps.c0 rfl [] (by decide) [] (by decide) rfl ?o6_5 ?r6_5
      case o6_5 => intro E' Lx w lf hE hl hA; replace hl := hz hl; subst hl; first | (refine oq ?_; exact ⟨pe, hA⟩)
      refine' VOps.c0 rfl [4, 5] (by decide) [21, 22] (by decide) rfl ?o6_6 ?r6_6
      case o6_6 => intro E' Lx w lf hE hl hA; replace hl := hz hl; subst hl; first | (refine t_indexAddrS rfl hcx rfl (by omega) ?_; exact ⟨pe, hA⟩) | (refine t_indexAddrS rfl hcy rfl (by omega) ?_; exact ⟨pe, hA⟩) | (refine oq ?_; exact ⟨pe, hA⟩) | (refine t_indexAddrS rfl rfl (by omega) ?_; exact ⟨pe, hA⟩)
      refine' VOps.c0 rfl [6] (by decide) [23] (by decide) rfl ?o6_7 ?r6_7
      case o6_7 => intro E' Lx w lf hE hl hA; replace hl := hz hl; subst hl; first | (refine t_load_env rfl rfl hA (hE.cell hx0) ?_; exact ⟨pe, hA⟩) | (refine t_load_env rfl rfl hA (hE.cell hy0) ?_; exact ⟨pe, hA⟩) | (refine oq ?_; exact ⟨pe, hA⟩)
      refine' VOps.c0 rfl [3, 7] (by decide) [20, 24] (by decide) rfl ?o6_8 ?r6_8
      case o6_8 => intro E' Lx w lf hE hl hA; replace hl := hz hl; subst hl; first | (refine ow_call Tryd.call50 rfl ((equalInts_calls _ _ _ _ _ _ _ hA (hux.mono hE) (huy.mono hE)).mono ?_); clear hA; rintro e w ⟨rfl, hA⟩; refine ⟨_, rfl, ?_⟩; exact ⟨put_eq (by rfl), hA⟩)
      refine' VOps.c0 rfl [8] (by decide) [25] (by decide) rfl ?o6_9 ?r6_9
      case o6_9 => intro E' Lx w lf hE hl hA; replace hl := hz hl; subst hl; first | (refine oq ?_; exact ⟨pe, hA⟩)
      exact TameOps.nil
    case' k6 => (try clear hA); intro w hA; refine rn ?_
    repeat' (first | refine st ?_ | refine sr ?_ | refine sl hA ?_ | (refine s_w hA ?_; clear hA; (try clear w); intro w hA) | (refine s_v hA ?_; clear hA; (try clear w); intro v w hA hone hnil) | (refine s_b hA ?_; clear hA; (try clear w); intro b w hA) | refine sp (fun h => ?_) (fun h => ?_) | (refine wc_region ?_))
    · refine ret1 hA rfl ?_
      have hne : ¬ x = y := by first | exact h | simpa using h
      rw [decide_eq_false (show ¬ xs = ys from fun e => hne (by rw [e, hyi] at hxi; exact (Option.some.inj hxi).symm))]; rfl
    · refine lq_next (m - 1) (by omega) ⟨i + 1, (ex_getD rfl), hA, by omega, ?_⟩
      have heq : x = y := by first | exact h | simpa using h
      intro j hj'
      rcases Nat.lt_or_ge j i with h1 | h1
      · exact hj j h1
      · obtain rfl : j = i := by omega
        rw [hxi, hyi, heq]
  · repeat' (first | (refine g_call ?_; refine t_lenS rfl hcx ?_; refine rn ?_) | refine st ?_ | refine sr ?_ | refine sl hA ?_ | (refine s_w hA ?_; clear hA; (try clear w); intro w hA) | (refine s_v hA ?_; clear hA; (try clear w); intro v w hA hone hnil) | (refine s_b hA ?_; clear hA; (try clear w); intro b w hA) | refine sp (fun h => ?_) (fun h => ?_) | (refine wc_region ?_))
    refine ret1 hA rfl ?_
    rw [decide_eq_true (ext_at hl fun j hj' => hj j (by omega))]; rfl
end Go.Proofs.YtomfoaaaeidpnaaDoor
