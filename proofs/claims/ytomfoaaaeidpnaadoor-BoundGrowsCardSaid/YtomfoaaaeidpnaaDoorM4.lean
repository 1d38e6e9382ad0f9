/-
  kinds.parts, Pieces, mb.vectors, walked.
-/
import Derived.Test.YtomfoaaaeidpnaaDoorM3
set_option linter.unusedVariables false
set_option linter.unusedSimpArgs false
namespace Go.Proofs.YtomfoaaaeidpnaaDoor
open Go Go.RowKit
attribute [local irreducible] WC RL OW bodyPostM ThenQ BlockQ LoopQ ScopeQ
def qsum (l : List UInt8) : Nat := (l.map fun s => (quart s.toNat).length).sum
/-- How many parts, and the error. -/
def piecesP (k : UInt8) (sub : Vector UInt8 4) : Nat × Int :=
  if k.toNat = 3 then (1, 0) else if k.toNat = 4 then (2, 0) else if k.toNat = 5 then (2, 0) else if k.toNat = 6 then
    (if sub.toList.all (fun s => decide (s.toNat ≤ 3)) then (qsum sub.toList, 0) else (0, 3)) else (0, 9)
theorem quart_len (n : Nat) : (quart n).length ≤ 4 := by
  unfold quart
  by_cases h0 : n = 0
  · rw [if_pos h0]; decide
  rw [if_neg h0]
  by_cases h1 : n = 1
  · rw [if_pos h1]; decide
  rw [if_neg h1]
  by_cases h2 : n = 2
  · rw [if_pos h2]; decide
  rw [if_neg h2]; decide
theorem qsum_snoc (l : List UInt8) (x : UInt8) : qsum (l ++ [x]) = qsum l + (quart x.toNat).length := by simp [qsum]
theorem qsum_le (l : List UInt8) : qsum l ≤ l.length * 4 := by
  induction l with
  | nil => decide
  | cons a r ih =>
    have h : qsum (a :: r) = (quart a.toNat).length + qsum r := by simp [qsum]
    have := quart_len a.toNat
    rw [h, List.length_cons]; omega
theorem arr4_get (p : Vector UInt8 4) (i : Nat) (x : UInt8) (h : p.toList[i]? = some x) : (arr4 p)[i]? = some (u8 x) := by
  have e : arr4 p = p.toList.map u8 := by
    apply List.ext_getElem
    · simp
    · intro n h1 h2
      have h3 : n < 4 := by simpa using h1
      have : n = 0 ∨ n = 1 ∨ n = 2 ∨ n = 3 := by omega
      rcases this with rfl | rfl | rfl | rfl <;> simp
  rw [e, List.getElem?_map, h]; rfl
/-- A slice of so many elements. -/
def lenV (n : Nat) (v : Value) : Prop := ∃ a c, v = .slice a n c
theorem lenV_one {n : Nat} {v : Value} (h : lenV n v) : v.oneCell' = true := by obtain ⟨a, c, rfl⟩ := h; rfl
theorem row_len {E : Env} {L : List Item} {w : World} {i e sz n : Nat} {v : Value} {xs : List Value} (hA : Sat E L w) (hi : L[i]? = some (row e sz v n xs)) : lenV n v := by
  have hown : w.ownsRow 0 e sz v n xs := hA.at_ hi
  rcases row_shape hown with ⟨rfl, rfl, rfl⟩ | ⟨g, cap, cur, rfl, _⟩
  · exact ⟨_, _, rfl⟩
  · exact ⟨_, _, rfl⟩
abbrev PartsOK (E : Env) (L : List Item) (p : Nat × Int) : Ending → World → Prop := fun e w' => ∃ v', e = .returned (.tuple ⟨[v', vi p.2]⟩) ∧ lenV p.1 v' ∧ Sat E L w'
set_option maxRecDepth 8000 in
set_option maxHeartbeats 4000000 in
theorem kparts_calls (k : UInt8) (sub : Vector UInt8 4) (E : Env) (L : List Item) (w : World) (hA : Sat E L w) (hG : MbG E) :
    Calls Tryd.prog 144 ⟨[u8 k, .agg ⟨arr4 sub⟩]⟩ w (PartsOK E L (piecesP k sub)) := by
  have hk := k.toNat_lt
  refine enter (fn := Tryd.f144) Tryd.func144 rfl 67 rfl [u8 k, .agg ⟨arr4 sub⟩, undef, undef, undef, undef, undef, undef, undef, undef, undef, undef, undef, undef, undef, undef, undef, undef, undef, undef, undef, undef, undef, undef, undef, undef, undef, undef, undef, undef, undef, undef, undef, undef, undef, undef, undef, undef, undef, undef, undef, undef, undef, undef, undef, undef, undef, undef, undef, undef, undef, undef, undef, undef, undef, undef, undef, undef, undef, undef, undef, undef, undef, undef, undef, undef, undef] rfl ?_
  by_cases h3 : k.toNat = 3
  · rw [piecesP, if_pos h3]
    repeat' (first | refine st ?_ | refine sr ?_ | refine sl hA ?_ | (refine s_w hA ?_; clear hA; (try clear w); intro w hA) | (refine s_v hA ?_; clear hA; (try clear w); intro v w hA hone hnil) | (refine s_b hA ?_; clear hA; (try clear w); intro b w hA) | refine sp (fun h => ?_) (fun h => ?_) | (refine wc_region ?_))
    exact fp_ret (res2 rfl rfl rfl) ⟨_, rfl, ⟨_, _, rfl⟩, hA.dropN 2⟩
  by_cases h4 : k.toNat = 4
  · rw [piecesP, if_neg h3, if_pos h4]
    repeat' (first | refine st ?_ | refine sr ?_ | refine sl hA ?_ | (refine s_w hA ?_; clear hA; (try clear w); intro w hA) | (refine s_v hA ?_; clear hA; (try clear w); intro v w hA hone hnil) | (refine s_b hA ?_; clear hA; (try clear w); intro b w hA) | refine sp (fun h => ?_) (fun h => ?_) | (refine wc_region ?_))
    exact fp_ret (res2 rfl rfl rfl) ⟨_, rfl, ⟨_, _, rfl⟩, hA.dropN 2⟩
  by_cases h5 : k.toNat = 5
  · rw [piecesP, if_neg h3, if_neg h4, if_pos h5]
    repeat' (first | refine st ?_ | refine sr ?_ | refine sl hA ?_ | (refine s_w hA ?_; clear hA; (try clear w); intro w hA) | (refine s_v hA ?_; clear hA; (try clear w); intro v w hA hone hnil) | (refine s_b hA ?_; clear hA; (try clear w); intro b w hA) | refine sp (fun h => ?_) (fun h => ?_) | (refine wc_region ?_))
    exact fp_ret (res2 rfl rfl rfl) ⟨_, rfl, ⟨_, _, rfl⟩, hA.dropN 2⟩
  by_cases h6 : k.toNat = 6
  · rw [piecesP, if_neg h3, if_neg h4, if_neg h5, if_pos h6]
    have hsl : sub.toList.length = 4 := by simp
    repeat' (first | refine st ?_ | refine sr ?_ | refine sl hA ?_ | (refine s_w hA ?_; clear hA; (try clear w); intro w hA) | (refine s_v hA ?_; clear hA; (try clear w); intro v w hA hone hnil) | (refine s_b hA ?_; clear hA; (try clear w); intro b w hA) | refine sp (fun h => ?_) (fun h => ?_) | (refine wc_regionS 9 rfl ?_; refine wc_region ?_))
    have hA' := hA.nilRow 184 5
    clear hA; rename _ => hA
    generalize hb1 : b = b1 at *
    repeat' (first | refine st ?_ | refine sr ?_ | refine sl hA ?_ | (refine s_w hA ?_; clear hA; (try clear w); intro w hA) | (refine s_v hA ?_; clear hA; (try clear w); intro v w hA hone hnil) | (refine s_b hA ?_; clear hA; (try clear w); intro b w hA) | refine sp (fun h => ?_) (fun h => ?_) | (refine wc_region ?_))
    refine wc_loopn (fun m l w => ∃ (i n : Nat) (u : Value) (cs : List Value), (∃ jk : Nat → Value, l = [jk 0, jk 1, jk 2, jk 3, jk 4, jk 5, u, jk 7, jk 8, jk 9, jk 10, jk 11, jk 12, jk 13, jk 14, jk 15, jk 16, jk 17, jk 18, jk 19, jk 20, jk 21, jk 22, jk 23, jk 24, jk 25, jk 26, jk 27, .agg ⟨arr4 sub⟩, .int .i64 (i : Int), jk 30, jk 31, jk 32, jk 33, jk 34, jk 35, jk 36, jk 37, jk 38, jk 39, jk 40, jk 41, jk 42, jk 43, jk 44, jk 45, jk 46, jk 47, jk 48, jk 49, jk 50, jk 51, jk 52, jk 53, jk 54, jk 55, jk 56, jk 57, jk 58, jk 59, jk 60, jk 61, jk 62, jk 63, jk 64, jk 65, jk 66]) ∧ i + m = 4 ∧ u.oneCell' = true ∧ n = qsum (sub.toList.take i) ∧ (sub.toList.take i).all (fun s => decide (s.toNat ≤ 3)) = true ∧ Sat E (row 184 5 u n cs :: cells b1 (arr4 sub) 23 :: L) w) 4 ⟨0, 0, _, _, (ex_getD rfl), by omega, rfl, rfl, rfl, hA⟩ ?_
    clear hA
    rintro m l w ⟨i, n, u, cs, ⟨jk, rfl⟩, hi, hone, hn, hall, hA⟩
    by_cases hlt : i < 4
    · obtain ⟨x, hxi⟩ : ∃ x, sub.toList[i]? = some x := ⟨_, List.getElem?_eq_getElem (by omega)⟩
      have hx0 : (arr4 sub)[(i : Int).toNat]? = some (u8 x) := by rw [Int.toNat_natCast]; exact arr4_get sub i x hxi
      have hx8 := x.toNat_lt
      have hts : sub.toList.take (i + 1) = sub.toList.take i ++ [x] := by rw [List.take_add_one, hxi]; rfl
      have hn16 : n ≤ 16 := by rw [hn]; have := qsum_le (sub.toList.take i); rw [List.length_take] at this; omega
      by_cases hx3 : x.toNat ≤ 3
      · obtain ⟨q, hq, hql⟩ := hG.quarters x.toNat (by omega)
        have hq0 : E.cell? ⟨1, ((x.toNat : Int)).toNat * 1, none⟩ = some q := by rw [Int.toNat_natCast, Nat.mul_one]; exact hq
        have hq1 : E.cell? ⟨1, 0 + ((x.toNat : Int)).toNat * 1, none⟩ = some q := by rw [Nat.zero_add]; exact hq0
        obtain ⟨cq, hcq⟩ := hql.sl
        have hqn := quart_len x.toNat
        repeat' (first | (refine g_idx ?_; refine t_index_arr rfl rfl rfl (by omega) hx0 ?_; refine rn ?_) | (refine g_ow ?_; refine t_indexAddrA rfl rfl (by omega) ?_; refine rn ?_) | (refine g_ow ?_; refine t_load_env rfl rfl hA hq0 ?_; refine rn ?_) | (refine g_ow ?_; refine t_load_env rfl rfl hA hq1 ?_; refine rn ?_) | (refine g_call ?_; refine t_lenS rfl hcq ?_; refine rn ?_) | refine st ?_ | refine sr ?_ | refine sl hA ?_ | (refine s_w hA ?_; clear hA; (try clear w); intro w hA) | (refine s_v hA ?_; clear hA; (try clear w); intro v w hA hone hnil) | (refine s_b hA ?_; clear hA; (try clear w); intro b w hA) | refine sp (fun h => ?_) (fun h => ?_) | (refine wc_region ?_))
        refine wc_loopn (fun k l w => ∃ (j n' : Nat) (u : Value) (cs : List Value), (∃ jk : Nat → Value, l = [jk 0, jk 1, jk 2, jk 3, jk 4, jk 5, u, .int .i64 (i : Int), jk 8, jk 9, jk 10, jk 11, jk 12, jk 13, jk 14, jk 15, jk 16, jk 17, jk 18, jk 19, jk 20, jk 21, jk 22, jk 23, jk 24, jk 25, jk 26, jk 27, .agg ⟨arr4 sub⟩, .int .i64 (i : Int), jk 30, jk 31, jk 32, jk 33, jk 34, jk 35, jk 36, q, .int .i64 ((quart x.toNat).length : Int), .int .i64 (j : Int), jk 40, jk 41, jk 42, jk 43, jk 44, jk 45, jk 46, jk 47, jk 48, jk 49, jk 50, jk 51, jk 52, jk 53, jk 54, jk 55, jk 56, jk 57, jk 58, jk 59, jk 60, jk 61, jk 62, jk 63, jk 64, jk 65, jk 66]) ∧ j + k = (quart x.toNat).length ∧ n' = n + j ∧ u.oneCell' = true ∧ Sat E (row 184 5 u n' cs :: cells b1 (arr4 sub) 23 :: L) w) (quart x.toNat).length ⟨0, n, u, cs, (ex_getD rfl), by omega, rfl, hone, hA⟩ ?_
        clear hA hone
        rintro k l w ⟨j, n', u, cs, ⟨jk, rfl⟩, hj, hn', hone, hA⟩
        by_cases hlj : j < (quart x.toNat).length
        · obtain ⟨y, hyj⟩ : ∃ y, (quart x.toNat)[j]? = some y := ⟨_, List.getElem?_eq_getElem hlj⟩
          obtain ⟨cy, hcyl, ⟨rfl, hy1, hy2⟩, hcy⟩ := hql.get hyj
          have hc0 : ∀ t v, (rectC y)[t]? = some v → E.cell? ⟨sB q, sO q + (j : Int).toNat * 5 + t, none⟩ = some v := fun t v ht => hcy t v ht
          repeat' (first | (refine g_ow ?_; refine t_indexAddrS rfl hcq rfl (by omega) ?_; refine rn ?_) | (refine g_ow ?_; refine t_load_agg_env rfl rfl hA hc0 rfl ?_; refine rn ?_) | refine st ?_ | refine sr ?_ | refine sl hA ?_ | (refine s_w hA ?_; clear hA; (try clear w); intro w hA) | (refine s_v hA ?_; clear hA; (try clear w); intro v w hA hone hnil) | (refine s_b hA ?_; clear hA; (try clear w); intro b w hA) | refine sp (fun h => ?_) (fun h => ?_) | (refine wc_region ?_))
          exact lq_next (k - 1) (by omega) ⟨j + 1, n' + 1, _, _, (ex_getD rfl), by omega, by omega, by assumption, hA.tail⟩
        · repeat' (first | refine st ?_ | refine sr ?_ | refine sl hA ?_ | (refine s_w hA ?_; clear hA; (try clear w); intro w hA) | (refine s_v hA ?_; clear hA; (try clear w); intro v w hA hone hnil) | (refine s_b hA ?_; clear hA; (try clear w); intro b w hA) | refine sp (fun h => ?_) (fun h => ?_) | (refine wc_region ?_))
          refine lq_next (m - 1) (by omega) ⟨i + 1, n', u, cs, (ex_getD rfl), by omega, hone, ?_, ?_, hA⟩
          · rw [hts, qsum_snoc]; omega
          · rw [hts, List.all_append, hall, Bool.true_and, List.all_cons, List.all_nil, Bool.and_true]
            exact decide_eq_true hx3
      · rw [if_neg (by
          intro ha
          exact hx3 (of_decide_eq_true (List.all_eq_true.1 ha x (List.mem_of_getElem? hxi))))]
        repeat' (first | (refine g_idx ?_; refine t_index_arr rfl rfl rfl (by omega) hx0 ?_; refine rn ?_) | refine st ?_ | refine sr ?_ | refine sl hA ?_ | (refine s_w hA ?_; clear hA; (try clear w); intro w hA) | (refine s_v hA ?_; clear hA; (try clear w); intro v w hA hone hnil) | (refine s_b hA ?_; clear hA; (try clear w); intro b w hA) | refine sp (fun h => ?_) (fun h => ?_) | (refine wc_region ?_))
        exact fp_ret (res2 rfl rfl rfl) ⟨_, rfl, ⟨_, _, rfl⟩, hA.dropN 2⟩
    · have e4 : sub.toList.take i = sub.toList := List.take_of_length_le (by omega)
      rw [e4] at hn hall
      rw [if_pos hall]
      repeat' (first | refine st ?_ | refine sr ?_ | refine sl hA ?_ | (refine s_w hA ?_; clear hA; (try clear w); intro w hA) | (refine s_v hA ?_; clear hA; (try clear w); intro v w hA hone hnil) | (refine s_b hA ?_; clear hA; (try clear w); intro b w hA) | refine sp (fun h => ?_) (fun h => ?_) | (refine wc_region ?_))
      exact fp_ret (res2 rfl rfl rfl) ⟨u, rfl, by rw [← hn]; exact row_len hA (i := 0) rfl, hA.dropN 2⟩
  · rw [piecesP, if_neg h3, if_neg h4, if_neg h5, if_neg h6]
    repeat' (first | refine st ?_ | refine sr ?_ | refine sl hA ?_ | (refine s_w hA ?_; clear hA; (try clear w); intro w hA) | (refine s_v hA ?_; clear hA; (try clear w); intro v w hA hone hnil) | (refine s_b hA ?_; clear hA; (try clear w); intro b w hA) | refine sp (fun h => ?_) (fun h => ?_) | (refine wc_region ?_))
    exact fp_ret (res2 rfl rfl rfl) ⟨_, rfl, ⟨_, _, rfl⟩, hA.tail⟩
theorem pieces_calls (k : UInt8) (sub : Vector UInt8 4) (E : Env) (L : List Item) (w : World) (hA : Sat E L w) (hG : MbG E) :
    Calls Tryd.prog 117 ⟨[u8 k, .agg ⟨arr4 sub⟩]⟩ w (Ret E L (.tuple ⟨[vi (piecesP k sub).1, vi (piecesP k sub).2]⟩)) := by
  refine enter (fn := Tryd.f117) Tryd.func117 rfl 17 rfl [u8 k, .agg ⟨arr4 sub⟩, undef, undef, undef, undef, undef, undef, undef, undef, undef, undef, undef, undef, undef, undef, undef] rfl ?_
  repeat' (first | (refine g_callf 144 ?_; refine ow_call Tryd.call144 rfl ((kparts_calls k sub E _ w hA hG).mono ?_); clear hA; (try clear w); rintro e w ⟨v', rfl, ⟨a, c, rfl⟩, hA⟩; refine ⟨_, rfl, ?_⟩; refine rn ?_) | (refine g_call ?_; refine t_len_slice rfl ?_; refine rn ?_) | refine st ?_ | refine sr ?_ | refine sl hA ?_ | (refine s_w hA ?_; clear hA; (try clear w); intro w hA) | (refine s_v hA ?_; clear hA; (try clear w); intro v w hA hone hnil) | (refine s_b hA ?_; clear hA; (try clear w); intro b w hA) | refine sp (fun h => ?_) (fun h => ?_) | (refine wc_region ?_))
  exact ret2 hA.tail rfl rfl rfl
/-- The error of the differences. -/
def vectorsE (m : Mb) : Int :=
  if (piecesP m.kind m.sub).2 ≠ 0 ∨ m.mvds.length ≠ (piecesP m.kind m.sub).1 then 2
  else rangedL (m.mvds.flatMap fun v => [v.x, v.y]) (2 * (piecesP m.kind m.sub).1) (-8192) 8192
theorem piecesP_le (k : UInt8) (sub : Vector UInt8 4) : (piecesP k sub).1 ≤ 16 := by
  unfold piecesP
  have := qsum_le sub.toList
  have hl : sub.toList.length = 4 := by simp
  repeat' split
  all_goals first | omega | (show _ ≤ 16; omega) | decide
theorem flat_two (l : List Vec) : (l.flatMap fun v => [v.x, v.y]).length = 2 * l.length := by
  induction l with
  | nil => rfl
  | cons a r ih => rw [List.flatMap_cons, List.length_append, ih]; simp only [List.length_cons, List.length_nil]; omega
set_option maxRecDepth 8000 in
set_option maxHeartbeats 4000000 in
theorem vectors_calls (m : Mb) (r v u0 : Value) (E : Env) (L : List Item) (w : World) (hA : Sat E L w) (hG : MbG E) (hm : MbL E m r v u0) :
    Calls Tryd.prog 71 ⟨[.agg ⟨mbC m r v u0⟩]⟩ w (fun e w' => ∃ E', e = .returned (vi (vectorsE m)) ∧ E.Le E' ∧ Sat E' L w') := by
  obtain ⟨cv, hcv⟩ := hm.mvds.sl
  have hp16 := piecesP_le m.kind m.sub
  obtain ⟨p1, hp1⟩ : ∃ p1, (piecesP m.kind m.sub).1 = p1 := ⟨_, rfl⟩
  obtain ⟨p2, hp2⟩ : ∃ p2, (piecesP m.kind m.sub).2 = p2 := ⟨_, rfl⟩
  refine enter (fn := Tryd.f71) Tryd.func71 rfl 44 rfl [.agg ⟨mbC m r v u0⟩, undef, undef, undef, undef, undef, undef, undef, undef, undef, undef, undef, undef, undef, undef, undef, undef, undef, undef, undef, undef, undef, undef, undef, undef, undef, undef, undef, undef, undef, undef, undef, undef, undef, undef, undef, undef, undef, undef, undef, undef, undef, undef, undef] rfl ?_
  repeat' (first | (refine g_callf 117 ?_; refine ow_call Tryd.call117 rfl ((pieces_calls m.kind m.sub E _ w hA hG).mono ?_); clear hA; (try clear w); rintro e w ⟨rfl, hA⟩; refine ⟨_, rfl, ?_⟩; (try rw [hp1, hp2]); refine rn ?_) | refine st ?_ | refine sr ?_ | refine sl hA ?_ | (refine s_w hA ?_; clear hA; (try clear w); intro w hA) | (refine s_v hA ?_; clear hA; (try clear w); intro v w hA hone hnil) | (refine s_b hA ?_; clear hA; (try clear w); intro b w hA) | refine sp (fun h => ?_) (fun h => ?_) | (refine wc_regionS 2 rfl ?_; refine wc_region ?_))
  refine wc_region ?_
  refine rv hA ?_; clear hA; intro w hA
  refine rv hA ?_; clear hA; intro w hA
  refine rv hA ?_; clear hA; intro w hA
  refine rf hA ?_; clear hA; intro w hA
  refine rf hA ?_; clear hA; intro w hA
  first | refine' rl_F rfl hA ?o2_5 ?k2_5 | refine' rl_Fn rfl hA ?o2_5 ?k2_5
  case o2_5 => intro hg w hA; first | (refine t_lenS opr hcv ?_; exact ⟨pe, hA⟩) | (refine oqg ?_; exact ⟨pe, hA⟩) | (refine t_lenS opr (by assumption) ?_; exact ⟨pe, hA⟩)
  clear hA; intro w hA; refine rn ?_
  refine rf hA ?_; clear hA; intro w hA
  refine rf hA ?_; clear hA; intro w hA
  refine rv hA ?_; clear hA; intro w hA
  refine rl_nil ?_
  generalize hb1 : b = b1 at *
  rw [hp1] at hp16
  by_cases hbad : p2 ≠ 0 ∨ m.mvds.length ≠ p1
  · have e : vectorsE m = 2 := by unfold vectorsE; rw [hp1, hp2, if_pos hbad]
    rw [e]
    repeat' (first | (refine wc_bb rfl (fun h => ?_) (fun h => ?_)) | refine st ?_ | refine sr ?_ | refine sl hA ?_ | (refine s_w hA ?_; clear hA; (try clear w); intro w hA) | (refine s_v hA ?_; clear hA; (try clear w); intro v w hA hone hnil) | (refine s_b hA ?_; clear hA; (try clear w); intro b w hA) | refine sp (fun h => ?_) (fun h => ?_) | (refine wc_region ?_))
    · exact fp_ret (res1 rfl rfl) ⟨E, rfl, Env.Le.refl _, hA.tail⟩
    · exfalso
      simp at h; omega
  · have e : vectorsE m = rangedL (m.mvds.flatMap fun v => [v.x, v.y]) (2 * p1) (-8192) 8192 := by unfold vectorsE; rw [hp1, hp2, if_neg hbad]
    have hlen : m.mvds.length = p1 := by omega
    repeat' (first | (refine wc_bb rfl (fun h => ?_) (fun h => ?_)) | refine st ?_ | refine sr ?_ | refine sl hA ?_ | (refine s_w hA ?_; clear hA; (try clear w); intro w hA) | (refine s_v hA ?_; clear hA; (try clear w); intro v w hA hone hnil) | (refine s_b hA ?_; clear hA; (try clear w); intro b w hA) | refine sp (fun h => ?_) (fun h => ?_) | (refine wc_regionS 4 rfl ?_; refine wc_region ?_))
    · exfalso
      simp at h; omega
    have hA' := hA.nilRow 3 1
    clear hA h; rename _ => hA
    repeat' (first | (refine g_call ?_; refine t_lenS rfl hcv ?_; refine rn ?_) | refine st ?_ | refine sr ?_ | refine sl hA ?_ | (refine s_w hA ?_; clear hA; (try clear w); intro w hA) | (refine s_v hA ?_; clear hA; (try clear w); intro v w hA hone hnil) | (refine s_b hA ?_; clear hA; (try clear w); intro b w hA) | refine sp (fun h => ?_) (fun h => ?_) | (refine wc_region ?_))
    refine wc_loopn (fun k l w => ∃ (i n : Nat) (u : Value) (cs : List Value), (∃ jk : Nat → Value, l = [jk 0, .pointer (some ⟨b1, 0, none⟩), jk 2, .int .i64 (p1 : Int), jk 4, u, jk 6, jk 7, jk 8, jk 9, jk 10, jk 11, jk 12, jk 13, jk 14, jk 15, jk 16, jk 17, jk 18, jk 19, jk 20, jk 21, jk 22, jk 23, jk 24, jk 25, v, .int .i64 (m.mvds.length : Int), .int .i64 (i : Int), jk 29, jk 30, jk 31, jk 32, jk 33, jk 34, jk 35, jk 36, jk 37, jk 38, jk 39, jk 40, jk 41, jk 42, jk 43]) ∧ i + k = m.mvds.length ∧ n = 2 * i ∧ u.oneCell' = true ∧ CsE intR 1 E cs ((m.mvds.take i).flatMap fun v => [v.x, v.y]) ∧ Sat E (row 3 1 u n cs :: cells b1 (mbC m r v u0) 28 :: L) w) m.mvds.length ⟨0, 0, _, _, (ex_getD rfl), by omega, by omega, rfl, CsE.nil, hA⟩ ?_
    clear hA
    rintro k l w ⟨i, n, u, cs, ⟨jk, rfl⟩, hi, hn, hone, hcs, hA⟩
    by_cases hlt : i < m.mvds.length
    · obtain ⟨x, hxi⟩ : ∃ x, m.mvds[i]? = some x := ⟨_, List.getElem?_eq_getElem hlt⟩
      obtain ⟨cx, hcxl, ⟨rfl, hx1, hx2⟩, hcx⟩ := hm.mvds.get hxi
      have hc0 : ∀ t z, (vecC x)[t]? = some z → E.cell? ⟨sB v, sO v + (i : Int).toNat * 2 + t, none⟩ = some z := fun t z ht => hcx t z ht
      have hts : m.mvds.take (i + 1) = m.mvds.take i ++ [x] := by rw [List.take_add_one, hxi]; rfl
      repeat' (first | (refine g_ow ?_; refine t_indexAddrS rfl hcv rfl (by omega) ?_; refine rn ?_) | (refine g_ow ?_; refine t_load_agg_env rfl rfl hA hc0 rfl ?_; refine rn ?_) | refine st ?_ | refine sr ?_ | refine sl hA ?_ | (refine s_w hA ?_; clear hA; (try clear w); intro w hA) | (refine s_v hA ?_; clear hA; (try clear w); intro v w hA hone hnil) | (refine s_b hA ?_; clear hA; (try clear w); intro b w hA) | refine sp (fun h => ?_) (fun h => ?_) | (refine wc_region ?_))
      refine lq_next (k - 1) (by omega) ⟨i + 1, n + 2, _, cs ++ [vi x.x, vi x.y], (ex_getD rfl), by omega, by omega, by assumption, ?_, hA.tail⟩
      rw [hts, List.flatMap_append]
      exact hcs.app (((CsE.nil (R := intR) (sz := 1) (E := E)).snoc (cs := [vi x.x]) (x := x.x) rfl ⟨rfl, hx1⟩).snoc (cs := [vi x.y]) (x := x.y) rfl ⟨rfl, hx2⟩)
    · have eti : m.mvds.take i = m.mvds := List.take_of_length_le (by omega)
      rw [eti] at hcs
      rw [e]
      have hfl : (m.mvds.flatMap fun v => [v.x, v.y]).length = n := by rw [flat_two]; omega
      rw [← hfl] at hA
      obtain ⟨E1, hE1, hA1, hu⟩ := hA.freezeList hcs
      clear hA
      rename Sat E1 _ _ => hA
      repeat' (first | (refine g_callf 69 ?_; refine ow_call Tryd.call69 rfl ((rangedI_calls _ _ _ _ _ E1 _ w hA hu).mono ?_); clear hA; (try clear w); rintro e w ⟨rfl, hA⟩; refine ⟨_, rfl, ?_⟩; refine rn ?_) | refine st ?_ | refine sr ?_ | refine sl hA ?_ | (refine s_w hA ?_; clear hA; (try clear w); intro w hA) | (refine s_v hA ?_; clear hA; (try clear w); intro v w hA hone hnil) | (refine s_b hA ?_; clear hA; (try clear w); intro b w hA) | refine sp (fun h => ?_) (fun h => ?_) | (refine wc_region ?_))
      exact fp_ret (res1 rfl rfl) ⟨E1, rfl, hE1, hA.tail⟩
end Go.Proofs.YtomfoaaaeidpnaaDoor
