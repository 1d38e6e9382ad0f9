/-
  mb.Blocks, walked.
-/
import Derived.Test.YtomfoaaaeidpnaaDoorM2
set_option linter.unusedVariables false
set_option linter.unusedSimpArgs false
namespace Go.Proofs.YtomfoaaaeidpnaaDoor
open Go Go.RowKit
attribute [local irreducible] WC RL OW bodyPostM ThenQ BlockQ LoopQ ScopeQ
def bitB (c : UInt8) (k : Nat) : Bool := decide (c.toNat / 2 ^ (k / 4) % 2 = 1)
def lumaL (cat c : UInt8) (n : Nat) : List Coded := ((List.range n).filter (bitB c)).map fun (k : Nat) => ⟨cat, 0, k⟩
def chacL (n : Nat) : List Coded := (List.range n).map fun (k : Nat) => ⟨4, UInt8.ofNat (k / 4), (k % 4 : Nat)⟩
/-- Which blocks are coded. -/
def blocksL (m : Mb) : List Coded :=
  if codedB m.kind = true then
    (if m.kind.toNat = 1 then [⟨0, 0, 0⟩] else []) ++ lumaL (if m.kind.toNat = 1 then 1 else 2) m.cbp 16 ++ (if 0 < m.cbp.toNat / 16 then [⟨3, 0, 0⟩, ⟨3, 1, 0⟩] else []) ++ (if m.cbp.toNat / 16 = 2 then chacL 8 else [])
  else []
theorem lumaL_step (cat c : UInt8) (n : Nat) : lumaL cat c (n + 1) = lumaL cat c n ++ (if bitB c n = true then [⟨cat, 0, n⟩] else []) := by
  unfold lumaL
  rw [List.range_succ, List.filter_append, List.map_append]
  congr 1
  by_cases h : bitB c n = true
  · rw [List.filter_cons_of_pos h, if_pos h]; rfl
  · rw [List.filter_cons_of_neg h, if_neg h]; rfl
theorem chacL_step (n : Nat) : chacL (n + 1) = chacL n ++ [⟨4, UInt8.ofNat (n / 4), (n % 4 : Nat)⟩] := by
  unfold chacL; rw [List.range_succ, List.map_append]; rfl
theorem lumaL_len (cat c : UInt8) (n : Nat) : (lumaL cat c n).length ≤ n := by
  unfold lumaL; rw [List.length_map]; have := List.length_filter_le (bitB c) (List.range n); rwa [List.length_range] at this
theorem chacL_len (n : Nat) : (chacL n).length = n := by unfold chacL; simp
theorem codedC_len (c : Coded) : (codedC c).length = 3 := rfl
theorem CsE.app {α : Type} {R : Rd α} {sz : Nat} {E : Env} {cells cells' : List Value} {xs ys : List α} (h : CsE R sz E cells xs) (h' : CsE R sz E cells' ys) : CsE R sz E (cells ++ cells') (xs ++ ys) := by
  obtain ⟨css, rfl, h2, h3, h4⟩ := h
  obtain ⟨css', rfl, h2', h3', h4'⟩ := h'
  refine ⟨css ++ css', by simp, by simp [h2, h2'], fun c hc => ?_, fun i c y hc hy => ?_⟩
  · rcases List.mem_append.1 hc with hc | hc
    · exact h3 c hc
    · exact h3' c hc
  · rcases Nat.lt_or_ge i css.length with hi | hi
    · rw [List.getElem?_append_left hi] at hc
      rw [List.getElem?_append_left (by omega)] at hy
      exact h4 i c y hc hy
    · rw [List.getElem?_append_right hi] at hc
      rw [List.getElem?_append_right (by omega)] at hy
      exact h4' (i - css.length) c y hc (by rw [h2]; exact hy)
theorem bit_all : ∀ (n : Fin 256) (j : Fin 4), decide (IntKind.u8.wrap ((BitVec.ofInt IntKind.u8.bits (((n.val : Nat) : Int).fdiv (2 ^ min j.val IntKind.u8.bits)) &&& BitVec.ofInt IntKind.u8.bits 1).toNat : Int) = 1) = decide (n.val / 2 ^ j.val % 2 = 1) := by decide +kernel
theorem bit_eq (c : UInt8) (i : Nat) (hi : i < 16) : decide (IntKind.u8.wrap ((BitVec.ofInt IntKind.u8.bits ((c.toNat : Int).fdiv (2 ^ min ((i : Int) / 4).toNat IntKind.u8.bits)) &&& BitVec.ofInt IntKind.u8.bits 1).toNat : Int) = 1) = bitB c i := by
  have e : ((i : Int) / 4).toNat = i / 4 := by omega
  rw [e]
  exact bit_all ⟨c.toNat, c.toNat_lt⟩ ⟨i / 4, by omega⟩
set_option maxRecDepth 8000 in
set_option maxHeartbeats 4000000 in
theorem blocksL_calls (m : Mb) (rr vv bb : Value) (E : Env) (L : List Item) (w : World) (hA : Sat E L w) :
    Calls Tryd.prog 107 ⟨[.agg ⟨mbC m rr vv bb⟩]⟩ w (fun e w' => ∃ E' v', e = .returned v' ∧ E.Le E' ∧ ListE codedR 3 E' v' (blocksL m) ∧ Sat E' L w') := by
  refine enter (fn := Tryd.f107) Tryd.func107 rfl 62 rfl [.agg ⟨mbC m rr vv bb⟩, undef, undef, undef, undef, undef, undef, undef, undef, undef, undef, undef, undef, undef, undef, undef, undef, undef, undef, undef, undef, undef, undef, undef, undef, undef, undef, undef, undef, undef, undef, undef, undef, undef, undef, undef, undef, undef, undef, undef, undef, undef, undef, undef, undef, undef, undef, undef, undef, undef, undef, undef, undef, undef, undef, undef, undef, undef, undef, undef, undef, undef] rfl ?_
  cases hc : codedB m.kind with
  | false =>
    have e : blocksL m = [] := by unfold blocksL; rw [hc]; rfl
    rw [e]
    repeat' (first | (refine g_callf 72 ?_; refine ow_call Tryd.call72 rfl ((coded_calls _ _ _ _ hA).mono ?_); clear hA; (try clear w); rintro e w ⟨rfl, hA⟩; refine ⟨_, rfl, ?_⟩; (try rw [hc]); refine rn ?_) | refine st ?_ | refine sr ?_ | refine sl hA ?_ | (refine s_w hA ?_; clear hA; (try clear w); intro w hA) | (refine s_v hA ?_; clear hA; (try clear w); intro v w hA hone hnil) | (refine s_b hA ?_; clear hA; (try clear w); intro b w hA) | refine sp (fun h => ?_) (fun h => ?_) | (refine wc_region ?_))
    exact fp_ret (res1 rfl rfl) ⟨E, _, rfl, Env.Le.refl E, ListE.nil, hA.tail⟩
  | true =>
    have hk := m.cbp.toNat_lt
    have e : blocksL m = (if m.kind.toNat = 1 then [⟨0, 0, 0⟩] else []) ++ lumaL (if m.kind.toNat = 1 then 1 else 2) m.cbp 16 ++ (if 0 < m.cbp.toNat / 16 then [⟨3, 0, 0⟩, ⟨3, 1, 0⟩] else []) ++ (if m.cbp.toNat / 16 = 2 then chacL 8 else []) := by unfold blocksL; rw [hc]; rfl
    rw [e]
    clear e
    obtain ⟨pre, hpre⟩ : ∃ pre : List Coded, (if m.kind.toNat = 1 then [⟨0, 0, 0⟩] else []) = pre := ⟨_, rfl⟩
    obtain ⟨cat, hcat⟩ : ∃ cat : UInt8, (if m.kind.toNat = 1 then 1 else 2) = cat := ⟨_, rfl⟩
    rw [hpre, hcat]
    have hpl : pre.length ≤ 1 := by rw [← hpre]; split <;> simp
    repeat' (first | (refine g_callf 72 ?_; refine ow_call Tryd.call72 rfl ((coded_calls _ _ _ _ hA).mono ?_); clear hA; (try clear w); rintro e w ⟨rfl, hA⟩; refine ⟨_, rfl, ?_⟩; (try rw [hc]); refine rn ?_) | refine st ?_ | refine sr ?_ | refine sl hA ?_ | (refine s_w hA ?_; clear hA; (try clear w); intro w hA) | (refine s_v hA ?_; clear hA; (try clear w); intro v w hA hone hnil) | (refine s_b hA ?_; clear hA; (try clear w); intro b w hA) | refine sp (fun h => ?_) (fun h => ?_) | (refine wc_regionS 3 rfl ?_; refine wc_region ?_))
    generalize hb1 : b = b1 at *
    have hA' := hA.nilRow 141 3
    clear hA; rename _ => hA
    repeat' (first | refine st ?_ | refine sr ?_ | refine sl hA ?_ | (refine s_w hA ?_; clear hA; (try clear w); intro w hA) | (refine s_v hA ?_; clear hA; (try clear w); intro v w hA hone hnil) | (refine s_b hA ?_; clear hA; (try clear w); intro b w hA) | refine sp (fun h => ?_) (fun h => ?_) | (refine wc_regionS 5 rfl ?_; refine wc_region ?_))
    refine wc_region ?_
    refine rv hA ?_; clear hA; intro w hA
    refine rv hA ?_; clear hA; intro w hA
    refine rv hA ?_; clear hA; intro w hA
    refine rl_nil ?_
    refine tq_normal ?_
    refine wc_mid (fun l w => ∃ (u : Value) (cs : List Value), (∃ jk : Nat → Value, l = [jk 0, .pointer (some ⟨b1, 0, none⟩), jk 2, u, u8 cat, jk 5, jk 6, jk 7, jk 8, jk 9, jk 10, jk 11, jk 12, jk 13, jk 14, jk 15, jk 16, jk 17, jk 18, jk 19, jk 20, jk 21, jk 22, jk 23, jk 24, jk 25, jk 26, jk 27, jk 28, jk 29, jk 30, jk 31, jk 32, jk 33, jk 34, jk 35, jk 36, jk 37, jk 38, jk 39, jk 40, jk 41, jk 42, jk 43, jk 44, jk 45, jk 46, jk 47, jk 48, jk 49, jk 50, jk 51, jk 52, jk 53, jk 54, jk 55, jk 56, jk 57, jk 58, jk 59, jk 60, jk 61]) ∧ u.oneCell' = true ∧ CsE codedR 3 E cs pre ∧ Sat E (row 141 3 u pre.length cs :: cells b1 (mbC m rr vv bb) 28 :: L) w) ?_ ?_
    · by_cases h1 : m.kind.toNat = 1
      · rw [if_pos h1] at hpre hcat
        subst hpre hcat
        repeat' (first | refine st ?_ | refine sr ?_ | refine sl hA ?_ | (refine s_w hA ?_; clear hA; (try clear w); intro w hA) | (refine s_v hA ?_; clear hA; (try clear w); intro v w hA hone hnil) | (refine s_b hA ?_; clear hA; (try clear w); intro b w hA) | refine sp (fun h => ?_) (fun h => ?_) | (refine wc_region ?_))
        exact mq_normal ⟨_, _, (ex_getD rfl), by assumption, CsE.nil.snoc rfl ⟨rfl, by decide⟩, hA⟩
      · rw [if_neg h1] at hpre hcat
        subst hpre hcat
        repeat' (first | refine st ?_ | refine sr ?_ | refine sl hA ?_ | (refine s_w hA ?_; clear hA; (try clear w); intro w hA) | (refine s_v hA ?_; clear hA; (try clear w); intro v w hA hone hnil) | (refine s_b hA ?_; clear hA; (try clear w); intro b w hA) | refine sp (fun h => ?_) (fun h => ?_) | (refine wc_region ?_))
        exact mq_normal ⟨_, _, (ex_getD rfl), rfl, CsE.nil, hA⟩
    clear hA
    rintro l w ⟨u, cs, ⟨jk, rfl⟩, hone, hcs, hA⟩
    repeat' (first | refine st ?_ | refine sr ?_ | refine sl hA ?_ | (refine s_w hA ?_; clear hA; (try clear w); intro w hA) | (refine s_v hA ?_; clear hA; (try clear w); intro v w hA hone hnil) | (refine s_b hA ?_; clear hA; (try clear w); intro b w hA) | refine sp (fun h => ?_) (fun h => ?_) | (refine wc_region ?_))
    refine wc_loopn (fun k l w => ∃ (i : Nat) (u : Value) (cs : List Value), (∃ jk : Nat → Value, l = [jk 0, .pointer (some ⟨b1, 0, none⟩), jk 2, u, u8 cat, jk 5, jk 6, jk 7, jk 8, jk 9, jk 10, jk 11, jk 12, jk 13, jk 14, jk 15, jk 16, jk 17, .int .i64 (i : Int), jk 19, jk 20, jk 21, jk 22, jk 23, jk 24, jk 25, jk 26, jk 27, jk 28, jk 29, jk 30, jk 31, jk 32, jk 33, jk 34, jk 35, jk 36, jk 37, jk 38, jk 39, jk 40, jk 41, jk 42, jk 43, jk 44, jk 45, jk 46, jk 47, jk 48, jk 49, jk 50, jk 51, jk 52, jk 53, jk 54, jk 55, jk 56, jk 57, jk 58, jk 59, jk 60, jk 61]) ∧ i + k = 16 ∧ u.oneCell' = true ∧ CsE codedR 3 E cs (pre ++ lumaL cat m.cbp i) ∧ Sat E (row 141 3 u (pre ++ lumaL cat m.cbp i).length cs :: cells b1 (mbC m rr vv bb) 28 :: L) w) 16 ⟨0, u, cs, (ex_getD rfl), by omega, hone, by rw [show lumaL cat m.cbp 0 = [] from rfl, List.append_nil]; exact hcs, by rw [show lumaL cat m.cbp 0 = [] from rfl, List.append_nil]; exact hA⟩ ?_
    clear hA hcs hone
    rintro k l w ⟨i, u, cs, ⟨jk, rfl⟩, hi, hone, hcs, hA⟩
    have hll := lumaL_len cat m.cbp i
    by_cases hlt : i < 16
    · repeat' (first | refine st ?_ | refine sr ?_ | refine sl hA ?_ | (refine s_w hA ?_; clear hA; (try clear w); intro w hA) | (refine s_v hA ?_; clear hA; (try clear w); intro v w hA hone hnil) | (refine s_b hA ?_; clear hA; (try clear w); intro b w hA) | refine sp (fun h => ?_) (fun h => ?_) | (refine wc_regionS 11 rfl ?_; refine wc_region ?_))
      refine wc_region ?_
      refine rv hA ?_; clear hA; intro w hA
      refine rv hA ?_; clear hA; intro w hA
      refine rv hA ?_; clear hA; intro w hA
      refine rv hA ?_; clear hA; intro w hA
      refine rv hA ?_; clear hA; intro w hA
      refine rv hA ?_; clear hA; intro w hA
      refine rv hA ?_; clear hA; intro w hA
      refine rl_nil ?_
      rw [bit_eq m.cbp i hlt]
      have hst := lumaL_step cat m.cbp i
      obtain ⟨n, hn⟩ : ∃ n, (pre ++ lumaL cat m.cbp i).length = n := ⟨_, rfl⟩
      have hnl : n ≤ 17 := by rw [← hn, List.length_append]; omega
      rw [hn] at hA
      cases hb : bitB m.cbp i with
      | true =>
        rw [hb, if_pos rfl] at hst
        repeat' (first | refine st ?_ | refine sr ?_ | refine sl hA ?_ | (refine s_w hA ?_; clear hA; (try clear w); intro w hA) | (refine s_v hA ?_; clear hA; (try clear w); intro v w hA hone hnil) | (refine s_b hA ?_; clear hA; (try clear w); intro b w hA) | refine sp (fun h => ?_) (fun h => ?_) | (refine wc_region ?_))
        refine lq_next (k - 1) (by omega) ⟨i + 1, _, cs ++ codedC ⟨cat, 0, (i : Int)⟩, (ex_getD rfl), by omega, by assumption, by rw [hst, ← List.append_assoc]; exact hcs.snoc (x := ⟨cat, 0, (i : Int)⟩) rfl ⟨rfl, by show I64 (i : Int); omega⟩, ?_⟩
        rw [hst, ← List.append_assoc, List.length_append, hn]
        exact hA
      | false =>
        rw [hb, if_neg (by decide), List.append_nil] at hst
        repeat' (first | refine st ?_ | refine sr ?_ | refine sl hA ?_ | (refine s_w hA ?_; clear hA; (try clear w); intro w hA) | (refine s_v hA ?_; clear hA; (try clear w); intro v w hA hone hnil) | (refine s_b hA ?_; clear hA; (try clear w); intro b w hA) | refine sp (fun h => ?_) (fun h => ?_) | (refine wc_region ?_))
        refine lq_next (k - 1) (by omega) ⟨i + 1, u, cs, (ex_getD rfl), by omega, hone, by rw [hst]; exact hcs, by rw [hst, hn]; exact hA⟩
    · obtain rfl : i = 16 := by omega
      repeat' (first | refine st ?_ | refine sr ?_ | refine sl hA ?_ | (refine s_w hA ?_; clear hA; (try clear w); intro w hA) | (refine s_v hA ?_; clear hA; (try clear w); intro v w hA hone hnil) | (refine s_b hA ?_; clear hA; (try clear w); intro b w hA) | refine sp (fun h => ?_) (fun h => ?_) | (refine wc_regionS 14 rfl ?_; refine wc_region ?_))
      obtain ⟨M1, hM1⟩ : ∃ M1, pre ++ lumaL cat m.cbp 16 = M1 := ⟨_, rfl⟩
      have hM1l : M1.length ≤ 17 := by rw [← hM1, List.length_append]; omega
      rw [hM1] at hA hcs ⊢
      clear hM1 hll
      refine wc_region ?_
      refine rv hA ?_; clear hA; intro w hA
      refine rv hA ?_; clear hA; intro w hA
      refine rv hA ?_; clear hA; intro w hA
      refine rv hA ?_; clear hA; intro w hA
      refine rl_nil ?_
      refine tq_normal ?_
      obtain ⟨ch, hch⟩ : ∃ ch : List Coded, (if 0 < m.cbp.toNat / 16 then [⟨3, 0, 0⟩, ⟨3, 1, 0⟩] else []) = ch := ⟨_, rfl⟩
      rw [hch]
      have hchl : ch.length ≤ 2 := by rw [← hch]; split <;> simp
      refine wc_mid (fun l w => ∃ (u : Value) (cs : List Value), (∃ jk : Nat → Value, l = [jk 0, .pointer (some ⟨b1, 0, none⟩), jk 2, u, jk 4, jk 5, jk 6, jk 7, jk 8, jk 9, jk 10, jk 11, jk 12, jk 13, jk 14, jk 15, jk 16, jk 17, jk 18, jk 19, jk 20, jk 21, jk 22, jk 23, jk 24, jk 25, jk 26, jk 27, jk 28, jk 29, jk 30, jk 31, jk 32, jk 33, jk 34, jk 35, jk 36, jk 37, jk 38, jk 39, jk 40, jk 41, jk 42, jk 43, jk 44, jk 45, jk 46, jk 47, jk 48, jk 49, jk 50, jk 51, jk 52, jk 53, jk 54, jk 55, jk 56, jk 57, jk 58, jk 59, jk 60, jk 61]) ∧ u.oneCell' = true ∧ CsE codedR 3 E cs (M1 ++ ch) ∧ Sat E (row 141 3 u (M1 ++ ch).length cs :: cells b1 (mbC m rr vv bb) 28 :: L) w) ?_ ?_
      · by_cases h2 : 0 < m.cbp.toNat / 16
        · rw [if_pos h2] at hch
          subst hch
          repeat' (first | refine st ?_ | refine sr ?_ | refine sl hA ?_ | (refine s_w hA ?_; clear hA; (try clear w); intro w hA) | (refine s_v hA ?_; clear hA; (try clear w); intro v w hA hone hnil) | (refine s_b hA ?_; clear hA; (try clear w); intro b w hA) | refine sp (fun h => ?_) (fun h => ?_) | (refine wc_region ?_))
          refine mq_normal ⟨_, cs ++ (codedC ⟨3, 0, 0⟩ ++ codedC ⟨3, 1, 0⟩), (ex_getD rfl), by assumption, hcs.app (((CsE.nil (R := codedR) (sz := 3) (E := E)).snoc (cs := codedC ⟨3, 0, 0⟩) (x := (⟨3, 0, 0⟩ : Coded)) rfl ⟨rfl, by decide⟩).snoc (cs := codedC ⟨3, 1, 0⟩) (x := (⟨3, 1, 0⟩ : Coded)) rfl ⟨rfl, by decide⟩), ?_⟩
          rw [List.length_append]
          exact hA
        · rw [if_neg h2] at hch
          subst hch
          rw [List.append_nil]
          repeat' (first | refine st ?_ | refine sr ?_ | refine sl hA ?_ | (refine s_w hA ?_; clear hA; (try clear w); intro w hA) | (refine s_v hA ?_; clear hA; (try clear w); intro v w hA hone hnil) | (refine s_b hA ?_; clear hA; (try clear w); intro b w hA) | refine sp (fun h => ?_) (fun h => ?_) | (refine wc_region ?_))
          exact mq_normal ⟨_, _, (ex_getD rfl), hone, hcs, hA⟩
      clear hA hcs hone
      rintro l w ⟨u, cs, ⟨jk, rfl⟩, hone, hcs, hA⟩
      obtain ⟨M2, hM2⟩ : ∃ M2, M1 ++ ch = M2 := ⟨_, rfl⟩
      have hM2l : M2.length ≤ 19 := by rw [← hM2, List.length_append]; omega
      rw [hM2] at hA hcs ⊢
      clear hM2
      repeat' (first | refine st ?_ | refine sr ?_ | refine sl hA ?_ | (refine s_w hA ?_; clear hA; (try clear w); intro w hA) | (refine s_v hA ?_; clear hA; (try clear w); intro v w hA hone hnil) | (refine s_b hA ?_; clear hA; (try clear w); intro b w hA) | refine sp (fun h => ?_) (fun h => ?_) | (refine wc_regionS 16 rfl ?_; refine wc_region ?_))
      refine wc_region ?_
      refine rv hA ?_; clear hA; intro w hA
      refine rv hA ?_; clear hA; intro w hA
      refine rv hA ?_; clear hA; intro w hA
      refine rv hA ?_; clear hA; intro w hA
      refine rl_nil ?_
      by_cases h3 : m.cbp.toNat / 16 = 2
      · rw [if_pos h3]
        repeat' (first | refine st ?_ | refine sr ?_ | refine sl hA ?_ | (refine s_w hA ?_; clear hA; (try clear w); intro w hA) | (refine s_v hA ?_; clear hA; (try clear w); intro v w hA hone hnil) | (refine s_b hA ?_; clear hA; (try clear w); intro b w hA) | refine sp (fun h => ?_) (fun h => ?_) | (refine wc_region ?_))
        refine wc_loopn (fun k l w => ∃ (i : Nat) (u : Value) (cs : List Value), (∃ jk : Nat → Value, l = [jk 0, .pointer (some ⟨b1, 0, none⟩), jk 2, u, jk 4, jk 5, jk 6, jk 7, jk 8, jk 9, jk 10, jk 11, jk 12, jk 13, jk 14, jk 15, jk 16, jk 17, jk 18, jk 19, jk 20, jk 21, jk 22, jk 23, jk 24, jk 25, jk 26, jk 27, jk 28, jk 29, jk 30, jk 31, jk 32, jk 33, jk 34, jk 35, jk 36, jk 37, jk 38, jk 39, jk 40, jk 41, jk 42, jk 43, jk 44, jk 45, jk 46, jk 47, .int .i64 (i : Int), jk 49, jk 50, jk 51, jk 52, jk 53, jk 54, jk 55, jk 56, jk 57, jk 58, jk 59, jk 60, jk 61]) ∧ i + k = 8 ∧ u.oneCell' = true ∧ CsE codedR 3 E cs (M2 ++ chacL i) ∧ Sat E (row 141 3 u (M2 ++ chacL i).length cs :: cells b1 (mbC m rr vv bb) 28 :: L) w) 8 ⟨0, u, cs, (ex_getD rfl), by omega, hone, by rw [show chacL 0 = [] from rfl, List.append_nil]; exact hcs, by rw [show chacL 0 = [] from rfl, List.append_nil]; exact hA⟩ ?_
        clear hA hcs hone
        rintro k l w ⟨i, u, cs, ⟨jk, rfl⟩, hi, hone, hcs, hA⟩
        have hcl := chacL_len i
        by_cases hlt : i < 8
        · have hst := chacL_step i
          obtain ⟨n, hn⟩ : ∃ n, (M2 ++ chacL i).length = n := ⟨_, rfl⟩
          have hnl : n ≤ 27 := by rw [← hn, List.length_append]; omega
          rw [hn] at hA
          have e4 : (u8 (UInt8.ofNat (i / 4))) = .int .u8 ((i : Int) / 4) := by
            have : (UInt8.ofNat (i / 4)).toNat = i / 4 := by rw [UInt8.toNat_ofNat']; omega
            show Value.int .u8 ((UInt8.ofNat (i / 4)).toNat : Int) = _
            rw [this]; congr 1
          have e5 : (((i % 4 : Nat)) : Int) = (i : Int) % 4 := by omega
          repeat' (first | (refine g_ow ?_; refine t_conv8 rfl (by omega) ?_; refine rn ?_) | refine st ?_ | refine sr ?_ | refine sl hA ?_ | (refine s_w hA ?_; clear hA; (try clear w); intro w hA) | (refine s_v hA ?_; clear hA; (try clear w); intro v w hA hone hnil) | (refine s_b hA ?_; clear hA; (try clear w); intro b w hA) | refine sp (fun h => ?_) (fun h => ?_) | (refine wc_region ?_))
          refine lq_next (k - 1) (by omega) ⟨i + 1, _, cs ++ codedC ⟨4, UInt8.ofNat (i / 4), (i % 4 : Nat)⟩, (ex_getD rfl), by omega, by assumption, by rw [hst, ← List.append_assoc]; exact hcs.snoc (x := ⟨4, UInt8.ofNat (i / 4), (i % 4 : Nat)⟩) rfl ⟨rfl, by show I64 ((i % 4 : Nat) : Int); omega⟩, ?_⟩
          rw [hst, ← List.append_assoc, List.length_append, hn]
          simp only [codedC, e4, e5]
          exact hA
        · obtain rfl : i = 8 := by omega
          repeat' (first | refine st ?_ | refine sr ?_ | refine sl hA ?_ | (refine s_w hA ?_; clear hA; (try clear w); intro w hA) | (refine s_v hA ?_; clear hA; (try clear w); intro v w hA hone hnil) | (refine s_b hA ?_; clear hA; (try clear w); intro b w hA) | refine sp (fun h => ?_) (fun h => ?_) | (refine wc_region ?_))
          obtain ⟨E', h1, h2, h3⟩ := hA.freezeList hcs
          exact fp_ret (res1 rfl rfl) ⟨E', _, rfl, h1, h3, h2.tail⟩
      · rw [if_neg h3, List.append_nil]
        repeat' (first | refine st ?_ | refine sr ?_ | refine sl hA ?_ | (refine s_w hA ?_; clear hA; (try clear w); intro w hA) | (refine s_v hA ?_; clear hA; (try clear w); intro v w hA hone hnil) | (refine s_b hA ?_; clear hA; (try clear w); intro b w hA) | refine sp (fun h => ?_) (fun h => ?_) | (refine wc_region ?_))
        obtain ⟨E', h1, h2, h3⟩ := hA.freezeList hcs
        exact fp_ret (res1 rfl rfl) ⟨E', _, rfl, h1, h3, h2.tail⟩
end Go.Proofs.YtomfoaaaeidpnaaDoor
