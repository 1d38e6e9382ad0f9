/-
  Streams of units, on lists of bytes.
-/
import Derived.Lib.IndexMore
set_option linter.unusedVariables false
set_option linter.unusedSimpArgs false
namespace Go.Proofs.YtlgkdnnjligcaaaDoor
/-- What comes after bytes 0. -/
def nz (l : List UInt8) : List UInt8 := l.dropWhile (· == 0)
theorem nz_cons0 (l : List UInt8) : nz (0 :: l) = nz l := by simp [nz]
theorem nz_ne {b : UInt8} {l : List UInt8} (h : b ≠ 0) : nz (b :: l) = b :: l := by simp [nz, h]
theorem nz_nil : nz [] = [] := rfl
theorem nz_len (l : List UInt8) : (nz l).length ≤ l.length := by
  induction l with
  | nil => simp [nz]
  | cons b r ih =>
    by_cases h : b = 0
    · subst h; rw [nz_cons0]; simp; omega
    · rw [nz_ne h]; exact Nat.le_refl _
theorem nz_split (l : List UInt8) : l = List.replicate (l.length - (nz l).length) 0 ++ nz l := by
  induction l with
  | nil => rfl
  | cons b r ih =>
    by_cases h : b = 0
    · subst h
      rw [nz_cons0]
      have := nz_len r
      have e : (0 :: r).length - (nz r).length = (r.length - (nz r).length) + 1 := by simp; omega
      rw [e, List.replicate_succ, List.cons_append, ← ih]
    · rw [nz_ne h]; simp
theorem nz_head {l : List UInt8} {b : UInt8} {r : List UInt8} (h : nz l = b :: r) : b ≠ 0 := by
  induction l with
  | nil => cases h
  | cons c l ih =>
    by_cases hc : c = 0
    · subst hc; rw [nz_cons0] at h; exact ih h
    · rw [nz_ne hc] at h; cases h; exact hc
theorem nz_zeros (n : Nat) (l : List UInt8) : nz (List.replicate n 0 ++ l) = nz l := by
  induction n with
  | zero => rfl
  | succ n ih => rw [List.replicate_succ, List.cons_append, nz_cons0, ih]
theorem nz_rep (n : Nat) : nz (List.replicate n 0) = [] := by
  have := nz_zeros n []
  rwa [List.append_nil] at this
theorem nz_append {l t : List UInt8} (h : nz l ≠ []) : nz (l ++ t) = nz l ++ t := by
  induction l with
  | nil => exact absurd rfl h
  | cons b r ih =>
    by_cases hb : b = 0
    · subst hb
      rw [nz_cons0] at h
      rw [List.cons_append, nz_cons0, nz_cons0, ih h]
    · rw [nz_ne hb, List.cons_append, nz_ne hb]
/-- What comes after bytes 0 and a start code. -/
def skipP (s : List UInt8) : List UInt8 × Bool := if 2 ≤ s.length - (nz s).length ∧ (nz s).head? = some 1 then ((nz s).tail, true) else (nz s, false)
/-- Where a unit ends. -/
def firstF : Nat → List UInt8 → Nat
  | 0, _ => 0
  | _ + 1, [] => 0
  | n + 1, b :: r => if b ≠ 0 then firstF n r + 1 else if nz (b :: r) = [] ∨ 2 ≤ (b :: r).length - (nz (b :: r)).length ∧ (nz (b :: r)).head? = some 1 then 0 else (b :: r).length - (nz (b :: r)).length + firstF n (nz (b :: r))
/-- Three bytes that may not be in a unit. -/
def bad3 : List UInt8 → Bool
  | a :: b :: c :: r => (a == 0 && b == 0 && decide (c ≤ 2)) || bad3 (b :: c :: r)
  | _ => false
def mayB (u : List UInt8) : Bool := !u.isEmpty && !(u.getLast? == some 0) && !bad3 u
theorem bad3_cons {b : UInt8} {r : List UInt8} (h : bad3 (b :: r) = false) : bad3 r = false := by
  match r with
  | [] => rfl
  | [c] => rfl
  | c :: d :: r => simp only [bad3, Bool.or_eq_false_iff] at h; exact h.2
theorem contains_cons (sub : List UInt8) (b : UInt8) (l : List UInt8) : Lib.contains (b :: l) sub = (sub.isPrefixOf (b :: l) || Lib.contains l sub) := by
  have h := Lib.index_ge l sub
  unfold Lib.contains
  rw [Lib.index]
  cases hp : sub.isPrefixOf (b :: l)
  · simp only [Bool.false_eq_true, if_false, Bool.false_or]
    by_cases h1 : Lib.index l sub = -1
    · simp [h1]
    · have h2 : (Lib.index l sub == -1) = false := by simpa using h1
      simp only [h2, Bool.false_eq_true, if_false]
      exact decide_eq_decide.2 ⟨fun _ => by omega, fun _ => by omega⟩
  · simp
theorem le2 (c : UInt8) : decide (c ≤ 2) = (c == 0 || c == 1 || c == 2) := by
  have h := c.toNat_lt
  rw [Bool.eq_iff_iff]
  simp only [decide_eq_true_eq, Bool.or_eq_true, beq_iff_eq, UInt8.le_iff_toNat_le, ← UInt8.toNat_inj]
  have e0 : (0 : UInt8).toNat = 0 := rfl
  have e1 : (1 : UInt8).toNat = 1 := rfl
  have e2 : (2 : UInt8).toNat = 2 := rfl
  rw [e0, e1, e2]
  omega
theorem bad3_contains : ∀ (u : List UInt8), bad3 u = (Lib.contains u [0, 0, 0] || Lib.contains u [0, 0, 1] || Lib.contains u [0, 0, 2])
  | [] => rfl
  | [a] => by simp [bad3, contains_cons, List.isPrefixOf]; exact ⟨⟨rfl, rfl⟩, rfl⟩
  | [a, b] => by simp [bad3, contains_cons, List.isPrefixOf]; exact ⟨⟨rfl, rfl⟩, rfl⟩
  | a :: b :: c :: r => by
    have ih := bad3_contains (b :: c :: r)
    rw [bad3, ih, contains_cons _ a, contains_cons _ a, contains_cons _ a, le2]
    simp only [List.isPrefixOf, Bool.and_true]
    rw [show ((0 : UInt8) == a) = (a == 0) by rw [Bool.beq_comm], show ((0 : UInt8) == b) = (b == 0) by rw [Bool.beq_comm], show ((0 : UInt8) == c) = (c == 0) by rw [Bool.beq_comm], show ((1 : UInt8) == c) = (c == 1) by rw [Bool.beq_comm], show ((2 : UInt8) == c) = (c == 2) by rw [Bool.beq_comm]]
    cases (a == 0) <;> cases (b == 0) <;> cases (c == 0) <;> cases (c == 1) <;> cases (c == 2) <;> cases Lib.contains (b :: c :: r) [0, 0, 0] <;> cases Lib.contains (b :: c :: r) [0, 0, 1] <;> cases Lib.contains (b :: c :: r) [0, 0, 2] <;> rfl
/-- Streams, and their units. -/
inductive Str : List (List UInt8) → List UInt8 → Prop
  | nil (n : Nat) : Str [] (List.replicate n 0)
  | cons {u : List UInt8} {L : List (List UInt8)} {t : List UInt8} {n : Nat} : mayB u = true → 2 ≤ n → Str L t → Str (u :: L) (List.replicate n 0 ++ 1 :: (u ++ t))
/-- The end of what may be in a unit. -/
def OkS (u : List UInt8) : Prop := (u = [] ∨ u.getLast? ≠ some 0) ∧ bad3 u = false
theorem okS_cons {b : UInt8} {r : List UInt8} (h : OkS (b :: r)) : OkS r := by
  refine ⟨?_, bad3_cons h.2⟩
  cases r with
  | nil => exact .inl rfl
  | cons c r =>
    rcases h.1 with h1 | h1
    · cases h1
    · exact .inr (by simpa using h1)
theorem okS_nz {u : List UInt8} (h : OkS u) : OkS (nz u) := by
  induction u with
  | nil => exact h
  | cons b r ih =>
    by_cases hb : b = 0
    · subst hb; rw [nz_cons0]; exact ih (okS_cons h)
    · rw [nz_ne hb]; exact h
theorem okS_of {u : List UInt8} (h : mayB u = true) : OkS u ∧ u ≠ [] := by
  simp only [mayB, Bool.and_eq_true, Bool.not_eq_true'] at h
  refine ⟨⟨.inr fun e => ?_, h.2⟩, fun e => ?_⟩
  · rw [e] at h; simp at h
  · rw [e] at h; simp at h
theorem okS_nz0 {u : List UInt8} (h : OkS u) (h0 : u ≠ []) : nz u ≠ [] := by
  induction u with
  | nil => exact absurd rfl h0
  | cons b r ih =>
    by_cases hb : b = 0
    · subst hb
      rw [nz_cons0]
      cases r with
      | nil => rcases h.1 with h1 | h1 <;> simp at h1
      | cons c r => exact ih (okS_cons h) (by simp)
    · rw [nz_ne hb]; simp
theorem okS_stop {u : List UInt8} {c : UInt8} {r : List UInt8} (h : OkS u) (hn : nz u = c :: r) (hz : 2 ≤ u.length - (nz u).length) : ¬ c ≤ 2 ∧ u.length - (nz u).length = 2 := by
  have hs := nz_split u
  generalize u.length - (nz u).length = k at *
  rw [hn] at hs
  have hb := h.2
  rw [hs] at hb
  match k, hz with
  | 2, _ =>
    simp only [List.replicate, List.cons_append, List.nil_append, bad3, Bool.or_eq_false_iff] at hb
    exact ⟨by simpa using hb.1, rfl⟩
  | k + 3, _ =>
    simp only [List.replicate_succ, List.cons_append, bad3] at hb
    simp at hb
theorem str_firstF {L : List (List UInt8)} {t : List UInt8} (h : Str L t) (n : Nat) : firstF n t = 0 := by
  cases n with
  | zero => cases t <;> rfl
  | succ n =>
    cases h with
    | nil m =>
      cases m with
      | zero => rfl
      | succ m => rw [List.replicate_succ, firstF]; simp [← List.replicate_succ, nz_rep]
    | cons h1 h2 h3 =>
      rename_i u L t m
      obtain ⟨m, rfl⟩ : ∃ m', m = m' + 1 := ⟨m - 1, by omega⟩
      have e : nz (List.replicate (m + 1) 0 ++ 1 :: (u ++ t)) = 1 :: (u ++ t) := by rw [nz_zeros]; exact nz_ne (by decide)
      rw [List.replicate_succ, List.cons_append] at e ⊢
      rw [firstF, e, if_neg (by simp), if_pos (.inr ⟨by simp; omega, rfl⟩)]
theorem firstF_str {L : List (List UInt8)} {t : List UInt8} (h : Str L t) : ∀ (n : Nat) (u : List UInt8), OkS u → (u ++ t).length ≤ n → firstF n (u ++ t) = u.length := by
  intro n
  induction n with
  | zero =>
    intro u hu hn
    have : u = [] := by cases u with | nil => rfl | cons b r => simp at hn
    subst this; rfl
  | succ n ih =>
    intro u hu hn
    cases u with
    | nil => exact str_firstF h _
    | cons b r =>
      by_cases hb : b = 0
      · have h1 := okS_nz0 hu (by simp)
        have h2 := nz_append (t := t) h1
        have h3 := nz_len (b :: r)
        have h5 := okS_nz hu
        obtain ⟨c, q, hcq⟩ : ∃ c q, nz (b :: r) = c :: q := by cases hc : nz (b :: r) with | nil => exact absurd hc h1 | cons c q => exact ⟨c, q, rfl⟩
        have h4 : (nz (b :: r)).length < (b :: r).length := by
          subst hb; rw [nz_cons0]; have := nz_len r; simp; omega
        rw [List.cons_append] at h2 ⊢
        rw [firstF, if_neg (by simpa using hb), h2, if_neg]
        · rw [ih _ h5 (by have : (nz (b :: r) ++ t).length < (b :: r ++ t).length := by simp at h4 ⊢; omega
                          omega)]
          simp at h4 ⊢; omega
        · rintro (h6 | ⟨h6, h7⟩)
          · simp [hcq] at h6
          · rw [hcq] at h7
            have h8 : c = 1 := by simpa using h7
            have h9 := okS_stop hu hcq (by simp at h6 h4 ⊢; omega)
            exact h9.1 (by rw [h8]; decide)
      · rw [List.cons_append, firstF, if_pos (by simpa using hb), ih r (okS_cons hu) (by simp at hn ⊢; omega)]
        simp
/-- The end of a unit, by the reference. -/
def endR : List UInt8 → Nat
  | [] => 0
  | b :: r => if nz (b :: r) = [] ∨ 3 ≤ (b :: r).length - (nz (b :: r)).length ∨ ((b :: r).length - (nz (b :: r)).length = 2 ∧ ∃ c ∈ (nz (b :: r)).head?, c ≤ 2) then 0 else endR r + 1
theorem str_endR {L : List (List UInt8)} {t : List UInt8} (h : Str L t) : endR t = 0 := by
  cases h with
  | nil m =>
    cases m with
    | zero => rfl
    | succ m => rw [List.replicate_succ, endR]; simp [← List.replicate_succ, nz_rep]
  | cons h1 h2 h3 =>
    rename_i u L t m
    obtain ⟨m, rfl⟩ : ∃ m', m = m' + 1 := ⟨m - 1, by omega⟩
    have e : nz (List.replicate (m + 1) 0 ++ 1 :: (u ++ t)) = 1 :: (u ++ t) := by rw [nz_zeros]; exact nz_ne (by decide)
    rw [List.replicate_succ, List.cons_append] at e ⊢
    rw [endR, e, if_pos]
    by_cases hm : m = 1
    · subst hm
      exact .inr (.inr ⟨by simp, 1, by simp, by decide⟩)
    · exact .inr (.inl (by simp; omega))
theorem endR_str {L : List (List UInt8)} {t : List UInt8} (h : Str L t) : ∀ (u : List UInt8), OkS u → endR (u ++ t) = u.length
  | [], _ => str_endR h
  | b :: r, hu => by
    have ih := endR_str h r (okS_cons hu)
    have h1 := okS_nz0 hu (by simp)
    have h2 := nz_append (t := t) h1
    have h3 := nz_len (b :: r)
    obtain ⟨c, q, hcq⟩ : ∃ c q, nz (b :: r) = c :: q := by cases hc : nz (b :: r) with | nil => exact absurd hc h1 | cons c q => exact ⟨c, q, rfl⟩
    rw [List.cons_append] at h2 ⊢
    have hz : (b :: (r ++ t)).length - (nz (b :: r) ++ t).length = (b :: r).length - (nz (b :: r)).length := by simp at h3 ⊢; omega
    rw [endR, h2, hz, if_neg, ih]
    · simp
    · rintro (h6 | h6 | ⟨h6, d, h7, h8⟩)
      · simp [hcq] at h6
      · have := okS_stop hu hcq (by omega)
        omega
      · have h9 := okS_stop hu hcq (by omega)
        rw [hcq] at h7
        have : c = d := by simpa using h7
        subst this
        exact h9.1 h8
theorem skip_nil (n : Nat) : skipP (List.replicate n 0) = ([], false) := by
  rw [skipP, nz_rep]; simp
theorem skip_cons {n : Nat} (h : 2 ≤ n) (r : List UInt8) : skipP (List.replicate n 0 ++ 1 :: r) = (r, true) := by
  have e : nz (List.replicate n 0 ++ 1 :: r) = 1 :: r := by rw [nz_zeros]; exact nz_ne (by decide)
  rw [skipP, e, if_pos ⟨by simp; omega, rfl⟩]; rfl
theorem skip_true {s r : List UInt8} (h : skipP s = (r, true)) : ∃ n, 2 ≤ n ∧ s = List.replicate n 0 ++ 1 :: r := by
  unfold skipP at h
  split at h
  · rename_i hc
    obtain ⟨h1, h2⟩ := hc
    obtain ⟨c, q, hcq⟩ : ∃ c q, nz s = c :: q := by cases hc : nz s with | nil => rw [hc] at h2; cases h2 | cons c q => exact ⟨c, q, rfl⟩
    have hs := nz_split s
    rw [hcq] at h2 hs h
    cases h2
    cases h
    refine ⟨_, ?_, hs⟩
    rw [hcq] at h1; exact h1
  · cases h
theorem skip_false {s r : List UInt8} (h : skipP s = (r, false)) : nz s = r := by
  unfold skipP at h
  split at h
  · cases h
  · cases h; rfl
theorem skip_len {s r : List UInt8} {b : Bool} (h : skipP s = (r, b)) : r.length ≤ s.length ∧ (b = true → r.length + 3 ≤ s.length) := by
  cases b with
  | true =>
    obtain ⟨n, hn, rfl⟩ := skip_true h
    simp; omega
  | false => rw [← skip_false h]; exact ⟨nz_len s, fun h => by cases h⟩
/-- What the iterator yields, behind a start code. -/
def unitsF : Nat → List UInt8 → List (List UInt8 × Bool)
  | 0, _ => []
  | n + 1, r => (r.take (firstF r.length r), mayB (r.take (firstF r.length r)) && ((skipP (r.drop (firstF r.length r))).2 || (skipP (r.drop (firstF r.length r))).1 == [])) ::
      (if (mayB (r.take (firstF r.length r)) && ((skipP (r.drop (firstF r.length r))).2 || (skipP (r.drop (firstF r.length r))).1 == [])) && (skipP (r.drop (firstF r.length r))).2 then unitsF n (skipP (r.drop (firstF r.length r))).1 else [])
def unitsP (s : List UInt8) : List (List UInt8 × Bool) := if (skipP s).2 then unitsF s.length (skipP s).1 else if (skipP s).1 == [] then [] else [([], false)]
def splitP (s : List UInt8) : Option (List (List UInt8)) := if (unitsP s).all (·.2) then some ((unitsP s).map (·.1)) else none
theorem unitsF_str : ∀ (L : List (List UInt8)) (n : Nat) (u t : List UInt8), mayB u = true → Str L t → (u ++ t).length < n → unitsF n (u ++ t) = (u :: L).map (·, true) := by
  intro L
  induction L with
  | nil =>
    intro n u t hu ht hn
    obtain ⟨n, rfl⟩ : ∃ m, n = m + 1 := ⟨n - 1, by omega⟩
    have hf := firstF_str ht (u ++ t).length u (okS_of hu).1 (Nat.le_refl _)
    obtain ⟨m, rfl⟩ : ∃ m, t = List.replicate m 0 := by cases ht; exact ⟨_, rfl⟩
    rw [unitsF, hf, List.take_left, List.drop_left, skip_nil, hu]
    rfl
  | cons v L ih =>
    intro n u t hu ht hn
    obtain ⟨n, rfl⟩ : ∃ m, n = m + 1 := ⟨n - 1, by omega⟩
    have hf := firstF_str ht (u ++ t).length u (okS_of hu).1 (Nat.le_refl _)
    rw [unitsF, hf, List.take_left, List.drop_left]
    cases ht with
    | cons h1 h2 h3 =>
      rename_i t m
      rw [skip_cons h2, hu]
      simp only [Bool.true_or, Bool.and_true, Bool.and_self, if_true]
      rw [ih n v t h1 h3 (by simp at hn ⊢; omega)]
      rfl
theorem units_str {L : List (List UInt8)} {s : List UInt8} (h : Str L s) : unitsP s = L.map (·, true) := by
  cases h with
  | nil n => rw [unitsP, skip_nil]; rfl
  | cons h1 h2 h3 =>
    rename_i u L t n
    rw [unitsP, skip_cons h2, if_pos rfl]
    exact unitsF_str L _ u t h1 h3 (by simp; omega)
theorem map_fst_true (L : List (List UInt8)) : (L.map (·, true)).map (·.1) = L := by
  rw [List.map_map]
  exact List.map_id _
theorem split_str {L : List (List UInt8)} {s : List UInt8} (h : Str L s) : splitP s = some L := by
  rw [splitP, units_str h, if_pos (by simp), map_fst_true]
theorem unitsF_sound : ∀ (n : Nat) (r : List UInt8), r.length < n → (unitsF n r).all (·.2) = true → ∃ u L t, unitsF n r = (u :: L).map (·, true) ∧ r = u ++ t ∧ mayB u = true ∧ Str L t := by
  intro n
  induction n with
  | zero => intro r h; omega
  | succ n ih =>
    intro r hr h
    rw [unitsF] at h ⊢
    obtain ⟨k, hk⟩ : ∃ k, firstF r.length r = k := ⟨_, rfl⟩
    obtain ⟨⟨q, b⟩, hq⟩ : ∃ x, skipP (r.drop k) = x := ⟨_, rfl⟩
    rw [hk, hq] at h ⊢
    have hlen := skip_len hq
    simp only [List.all_cons, Bool.and_eq_true] at h
    obtain ⟨⟨hm, hb⟩, hrest⟩ := h
    cases b with
    | true =>
      simp only [hm, Bool.true_or, Bool.and_self, if_true] at hrest ⊢
      have hql : q.length < n := by
        have h1 := hlen.2 rfl
        have h2 : (r.drop k).length ≤ r.length := by simp
        omega
      obtain ⟨u, L, t, h1, h2, h3, h4⟩ := ih q hql hrest
      obtain ⟨m, hm2, hs⟩ := skip_true hq
      refine ⟨r.take k, u :: L, r.drop k, by rw [h1]; rfl, (List.take_append_drop k r).symm, hm, ?_⟩
      rw [hs, h2]
      exact Str.cons h3 hm2 h4
    | false =>
      have hq0 : q = [] := by simpa using hb
      subst hq0
      simp only [hm, Bool.false_or, Bool.and_false, Bool.false_eq_true, if_false]
      have hn := skip_false hq
      refine ⟨r.take k, [], r.drop k, by simp, (List.take_append_drop k r).symm, hm, ?_⟩
      have := nz_split (r.drop k)
      rw [hn, List.append_nil] at this
      rw [this]; exact Str.nil _
theorem str_of_split {L : List (List UInt8)} {s : List UInt8} (h : splitP s = some L) : Str L s := by
  unfold splitP at h
  split at h
  · rename_i ha
    cases h
    unfold unitsP at ha ⊢
    obtain ⟨⟨q, b⟩, hq⟩ : ∃ x, skipP s = x := ⟨_, rfl⟩
    rw [hq] at ha ⊢
    cases b with
    | true =>
      simp only [if_true] at ha ⊢
      have hlen := (skip_len hq).2 rfl
      obtain ⟨u, L, t, h1, h2, h3, h4⟩ := unitsF_sound s.length q (by omega) ha
      obtain ⟨m, hm2, hs⟩ := skip_true hq
      rw [h1, hs, h2]
      rw [map_fst_true]
      exact Str.cons h3 hm2 h4
    | false =>
      simp only [Bool.false_eq_true, if_false] at ha ⊢
      have hn := skip_false hq
      by_cases hq0 : q = []
      · subst hq0
        have := nz_split s
        rw [hn, List.append_nil] at this
        rw [this]; exact Str.nil _
      · have : (q == []) = false := by simpa using hq0
        rw [this] at ha
        simp at ha
  · cases h
/-- The reference's Split. -/
def refF : Nat → List UInt8 → Option (List (List UInt8))
  | 0, _ => none
  | n + 1, s => if nz s = [] then some [] else if s.length - (nz s).length < 2 ∨ (nz s).head? ≠ some 1 then none else
      if mayB ((nz s).tail.take (endR (nz s).tail)) then (refF n ((nz s).tail.drop (endR (nz s).tail))).map ((nz s).tail.take (endR (nz s).tail) :: ·) else none
theorem refF_str : ∀ (L : List (List UInt8)) (n : Nat) (s : List UInt8), Str L s → s.length < n → refF n s = some L := by
  intro L
  induction L with
  | nil =>
    intro n s h hn
    obtain ⟨n, rfl⟩ : ∃ m, n = m + 1 := ⟨n - 1, by omega⟩
    cases h
    rw [refF, nz_rep, if_pos rfl]
  | cons u L ih =>
    intro n s h hn
    obtain ⟨n, rfl⟩ : ∃ m, n = m + 1 := ⟨n - 1, by omega⟩
    cases h with
    | cons h1 h2 h3 =>
      rename_i t m
      have e : nz (List.replicate m 0 ++ 1 :: (u ++ t)) = 1 :: (u ++ t) := by rw [nz_zeros]; exact nz_ne (by decide)
      rw [refF, e, if_neg (by simp), if_neg (by simp; omega), List.tail_cons, endR_str h3 u (okS_of h1).1, List.take_left, List.drop_left, if_pos h1, ih n t h3 (by simp at hn; omega)]
      rfl
theorem str_of_refF : ∀ (n : Nat) (s : List UInt8) (L : List (List UInt8)), refF n s = some L → Str L s := by
  intro n
  induction n with
  | zero => intro s L h; cases h
  | succ n ih =>
    intro s L h
    rw [refF] at h
    have hs := nz_split s
    split at h
    · rename_i h0
      cases h
      rw [h0, List.append_nil] at hs
      rw [hs]; exact Str.nil _
    · split at h
      · cases h
      · rename_i h0 h1
        split at h
        · rename_i hm
          obtain ⟨L', hL, rfl⟩ := Option.map_eq_some_iff.1 h
          obtain ⟨c, q, hcq⟩ : ∃ c q, nz s = c :: q := by cases hc : nz s with | nil => exact absurd hc h0 | cons c q => exact ⟨c, q, rfl⟩
          have hc : c = 1 := by
            have : ¬ (nz s).head? ≠ some 1 := fun e => h1 (.inr e)
            rw [hcq] at this
            simpa using this
          subst hc
          have h2 : 2 ≤ s.length - (nz s).length := by omega
          generalize s.length - (nz s).length = k at *
          rw [hcq, List.tail_cons] at hm hL ⊢
          rw [hcq] at hs
          have := Str.cons hm h2 (ih _ _ hL)
          rw [List.take_append_drop] at this
          rw [hs]; exact this
        · cases h
/-- Both splits are one. -/
theorem ref_split (s : List UInt8) : refF (s.length + 1) s = splitP s := by
  cases h : splitP s with
  | some L => exact refF_str L _ s (str_of_split h) (by omega)
  | none =>
    cases h2 : refF (s.length + 1) s with
    | none => rfl
    | some L => rw [split_str (str_of_refF _ _ _ h2)] at h; cases h
theorem firstF_nil (n : Nat) : firstF n [] = 0 := by cases n <;> rfl
theorem firstF_fuel : ∀ (n : Nat) (l : List UInt8), l.length ≤ n → ∀ m, l.length ≤ m → firstF n l = firstF m l := by
  intro n
  induction n with
  | zero =>
    intro l hl m hm
    cases l with
    | nil => rw [firstF_nil, firstF_nil]
    | cons b r => simp at hl
  | succ n ih =>
    intro l hl m hm
    cases l with
    | nil => rw [firstF_nil, firstF_nil]
    | cons b r =>
      obtain ⟨m, rfl⟩ : ∃ m', m = m' + 1 := ⟨m - 1, by simp at hm; omega⟩
      rw [firstF, firstF]
      simp at hl hm
      by_cases hb : b = 0
      · subst hb
        have h1 : (nz (0 :: r)).length ≤ r.length := by rw [nz_cons0]; exact nz_len r
        rw [ih (nz (0 :: r)) (by omega) m (by omega)]
        simp
      · rw [if_pos (by simpa using hb), if_pos (by simpa using hb), ih r hl m hm]
def firstL (l : List UInt8) : Nat := firstF l.length l
theorem first_ne {b : UInt8} {r : List UInt8} (h : b ≠ 0) : firstL (b :: r) = firstL r + 1 := by
  show firstF (r.length + 1) (b :: r) = _
  rw [firstF, if_pos (by simpa using h)]; rfl
theorem first_stop {r : List UInt8} (h : nz (0 :: r) = [] ∨ 2 ≤ (0 :: r).length - (nz (0 :: r)).length ∧ (nz (0 :: r)).head? = some 1) : firstL (0 :: r) = 0 := by
  show firstF (r.length + 1) (0 :: r) = _
  rw [firstF, if_neg (by simp), if_pos h]
theorem first_go {r : List UInt8} (h : ¬ (nz (0 :: r) = [] ∨ 2 ≤ (0 :: r).length - (nz (0 :: r)).length ∧ (nz (0 :: r)).head? = some 1)) : firstL (0 :: r) = (0 :: r).length - (nz (0 :: r)).length + firstL (nz (0 :: r)) := by
  show firstF (r.length + 1) (0 :: r) = _
  rw [firstF, if_neg (by simp), if_neg h]
  have h1 : (nz (0 :: r)).length ≤ r.length := by rw [nz_cons0]; exact nz_len r
  rw [firstF_fuel r.length (nz (0 :: r)) h1 _ (Nat.le_refl _)]
  rfl
end Go.Proofs.YtlgkdnnjligcaaaDoor
