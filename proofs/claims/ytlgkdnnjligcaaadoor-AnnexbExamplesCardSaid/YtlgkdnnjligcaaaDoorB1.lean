/-
  Units made fit; joined and split again: on lists of bytes.
-/
import Derived.Test.YtlgkdnnjligcaaaDoorA9
set_option linter.unusedVariables false
set_option linter.unusedSimpArgs false
namespace Go.Proofs.YtlgkdnnjligcaaaDoor
open Go Go.RowKit
/-- Bytes made those of a unit, but for the last one. -/
def fitF : Nat → List UInt8 → List UInt8
  | n + 1, a :: b :: c :: r => a :: fitF n (b :: (if a.toNat = 0 ∧ b.toNat = 0 ∧ c.toNat ≤ 2 then 7 else c) :: r)
  | _, l => l
def fitL (l : List UInt8) : List UInt8 := fitF l.length l
def fitS (s : List UInt8) : List UInt8 := fitL s ++ [9]
theorem fitL_short {l : List UInt8} (h : l.length < 3) : fitL l = l := by
  match l, h with
  | [], _ => rfl
  | [a], _ => rfl
  | [a, b], _ => rfl
theorem fitF_fuel : ∀ (n m : Nat) (l : List UInt8), l.length ≤ n → l.length ≤ m → fitF n l = fitF m l := by
  intro n
  induction n with
  | zero =>
    intro m l hn hm
    obtain rfl : l = [] := List.eq_nil_of_length_eq_zero (by omega)
    cases m <;> rfl
  | succ n ih =>
    intro m l hn hm
    match l with
    | [] => cases m <;> rfl
    | [a] => cases m <;> rfl
    | [a, b] => cases m <;> rfl
    | a :: b :: c :: r =>
      obtain ⟨m, rfl⟩ : ∃ m', m = m' + 1 := ⟨m - 1, by simp at hm; omega⟩
      rw [fitF, fitF, ih m _ (by simp at hn ⊢; omega) (by simp at hm ⊢; omega)]
theorem fitL_step (a b c : UInt8) (r : List UInt8) : fitL (a :: b :: c :: r) = a :: fitL (b :: (if a.toNat = 0 ∧ b.toNat = 0 ∧ c.toNat ≤ 2 then 7 else c) :: r) := by
  show fitF (r.length + 3) _ = _
  rw [fitF]; rfl
theorem fitF_len : ∀ (n : Nat) (l : List UInt8), (fitF n l).length = l.length := by
  intro n
  induction n with
  | zero => intro l; match l with
    | [] => rfl
    | [a] => rfl
    | [a, b] => rfl
    | a :: b :: c :: r => rfl
  | succ n ih =>
    intro l
    match l with
    | [] => rfl
    | [a] => rfl
    | [a, b] => rfl
    | a :: b :: c :: r => rw [fitF, List.length_cons, ih]; simp
theorem fitL_len (l : List UInt8) : (fitL l).length = l.length := fitF_len _ l
theorem fit_two (a b : UInt8) (r : List UInt8) : ∃ q, fitL (a :: b :: r) = a :: b :: q := by
  cases r with
  | nil => exact ⟨[], rfl⟩
  | cons c r =>
    rw [fitL_step]
    generalize (if a.toNat = 0 ∧ b.toNat = 0 ∧ c.toNat ≤ 2 then (7 : UInt8) else c) = d
    cases r with
    | nil => exact ⟨[d], rfl⟩
    | cons e r => rw [fitL_step]; exact ⟨_, rfl⟩
theorem fit_bad : ∀ (n : Nat) (l : List UInt8), l.length ≤ n → bad3 (fitL l ++ [9]) = false := by
  intro n
  induction n with
  | zero =>
    intro l hl
    obtain rfl : l = [] := List.eq_nil_of_length_eq_zero (by omega)
    rfl
  | succ n ih =>
    intro l hl
    match l with
    | [] => rfl
    | [a] => rfl
    | [a, b] =>
      show bad3 [a, b, 9] = false
      rw [bad3_step, if_neg (by rintro ⟨_, _, h⟩; exact absurd h (by decide))]
      rfl
    | a :: b :: c :: r =>
      rw [fitL_step]
      have h1 := ih (b :: (if a.toNat = 0 ∧ b.toNat = 0 ∧ c.toNat ≤ 2 then 7 else c) :: r) (by simp at hl ⊢; omega)
      obtain ⟨q, hq⟩ := fit_two b (if a.toNat = 0 ∧ b.toNat = 0 ∧ c.toNat ≤ 2 then 7 else c) r
      rw [hq] at h1 ⊢
      simp only [List.cons_append] at h1 ⊢
      rw [bad3_step, if_neg]
      · exact h1
      · rintro ⟨h2, h3, h4⟩
        split at h4
        · exact absurd h4 (by decide)
        · rename_i h5; exact h5 ⟨h2, h3, h4⟩
theorem fit_may (s : List UInt8) : mayB (fitS s) = true :=
  may_ok (b := 9) (by simp [fitS]) (by decide) (fit_bad _ s (Nat.le_refl _))
theorem fit_len (s : List UInt8) : (fitS s).length = s.length + 1 := by simp [fitS, fitL_len]
theorem str_append {L : List (List UInt8)} {s : List UInt8} (h : Str L s) {M : List (List UInt8)} {t : List UInt8} (h' : Str M t) : Str (L ++ M) (s ++ t) := by
  induction h with
  | nil n =>
    cases h' with
    | nil m => rw [List.nil_append, List.replicate_append_replicate]; exact Str.nil _
    | cons h1 h2 h3 =>
      rw [List.nil_append, ← List.append_assoc, List.replicate_append_replicate]
      exact Str.cons h1 (by omega) h3
  | cons h1 h2 h3 ih =>
    rename_i u L t n
    have e : List.replicate n 0 ++ 1 :: (u ++ t) ++ ‹List UInt8› = List.replicate n 0 ++ 1 :: (u ++ (t ++ ‹List UInt8›)) := by simp
    rw [List.cons_append]
    simp only [List.append_assoc, List.cons_append]
    exact Str.cons h1 h2 ih
theorem joinB_len : ∀ (L : List (List UInt8)) (f : Bool) (k : Nat), (∀ u ∈ L, u.length ≤ k) → (joinB f L).length ≤ L.length * (k + 4)
  | [], f, k, _ => by simp [joinB]
  | u :: L, f, k, h => by
    have h1 := joinB_len L false k fun x hx => h x (List.mem_cons_of_mem _ hx)
    have h2 := (pieceB_len f u).2
    have h3 := h u (List.mem_cons_self ..)
    rw [joinB, List.length_append, List.length_cons, Nat.add_mul]
    omega
theorem join_ok {L : List (List UInt8)} (ha : L.all mayB = true) (hn : L.length ≤ 4000) (hk : ∀ u ∈ L, u.length ≤ 2000) : joinR L = (joinB true L, 0) ∧ (joinB true L).length ≤ L.length * 2004 := by
  have h := joinB_len L true 2000 hk
  exact ⟨joinR_ok (by omega) ha (by omega), h⟩
theorem splitR_str {L : List (List UInt8)} {s : List UInt8} (h : Str L s) (hs : s.length ≤ 16777216) (hL : L.length ≤ 4096) : splitR s = (L, 0) := by
  show (if 16777216 < s.length then ([], 6) else splitRes (splitP s)) = _
  rw [if_neg (by omega), split_str h]
  exact if_neg (by omega)
end Go.Proofs.YtlgkdnnjligcaaaDoor
