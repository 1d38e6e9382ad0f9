/-
  Escaping: how much longer, what stays, that it goes back.
-/
import Derived.Test.YtpakamobancgeaaW5
set_option linter.unusedVariables false
set_option linter.unusedSimpArgs false
namespace Go.Proofs.Ytpakamobancgeaa

/-- Escaping from a state. -/
def escN : Nat → List UInt8 → List UInt8
  | n, [] => if n = 2 then [3] else []
  | n, b :: r => esc1 (n, b) ++ escN (plainN b n) r
theorem escN_eq (s : List UInt8) : ∀ n, escN n s = escB (zs n s) ++ (if zn n s = 2 then [3] else []) := by
  induction s with
  | nil => intro n; rfl
  | cons b r ih =>
    intro n
    have e : escB ((n, b) :: zs (plainN b n) r) = esc1 (n, b) ++ escB (zs (plainN b n) r) := by simp [escB]
    simp only [escN, zs, zn]; rw [ih, e, List.append_assoc]; rfl
theorem escape_eq (s : List UInt8) : escape s = escN 0 s := (escN_eq s 0).symm
/-- The bytes put in. -/
def insN : Nat → List UInt8 → Nat
  | n, [] => if n = 2 then 1 else 0
  | n, b :: r => (if n = 2 ∧ b.toNat ≤ 3 then 1 else 0) + insN (plainN b n) r
theorem escN_length (s : List UInt8) : ∀ n, (escN n s).length = s.length + insN n s := by
  induction s with
  | nil => intro n; simp only [escN, insN]; split <;> rfl
  | cons b r ih =>
    intro n; rw [escN, insN, List.length_append, ih, esc1', List.length_cons]
    split <;> simp <;> omega
theorem insN_le (s : List UInt8) : ∀ n, n ≤ 2 → 2 * insN n s ≤ s.length + n := by
  induction s with
  | nil => intro n h; simp only [insN]; split <;> simp <;> omega
  | cons b r ih =>
    intro n h
    have := ih (plainN b n) (plainN_le b n h)
    rw [insN, List.length_cons]
    have hp := plainN' b n
    generalize plainN b n = m at *
    split at hp <;> (try split at hp) <;> split <;> omega
theorem escN_same (s : List UInt8) : ∀ n, insN n s = 0 → escN n s = s := by
  induction s with
  | nil => intro n h; simp only [insN] at h; simp only [escN]; split at h <;> simp_all
  | cons b r ih =>
    intro n h
    rw [insN] at h
    rw [escN, esc1', ih _ (by omega), if_neg (by intro e; rw [if_pos e] at h; omega)]; rfl
theorem escape_same (s : List UInt8) : escape s = s ↔ insN 0 s = 0 := by
  rw [escape_eq]
  constructor
  · intro h
    have := escN_length s 0
    rw [h] at this; omega
  · exact escN_same s 0
/-- No place where a byte is put in. -/
def tidyB : List UInt8 → Bool
  | a :: b :: r => !(a.toNat = 0 && b.toNat = 0 && (match r with | [] => true | c :: _ => c.toNat ≤ 3)) && tidyB (b :: r)
  | _ => true
theorem tidy_ne (b : UInt8) (r : List UInt8) (h : b.toNat ≠ 0) : tidyB (b :: r) = tidyB r := by
  cases r <;> simp [tidyB, h]
theorem tidy_0ne (b : UInt8) (r : List UInt8) (h : b.toNat ≠ 0) : tidyB (0 :: b :: r) = tidyB r := by
  show (!(_ && _ && _) && tidyB (b :: r)) = _
  rw [tidy_ne b r h]; simp [h]
theorem tidy_ins (s : List UInt8) : ∀ n, n ≤ 2 → (insN n s = 0 ↔ tidyB (List.replicate n 0 ++ s) = true) := by
  induction s with
  | nil =>
    intro n h
    have : n = 0 ∨ n = 1 ∨ n = 2 := by omega
    rcases this with rfl | rfl | rfl <;> decide
  | cons b r ih =>
    intro n h
    have hi := ih (plainN b n) (plainN_le b n h)
    rw [insN]
    by_cases hb : b.toNat = 0
    · have : b = 0 := UInt8.toNat_inj.1 hb
      subst this
      rw [plainN'] at hi ⊢
      have : n = 0 ∨ n = 1 ∨ n = 2 := by omega
      rcases this with rfl | rfl | rfl
      · simpa [List.replicate] using hi
      · simpa [List.replicate] using hi
      · simp [List.replicate, tidyB]
    · rw [plainN', if_neg hb] at hi ⊢
      have : n = 0 ∨ n = 1 ∨ n = 2 := by omega
      rcases this with rfl | rfl | rfl
      · simpa [List.replicate, tidy_ne b r hb] using hi
      · simpa [List.replicate, tidy_0ne b r hb] using hi
      · by_cases h3 : b.toNat ≤ 3
        · simp [List.replicate, tidyB, h3]
        · have e : tidyB (0 :: 0 :: b :: r) = tidyB r := by
            rw [tidyB]; simp [h3, tidy_0ne b r hb]
          simpa [List.replicate, e, h3] using hi
theorem escape_tidy (s : List UInt8) : escape s = s ↔ tidyB s = true := by
  rw [escape_same, tidy_ins s 0 (by omega)]; rfl
/-- Parts. -/
theorem zn_last (s : List UInt8) (h : s = [] ∨ ∃ b, s.getLast? = some b ∧ b.toNat ≠ 0) : zn 0 s = 0 := by
  rcases h with rfl | ⟨b, h, hb⟩
  · rfl
  · obtain ⟨r, rfl⟩ : ∃ r, s = r ++ [b] := List.getLast?_eq_some_iff.1 h
    rw [zn_append]; show plainN b _ = 0
    rw [plainN', if_neg hb]
theorem escape_parts (s t : List UInt8) (h : zn 0 s = 0) : escape (s ++ t) = escape s ++ escape t := by
  unfold escape
  rw [zs_append, zn_append, h]
  simp [escB]
/-- Back. -/
theorem une_esc (s : List UInt8) : ∀ n, n ≤ 2 → uneB (zs n (escN n s)) = s := by
  induction s with
  | nil =>
    intro n h
    have : n = 0 ∨ n = 1 ∨ n = 2 := by omega
    rcases this with rfl | rfl | rfl <;> decide
  | cons b r ih =>
    intro n h
    have hi := ih (plainN b n) (plainN_le b n h)
    rw [escN, esc1']
    have eu : ∀ n (c : UInt8), une1 (n, c) = if n = 2 ∧ c.toNat = 3 then [] else [c] := by
      intro n c
      have e : c = 3 ↔ c.toNat = 3 := ⟨fun h => h ▸ rfl, fun h => UInt8.toNat_inj.1 h⟩
      unfold une1; simp only [e]
    split
    · rename_i hc
      obtain ⟨rfl, hc⟩ := hc
      have e1 : plainN 3 2 = 0 := by decide
      have e2 : plainN b 0 = plainN b 2 := by rw [plainN', plainN']; split <;> rfl
      simp only [List.cons_append, List.nil_append, zs, uneB, List.flatMap_cons, eu, e1, e2]
      rw [if_pos (by decide), if_neg (by omega)]
      simpa [uneB] using hi
    · rename_i hc
      simp only [List.cons_append, List.nil_append, zs, uneB, List.flatMap_cons, eu]
      rw [if_neg (by omega)]
      simpa [uneB] using hi
theorem unescape_escape (s : List UInt8) : unescape (escape s) = s := by
  rw [escape_eq]; exact une_esc s 0 (by omega)
/-- No start code within. -/
def cleanB : List UInt8 → Bool
  | a :: b :: c :: r => !(a.toNat = 0 && b.toNat = 0 && c.toNat ≤ 2) && cleanB (b :: c :: r)
  | _ => true
theorem clean_ne (b : UInt8) (r : List UInt8) (h : b.toNat ≠ 0) : cleanB (b :: r) = cleanB r := by
  match r with
  | [] => rfl
  | [c] => rfl
  | c :: d :: r => simp [cleanB, h]
theorem clean_0ne (b : UInt8) (r : List UInt8) (h : b.toNat ≠ 0) : cleanB (0 :: b :: r) = cleanB r := by
  match r with
  | [] => rfl
  | c :: r => rw [cleanB]; simp [h, clean_ne b (c :: r) h]
theorem clean_esc (s : List UInt8) : ∀ n, n ≤ 2 → cleanB (List.replicate n 0 ++ escN n s) = true := by
  induction s with
  | nil =>
    intro n h
    have : n = 0 ∨ n = 1 ∨ n = 2 := by omega
    rcases this with rfl | rfl | rfl <;> decide
  | cons b r ih =>
    intro n h
    have hi := ih (plainN b n) (plainN_le b n h)
    rw [escN, esc1']
    by_cases hb : b.toNat = 0
    · have : b = 0 := UInt8.toNat_inj.1 hb
      subst this
      rw [plainN'] at hi ⊢
      have : n = 0 ∨ n = 1 ∨ n = 2 := by omega
      rcases this with rfl | rfl | rfl
      · simpa [List.replicate] using hi
      · simpa [List.replicate] using hi
      · simp [List.replicate] at hi ⊢
        rw [cleanB, clean_0ne 3 _ (by decide)]
        simpa using hi
    · rw [plainN', if_neg hb] at hi ⊢
      have : n = 0 ∨ n = 1 ∨ n = 2 := by omega
      rcases this with rfl | rfl | rfl
      · simpa [List.replicate, clean_ne b _ hb] using hi
      · simpa [List.replicate, clean_0ne b _ hb] using hi
      · by_cases h3 : b.toNat ≤ 3
        · simp [List.replicate, h3] at hi ⊢
          rw [cleanB, clean_0ne 3 _ (by decide), clean_ne b _ hb]
          simpa using hi
        · simp [List.replicate, h3] at hi ⊢
          rw [cleanB, clean_0ne b _ hb, hi]
          simp; omega
theorem clean_escape (s : List UInt8) : cleanB (escape s) = true := by
  rw [escape_eq]; exact clean_esc s 0 (by omega)
/-- Zeros alone. -/
def zz (n : Nat) (b : UInt8) (m : Nat) : List UInt8 := escB (zs 0 (List.replicate m 0)) ++ (if zn 0 (List.replicate m 0) = 2 ∧ (m < n ∨ b.toNat ≤ 3) then [3] else [])
theorem zn_rep (m : Nat) : zn 0 (List.replicate m 0) = if m = 0 then 0 else (m - 1) % 2 + 1 := by
  induction m with
  | zero => rfl
  | succ m ih =>
    rw [List.replicate_succ', zn_append, ih]
    show plainN 0 _ = _
    rw [plainN', if_pos (by decide)]
    by_cases h0 : m = 0
    · subst h0; rfl
    · rw [if_neg h0, if_neg (Nat.succ_ne_zero m)]; split <;> omega
theorem zz_step (n : Nat) (b : UInt8) (m : Nat) (h : m < n) : escB (zs 0 (List.replicate (m + 1) 0)) = zz n b m ++ [0] := by
  rw [List.replicate_succ', zs_append]
  show escB (_ ++ [(_, 0)]) = _
  rw [escB_snoc, esc1', zz]
  by_cases hz : zn 0 (List.replicate m 0) = 2
  · rw [if_pos ⟨hz, by decide⟩, if_pos ⟨hz, .inl h⟩]; simp
  · rw [if_neg (fun e => hz e.1), if_neg (fun e => hz e.1)]; simp
theorem zz_end0 (n : Nat) (b : UInt8) (hb : b.toNat = 0) : escape (List.replicate n 0) = zz n b n := by
  unfold escape zz
  congr 1
  split <;> split <;> first | rfl | (exfalso; omega)
theorem zz_end (n : Nat) (b : UInt8) (hb : b.toNat ≠ 0) : escape (List.replicate n 0 ++ [b]) = zz n b n ++ [b] := by
  unfold escape zz
  rw [zs_append, zn_append]
  show escB (_ ++ [(_, b)]) ++ (if plainN b _ = 2 then _ else _) = _
  rw [plainN', if_neg hb, escB_snoc, esc1']
  rw [if_neg (show ¬ (0 : Nat) = 2 by decide), List.append_nil, List.append_assoc]
  congr 1
  by_cases h : zn 0 (List.replicate n 0) = 2 ∧ b.toNat ≤ 3
  · rw [if_pos h, if_pos ⟨h.1, .inr h.2⟩]; rfl
  · rw [if_neg h, if_neg (fun e => h ⟨e.1, e.2.elim (fun l => by omega) id⟩)]; rfl
end Go.Proofs.Ytpakamobancgeaa
