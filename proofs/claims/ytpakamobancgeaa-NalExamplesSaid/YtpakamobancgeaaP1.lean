/-
  Escaping, on lists of bytes.
-/
set_option linter.unusedVariables false
set_option linter.unusedSimpArgs false
namespace Go.Proofs.Ytpakamobancgeaa

/-- Bytes 0 directly before the next byte, two of them beginning anew. -/
def plainN (b : UInt8) (n : Nat) : Nat := if b ≠ 0 then 0 else (if n = 2 then 0 else n) + 1
def zn : Nat → List UInt8 → Nat
  | n, [] => n
  | n, b :: r => zn (plainN b n) r
def zs : Nat → List UInt8 → List (Nat × UInt8)
  | _, [] => []
  | n, b :: r => (n, b) :: zs (plainN b n) r
/-- One byte escaped. -/
def esc1 (x : Nat × UInt8) : List UInt8 := if x.1 = 2 ∧ x.2 ≤ 3 then [3, x.2] else [x.2]
def escB (l : List (Nat × UInt8)) : List UInt8 := l.flatMap esc1
def escape (s : List UInt8) : List UInt8 := escB (zs 0 s) ++ (if zn 0 s = 2 then [3] else [])
/-- One byte unescaped. -/
def une1 (x : Nat × UInt8) : List UInt8 := if x.1 = 2 ∧ x.2 = 3 then [] else [x.2]
def uneB (l : List (Nat × UInt8)) : List UInt8 := l.flatMap une1
def unescape (s : List UInt8) : List UInt8 := uneB (zs 0 s)

theorem plainN_le (b : UInt8) (n : Nat) (h : n ≤ 2) : plainN b n ≤ 2 := by unfold plainN; split <;> (try split) <;> omega
theorem zn_le (s : List UInt8) : ∀ n, n ≤ 2 → zn n s ≤ 2 := by
  induction s with
  | nil => intro n h; exact h
  | cons b r ih => intro n h; exact ih _ (plainN_le b n h)
theorem zn_append (s t : List UInt8) : ∀ n, zn n (s ++ t) = zn (zn n s) t := by
  induction s with
  | nil => intro n; rfl
  | cons b r ih => intro n; exact ih _
theorem zs_append (s t : List UInt8) : ∀ n, zs n (s ++ t) = zs n s ++ zs (zn n s) t := by
  induction s with
  | nil => intro n; rfl
  | cons b r ih => intro n; simp only [List.cons_append, zs, zn]; rw [ih]
theorem zs_length (s : List UInt8) : ∀ n, (zs n s).length = s.length := by
  induction s with
  | nil => intro n; rfl
  | cons b r ih => intro n; simp [zs, ih]
theorem zs_snd (s : List UInt8) : ∀ n, (zs n s).map (·.2) = s := by
  induction s with
  | nil => intro n; rfl
  | cons b r ih => intro n; simp [zs, ih]
theorem zs_fst (s : List UInt8) : ∀ n, n ≤ 2 → ∀ x ∈ zs n s, x.1 ≤ 2 := by
  induction s with
  | nil => intro n _ x hx; cases hx
  | cons b r ih =>
    intro n hn x hx
    rcases List.mem_cons.1 hx with rfl | hx
    · exact hn
    · exact ih _ (plainN_le b n hn) x hx
theorem esc1_length (x : Nat × UInt8) : (esc1 x).length ≤ 2 := by unfold esc1; split <;> simp
theorem escB_length (l : List (Nat × UInt8)) : (escB l).length ≤ 2 * l.length := by
  induction l with
  | nil => simp [escB]
  | cons x r ih =>
    have := esc1_length x
    have e : escB (x :: r) = esc1 x ++ escB r := by simp [escB]
    rw [e, List.length_append, List.length_cons]; omega
theorem escB_snoc (l : List (Nat × UInt8)) (x : Nat × UInt8) : escB (l ++ [x]) = escB l ++ esc1 x := by simp [escB]
theorem uneB_snoc (l : List (Nat × UInt8)) (x : Nat × UInt8) : uneB (l ++ [x]) = uneB l ++ une1 x := by simp [uneB]
theorem une1_length (x : Nat × UInt8) : (une1 x).length ≤ 1 := by unfold une1; split <;> simp
theorem uneB_length (l : List (Nat × UInt8)) : (uneB l).length ≤ l.length := by
  induction l with
  | nil => simp [uneB]
  | cons x r ih =>
    have := une1_length x
    have e : uneB (x :: r) = une1 x ++ uneB r := by simp [uneB]
    rw [e, List.length_append, List.length_cons]; omega
theorem escape_length (s : List UInt8) : (escape s).length ≤ 2 * s.length + 1 := by
  have := escB_length (zs 0 s)
  rw [zs_length] at this
  unfold escape
  rw [List.length_append]
  split <;> simp <;> omega
/-- What the last byte leaves. -/
def lastN : List (Nat × UInt8) → Nat
  | [] => 0
  | [x] => plainN x.2 x.1
  | _ :: r => lastN r
theorem lastN_snoc (l : List (Nat × UInt8)) (x : Nat × UInt8) : lastN (l ++ [x]) = plainN x.2 x.1 := by
  induction l with
  | nil => rfl
  | cons y r ih =>
    cases r with
    | nil => rfl
    | cons z r => exact ih
theorem lastN_zs (s : List UInt8) : ∀ n, s ≠ [] → lastN (zs n s) = zn n s := by
  induction s with
  | nil => intro n h; exact absurd rfl h
  | cons b r ih =>
    intro n _
    cases r with
    | nil => rfl
    | cons c r => exact ih _ (by simp)
theorem lastN_zs0 (s : List UInt8) : lastN (zs 0 s) = zn 0 s := by
  cases s with
  | nil => rfl
  | cons b r => exact lastN_zs _ 0 (by simp)
theorem lastN_le (l : List (Nat × UInt8)) (h : ∀ x ∈ l, x.1 ≤ 2) : lastN l ≤ 2 := by
  induction l with
  | nil => exact Nat.zero_le _
  | cons x r ih =>
    cases r with
    | nil => exact plainN_le _ _ (h x (by simp))
    | cons y r => exact ih fun z hz => h z (List.mem_cons_of_mem _ hz)
end Go.Proofs.Ytpakamobancgeaa
