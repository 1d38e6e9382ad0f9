/-
  Slices in what stays; rows of the call's own, read and written by their index; what is owned becomes what stays.
-/
import Derived.Test.YtomfoaaaeidpnaaDoorSlN
set_option linter.unusedVariables false
set_option linter.unusedSimpArgs false
namespace Go.Proofs.YtomfoaaaeidpnaaDoor
open Go Go.RowKit
def sB : Value → Nat
  | .slice (some a) _ _ => a.block
  | _ => 0
def sO : Value → Nat
  | .slice (some a) _ _ => a.off
  | _ => 0
/-- In what stays, v is a slice of n elements of sz cells each: the cells xs. -/
structure SlE (E : Env) (sz : Nat) (v : Value) (n : Nat) (xs : List Value) : Prop where
  sh : (n = 0 ∧ ∃ a c, v = .slice a 0 c) ∨ ∃ c, v = .slice (some ⟨sB v, sO v, none⟩) n c
  len : xs.length = n * sz
  le : n ≤ 9223372036854775807
  at_ : ∀ k u, xs[k]? = some u → E.cell? ⟨sB v, sO v + k, none⟩ = some u
  cap : ∀ a c, v = .slice a n c → n ≤ c
theorem SlE.mono {E E' : Env} {sz n : Nat} {v : Value} {xs : List Value} (h : SlE E sz v n xs) (hE : E.Le E') : SlE E' sz v n xs := ⟨h.sh, h.len, h.le, fun k u hk => hE.cell (h.at_ k u hk), h.cap⟩
theorem SlE.one {E : Env} {sz n : Nat} {v : Value} {xs : List Value} (h : SlE E sz v n xs) : v.oneCell' = true := by
  rcases h.sh with ⟨_, a, c, rfl⟩ | ⟨c, hv⟩
  · rfl
  · rw [hv]; rfl
theorem SlE.shape {E : Env} {sz n : Nat} {v : Value} {xs : List Value} (h : SlE E sz v n xs) : ∃ a c, v = .slice a n c := by
  rcases h.sh with ⟨rfl, a, c, hv⟩ | ⟨c, hv⟩
  · exact ⟨a, c, hv⟩
  · exact ⟨_, c, hv⟩
theorem SlE.nil {E : Env} {sz : Nat} {a : Option Addr} {c : Nat} : SlE E sz (.slice a 0 c) 0 [] := ⟨.inl ⟨rfl, a, c, rfl⟩, by simp, by omega, by simp, fun _ _ _ => Nat.zero_le _⟩
theorem flat_at {css : List (List Value)} {sz : Nat} (hl : ∀ cs ∈ css, cs.length = sz) : ∀ {i : Nat} {cs : List Value}, css[i]? = some cs → ∀ k, k < sz → css.flatten[i * sz + k]? = cs[k]? := by
  induction css with
  | nil => intro i cs h; simp at h
  | cons c css ih =>
    intro i cs h k hk
    have hc := hl c (List.mem_cons_self ..)
    cases i with
    | zero =>
      simp only [List.getElem?_cons_zero, Option.some.injEq] at h
      subst h
      rw [List.flatten_cons, List.getElem?_append_left (by omega), Nat.zero_mul, Nat.zero_add]
    | succ i =>
      have := ih (fun c hc => hl c (List.mem_cons_of_mem _ hc)) (by simpa using h) k hk
      rw [List.flatten_cons, List.getElem?_append_right (by rw [hc, Nat.add_mul]; omega), ← this]
      congr 1
      rw [hc, Nat.add_mul]; omega
theorem flat_len {css : List (List Value)} {sz : Nat} (hl : ∀ cs ∈ css, cs.length = sz) : css.flatten.length = css.length * sz := by
  induction css with
  | nil => simp
  | cons c css ih =>
    rw [List.flatten_cons, List.length_append, hl c (List.mem_cons_self ..), ih (fun c hc => hl c (List.mem_cons_of_mem _ hc)), List.length_cons, Nat.add_mul]; omega
section
variable {α : Type}
/-- What an element's cells read as. -/
abbrev Rd (α : Type) := Env → List Value → α → Prop
class RdMono (R : Rd α) : Prop where
  mono : ∀ {E E' : Env} {cs : List Value} {x : α}, E.Le E' → R E cs x → R E' cs x
  one : ∀ {E : Env} {cs : List Value} {x : α}, R E cs x → ∀ u ∈ cs, u.oneCell' = true
/-- A list in what stays. -/
def ListE (R : Rd α) (sz : Nat) (E : Env) (v : Value) (xs : List α) : Prop :=
  ∃ css : List (List Value), css.length = xs.length ∧ (∀ cs ∈ css, cs.length = sz) ∧ (∀ (i : Nat) cs x, css[i]? = some cs → xs[i]? = some x → R E cs x) ∧ SlE E sz v xs.length css.flatten
variable {R : Rd α} {sz : Nat} {E E' : Env} {v : Value} {xs : List α}
theorem ListE.mono [m : RdMono R] (h : ListE R sz E v xs) (hE : E.Le E') : ListE R sz E' v xs := by
  obtain ⟨css, h1, h2, h3, h4⟩ := h
  exact ⟨css, h1, h2, fun i cs x hc hx => m.mono hE (h3 i cs x hc hx), h4.mono hE⟩
theorem ListE.sl (h : ListE R sz E v xs) : ∃ cells, SlE E sz v xs.length cells := by obtain ⟨css, _, _, _, h4⟩ := h; exact ⟨_, h4⟩
theorem ListE.one (h : ListE R sz E v xs) : v.oneCell' = true := by obtain ⟨_, h⟩ := h.sl; exact h.one
theorem ListE.get (h : ListE R sz E v xs) {i : Nat} {x : α} (hx : xs[i]? = some x) : ∃ cs, cs.length = sz ∧ R E cs x ∧ ∀ k u, cs[k]? = some u → E.cell? ⟨sB v, sO v + i * sz + k, none⟩ = some u := by
  obtain ⟨css, h1, h2, h3, h4⟩ := h
  have hi : i < xs.length := (List.getElem?_eq_some_iff.1 hx).1
  obtain ⟨cs, hc⟩ : ∃ cs, css[i]? = some cs := ⟨_, List.getElem?_eq_getElem (by omega)⟩
  have hl := h2 cs (List.mem_of_getElem? hc)
  refine ⟨cs, hl, h3 i cs x hc hx, fun k u hk => ?_⟩
  have hks : k < sz := by have := (List.getElem?_eq_some_iff.1 hk).1; omega
  rw [Nat.add_assoc]
  exact h4.at_ _ _ ((flat_at h2 hc k hks).trans hk)
theorem ListE.nil {a : Option Addr} {c : Nat} : ListE R sz E (.slice a 0 c) ([] : List α) := ⟨[], rfl, by simp, by simp, SlE.nil⟩
/-- The first elements, and what is behind them. -/
theorem SlE.part {xs : List Value} {n : Nat} (h : SlE E sz v n xs) {i j : Nat} (hij : i ≤ j) (hj : j ≤ n) (c : Nat) (hv : v = .slice (some ⟨sB v, sO v, none⟩) n c) (c' : Nat) (hc' : j - i ≤ c') :
    SlE E sz (.slice (some ⟨sB v, sO v + i * sz, none⟩) (j - i) c') (j - i) ((xs.drop (i * sz)).take ((j - i) * sz)) := by
  refine ⟨.inr ⟨c', rfl⟩, ?_, by have := h.le; omega, fun k u hk => ?_, ?_⟩
  · rw [List.length_take, List.length_drop, h.len]
    have h1 : i * sz ≤ n * sz := Nat.mul_le_mul_right _ (by omega)
    have h2 : (j - i) * sz + i * sz ≤ n * sz := by rw [← Nat.add_mul]; exact Nat.mul_le_mul_right _ (by omega)
    omega
  · rw [List.getElem?_take] at hk
    split at hk
    · rw [List.getElem?_drop] at hk
      have := h.at_ _ _ hk
      rw [← Nat.add_assoc] at this
      exact this
    · cases hk
  · intro a c e; cases e; exact hc'
/-- An element that is a list. -/
def listR {β : Type} (R : Rd β) (sz : Nat) : Rd (List β) := fun E cs xs => ∃ v, cs = [v] ∧ ListE R sz E v xs
end
abbrev vi (n : Int) : Value := .int .i64 n
abbrev vs (s : List UInt8) : Value := .string (bs s)
/-- A number of 64 bits. -/
abbrev I64 (x : Int) : Prop := -9223372036854775808 ≤ x ∧ x ≤ 9223372036854775807
def intR : Rd Int := fun _ cs x => cs = [vi x] ∧ I64 x
def strR : Rd (List UInt8) := fun _ cs s => cs = [vs s] ∧ s.length ≤ 9223372036854775807
def u8R : Rd UInt8 := fun _ cs b => cs = [u8 b]
instance : RdMono intR := ⟨fun _ h => h, fun h u hu => by rw [h.1] at hu; simp at hu; subst hu; rfl⟩
instance : RdMono strR := ⟨fun _ h => h, fun h u hu => by rw [h.1] at hu; simp at hu; subst hu; rfl⟩
instance : RdMono u8R := ⟨fun _ h => h, fun h u hu => by rw [h] at hu; simp at hu; subst hu; rfl⟩
instance {β : Type} {R : Rd β} {sz : Nat} [m : RdMono R] : RdMono (listR R sz) := ⟨fun hE ⟨v, h1, h2⟩ => ⟨v, h1, h2.mono hE⟩, fun ⟨v, h1, h2⟩ u hu => by subst h1; simp at hu; subst hu; exact h2.one⟩
/-- The cells of a row, read as elements. -/
def CsE {α : Type} (R : Rd α) (sz : Nat) (E : Env) (cells : List Value) (xs : List α) : Prop :=
  ∃ css : List (List Value), cells = css.flatten ∧ css.length = xs.length ∧ (∀ cs ∈ css, cs.length = sz) ∧ (∀ (i : Nat) cs x, css[i]? = some cs → xs[i]? = some x → R E cs x)
section
variable {α : Type} {R : Rd α} {sz : Nat} {E E' : Env} {v : Value} {xs : List α} {cells : List Value}
theorem CsE.nil : CsE R sz E [] ([] : List α) := ⟨[], rfl, rfl, by simp, by simp⟩
theorem CsE.mono [m : RdMono R] (h : CsE R sz E cells xs) (hE : E.Le E') : CsE R sz E' cells xs := by
  obtain ⟨css, h1, h2, h3, h4⟩ := h
  exact ⟨css, h1, h2, h3, fun i cs x hc hx => m.mono hE (h4 i cs x hc hx)⟩
theorem CsE.snoc (h : CsE R sz E cells xs) {cs : List Value} {x : α} (hl : cs.length = sz) (hr : R E cs x) : CsE R sz E (cells ++ cs) (xs ++ [x]) := by
  obtain ⟨css, rfl, h2, h3, h4⟩ := h
  refine ⟨css ++ [cs], by simp, by simp [h2], fun c hc => ?_, fun i c y hc hy => ?_⟩
  · rcases List.mem_append.1 hc with hc | hc
    · exact h3 c hc
    · simp at hc; rw [hc]; exact hl
  · rcases Nat.lt_or_ge i css.length with hi | hi
    · rw [List.getElem?_append_left hi] at hc
      rw [List.getElem?_append_left (by omega)] at hy
      exact h4 i c y hc hy
    · have hi' : i = css.length := by
        have := (List.getElem?_eq_some_iff.1 hc).1
        simp at this; omega
      subst hi'
      rw [List.getElem?_append_right (Nat.le_refl _)] at hc
      rw [h2, List.getElem?_append_right (Nat.le_refl _)] at hy
      simp at hc hy
      subst hc hy
      exact hr
theorem CsE.len (h : CsE R sz E cells xs) : cells.length = xs.length * sz := by
  obtain ⟨css, rfl, h2, h3, _⟩ := h
  rw [flat_len h3, h2]
theorem CsE.one [m : RdMono R] (h : CsE R sz E cells xs) : ∀ u ∈ cells, u.oneCell' = true := by
  obtain ⟨css, rfl, h2, h3, h4⟩ := h
  intro u hu
  obtain ⟨cs, hc, hu⟩ := List.mem_flatten.1 hu
  obtain ⟨i, hi, rfl⟩ := List.getElem_of_mem hc
  exact m.one (h4 i _ (xs[i]'(by omega)) (List.getElem?_eq_getElem hi) (List.getElem?_eq_getElem (by omega))) u hu
theorem CsE.sl (h : CsE R sz E cells xs) (hs : SlE E sz v xs.length cells) : ListE R sz E v xs := by
  obtain ⟨css, rfl, h2, h3, h4⟩ := h
  exact ⟨css, h2, h3, h4, hs⟩
theorem ListE.cs (h : ListE R sz E v xs) : ∃ cells, CsE R sz E cells xs ∧ SlE E sz v xs.length cells := by
  obtain ⟨css, h1, h2, h3, h4⟩ := h
  exact ⟨_, ⟨css, rfl, h1, h2, h3⟩, h4⟩
theorem CsE.get (h : CsE R sz E cells xs) {i : Nat} {x : α} (hx : xs[i]? = some x) : ∃ cs, cs.length = sz ∧ R E cs x ∧ ∀ k, k < sz → cells[i * sz + k]? = cs[k]? := by
  obtain ⟨css, rfl, h2, h3, h4⟩ := h
  have hi : i < xs.length := (List.getElem?_eq_some_iff.1 hx).1
  obtain ⟨cs, hc⟩ : ∃ cs, css[i]? = some cs := ⟨_, List.getElem?_eq_getElem (by omega)⟩
  exact ⟨cs, h3 cs (List.mem_of_getElem? hc), h4 i cs x hc hx, fun k hk => flat_at h3 hc k hk⟩
/-- Elements whose cells are a function of them. -/
theorem CsE.flat {f : α → List Value} (hf : ∀ E cs x, R E cs x → cs = f x) (h : CsE R sz E cells xs) : cells = xs.flatMap f := by
  obtain ⟨css, rfl, h2, h3, h4⟩ := h
  have : css = xs.map f := by
    apply List.ext_getElem? fun i => ?_
    rw [List.getElem?_map]
    cases hx : xs[i]? with
    | none => rw [List.getElem?_eq_none_iff] at hx; simp; omega
    | some x =>
      have hi : i < xs.length := (List.getElem?_eq_some_iff.1 hx).1
      have hc : css[i]? = some css[i] := List.getElem?_eq_getElem (by omega)
      rw [hc, hf _ _ _ (h4 i _ x hc hx)]; rfl
  rw [this, List.flatMap_def]
theorem CsE.of {f : α → List Value} (hl : ∀ x, (f x).length = sz) (hr : ∀ x ∈ xs, R E (f x) x) : CsE R sz E (xs.flatMap f) xs := by
  refine ⟨xs.map f, by rw [List.flatMap_def], by simp, ?_, ?_⟩
  · intro cs hc; obtain ⟨x, _, rfl⟩ := List.mem_map.1 hc; exact hl x
  · intro i cs x hc hx
    rw [List.getElem?_map, hx] at hc
    simp at hc
    subst hc
    exact hr x (List.mem_of_getElem? hx)
theorem CsE.all (h : CsE R sz E cells xs) : ∀ x ∈ xs, ∃ cs, cs.length = sz ∧ R E cs x := by
  intro x hx
  obtain ⟨i, hi, rfl⟩ := List.getElem_of_mem hx
  obtain ⟨cs, h1, h2, _⟩ := h.get (List.getElem?_eq_getElem hi)
  exact ⟨cs, h1, h2⟩
end

section
variable {E : Env} {L : List Item} {w : World}
theorem row_shape {e : TypeId} {sz n : Nat} {v : Value} {xs : List Value} (h : w.ownsRow 0 e sz v n xs) : (n = 0 ∧ v = .slice none 0 0 ∧ xs = []) ∨ ∃ g cap cur, v = .slice (some ⟨g, 0, none⟩) n cap ∧ w.heap[g]? = some (.cells cur e) ∧ n ≤ cap ∧ cur.size = cap * sz ∧ cur.toList.take (n * sz) = xs ∧ cap ≤ maxLen := by
  rcases h.2 with ⟨rfl, rfl⟩ | ⟨g, cap, cur, rfl, _, h1, h2, h3, h4, h5⟩
  · exact .inl ⟨rfl, rfl, List.eq_nil_of_length_eq_zero (by simpa using h.1)⟩
  · exact .inr ⟨g, cap, cur, rfl, h1, h2, h4, h5, h3⟩
/-- What the call owns becomes what stays. -/
theorem Sat.freeze {e : TypeId} {sz n : Nat} {v : Value} {xs : List Value} (h : Sat E (row e sz v n xs :: L) w) : ∃ E', E.Le E' ∧ Sat E' L w ∧ SlE E' sz v n xs := by
  have hown : w.ownsRow 0 e sz v n xs := h.own _ (List.mem_cons_self ..)
  rcases row_shape hown with ⟨rfl, rfl, rfl⟩ | ⟨g, cap, cur, rfl, h1, h2, h4, h5, h6⟩
  · exact ⟨E, Env.Le.refl E, h.tail, SlE.nil⟩
  · have h' : Sat E (obj g (.cells cur e) :: L) w := h.change rfl rfl rfl (Nat.le_refl _) (fun _ _ _ => rfl) h1 (by simp [obj, row, Value.ownBlock]) (by simp [obj])
    have hk := h'.keep 0 rfl
    have hn : E.H g = none := h'.off _ (List.mem_cons_self ..) g (by simp [obj])
    refine ⟨_, Env.le_keep (o := .cells cur e) hn, hk, .inr ⟨cap, rfl⟩, hown.1, by unfold maxLen at h6; omega, fun k u hu => ?_, fun a c e => by cases e; exact h2⟩
    simp only [Env.cell?, sB, sO, Nat.zero_add, if_true]
    simp only [Option.isSome_none, Bool.false_eq_true, if_false]
    rw [← h5, List.getElem?_take] at hu
    split at hu
    · simpa using hu
    · cases hu
theorem Sat.freezeCells {b : Nat} {cs : List Value} {T : TypeId} (h : Sat E (cells b cs T :: L) w) : ∃ E', E.Le E' ∧ Sat E' L w ∧ ∀ k u, cs[k]? = some u → E'.cell? ⟨b, k, none⟩ = some u := by
  have hn : E.H b = none := h.off _ (List.mem_cons_self ..) b (by simp [obj])
  refine ⟨_, Env.le_keep (o := .cells ⟨cs⟩ T (0, 0)) hn, h.keep 0 rfl, fun k u hu => ?_⟩
  simp [Env.cell?, hu]
theorem Sat.freezeList {α : Type} {R : Rd α} [RdMono R] {e : TypeId} {sz : Nat} {v : Value} {xs : List α} {cells : List Value} (h : Sat E (row e sz v xs.length cells :: L) w) (hc : CsE R sz E cells xs) : ∃ E', E.Le E' ∧ Sat E' L w ∧ ListE R sz E' v xs := by
  obtain ⟨E', h1, h2, h3⟩ := h.freeze
  exact ⟨E', h1, h2, (hc.mono h1).sl h3⟩
theorem Sat.storeRow {e : TypeId} {sz n i k : Nat} {v : Value} {xs : List Value} (h : Sat E L w) (hi : L[i]? = some (row e sz v n xs)) (u : Value) (hk : k < xs.length) :
    w.cell? ⟨sB v, sO v + k, none⟩ = some xs[k] ∧ w.frozen? ⟨sB v, sO v + k, none⟩ = false ∧ Sat E (L.set i (row e sz v n (xs.set k u))) (w.setCell ⟨sB v, sO v + k, none⟩ u) := by
  have hown : w.ownsRow 0 e sz v n xs := h.at_ hi
  rcases row_shape hown with ⟨rfl, rfl, rfl⟩ | ⟨g, cap, cur, hv, h1, h2, h4, h5, h6⟩
  · simp at hk
  · have hlen := hown.1
    have hk' : k < cur.size := by
      have : xs.length ≤ cur.size := by rw [← h5]; simp only [List.length_take, Array.length_toList]; omega
      omega
    have hv' := hv
    subst hv
    simp only [sB, sO, Nat.zero_add]
    refine ⟨?_, by simp [World.frozen?, h1], ?_⟩
    · simp only [World.cell?, h1, Option.isSome_none, Bool.false_eq_true, if_false]
      have hy : xs[k]? = some xs[k] := List.getElem?_eq_getElem hk
      generalize xs[k] = y at hy ⊢
      rw [← h5, List.getElem?_take] at hy
      split at hy
      · simpa using hy
      · cases hy
    · refine h.changeAt i hi rfl rfl rfl (by simp [World.setCell]) (fun c hc hne => ?_) ?_ (fun b hb => .inl hb) (by simp [row, Value.ownBlock])
      · have hne' : g ≠ c := fun e => hne (by simp [row, Value.ownBlock, e])
        simp [World.setCell, Array.getElem?_modify, hne']
      · refine ⟨by simpa using hlen, .inr ⟨g, cap, cur.setIfInBounds k u, rfl, Nat.zero_le _, ?_, h2, ?_, by simpa using h4, ?_⟩⟩
        · simp [World.setCell, Array.getElem?_modify, h1]
        · rcases hown.2 with ⟨e1, _⟩ | ⟨g', cap', cur', e1, _, h1', _, hm, _⟩
          · cases e1
          · cases e1; exact hm
        · rw [← h5]
          simp only [Array.toList_setIfInBounds, List.take_set]
theorem Sat.cellRow {e : TypeId} {sz n i k : Nat} {v : Value} {xs : List Value} {u : Value} (h : Sat E L w) (hi : L[i]? = some (row e sz v n xs)) (hk : xs[k]? = some u) : w.cell? ⟨sB v, sO v + k, none⟩ = some u := by
  have hk' := (List.getElem?_eq_some_iff.1 hk)
  have := (h.storeRow hi u hk'.1).1
  rw [this, hk'.2]
end

section
variable {ro : Option Nat} {P : Program} {l : List Value} {ds : List Deferred} {w : World} {next : List Value → World → Prop} {Q : Exit → Act → World → Prop}
variable {d : Option Tmp} {ty : TypeId} {pos : String} {aft : Array Edge} {g : Option (Nat × Bool)} {T T' : TypeId} {X Y Z : Operand}
variable {E E0 : Env} {L : List Item} {u u' : TypeDesc} {z z' : Value} {zs zs' : List Value} {sz sz' by_ by' : Nat}
theorem t_lenS {e : TypeId} {n sz0 : Nat} {v : Value} {xs : List Value} [t : Ty P T (.slice e) z zs sz by_] (hx : ev l X = v) (hs : SlE E0 sz0 v n xs) (h : next (put l d (.int .i64 (n : Int))) w) :
    OW ro P ⟨d, .call { callee := .builtin .len, args := #[X], argTypes := #[T] }, ty, pos, aft, g⟩ l ds w next Q := by
  obtain ⟨a, c, rfl⟩ := hs.shape
  exact t_len_slice hx h
theorem t_lenR (i : Nat) {e : TypeId} {n sz0 : Nat} {v : Value} {xs : List Value} [t : Ty P T (.slice e) z zs sz by_] (hx : ev l X = v) (hA : Sat E L w) (hi : L[i]? = some (row e sz0 v n xs)) (h : next (put l d (.int .i64 (n : Int))) w) :
    OW ro P ⟨d, .call { callee := .builtin .len, args := #[X], argTypes := #[T] }, ty, pos, aft, g⟩ l ds w next Q := by
  have hown : w.ownsRow 0 e sz0 v n xs := hA.at_ hi
  rcases row_shape hown with ⟨rfl, rfl, rfl⟩ | ⟨g, cap, cur, rfl, _⟩
  · exact t_len_slice hx h
  · exact t_len_slice hx h
theorem t_indexAddrS {e : TypeId} {n : Nat} {k : IntKind} {i : Int} {v : Value} {xs : List Value} [t : Ty P T (.slice e) z zs sz by_] [t' : Ty P e u' z' zs' sz' by'] (hx : ev l X = v) (hs : SlE E0 sz' v n xs) (hi : ev l Y = .int k i) (h0 : 0 ≤ i ∧ i < n)
    (h : next (put l d (.pointer (some ⟨sB v, sO v + i.toNat * sz', none⟩))) w) : OW ro P ⟨d, .indexAddr T X Y, ty, pos, aft, g⟩ l ds w next Q := by
  rcases hs.sh with ⟨rfl, _⟩ | ⟨c, hv⟩
  · omega
  · exact t_indexAddr (hx.trans hv) hi h0 h
theorem t_indexAddrR (j : Nat) {e : TypeId} {n : Nat} {k : IntKind} {i : Int} {v : Value} {xs : List Value} [t : Ty P T (.slice e) z zs sz by_] [t' : Ty P e u' z' zs' sz' by'] (hx : ev l X = v) (hA : Sat E L w) (hj : L[j]? = some (row e sz' v n xs)) (hi : ev l Y = .int k i) (h0 : 0 ≤ i ∧ i < n)
    (h : next (put l d (.pointer (some ⟨sB v, sO v + i.toNat * sz', none⟩))) w) : OW ro P ⟨d, .indexAddr T X Y, ty, pos, aft, g⟩ l ds w next Q := by
  have hown : w.ownsRow 0 e sz' v n xs := hA.at_ hj
  rcases row_shape hown with ⟨rfl, rfl, rfl⟩ | ⟨g, cap, cur, hv, _⟩
  · omega
  · have hv' : v = .slice (some ⟨sB v, sO v, none⟩) n cap := by rw [hv]; rfl
    exact t_indexAddr (hx.trans hv') hi h0 h
theorem t_load_agg_env {b k : Nat} {cs : List Value} [t : Ty P T u z zs sz by_] (hu : plainT u = false) (hx : ev l X = .pointer (some ⟨b, k, none⟩)) (hA : Sat E L w) (hc : ∀ j v, cs[j]? = some v → E.cell? ⟨b, k + j, none⟩ = some v) (hl : cs.length = sz)
    (h : next (put l d (.agg ⟨cs⟩)) w) : OW ro P ⟨d, .load T X, ty, pos, aft, g⟩ l ds w next Q := by
  obtain ⟨ii, hii, hss⟩ := Option.map_eq_some_iff.1 t.size
  have hld := run_loadCells_list (P := P) w ⟨b, k, none⟩ cs (fun j v hj => by rw [add_plain]; exact hA.cell (hc j v hj))
  rw [hl] at hld
  have hag : (isAgg T).run P w = .ok true w := by
    unfold isAgg
    have := t.und
    cases u <;> first | (simp [underlying, this]; done) | cases hu
  refine ow_run (v := .agg ⟨cs⟩) ?_ rfl h
  simp [execOp, hx, Instr.loadAt, Instr.sureAddr, loadVar, hag, sizeOf, typeInfo, hii, hss, hld]
theorem t_load_row (i : Nat) {e : TypeId} {n k sz0 : Nat} {v r : Value} {xs : List Value} [t : Ty P T u z zs sz by_] (hu : plainT u = true) (hx : ev l X = .pointer (some ⟨sB v, sO v + k, none⟩)) (hA : Sat E L w) (hi : L[i]? = some (row e sz0 v n xs)) (hk : xs[k]? = some r)
    (h : next (put l d r) w) : OW ro P ⟨d, .load T X, ty, pos, aft, g⟩ l ds w next Q := ow_load_w t.und hu hx (hA.cellRow hi hk) h
theorem t_load_agg_row (i : Nat) {e : TypeId} {n k sz0 : Nat} {v : Value} {xs cs : List Value} [t : Ty P T u z zs sz by_] (hu : plainT u = false) (hx : ev l X = .pointer (some ⟨sB v, sO v + k, none⟩)) (hA : Sat E L w) (hi : L[i]? = some (row e sz0 v n xs)) (hc : ∀ j, j < sz → xs[k + j]? = cs[j]?) (hl : cs.length = sz)
    (h : next (put l d (.agg ⟨cs⟩)) w) : OW ro P ⟨d, .load T X, ty, pos, aft, g⟩ l ds w next Q := by
  obtain ⟨ii, hii, hss⟩ := Option.map_eq_some_iff.1 t.size
  have hld := run_loadCells_list (P := P) w ⟨sB v, sO v + k, none⟩ cs (fun j r hj => by
    rw [add_plain, Nat.add_assoc]
    have hj' : j < sz := by have := (List.getElem?_eq_some_iff.1 hj).1; omega
    exact hA.cellRow hi ((hc j hj').trans hj))
  rw [hl] at hld
  have hag : (isAgg T).run P w = .ok true w := by
    unfold isAgg
    have := t.und
    cases u <;> first | (simp [underlying, this]; done) | cases hu
  refine ow_run (v := .agg ⟨cs⟩) ?_ rfl h
  simp [execOp, hx, Instr.loadAt, Instr.sureAddr, loadVar, hag, sizeOf, typeInfo, hii, hss, hld]
theorem t_store_row (i : Nat) {e : TypeId} {n k sz0 : Nat} {v r : Value} {xs : List Value} [t : Ty P T u z zs 1 by_] (hx : ev l X = .pointer (some ⟨sB v, sO v + k, none⟩)) (hy : ev l Y = r) (h1 : r.oneCell' = true) (hA : Sat E L w) (hi : L[i]? = some (row e sz0 v n xs)) (hk : k < xs.length)
    (h : ∀ w', Sat E (L.set i (row e sz0 v n (xs.set k r))) w' → next (put l d undef) w') : OW ro P ⟨d, .store T X Y, ty, pos, aft, g⟩ l ds w next Q := by
  obtain ⟨ii, hii, hss⟩ := Option.map_eq_some_iff.1 t.size
  obtain ⟨h2, h3, h4⟩ := hA.storeRow hi r hk
  have hv : r.cells = #[r] := by cases r <;> simp_all [Value.cells, Value.oneCell']
  refine ow_skip ?_ rfl (h _ h4)
  simp [execOp, hx, hy, Instr.storeAt, Instr.sureAddr, storeVar, hv, sizeOf, typeInfo, hii, hss, storeCells, run_store P w _ r _ h1, h2, h3, Addr.add]
theorem src_E {m : Nat} {v : Value} {xs : List Value} (hA : Sat E L w) (h : SlE E sz v m xs) (ho : ∀ u ∈ xs, u.oneCell' = true) : Src P sz v m xs w := by
  rcases h.sh with ⟨rfl, a, c, hv⟩ | ⟨c, hv⟩
  · have : xs = [] := List.eq_nil_of_length_eq_zero (by simpa using h.len)
    subst this
    cases a with
    | none => rw [hv]; exact src_nil
    | some a => rw [hv]; exact src_slice h.len ho (by simp)
  · rw [hv]
    exact src_slice h.len ho fun j r hj => by rw [add_plain]; exact hA.cell (h.at_ j r hj)
/-- append([]T(nil), x...) -/
theorem t_append_nil {e : TypeId} {v : Value} {m : Nat} {news : List Value} [t : Ty P T (.slice e) z zs sz by_] [t' : Ty P e u' z' zs' sz' by'] (hsz : 0 < sz') (hzl : zs'.length = sz')
    (hx : ev l X = .slice none 0 0) (hy : ev l Y = v) (hA : Sat E L w) (hs : SlE E sz' v m news) (ho : ∀ u ∈ news, u.oneCell' = true) (hr : m ≤ maxLen) (hb : m * by' ≤ 140737488355328)
    (h : ∀ v' w', Sat E (row e sz' v' m news :: L) w' → v'.oneCell' = true → next (put l d v') w') :
    OW ro P ⟨d, .call { callee := .builtin .append, args := #[X, Y], argTypes := #[T, T] }, ty, pos, aft, g⟩ l ds w next Q := by
  have hA' := hA.nilRow e sz'
  refine t_append 0 t.und (.inl ⟨_, rfl⟩) hsz hzl hx hy hA' rfl (src_E hA' hs ho) (by omega) (by rw [Nat.zero_add]; exact hb) fun v' w' hA2 h1 _ => ?_
  rw [Nat.zero_add, List.nil_append] at hA2
  exact h v' w' hA2 h1
/-- []T{x}, x of one cell. -/
theorem t_lay1 {e : TypeId} {v : Value} [t : Ty P T (.slice e) z zs sz by_] [t' : Ty P e u' z' zs' 1 by'] (hzl : zs'.length = 1) (hx : ev l X = v) (h1 : v.oneCell' = true) (hA : Sat E L w)
    (h : ∀ b w', Sat E (cells b [v] e :: L) w' → next (put l d (.slice (some ⟨b, 0, none⟩) 1 1)) w') : OW ro P ⟨d, .buildSlice T 1 #[(0, X)], ty, pos, aft, g⟩ l ds w next Q := by
  refine t_buildSlice (by exact hzl) (by decide) ?_ hA h
  have hv : v.cells = #[v] := by cases v <;> simp_all [Value.cells, Value.oneCell']
  obtain ⟨a, ha⟩ : ∃ a, zs' = [a] := by
    match zs', hzl with
    | [a], _ => exact ⟨a, rfl⟩
  subst ha
  simp [fillL, hx, hv, zeroRow, setRun]
end
end Go.Proofs.YtomfoaaaeidpnaaDoor
