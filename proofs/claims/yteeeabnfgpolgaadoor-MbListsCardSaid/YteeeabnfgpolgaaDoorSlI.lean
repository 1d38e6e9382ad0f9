/-
  A row of the call's own, put to what stays and taken back.
-/
import Derived.Test.YteeeabnfgpolgaaDoorSlH
set_option linter.unusedVariables false
set_option linter.unusedSimpArgs false
namespace Go.Proofs.YteeeabnfgpolgaaDoor
open Go Go.RowKit
/-- What a row is, read in what stays. -/
def RowIn (E : Env) (e : TypeId) (sz : Nat) (v : Value) (n : Nat) (xs : List Value) : Prop :=
  xs.length = n * sz ∧ ((n = 0 ∧ v = .slice none 0 0 ∧ xs = []) ∨ ∃ g cap cur, v = .slice (some ⟨g, 0, none⟩) n cap ∧ E.H g = some (.cells cur e (0, 0)) ∧ n ≤ cap ∧ cur.size = cap * sz ∧ cur.toList.take (n * sz) = xs ∧ cap ≤ maxLen)
theorem RowIn.mono {E E' : Env} {e : TypeId} {sz n : Nat} {v : Value} {xs : List Value} (h : RowIn E e sz v n xs) (hE : E.Le E') : RowIn E' e sz v n xs := by
  obtain ⟨h0, h | ⟨g, cap, cur, h1, h2, h3⟩⟩ := h
  · exact ⟨h0, .inl h⟩
  · exact ⟨h0, .inr ⟨g, cap, cur, h1, hE.H _ _ h2, h3⟩⟩
theorem RowIn.sl {E : Env} {e : TypeId} {sz n : Nat} {v : Value} {xs : List Value} (h : RowIn E e sz v n xs) : SlE E sz v n xs := by
  obtain ⟨h0, ⟨rfl, rfl, rfl⟩ | ⟨g, cap, cur, rfl, h1, h2, h3, h4, h5⟩⟩ := h
  · exact SlE.nil
  · refine ⟨.inr ⟨cap, rfl⟩, h0, by unfold maxLen at h5; omega, fun k u hu => ?_, fun a c e => by cases e; exact h2⟩
    simp only [Env.cell?, sB, sO, Nat.zero_add, h1, Option.isSome_none, Bool.false_eq_true, if_false]
    rw [← h4, List.getElem?_take] at hu
    split at hu
    · simpa using hu
    · cases hu
theorem Sat.freezeRow {E : Env} {L : List Item} {w : World} {e : TypeId} {sz n : Nat} {v : Value} {xs : List Value} (h : Sat E (row e sz v n xs :: L) w) : ∃ E', E.Le E' ∧ Sat E' L w ∧ RowIn E' e sz v n xs ∧ ∀ g m c, v = .slice (some ⟨g, 0, none⟩) m c → E.H g = none := by
  have hown : w.ownsRow 0 e sz v n xs := h.own _ (List.mem_cons_self ..)
  rcases row_shape hown with ⟨rfl, rfl, rfl⟩ | ⟨g, cap, cur, rfl, h1, h2, h4, h5, h6⟩
  · exact ⟨E, Env.Le.refl E, h.tail, ⟨hown.1, .inl ⟨rfl, rfl, rfl⟩⟩, fun g m c e => by cases e⟩
  · have h' : Sat E (obj g (.cells cur e) :: L) w := h.change rfl rfl rfl (Nat.le_refl _) (fun _ _ _ => rfl) h1 (by simp [obj, row, Value.ownBlock]) (by simp [obj])
    have hk := h'.keep 0 rfl
    have hn : E.H g = none := h'.off _ (List.mem_cons_self ..) g (by simp [obj])
    exact ⟨_, Env.le_keep (o := .cells cur e) hn, hk, ⟨hown.1, .inr ⟨g, cap, cur, rfl, if_pos rfl, h2, h4, h5, h6⟩⟩, fun g' m c e => by cases e; exact hn⟩
theorem Sat.thawRow {E : Env} {L : List Item} {w : World} {e : TypeId} {sz n : Nat} {v : Value} {xs : List Value} (h : Sat E L w) (hr : RowIn E e sz v n xs) :
    ∃ E', Sat E' (row e sz v n xs :: L) w ∧ E'.Le E ∧ ∀ b o, E.H b = some o → (∀ m c, v ≠ .slice (some ⟨b, 0, none⟩) m c) → E'.H b = some o := by
  obtain ⟨h0, ⟨rfl, rfl, rfl⟩ | ⟨g, cap, cur, rfl, h1, h2, h3, h4, h5⟩⟩ := hr
  · exact ⟨E, h.nilRow e sz, Env.Le.refl E, fun b o hb _ => hb⟩
  · let E1 : Env := { E with H := fun c => if c = g then none else E.H c }
    have h11 : E1.Le E := ⟨rfl, rfl, rfl, fun c o hc => by
      simp only [E1] at hc
      split at hc
      · cases hc
      · exact hc⟩
    obtain ⟨ks, hks, hA⟩ := h.thaw h11
    have hg : g ∈ ks := (hks g).2 (by
      have : (E.sub E1).H g = some (.cells cur e (0, 0)) := sub_at.2 ⟨by simp [E1], h1, rfl⟩
      rw [this]; rfl)
    have hown : w.ownsRow 0 e sz (.slice (some ⟨g, 0, none⟩) n cap) n xs := ⟨h0, .inr ⟨g, cap, cur, rfl, Nat.zero_le _, h.per g _ h1, h2, h5, h3, h4⟩⟩
    refine ⟨E1, hA.change rfl rfl rfl (Nat.le_refl _) (fun _ _ _ => rfl) hown (fun b hb => .inl ?_) (by simp [row, Value.ownBlock]), h11, fun b o hb hn => ?_⟩
    · have : b = g := by simpa [row, Value.ownBlock] using hb
      subst this; exact hg
    · have : b ≠ g := fun e => hn n cap (by rw [e])
      simp only [E1, if_neg this]
      exact hb
/-- Rows of different types are apart. -/
theorem RowIn.keep {E E' : Env} {e e' : TypeId} {sz sz' n n' : Nat} {v v' : Value} {xs xs' : List Value} (h : RowIn E e sz v n xs) (h' : RowIn E e' sz' v' n' xs') (hne : e ≠ e') (hk : ∀ b o, E.H b = some o → (∀ m c, v ≠ .slice (some ⟨b, 0, none⟩) m c) → E'.H b = some o) : RowIn E' e' sz' v' n' xs' := by
  obtain ⟨h0', h' | ⟨g', cap', cur', h1', h2', h3'⟩⟩ := h'
  · exact ⟨h0', .inl h'⟩
  · refine ⟨h0', .inr ⟨g', cap', cur', h1', hk _ _ h2' (fun m c e1 => ?_), h3'⟩⟩
    obtain ⟨_, ⟨_, h, _⟩ | ⟨g, cap, cur, h1, h2, _⟩⟩ := h
    · rw [h] at e1; cases e1
    · rw [h1] at e1
      cases e1
      rw [h2] at h2'
      cases h2'
      exact hne rfl
end Go.Proofs.YteeeabnfgpolgaaDoor
