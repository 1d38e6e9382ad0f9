/-
  What is new in what stays: lists that share nothing with what stood before; what is new becomes the call's own again.
-/
import Derived.Test.YtomfoaaaeidpnaaDoorSlF
set_option linter.unusedVariables false
set_option linter.unusedSimpArgs false
namespace Go.Proofs.YtomfoaaaeidpnaaDoor
open Go Go.RowKit
def plainO : Obj → Bool
  | .cells _ _ p => p == (0, 0)
  | _ => false
/-- What E has beyond E0: rows of cells, nothing of them frozen. -/
def Env.sub (E E0 : Env) : Env := { E with H := fun b => if (E0.H b).isSome then none else (E.H b).filter plainO }
theorem sub_at {E E0 : Env} {b : Nat} {o : Obj} : (E.sub E0).H b = some o ↔ E0.H b = none ∧ E.H b = some o ∧ plainO o = true := by
  simp only [Env.sub]
  split
  · rename_i h
    refine ⟨fun h' => (by cases h'), fun h' => ?_⟩
    rw [h'.1] at h; cases h
  · rename_i h
    rw [Option.filter_eq_some_iff]
    exact ⟨fun h' => ⟨by simpa using h, h'.1, h'.2⟩, fun h' => ⟨h'.2.1, h'.2.2⟩⟩
theorem Env.sub_le (E E0 : Env) : (E.sub E0).Le E := ⟨rfl, rfl, rfl, fun b o h => (sub_at.1 h).2.1⟩
theorem Env.sub_left {E E' : Env} (E0 : Env) (h : E.Le E') : (E.sub E0).Le (E'.sub E0) := ⟨h.os, h.tape, h.output, fun b o hb => by
  obtain ⟨h1, h2, h3⟩ := sub_at.1 hb
  exact sub_at.2 ⟨h1, h.H b o h2, h3⟩⟩
theorem Env.sub_right {E0 E1 : Env} (E : Env) (h : E0.Le E1) : (E.sub E1).Le (E.sub E0) := ⟨rfl, rfl, rfl, fun b o hb => by
  obtain ⟨h1, h2, h3⟩ := sub_at.1 hb
  refine sub_at.2 ⟨?_, h2, h3⟩
  cases h0 : E0.H b with
  | none => rfl
  | some o' => rw [h.H b o' h0] at h1; cases h1⟩
theorem CsE.env {α : Type} {R : Rd α} {sz : Nat} {E E' : Env} {cells : List Value} {xs : List α} (hR : ∀ cs x, R E cs x → R E' cs x) (h : CsE R sz E cells xs) : CsE R sz E' cells xs := by
  obtain ⟨css, h1, h2, h3, h4⟩ := h
  exact ⟨css, h1, h2, h3, fun i cs x hc hx => hR cs x (h4 i cs x hc hx)⟩
/-- The first elements are as F says; so is the next one. -/
theorem CsE.pre {α : Type} {R : Rd α} {sz : Nat} {E F : Env} {cells old : List Value} {xs : List α} (h : CsE R sz E cells xs) {i : Nat} {x : α} (hx : xs[i]? = some x) (h0 : CsE R sz F (old.take (i * sz)) (xs.take i)) (he : cells.take (i * sz) = old.take (i * sz))
    (hR : ∀ cs, cs.length = sz → R E cs x → (∀ k, k < sz → cells[i * sz + k]? = cs[k]?) → R F cs x) : CsE R sz F (cells.take ((i + 1) * sz)) (xs.take (i + 1)) := by
  obtain ⟨cs, hl, hR1, hg⟩ := h.get hx
  have e : cells.take ((i + 1) * sz) = old.take (i * sz) ++ cs := by
    rw [Nat.add_mul, Nat.one_mul, List.take_add, he]
    congr 1
    apply List.ext_getElem? fun k => ?_
    rw [List.getElem?_take]
    split
    · rename_i hk; rw [List.getElem?_drop]; exact hg k hk
    · rw [List.getElem?_eq_none (by omega)]
  rw [e, List.take_add_one, hx]
  exact h0.snoc hl (hR cs hl hR1 hg)
theorem CsE.ints {E : Env} (E' : Env) {cells : List Value} {xs : List Int} (h : CsE intR 1 E cells xs) : CsE intR 1 E' cells xs := h.env fun _ _ h => h
section
variable {E : Env} {L : List Item} {w : World}
theorem Sat.freezeS {e : TypeId} {sz n : Nat} {v : Value} {xs : List Value} (E0 : Env) (h : Sat E (row e sz v n xs :: L) w) (h0 : E0.Le E) : ∃ E', E.Le E' ∧ Sat E' L w ∧ SlE (E'.sub E0) sz v n xs := by
  have hown : w.ownsRow 0 e sz v n xs := h.own _ (List.mem_cons_self ..)
  rcases row_shape hown with ⟨rfl, rfl, rfl⟩ | ⟨g, cap, cur, rfl, h1, h2, h4, h5, h6⟩
  · exact ⟨E, Env.Le.refl E, h.tail, SlE.nil⟩
  · have h' : Sat E (obj g (.cells cur e) :: L) w := h.change rfl rfl rfl (Nat.le_refl _) (fun _ _ _ => rfl) h1 (by simp [obj, row, Value.ownBlock]) (by simp [obj])
    have hk := h'.keep 0 rfl
    have hn : E.H g = none := h'.off _ (List.mem_cons_self ..) g (by simp [obj])
    have hn0 : E0.H g = none := by
      cases h8 : E0.H g with
      | none => rfl
      | some o => rw [h0.H g o h8] at hn; cases hn
    refine ⟨_, Env.le_keep (o := .cells cur e) hn, hk, .inr ⟨cap, rfl⟩, hown.1, by unfold maxLen at h6; omega, fun k u hu => ?_, fun a c e => by cases e; exact h2⟩
    have hs : (({ E with H := fun k => if k = g then some (.cells cur e (0, 0)) else E.H k } : Env).sub E0).H g = some (.cells cur e (0, 0)) := sub_at.2 ⟨hn0, if_pos rfl, rfl⟩
    simp only [Env.cell?, sB, sO, Nat.zero_add, hs, Option.isSome_none, Bool.false_eq_true, if_false]
    rw [← h5, List.getElem?_take] at hu
    split at hu
    · simpa using hu
    · cases hu
theorem Sat.freezeListS {α : Type} {R : Rd α} [RdMono R] {e : TypeId} {sz : Nat} {v : Value} {xs : List α} {cells : List Value} (E0 : Env) (h : Sat E (row e sz v xs.length cells :: L) w) (h0 : E0.Le E) (hc : CsE R sz (E.sub E0) cells xs) : ∃ E', E.Le E' ∧ Sat E' L w ∧ ListE R sz (E'.sub E0) v xs := by
  obtain ⟨E', h1, h2, h3⟩ := h.freezeS E0 h0
  exact ⟨E', h1, h2, (hc.mono (Env.sub_left E0 h1)).sl h3⟩
/-- Blocks of the call's own, with all that they hold. -/
def heap (H : Nat → Option Obj) (ks : List Nat) : Item :=
  ⟨ks, fun w => ∀ b ∈ ks, ∃ o, H b = some o ∧ w.heap[b]? = some o, fun w w' h hp b hb => by
    obtain ⟨o, h1, h2⟩ := hp b hb
    exact ⟨o, h1, (h b hb).trans h2⟩, fun w hp b hb => by
    obtain ⟨o, _, h2⟩ := hp b hb
    exact (Array.getElem?_eq_some_iff.1 h2).1⟩
theorem Sat.thaw {E0 : Env} (h : Sat E L w) (h0 : E0.Le E) : ∃ ks, (∀ b, b ∈ ks ↔ ((E.sub E0).H b).isSome) ∧ Sat E0 (heap (E.sub E0).H ks :: L) w := by
  have hlt : ∀ b o, E.H b = some o → b < w.heap.size := fun b o hb => (Array.getElem?_eq_some_iff.1 (h.per b o hb)).1
  have hks : ∀ b, b ∈ (List.range w.heap.size).filter (fun b => ((E.sub E0).H b).isSome) ↔ ((E.sub E0).H b).isSome := by
    intro b
    rw [List.mem_filter, List.mem_range]
    refine ⟨fun h => h.2, fun hb => ⟨?_, hb⟩⟩
    obtain ⟨o, ho⟩ := Option.isSome_iff_exists.1 hb
    exact hlt b o ((Env.sub_le E E0).H b o ho)
  refine ⟨_, hks, ⟨h.os.trans h0.os, h.tape.trans h0.tape, h.output.trans h0.output, fun i o hi => h.per i o (h0.H i o hi), ?_, ?_, ?_⟩⟩
  · intro it hit
    rcases List.mem_cons.1 hit with rfl | hit
    · intro b hb
      obtain ⟨o, ho⟩ := Option.isSome_iff_exists.1 ((hks b).1 hb)
      exact ⟨o, ho, h.per b o ((Env.sub_le E E0).H b o ho)⟩
    · exact h.own it hit
  · intro it hit b hb
    rcases List.mem_cons.1 hit with rfl | hit
    · have := (hks b).1 hb
      simp only [Env.sub] at this
      split at this
      · cases this
      · rename_i hn; simpa using hn
    · have h3 := h.off it hit b hb
      cases h8 : E0.H b with
      | none => rfl
      | some o => rw [h0.H b o h8] at h3; cases h3
  · rw [List.flatMap_cons, List.nodup_append]
    refine ⟨List.Pairwise.filter _ List.nodup_range, h.nd, ?_⟩
    intro a ha b hb hab
    subst hab
    obtain ⟨it, hit, hbi⟩ := List.mem_flatMap.1 hb
    have h3 := h.off it hit a hbi
    obtain ⟨o, ho⟩ := Option.isSome_iff_exists.1 ((hks a).1 ha)
    rw [(Env.sub_le E E0).H a o ho] at h3
    cases h3
end
end Go.Proofs.YtomfoaaaeidpnaaDoor
