/-
  Numbers changed in what a copy owns.
-/
import Derived.Test.YteeeabnfgpolgaaDoorSlH
import Derived.Test.YteeeabnfgpolgaaDoorSlC
set_option linter.unusedVariables false
set_option linter.unusedSimpArgs false
namespace Go.Proofs.YteeeabnfgpolgaaDoor
open Go Go.RowKit
attribute [local irreducible] WC RL OW bodyPostM ThenQ BlockQ LoopQ
/-- What stood in D stands in F, but for numbers; what D does not have is as in F0. -/
structure Changed (D F0 F : Env) : Prop where
  sim : ∀ b k u, D.cell? ⟨b, k, none⟩ = some u → F.cell? ⟨b, k, none⟩ = some u ∨ ∃ kd x x', u = .int kd x ∧ F.cell? ⟨b, k, none⟩ = some (.int kd x')
  off : ∀ b, D.H b = none → F.H b = F0.H b
theorem Changed.refl {D F : Env} (h : D.Le F) : Changed D F F := ⟨fun b k u hu => .inl (h.cell hu), fun _ _ => rfl⟩
theorem Changed.int {D F0 F : Env} (h : Changed D F0 F) {b k : Nat} {kd : IntKind} {x : Int} (hv : D.cell? ⟨b, k, none⟩ = some (.int kd x)) : ∃ x', F.cell? ⟨b, k, none⟩ = some (.int kd x') := by
  rcases h.sim b k _ hv with h1 | ⟨kd', y, y', e, h1⟩
  · exact ⟨x, h1⟩
  · cases e; exact ⟨y', h1⟩
theorem Changed.same {D F0 F : Env} (h : Changed D F0 F) {b k : Nat} {v : Value} (hv : D.cell? ⟨b, k, none⟩ = some v) (hn : ∀ kd x, v ≠ .int kd x) : F.cell? ⟨b, k, none⟩ = some v := by
  rcases h.sim b k _ hv with h1 | ⟨kd', y, y', e, h1⟩
  · exact h1
  · exact absurd e (hn _ _)
theorem Changed.put {D F0 F : Env} (h : Changed D F0 F) {b k : Nat} {kd : IntKind} {x y : Int} (hv : D.cell? ⟨b, k, none⟩ = some (.int kd x)) : Changed D F0 (F.put b k (.int kd y)) := by
  obtain ⟨x', hx'⟩ := h.int hv
  have hD : D.H b ≠ none := fun e => by unfold Env.cell? at hv; simp only [e] at hv; cases hv
  refine ⟨fun c j u hu => ?_, fun c hc => ?_⟩
  · rw [Env.put_cell hx']
    by_cases he : c = b ∧ j = k
    · obtain ⟨rfl, rfl⟩ := he
      rw [if_pos ⟨rfl, rfl⟩]
      rw [hv] at hu
      cases hu
      exact .inr ⟨kd, x, y, rfl, rfl⟩
    · rw [if_neg he]; exact h.sim c j u hu
  · have hcb : c ≠ b := fun e => hD (e ▸ hc)
    rw [← h.off c hc]
    simp only [Env.put, hcb, if_false]
section
variable {ro : Option Nat} {P : Program} {l : List Value} {ds : List Deferred} {w : World} {next : List Value → World → Prop} {Q : Exit → Act → World → Prop}
variable {d : Option Tmp} {ty : TypeId} {pos : String} {aft : Array Edge} {g : Option (Nat × Bool)} {T : TypeId} {X Y : Operand}
variable {E D F0 F : Env} {L : List Item} {u : TypeDesc} {z : Value} {zs : List Value} {sz by_ : Nat} {ks : List Nat}
theorem t_load_chI {b k off : Nat} {kd : IntKind} {x : Int} [t : Ty P T u z zs sz by_] (hu : plainT u = true) (hx : ev l X = .pointer (some ⟨b, off, none⟩)) (hv : D.cell? ⟨b, k, none⟩ = some (.int kd x)) (he : off = k) (hA : Sat E (heap F.H ks :: L) w) (hk : HeapOk F ks) (hC : Changed D F0 F)
    (h : ∀ x', next (put l d (.int kd x')) w) : OW ro P ⟨d, .load T X, ty, pos, aft, g⟩ l ds w next Q := by
  obtain ⟨x', hx'⟩ := hC.int hv
  exact t_load_heap 0 k hu hx he hA rfl hk hx' (h x')
theorem t_load_chS {b k off : Nat} {v : Value} [t : Ty P T u z zs sz by_] (hu : plainT u = true) (hx : ev l X = .pointer (some ⟨b, off, none⟩)) (hv : D.cell? ⟨b, k, none⟩ = some v) (he : off = k) (hn : ∀ kd x, v ≠ .int kd x) (hA : Sat E (heap F.H ks :: L) w) (hk : HeapOk F ks) (hC : Changed D F0 F)
    (h : next (put l d v) w) : OW ro P ⟨d, .load T X, ty, pos, aft, g⟩ l ds w next Q :=
  t_load_heap 0 k hu hx he hA rfl hk (hC.same hv hn) h
theorem t_store_ch {b k off : Nat} {kd : IntKind} {x y : Int} [t : Ty P T u z zs 1 by_] (hx : ev l X = .pointer (some ⟨b, off, none⟩)) (hy : ev l Y = .int kd y) (hv : D.cell? ⟨b, k, none⟩ = some (.int kd x)) (he : off = k) (hA : Sat E (heap F.H ks :: L) w) (hk : HeapOk F ks) (hC : Changed D F0 F)
    (h : ∀ F' w', Sat E (heap F'.H ks :: L) w' → HeapOk F' ks → Changed D F0 F' → next (put l d undef) w') : OW ro P ⟨d, .store T X Y, ty, pos, aft, g⟩ l ds w next Q := by
  obtain ⟨x', hx'⟩ := hC.int hv
  exact t_store_heap 0 k hx he hy rfl hA rfl hk hx' fun w' hA' => h _ w' hA' hk.put (hC.put hv)
end
theorem ListE.notInt {α : Type} {R : Rd α} {sz : Nat} {E : Env} {v : Value} {xs : List α} (h : ListE R sz E v xs) : ∀ kd x, v ≠ .int kd x := by
  obtain ⟨c, hc⟩ := h.sl
  obtain ⟨a, q, rfl⟩ := hc.shape
  intro kd x e; cases e
end Go.Proofs.YteeeabnfgpolgaaDoor
