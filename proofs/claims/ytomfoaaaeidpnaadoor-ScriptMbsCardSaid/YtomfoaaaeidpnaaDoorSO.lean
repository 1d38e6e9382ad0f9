/-
  The table of mb, out of what the row says of it.
-/
import Derived.Test.YtomfoaaaeidpnaaDoorSlO
import Derived.Test.YtomfoaaaeidpnaaDoorS8
import Derived.Lib.LaidU8
import Derived.LaidMore
import Derived.MakeChecks
set_option linter.unusedVariables false
set_option linter.unusedSimpArgs false
namespace Go.Proofs.YtomfoaaaeidpnaaDoor
open Go Go.RowKit
theorem szg_of {W : World} (h2 : Lib.VarReads Tryd.prog W "spindle/mb.sizes" (.agg [.lit (.int .i64 16), .lit (.int .i64 15), .lit (.int .i64 16), .lit (.int .i64 4), .lit (.int .i64 15)])) : SzG (envOf W) := by
  obtain ⟨g, t, cs, fuel, p, hg, ht, hv, hd⟩ := h2
  have hg0 := hg
  obtain rfl : g = 0 := (Option.some.inj ((show Tryd.prog.globalNamed "spindle/mb.sizes" = some 0 by kernel_rfl).symm.trans hg)).symm
  obtain rfl : t = 148 := (Option.some.inj ((show (Tryd.prog.globals[0]?).map (·.type) = some 148 by kernel_rfl).symm.trans ht)).symm
  have c5 : Tryd.prog.cellsOf 3 = 1 := by kernel_rfl
  have c29 : Tryd.prog.cellsOf 148 = 5 := by kernel_rfl
  obtain ⟨xs, m, _, ex, hlen, hl, hel⟩ := DataW.trod_array Tryd.underlying148 hd
  rw [c29] at hlen
  have e3 := DataW.agg.inj (Prod.mk.inj ex).1
  intro i z hz
  have hi : i < 5 := (List.getElem?_eq_some_iff.1 hz).1
  have k0 := hel i hi
  rw [c5] at k0
  obtain ⟨x, hx⟩ : ∃ x, xs[i]? = some x := ⟨_, List.getElem?_eq_getElem (by omega)⟩
  rw [hx] at k0
  obtain ⟨y, ay, by0, _⟩ := DataW.trod_int Tryd.underlying3 k0
  have h4 : cs[i]? = some (.int .i64 y) := by
    have := congrArg (·[0]?) ay
    rw [← Array.getElem?_toList]
    simpa [List.getElem?_take, List.getElem?_drop] using this
  have h5 : y = z := by
    have h6 := congrArg (·[i]?) e3
    simp only [List.getElem?_map, hx, Option.map_some, by0] at h6
    have : i = 0 ∨ i = 1 ∨ i = 2 ∨ i = 3 ∨ i = 4 := by omega
    rcases this with rfl | rfl | rfl | rfl | rfl <;> (cases hz; cases h6; rfl)
  rw [h5] at h4
  exact (env_of_cell ((World.var?_cell hg0 hv i).trans h4)).2
end Go.Proofs.YtomfoaaaeidpnaaDoor
