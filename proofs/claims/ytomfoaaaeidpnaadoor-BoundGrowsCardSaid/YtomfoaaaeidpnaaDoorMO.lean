/-
  The tables of kinds and mb, out of what the row says of them.
-/
import Derived.Test.YtomfoaaaeidpnaaDoorMP
import Derived.Test.YtomfoaaaeidpnaaDoorM1
import Derived.Lib.LaidU8
import Derived.LaidMore
import Derived.MakeChecks
set_option linter.unusedVariables false
set_option linter.unusedSimpArgs false
namespace Go.Proofs.YtomfoaaaeidpnaaDoor
open Go Go.RowKit
theorem told_slice {H : Type} {enc : TypeId × Value → H} {P : Program} {W : World} {sp : Nat → Bool} {held : Bool} {n : Nat} {t e : TypeId} {cs : List Value} {p : List MemPlace} {α : Type} {sz : Nat} {R : Rd α} {D : α → DataW H} {xs : List α} (ht : P.underlying t = some (.slice e)) (hc : P.cellsOf e = sz) (hsz : 0 < sz)
    (he : ∀ (n : Nat) (cs : List Value) (a : α) (p : List MemPlace), a ∈ xs → DataW.trod enc P W 0 sp held n e cs = some (D a, p) → cs.length = sz ∧ R (envOf W) cs a)
    (h : DataW.trod enc P W 0 sp held n t cs = some (.slice (xs.map D) [], p)) : ∃ v, cs = [v] ∧ ListE R sz (envOf W) v xs := by
  subst hc
  rcases DataW.trod_slice ht h with ⟨rfl, hx⟩ | ⟨a, len, cap, elems, rest, m, _, rfl, hx, hb, hl, hm, hlen, hel, hsp, hns⟩
  · cases hx
  · have hx1 : xs.map D = elems.map (·.1) := by
      have := congrArg Prod.fst hx
      simp only [DataW.slice.injEq] at this
      exact this.1
    have hxl : xs.length = len := by
      have := congrArg List.length hx1
      simp only [List.length_map] at this
      omega
    have each : ∀ i, i < len → ∃ y : List Value × α, xs[i]? = some y.2 ∧ y.1.length = P.cellsOf e ∧ R (envOf W) y.1 y.2 ∧ ∀ k u, y.1[k]? = some u → W.cell? ((a.add (i * P.cellsOf e)).add k) = some u := by
      intro i hi
      have h1 := hel i hi
      obtain ⟨y, hy⟩ : ∃ y, elems[i]? = some y := ⟨_, List.getElem?_eq_getElem (by omega)⟩
      obtain ⟨x, hxi⟩ : ∃ x, xs[i]? = some x := ⟨_, List.getElem?_eq_getElem (by omega)⟩
      have hyx : y.1 = D x := by
        have := congrArg (·[i]?) hx1
        simp only [List.getElem?_map, hy, hxi, Option.map_some, Option.some.injEq] at this
        exact this.symm
      rw [hy, Option.bind_eq_some_iff] at h1
      obtain ⟨cs', h2, h3⟩ := h1
      obtain ⟨y1, y2⟩ := y
      simp only at hyx
      subst hyx
      obtain ⟨h4, h5⟩ := he m cs' x y2 (List.mem_of_getElem? hxi) h3
      refine ⟨(cs', x), hxi, h4, h5, fun k u hk => ?_⟩
      unfold World.cells? at h2
      split at h2
      · have hk' : k < cs'.length := (List.getElem?_eq_some_iff.1 hk).1
        have h7 := mapM_some_get h2 k k (by rw [List.getElem?_range (by omega)])
        rw [h7]; exact hk
      · cases h2
    obtain ⟨l, hll, hq⟩ := list_of len each
    have hcl : ∀ cs ∈ l.map (·.1), cs.length = P.cellsOf e := by
      intro cs hcs
      obtain ⟨y, hy, rfl⟩ := List.mem_map.1 hcs
      obtain ⟨i, hi⟩ := List.getElem?_of_mem hy
      exact (hq i y hi).2.1
    have hcell : ∀ k u, (l.map (·.1)).flatten[k]? = some u → a.spot = none ∧ (envOf W).cell? ⟨a.block, a.off + k, none⟩ = some u := by
      intro k u hk
      have hk' : k < len * P.cellsOf e := by
        have := (List.getElem?_eq_some_iff.1 hk).1
        rw [flat_len hcl, List.length_map, hll] at this
        exact this
      have hi : k / P.cellsOf e < len := Nat.div_lt_of_lt_mul (by rw [Nat.mul_comm]; exact hk')
      obtain ⟨y, hy⟩ : ∃ y, l[k / P.cellsOf e]? = some y := ⟨_, List.getElem?_eq_getElem (by omega)⟩
      have h1 := flat_at hcl (i := k / P.cellsOf e) (cs := y.1) (by rw [List.getElem?_map, hy]; rfl) (k % P.cellsOf e) (Nat.mod_lt _ hsz)
      have e1 : k / P.cellsOf e * P.cellsOf e + k % P.cellsOf e = k := Nat.div_add_mod' k _
      rw [e1, hk] at h1
      have h2 := (hq _ y hy).2.2.2 _ u h1.symm
      obtain ⟨h3, h4⟩ := env_of_cell h2
      have hsp0 : a.spot = none := by
        obtain ⟨y0, hy0⟩ : ∃ y, l[0]? = some y := ⟨_, List.getElem?_eq_getElem (by rw [hll]; exact Nat.lt_of_le_of_lt (Nat.zero_le _) hi)⟩
        have hl0 := (hq 0 y0 hy0).2.1
        have h5 := (hq 0 y0 hy0).2.2.2 0 _ (List.getElem?_eq_getElem (by omega))
        have e0 : (a.add (0 * P.cellsOf e)).add 0 = a := by simp [Addr.add]
        rw [e0] at h5
        exact (env_of_cell h5).1
      refine ⟨hsp0, ?_⟩
      obtain ⟨b, o, s⟩ := a
      simp only at hsp0
      subst hsp0
      rw [add_plain, add_plain, Nat.add_assoc, e1] at h4
      exact h4
    refine ⟨_, rfl, l.map (·.1), by rw [List.length_map, hll, hxl], hcl, fun i cs x hcs hx => ?_, ?_⟩
    · rw [List.getElem?_map] at hcs
      cases hy : l[i]? with
      | none => rw [hy] at hcs; cases hcs
      | some y =>
        rw [hy] at hcs; cases hcs
        have := (hq i y hy).1
        rw [hx] at this; cases this
        exact (hq i y hy).2.2.1
    · rw [hxl]
      refine ⟨?_, by rw [flat_len hcl, List.length_map, hll], by unfold maxLen at hm; omega, fun k u hk => (hcell k u hk).2, fun a' c' e' => by cases e'; exact hl⟩
      rcases Nat.eq_zero_or_pos len with h0 | h0
      · exact .inl ⟨h0, _, _, by rw [h0]⟩
      · right
        have hpos : 0 < (l.map (·.1)).flatten.length := by rw [flat_len hcl, List.length_map, hll]; exact Nat.mul_pos h0 hsz
        have := (hcell 0 _ (List.getElem?_eq_getElem hpos)).1
        refine ⟨cap, ?_⟩
        cases a
        simp only at this
        subst this
        rfl
def rectD (r : Rect) : DataW Unit := .agg ([r.x, r.y, r.w, r.h, r.p].map fun z => .lit (.int .i64 z))
theorem told_rect {W : World} {sp : Nat → Bool} {held : Bool} {n : Nat} {cs : List Value} {r : Rect} {p : List MemPlace} (h : DataW.trod (fun _ => ()) Tryd.prog W 0 sp held n 184 cs = some (rectD r, p)) : cs = rectC r :=
  Lib.ints_of_struct Tryd.underlying184 (fun i f hf => by
    have hi : i < 5 := (Array.getElem?_eq_some_iff.1 hf).1
    have : i = 0 ∨ i = 1 ∨ i = 2 ∨ i = 3 ∨ i = 4 := by omega
    rcases this with rfl | rfl | rfl | rfl | rfl <;> (cases hf; exact ⟨by kernel_rfl, by kernel_rfl, by kernel_rfl⟩)) (by kernel_rfl) h
theorem told_quart {W : World} {sp : Nat → Bool} {held : Bool} {n : Nat} {v : Value} {k : Nat} {p : List MemPlace} (h : DataW.trod (fun _ => ()) Tryd.prog W 0 sp held n 168 [v] = some (.slice ((quart k).map rectD) [], p)) : ListE rectR 5 (envOf W) v (quart k) := by
  have he : ∀ (n : Nat) (cs : List Value) (a : Rect) (p : List MemPlace), a ∈ quart k → DataW.trod (fun _ => ()) Tryd.prog W 0 sp held n 184 cs = some (rectD a, p) → cs.length = 5 ∧ rectR (envOf W) cs a := by
    intro n cs a p ha hd
    rw [told_rect hd]
    refine ⟨rfl, rfl, ?_⟩
    unfold quart at ha
    split at ha
    · rw [List.mem_singleton] at ha; subst ha; decide
    split at ha
    · simp only [List.mem_cons, List.not_mem_nil, or_false] at ha; rcases ha with rfl | rfl <;> decide
    split at ha
    · simp only [List.mem_cons, List.not_mem_nil, or_false] at ha; rcases ha with rfl | rfl <;> decide
    · simp only [List.mem_cons, List.not_mem_nil, or_false] at ha; rcases ha with rfl | rfl | rfl | rfl <;> decide
  obtain ⟨v', hv, hl⟩ := told_slice (R := rectR) (D := rectD) (sz := 5) (xs := quart k) Tryd.underlying168 (by kernel_rfl) (by decide) he h
  cases hv; exact hl
theorem mbg_of {W : World} (h1 : Lib.VarReads Tryd.prog W "spindle/kinds.quarters" (.agg [.slice ((quart 0).map rectD) [], .slice ((quart 1).map rectD) [], .slice ((quart 2).map rectD) [], .slice ((quart 3).map rectD) []]))
    (h2 : Lib.VarReads Tryd.prog W "spindle/mb.sizes" (.agg [.lit (.int .i64 16), .lit (.int .i64 15), .lit (.int .i64 16), .lit (.int .i64 4), .lit (.int .i64 15)])) : MbG (envOf W) := by
  constructor
  · obtain ⟨g, t, cs, fuel, p, hg, ht, hv, hd⟩ := h2
    have hg0 := hg
    obtain rfl : g = 0 := (Option.some.inj ((show Tryd.prog.globalNamed "spindle/mb.sizes" = some 0 by kernel_rfl).symm.trans hg)).symm
    obtain rfl : t = 148 := (Option.some.inj ((show (Tryd.prog.globals[0]?).map (·.type) = some 148 by kernel_rfl).symm.trans ht)).symm
    have c5 : Tryd.prog.cellsOf 3 = 1 := by kernel_rfl
    have c29 : Tryd.prog.cellsOf 148 = 5 := by kernel_rfl
    obtain ⟨xs, m, _, ex, hlen, hl, hel⟩ := DataW.trod_array Tryd.underlying148 hd
    rw [c29] at hlen
    have e3 := DataW.agg.inj (Prod.mk.inj ex).1
    intro i z hz
    have hi : i < 5 := (List.getElem?_eq_some_iff.1 hz).1
    have k0 := hel i hi
    rw [c5] at k0
    obtain ⟨x, hx⟩ : ∃ x, xs[i]? = some x := ⟨_, List.getElem?_eq_getElem (by omega)⟩
    rw [hx] at k0
    obtain ⟨y, ay, by0, _⟩ := DataW.trod_int Tryd.underlying3 k0
    have h4 : cs[i]? = some (.int .i64 y) := by
      have := congrArg (·[0]?) ay
      rw [← Array.getElem?_toList]
      simpa [List.getElem?_take, List.getElem?_drop] using this
    have h5 : y = z := by
      have h6 := congrArg (·[i]?) e3
      simp only [List.getElem?_map, hx, Option.map_some, by0] at h6
      have : i = 0 ∨ i = 1 ∨ i = 2 ∨ i = 3 ∨ i = 4 := by omega
      rcases this with rfl | rfl | rfl | rfl | rfl <;> (cases hz; cases h6; rfl)
    rw [h5] at h4
    exact (env_of_cell ((World.var?_cell hg0 hv i).trans h4)).2
  · obtain ⟨g, t, cs, fuel, p, hg, ht, hv, hd⟩ := h1
    have hg0 := hg
    obtain rfl : g = 1 := (Option.some.inj ((show Tryd.prog.globalNamed "spindle/kinds.quarters" = some 1 by kernel_rfl).symm.trans hg)).symm
    obtain rfl : t = 185 := (Option.some.inj ((show (Tryd.prog.globals[1]?).map (·.type) = some 185 by kernel_rfl).symm.trans ht)).symm
    have c5 : Tryd.prog.cellsOf 168 = 1 := by kernel_rfl
    have c29 : Tryd.prog.cellsOf 185 = 4 := by kernel_rfl
    obtain ⟨xs, m, _, ex, hlen, hl, hel⟩ := DataW.trod_array Tryd.underlying185 hd
    rw [c29] at hlen
    have e3 := DataW.agg.inj (Prod.mk.inj ex).1
    intro i hi
    have k0 := hel i hi
    rw [c5] at k0
    obtain ⟨x, hx⟩ : ∃ x, xs[i]? = some x := ⟨_, List.getElem?_eq_getElem (by omega)⟩
    rw [hx] at k0
    have hcl : i < cs.toList.length := by rw [hlen]; exact hi
    have h4 : cs[i]? = some cs.toList[i] := by rw [← Array.getElem?_toList]; exact List.getElem?_eq_getElem hcl
    have h5 : (cs.toList.drop (i * 1)).take 1 = [cs.toList[i]] := by rw [Nat.mul_one, List.drop_eq_getElem_cons hcl]; rfl
    rw [h5] at k0
    generalize cs.toList[i] = q at *
    refine ⟨q, (env_of_cell ((World.var?_cell hg0 hv i).trans h4)).2, ?_⟩
    obtain ⟨x1, x2⟩ := x
    have h6 : x1 = .slice ((quart i).map rectD) [] := by
      have h6 := congrArg (·[i]?) e3
      simp only [List.getElem?_map, hx, Option.map_some] at h6
      have : i = 0 ∨ i = 1 ∨ i = 2 ∨ i = 3 := by omega
      rcases this with rfl | rfl | rfl | rfl <;> exact (Option.some.inj h6).symm
    subst h6
    exact told_quart k0
end Go.Proofs.YtomfoaaaeidpnaaDoor
