/-
  Arguments opened: what is handed in, read as plain data.
-/
import Derived.Test.YtomfoaaaeidpnaaDoorSlH
import Derived.ChangeOld
import Derived.WalkKit
import Derived.OpenShut
import Derived.ChangeArms
import Derived.Deep.DeepHandedRow
set_option linter.unusedVariables false
set_option linter.unusedSimpArgs false
namespace Go.Proofs.YtomfoaaaeidpnaaDoor
open Go Go.RowKit
theorem bs_ex (x : ByteArray) : ∃ s : List UInt8, x = bs s := ⟨x.data.toList, by cases x; simp [bs]⟩
theorem u8_ex {n : Int} (h : (Lit.int .u8 n).wf = true) : ∃ b : UInt8, n = (b.toNat : Int) := by
  have h' : 0 ≤ n ∧ n ≤ 255 := by simpa [Lit.wf, IntKind.min, IntKind.max, IntKind.signed, IntKind.bits] using h
  exact ⟨UInt8.ofNat n.toNat, by rw [UInt8.toNat_ofNat']; omega⟩
theorem trod_lts {H : Type} {enc : TypeId × Value → H} {P : Program} {w : World} {base : Nat} {sp : Nat → Bool} {held : Bool} {t : TypeId} {v : Value} {d : DataW H} {ps : List MemPlace} (h : DataW.Trod enc P w base sp held t v d ps) : ∀ x ∈ ps, x.block < w.heap.size := by
  obtain ⟨m, hm⟩ := h; exact DataW.trod_lt m _ _ _ hm
abbrev Light {H : Type} (P : Program) (t : TypeId) (d : DataW H) : Prop := (d.weights P t).all (· ≤ reachBytes) = true
/-- What is read at type t opens as R, and is as Ok says. -/
def Opens {α : Type} (P : Program) (t : TypeId) (sz : Nat) (R : Rd α) (Ok : α → Prop) : Prop :=
  ∀ (H : Type) (enc : TypeId × Value → H) (W : World) (sp : Nat → Bool) (held : Bool) (n : Nat) (cs : List Value) (x : DataW H × List MemPlace),
    DataW.trod enc P W 0 sp held n t cs = some x → Light P t x.1 → cs.length = sz ∧ ∃ y, R (envOf W) cs y ∧ Ok y
def boolR : Rd Bool := fun _ cs b => cs = [.bool b]
section
variable {P : Program} {t e : TypeId}
theorem opens_int (ht : P.underlying t = some (.int .i64)) : Opens P t 1 intR (fun _ => True) := by
  intro H enc W sp held n cs x h _
  obtain ⟨k, rfl, _, hw⟩ := DataW.trod_int ht h
  have h' : -9223372036854775808 ≤ k ∧ k ≤ 9223372036854775807 := by simpa [Lit.wf, IntKind.min, IntKind.max, IntKind.signed, IntKind.bits] using hw
  exact ⟨rfl, k, ⟨rfl, h'⟩, trivial⟩
theorem opens_u8 (ht : P.underlying t = some (.int .u8)) : Opens P t 1 u8R (fun _ => True) := by
  intro H enc W sp held n cs x h _
  obtain ⟨k, rfl, _, hw⟩ := DataW.trod_int ht h
  obtain ⟨b, rfl⟩ := u8_ex hw
  exact ⟨rfl, b, rfl, trivial⟩
theorem opens_bool (ht : P.underlying t = some .bool) : Opens P t 1 boolR (fun _ => True) := by
  intro H enc W sp held n cs x h _
  obtain ⟨b, rfl, _⟩ := DataW.trod_bool ht h
  exact ⟨rfl, b, rfl, trivial⟩
theorem opens_str (ht : P.underlying t = some .string) : Opens P t 1 strR (fun _ => True) := by
  intro H enc W sp held n cs x h _
  obtain ⟨s, rfl, _, hs⟩ := DataW.trod_string ht h
  obtain ⟨l, rfl⟩ := bs_ex s
  rw [bs_size] at hs
  exact ⟨rfl, l, ⟨rfl, by unfold maxLen at hs; omega⟩, trivial⟩
theorem list_of {β : Type} {Q : Nat → β → Prop} : ∀ (n : Nat), (∀ i, i < n → ∃ y, Q i y) → ∃ l : List β, l.length = n ∧ ∀ i y, l[i]? = some y → Q i y
  | 0, _ => ⟨[], rfl, by simp⟩
  | n + 1, h => by
    obtain ⟨l, hl, hq⟩ := list_of n fun i hi => h i (by omega)
    obtain ⟨y, hy⟩ := h n (by omega)
    refine ⟨l ++ [y], by simp [hl], fun i z hz => ?_⟩
    rcases Nat.lt_or_ge i n with hi | hi
    · rw [List.getElem?_append_left (by omega)] at hz; exact hq i z hz
    · have hin : i = n := by have := (List.getElem?_eq_some_iff.1 hz).1; simp at this; omega
      subst hin
      rw [List.getElem?_append_right (by omega), hl, Nat.sub_self] at hz
      cases hz; exact hy
theorem all_weightsAll {H : Type} {p : Nat → Bool} : ∀ {l : List (DataW H)}, (DataW.weightsAll P e l).all p = true → ∀ d ∈ l, (d.weights P e).all p = true
  | [], _, d, hd => by cases hd
  | x :: r, h, d, hd => by
    unfold DataW.weightsAll at h
    rw [List.all_append, Bool.and_eq_true] at h
    rcases List.mem_cons.1 hd with rfl | hd
    · exact h.1
    · exact all_weightsAll h.2 d hd
theorem all_weightsEach {H : Type} {p : Nat → Bool} : ∀ {ts : List TypeId} {l : List (DataW H)}, (DataW.weightsEach P ts l).all p = true → ∀ (i : Nat) (t : TypeId) (d : DataW H), ts[i]? = some t → l[i]? = some d → (d.weights P t).all p = true
  | [], _, _, i, t, d, ht, _ => by simp at ht
  | _ :: _, [], _, i, t, d, _, hd => by simp at hd
  | t0 :: ts, d0 :: l, h, i, t, d, ht, hd => by
    unfold DataW.weightsEach at h
    rw [List.all_append, Bool.and_eq_true] at h
    cases i with
    | zero => simp at ht hd; subst ht hd; exact h.1
    | succ i => exact all_weightsEach h.2 i t d (by simpa using ht) (by simpa using hd)
theorem env_of_cell {W : World} {a : Addr} {v : Value} (h : W.cell? a = some v) : a.spot = none ∧ (envOf W).cell? ⟨a.block, a.off, none⟩ = some v := by
  unfold World.cell? at h
  unfold Env.cell? envOf
  dsimp only
  cases hb : W.heap[a.block]? with
  | none => rw [hb] at h; cases h
  | some o =>
    rw [hb] at h
    cases o <;> first | (cases h; done) | skip
    all_goals
      dsimp only at h ⊢
      cases hs : a.spot with
      | none => rw [hs] at h; simpa using h
      | some s => rw [hs] at h; simp at h
abbrev SOk {α : Type} (P : Program) (e : TypeId) (Ok : α → Prop) (xs : List α) : Prop := (∀ x ∈ xs, Ok x) ∧ xs.length * P.bytesOf e ≤ reachBytes
theorem opens_slice {α : Type} {sz : Nat} {R : Rd α} {Ok : α → Prop} (ht : P.underlying t = some (.slice e)) (hc : P.cellsOf e = sz) (hsz : 0 < sz) (he : Opens P e sz R Ok) :
    Opens P t 1 (listR R sz) (SOk P e Ok) := by
  subst hc
  intro H enc W sp held n cs x h hw
  rcases DataW.trod_slice ht h with ⟨rfl, rfl⟩ | ⟨a, len, cap, elems, rest, m, _, rfl, rfl, hb, hl, hm, hlen, hel, hsp, hns⟩
  · exact ⟨rfl, [], ⟨_, rfl, ListE.nil⟩, by simp, by simp⟩
  · have hw2 : ((elems.length + rest.length) * P.bytesOf e ≤ reachBytes) ∧ ∀ y ∈ elems, Light P e y.1 := by
      unfold Light DataW.weights at hw
      simp only [ht, List.length_map, List.all_cons, List.all_append, Bool.and_eq_true, decide_eq_true_eq] at hw
      exact ⟨hw.1, fun y hy => all_weightsAll hw.2.1 y.1 (List.mem_map_of_mem hy)⟩
    have each : ∀ i, i < len → ∃ y : List Value × α, y.1.length = P.cellsOf e ∧ R (envOf W) y.1 y.2 ∧ Ok y.2 ∧ ∀ k u, y.1[k]? = some u → W.cell? ((a.add (i * P.cellsOf e)).add k) = some u := by
      intro i hi
      have h1 := hel i hi
      obtain ⟨y, hy⟩ : ∃ y, elems[i]? = some y := ⟨_, List.getElem?_eq_getElem (by omega)⟩
      rw [hy, Option.bind_eq_some_iff] at h1
      obtain ⟨cs', h2, h3⟩ := h1
      obtain ⟨h4, z, h5, h6⟩ := he H enc W sp held m cs' y h3 (hw2.2 y (List.mem_of_getElem? hy))
      refine ⟨(cs', z), h4, h5, h6, fun k u hk => ?_⟩
      unfold World.cells? at h2
      split at h2
      · have hk' : k < cs'.length := (List.getElem?_eq_some_iff.1 hk).1
        have h7 := mapM_some_get h2 k k (by rw [List.getElem?_range (by omega)])
        rw [h7]; exact hk
      · cases h2
    obtain ⟨l, hll, hq⟩ := list_of len each
    have hcl : ∀ cs ∈ l.map (·.1), cs.length = P.cellsOf e := by
      intro cs hcs
      obtain ⟨y, hy, rfl⟩ := List.mem_map.1 hcs
      obtain ⟨i, hi⟩ := List.getElem?_of_mem hy
      exact (hq i y hi).1
    have hcell : ∀ k u, (l.map (·.1)).flatten[k]? = some u → a.spot = none ∧ (envOf W).cell? ⟨a.block, a.off + k, none⟩ = some u := by
      intro k u hk
      have hk' : k < len * P.cellsOf e := by
        have := (List.getElem?_eq_some_iff.1 hk).1
        rw [flat_len hcl, List.length_map, hll] at this
        exact this
      have hi : k / P.cellsOf e < len := Nat.div_lt_of_lt_mul (by rw [Nat.mul_comm]; exact hk')
      obtain ⟨y, hy⟩ : ∃ y, l[k / P.cellsOf e]? = some y := ⟨_, List.getElem?_eq_getElem (by omega)⟩
      have h1 := flat_at hcl (i := k / P.cellsOf e) (cs := y.1) (by rw [List.getElem?_map, hy]; rfl) (k % P.cellsOf e) (Nat.mod_lt _ hsz)
      have e1 : k / P.cellsOf e * P.cellsOf e + k % P.cellsOf e = k := Nat.div_add_mod' k _
      rw [e1, hk] at h1
      have h2 := (hq _ y hy).2.2.2 _ u h1.symm
      obtain ⟨h3, h4⟩ := env_of_cell h2
      have hsp0 : a.spot = none := by
        obtain ⟨y0, hy0⟩ : ∃ y, l[0]? = some y := ⟨_, List.getElem?_eq_getElem (by rw [hll]; exact Nat.lt_of_le_of_lt (Nat.zero_le _) hi)⟩
        have hl0 := (hq 0 y0 hy0).1
        have h5 := (hq 0 y0 hy0).2.2.2 0 _ (List.getElem?_eq_getElem (by omega))
        have e0 : (a.add (0 * P.cellsOf e)).add 0 = a := by simp [Addr.add]
        rw [e0] at h5
        exact (env_of_cell h5).1
      refine ⟨hsp0, ?_⟩
      obtain ⟨b, o, s⟩ := a
      simp only at hsp0
      subst hsp0
      rw [add_plain, add_plain, Nat.add_assoc, e1] at h4
      exact h4
    refine ⟨rfl, l.map (·.2), ⟨_, rfl, l.map (·.1), by simp, hcl, fun i cs x hcs hx => ?_, ?_⟩, fun x hx => ?_, ?_⟩
    · rw [List.getElem?_map] at hcs hx
      cases hy : l[i]? with
      | none => rw [hy] at hcs; cases hcs
      | some y => rw [hy] at hcs hx; cases hcs; cases hx; exact (hq i y hy).2.1
    · rw [List.length_map, hll]
      refine ⟨?_, by rw [flat_len hcl, List.length_map, hll], by unfold maxLen at hm; omega, fun k u hk => (hcell k u hk).2, fun a' c' e' => by cases e'; exact hl⟩
      rcases Nat.eq_zero_or_pos len with h0 | h0
      · exact .inl ⟨h0, _, _, by rw [h0]⟩
      · right
        have hpos : 0 < (l.map (·.1)).flatten.length := by rw [flat_len hcl, List.length_map, hll]; exact Nat.mul_pos h0 hsz
        have := (hcell 0 _ (List.getElem?_eq_getElem hpos)).1
        refine ⟨cap, ?_⟩
        cases a
        simp only at this
        subst this
        rfl
    · obtain ⟨y, hy, rfl⟩ := List.mem_map.1 hx
      obtain ⟨i, hi⟩ := List.getElem?_of_mem hy
      exact (hq i y hi).2.2.1
    · rw [List.length_map, hll, ← hlen]
      exact Nat.le_trans (Nat.mul_le_mul_right _ (by omega)) hw2.1
theorem struct_parts {H : Type} {enc : TypeId × Value → H} {W : World} {sp : Nat → Bool} {held : Bool} {n : Nat} {cs : List Value} {x : DataW H × List MemPlace} {fs : Array Field} (ht : P.underlying t = some (.struct fs)) (h : DataW.trod enc P W 0 sp held n t cs = some x) (hw : Light P t x.1) :
    cs.length = P.cellsOf t ∧ ∀ (i : Nat) (f : Field) (off k : Nat) (T : TypeId), fs[i]? = some f → f.type = T → f.offset = off → P.cellsOf T = k → ∃ m y, DataW.trod enc P W 0 sp held m T ((cs.drop off).take k) = some y ∧ Light P T y.1 := by
  obtain ⟨xs, m, _, rfl, hl, hxl, hf⟩ := DataW.trod_struct ht h
  refine ⟨hl, fun i f off k T hfi hT ho hk => ?_⟩
  subst hT ho hk
  have h1 := hf i f hfi
  have hi : i < xs.length := by rw [hxl]; exact (Array.getElem?_eq_some_iff.1 hfi).1
  obtain ⟨y, hy⟩ : ∃ y, xs[i]? = some y := ⟨_, List.getElem?_eq_getElem hi⟩
  rw [hy] at h1
  refine ⟨m, y, h1, ?_⟩
  unfold Light DataW.weights at hw
  simp only [ht] at hw
  exact all_weightsEach hw i f.type y.1 (by rw [List.getElem?_map, Array.getElem?_toList, hfi]; rfl) (by rw [List.getElem?_map, hy]; rfl)
theorem opens_array {α : Type} {R : Rd α} {n : Nat} {g : α → Value} (ht : P.underlying t = some (.array n e)) (hc : P.cellsOf e = 1) (ht2 : P.cellsOf t = n) (he : Opens P e 1 R (fun _ => True)) (hg : ∀ E cs x, R E cs x → cs = [g x]) :
    Opens P t n (fun _ cs (xs : List α) => xs.length = n ∧ cs = xs.map g) (fun _ => True) := by
  intro H enc W sp held k cs x h hw
  obtain ⟨xs, m, _, rfl, hl, hxl, hf⟩ := DataW.trod_array ht h
  rw [ht2] at hl
  have hw2 : ∀ y ∈ xs, Light P e y.1 := by
    unfold Light DataW.weights at hw
    simp only [ht] at hw
    exact fun y hy => all_weightsAll hw y.1 (List.mem_map_of_mem hy)
  have each : ∀ i, i < n → ∃ z : α, cs[i]? = some (g z) := by
    intro i hi
    have h1 := hf i hi
    obtain ⟨y, hy⟩ : ∃ y, xs[i]? = some y := ⟨_, List.getElem?_eq_getElem (by omega)⟩
    rw [hy, hc, Nat.mul_one] at h1
    obtain ⟨_, z, hz, _⟩ := he H enc W sp held m _ y h1 (hw2 y (List.mem_of_getElem? hy))
    refine ⟨z, ?_⟩
    have h2 := hg _ _ _ hz
    have h3 : ((cs.drop i).take 1)[0]? = some (g z) := by rw [h2]; rfl
    rw [List.getElem?_take, if_pos (by decide), List.getElem?_drop, Nat.add_zero] at h3
    exact h3
  obtain ⟨l, hll, hq⟩ := list_of n each
  refine ⟨hl, l, ⟨hll, ?_⟩, trivial⟩
  apply List.ext_getElem? fun i => ?_
  rcases Nat.lt_or_ge i n with hi | hi
  · obtain ⟨y, hy⟩ : ∃ y, l[i]? = some y := ⟨_, List.getElem?_eq_getElem (by omega)⟩
    rw [hq i y hy, List.getElem?_map, hy]; rfl
  · rw [List.getElem?_eq_none (by omega), List.getElem?_eq_none (by simp; omega)]
end
theorem drop_split {α : Type} (cs : List α) (k n m : Nat) (h : k + n = m) : cs.drop k = (cs.drop k).take n ++ cs.drop m := by
  subst h
  rw [← List.drop_drop]
  exact (List.take_append_drop n (cs.drop k)).symm
end Go.Proofs.YtomfoaaaeidpnaaDoor
