/-
  One cell of what the call itself has made is changed: what stays then.
-/
import Derived.Test.YtomfoaaaeidpnaaDoorSlH
import Derived.Test.YtomfoaaaeidpnaaDoorK1
set_option linter.unusedVariables false
set_option linter.unusedSimpArgs false
namespace Go.Proofs.YtomfoaaaeidpnaaDoor
open Go Go.RowKit
/-- E2 is E with another value in one cell. -/
structure Put (E : Env) (b k : Nat) (r : Value) (E2 : Env) : Prop where
  os : E2.os = E.os
  tape : E2.tape = E.tape
  output : E2.output = E.output
  ne : ∀ c o, c ≠ b → E.H c = some o → E2.H c = some o
  keep : ∀ j u, j ≠ k → E.cell? ⟨b, j, none⟩ = some u → E2.cell? ⟨b, j, none⟩ = some u
  new : E2.cell? ⟨b, k, none⟩ = some r
theorem Put.le {A E E2 : Env} {b k : Nat} {r : Value} (h : Put E b k r E2) (hA : A.Le E) (hb : A.H b = none) : A.Le E2 :=
  ⟨h.os.trans hA.os, h.tape.trans hA.tape, h.output.trans hA.output, fun c o hc => h.ne c o (fun e => by subst e; rw [hb] at hc; cases hc) (hA.H c o hc)⟩
theorem Put.cell {E E2 : Env} {b k c j : Nat} {r u : Value} (h : Put E b k r E2) (hv : E.cell? ⟨c, j, none⟩ = some u) (hn : ¬ (c = b ∧ j = k)) : E2.cell? ⟨c, j, none⟩ = some u := by
  by_cases hc : c = b
  · subst hc
    exact h.keep j u (fun e => hn ⟨rfl, e⟩) hv
  · unfold Env.cell? at hv ⊢
    cases hb : E.H c with
    | none => simp only [hb] at hv; cases hv
    | some o => rw [h.ne c o hc hb]; simp only [hb] at hv; exact hv
theorem Put.or {E E2 : Env} {b k c j : Nat} {r u : Value} (h : Put E b k r E2) (hv : E.cell? ⟨c, j, none⟩ = some u) : E2.cell? ⟨c, j, none⟩ = some u ∨ (c = b ∧ j = k) ∧ E2.cell? ⟨c, j, none⟩ = some r := by
  by_cases hc : c = b ∧ j = k
  · obtain ⟨rfl, rfl⟩ := hc
    exact .inr ⟨⟨rfl, rfl⟩, h.new⟩
  · exact .inl (h.cell hv hc)
theorem sub_none {E E0 : Env} {b k : Nat} {u : Value} (h : (E.sub E0).cell? ⟨b, k, none⟩ = some u) : E0.H b = none := by
  unfold Env.cell? at h
  cases hb : (E.sub E0).H b with
  | none => simp only [hb] at h; cases h
  | some o => exact (sub_at.1 hb).1
theorem cell_some {E : Env} {b k : Nat} {u : Value} (h : E.cell? ⟨b, k, none⟩ = some u) : E.H b ≠ none := by
  intro e
  unfold Env.cell? at h
  simp only [e] at h
  cases h
/-- Two calls' new memory is apart. -/
theorem sub_apart {E0 E1 E2 E3 : Env} {b k : Nat} {u : Value} (h : E1.Le E2) (hv : (E1.sub E0).cell? ⟨b, k, none⟩ = some u) : (E3.sub E2).H b = none := by
  cases hb : (E3.sub E2).H b with
  | none => rfl
  | some o =>
    have h2 := (sub_at.1 hb).1
    cases hc : (E1.sub E0).H b with
    | none => exact absurd hc (cell_some hv)
    | some o' => rw [h.H b o' (sub_at.1 hc).2.1] at h2; cases h2
theorem sub_apart' {E0 E1 E2 E3 : Env} {b k : Nat} {u : Value} (h : E1.Le E2) (hv : (E3.sub E2).cell? ⟨b, k, none⟩ = some u) : (E1.sub E0).H b = none := by
  have h2 := sub_none hv
  cases hb : (E1.sub E0).H b with
  | none => rfl
  | some o => rw [h.H b o (sub_at.1 hb).2.1] at h2; cases h2
theorem heap_freeze {E : Env} {L : List Item} {w : World} {F : Env} {ks : List Nat} (h : Sat E (heap F.H ks :: L) w) (hk : HeapOk F ks) : ∃ E', E.Le E' ∧ (∀ b o, F.H b = some o → E'.H b = some o) ∧ Sat E' L w := by
  have hp : (heap F.H ks).p w := h.own _ (List.mem_cons_self ..)
  have hoff : ∀ b, (F.H b).isSome → E.H b = none := fun b hb => h.off _ (List.mem_cons_self ..) b ((hk.mem b).2 hb)
  refine ⟨{ E with H := fun b => if (F.H b).isSome then F.H b else E.H b }, ⟨rfl, rfl, rfl, fun b o hb => ?_⟩, fun b o hb => ?_, ⟨h.os, h.tape, h.output, fun b o hb => ?_, h.tail.own, fun it hit b hb => ?_, h.tail.nd⟩⟩
  · dsimp only
    split
    · rename_i hs; rw [hoff b hs] at hb; cases hb
    · exact hb
  · dsimp only
    rw [if_pos (by rw [hb]; rfl)]; exact hb
  · dsimp only at hb
    split at hb
    · rename_i hs
      obtain ⟨o', h1, h2⟩ := hp b ((hk.mem b).2 hs)
      rw [hb] at h1; cases h1; exact h2
    · exact h.per b o hb
  · dsimp only
    split
    · rename_i hs
      have hbk := (hk.mem b).2 hs
      have hnd := h.nd
      rw [List.flatMap_cons, List.nodup_append] at hnd
      exact absurd rfl (hnd.2.2 b hbk b (List.mem_flatMap.2 ⟨it, hit, hb⟩))
    · exact h.off it (List.mem_cons_of_mem _ hit) b hb
section
variable {ro : Option Nat} {P : Program} {l : List Value} {ds : List Deferred} {w : World} {next : List Value → World → Prop} {Q : Exit → Act → World → Prop}
variable {d : Option Tmp} {ty : TypeId} {pos : String} {aft : Array Edge} {g : Option (Nat × Bool)} {T : TypeId} {X Y : Operand}
variable {E E0 : Env} {L : List Item} {u : TypeDesc} {z : Value} {zs : List Value} {sz by_ : Nat}
theorem t_store_new (E0 : Env) (k : Nat) {b off : Nat} {r old : Value} [t : Ty P T u z zs 1 by_] (hx : ev l X = .pointer (some ⟨b, off, none⟩)) (he : off = k) (hy : ev l Y = r) (h1 : r.oneCell' = true) (hA : Sat E L w) (h0 : E0.Le E) (hv : (E.sub E0).cell? ⟨b, k, none⟩ = some old)
    (h : ∀ E2 w', Put E b k r E2 → Put (E.sub E0) b k r (E2.sub E0) → E0.Le E2 → Sat E2 L w' → next (put l d undef) w') : OW ro P ⟨d, .store T X Y, ty, pos, aft, g⟩ l ds w next Q := by
  obtain ⟨o, hob⟩ : ∃ o, (E.sub E0).H b = some o := by
    cases hb : (E.sub E0).H b with
    | none => exact absurd hb (cell_some hv)
    | some o => exact ⟨o, rfl⟩
  obtain ⟨g1, g2, g3⟩ := sub_at.1 hob
  obtain ⟨cur, e, rfl⟩ := plainO_shape g3
  have hck : cur[k]? = some old := by
    unfold Env.cell? at hv
    simp only [hob] at hv
    exact hv
  let E1 : Env := { E with H := fun c => if c = b then none else E.H c }
  have h11 : E1.Le E := ⟨rfl, rfl, rfl, fun c o hc => by
    simp only [E1] at hc
    split at hc
    · cases hc
    · exact hc⟩
  have g4 : (E.sub E1).H b = some (.cells cur e (0, 0)) := sub_at.2 ⟨by simp [E1], g2, g3⟩
  have g5 : (E.sub E1).cell? ⟨b, k, none⟩ = some old := by
    unfold Env.cell?
    simp only [g4]
    exact hck
  obtain ⟨ks, hk, hA'⟩ := hA.thawS h11
  refine t_store_heap 0 k hx he hy h1 hA' rfl hk g5 fun w' hA2 => ?_
  have hA2 : Sat E1 (heap ((E.sub E1).put b k r).H ks :: L) w' := hA2
  obtain ⟨E2, h12, hF, hA3⟩ := heap_freeze hA2 hk.put
  have g6 : E2.H b = some (.cells (cur.setIfInBounds k r) e (0, 0)) := hF b _ (by simp only [Env.put, if_true, g4])
  have hlt : k < cur.size := (Array.getElem?_eq_some_iff.1 hck).1
  have hne : ∀ c o, c ≠ b → E.H c = some o → E2.H c = some o := fun c o hc ho => h12.H c o (by simp only [E1, if_neg hc]; exact ho)
  have h02 : E0.Le E2 := ⟨h12.os.trans h0.os, h12.tape.trans h0.tape, h12.output.trans h0.output, fun c o hc => hne c o (fun e => by subst e; rw [g1] at hc; cases hc) (h0.H c o hc)⟩
  have g7 : (E2.sub E0).H b = some (.cells (cur.setIfInBounds k r) e (0, 0)) := sub_at.2 ⟨g1, g6, rfl⟩
  refine h E2 w' ⟨h12.os, h12.tape, h12.output, hne, fun j u hj hu => ?_, ?_⟩ ⟨h12.os, h12.tape, h12.output, fun c o hc ho => ?_, fun j u hj hu => ?_, ?_⟩ h02 hA3
  · unfold Env.cell? at hu ⊢
    simp only [g2, g6] at hu ⊢
    simp only [Option.isSome_none, Bool.false_eq_true, if_false] at hu ⊢
    rw [Array.getElem?_setIfInBounds, if_neg (fun e => hj e.symm)]
    exact hu
  · unfold Env.cell?
    simp only [g6, Option.isSome_none, Bool.false_eq_true, if_false]
    simp [hlt]
  · obtain ⟨a1, a2, a3⟩ := sub_at.1 ho
    exact sub_at.2 ⟨a1, hne c o hc a2, a3⟩
  · unfold Env.cell? at hu ⊢
    simp only [hob, g7] at hu ⊢
    simp only [Option.isSome_none, Bool.false_eq_true, if_false] at hu ⊢
    rw [Array.getElem?_setIfInBounds, if_neg (fun e => hj e.symm)]
    exact hu
  · unfold Env.cell?
    simp only [g7, Option.isSome_none, Bool.false_eq_true, if_false]
    simp [hlt]
end
/-- A list whose elements are changed one by one. -/
theorem ListE.change {α : Type} {R : Rd α} {sz : Nat} {E E2 : Env} {v : Value} {xs : List α} (hsz : 0 < sz) (P : Nat → α → α → Prop) (h : ListE R sz E v xs)
    (f : ∀ i cs x, xs[i]? = some x → cs.length = sz → R E cs x → (∀ j u, cs[j]? = some u → E.cell? ⟨sB v, sO v + i * sz + j, none⟩ = some u) →
      ∃ cs' x', cs'.length = sz ∧ R E2 cs' x' ∧ P i x x' ∧ (∀ j u, cs'[j]? = some u → E2.cell? ⟨sB v, sO v + i * sz + j, none⟩ = some u)) :
    ∃ ys : List α, ys.length = xs.length ∧ (∀ (i : Nat) x y, xs[i]? = some x → ys[i]? = some y → P i x y) ∧ ListE R sz E2 v ys := by
  have hg : ∀ i : Fin xs.length, ∃ p : List Value × α, p.1.length = sz ∧ R E2 p.1 p.2 ∧ P i.1 xs[i.1] p.2 ∧ (∀ j u, p.1[j]? = some u → E2.cell? ⟨sB v, sO v + i.1 * sz + j, none⟩ = some u) := fun i => by
    obtain ⟨cs, h1, h2, h3⟩ := h.get (List.getElem?_eq_getElem i.2)
    obtain ⟨cs', x', a1, a2, a3, a4⟩ := f i.1 cs _ (List.getElem?_eq_getElem i.2) h1 h2 h3
    exact ⟨(cs', x'), a1, a2, a3, a4⟩
  obtain ⟨css, _, _, _, hs⟩ := h
  let g : Fin xs.length → List Value × α := fun i => Classical.choose (hg i)
  have gs : ∀ i, (g i).1.length = sz ∧ R E2 (g i).1 (g i).2 ∧ P i.1 xs[i.1] (g i).2 ∧ (∀ j u, (g i).1[j]? = some u → E2.cell? ⟨sB v, sO v + i.1 * sz + j, none⟩ = some u) := fun i => Classical.choose_spec (hg i)
  have hcl : ∀ cs ∈ List.ofFn (fun i => (g i).1), cs.length = sz := fun cs hc => by
    obtain ⟨i, rfl⟩ := List.mem_ofFn.1 hc
    exact (gs i).1
  refine ⟨List.ofFn fun i => (g i).2, by simp, fun i x y hx hy => ?_, List.ofFn fun i => (g i).1, by simp, hcl, fun i cs x hc hx => ?_, ?_⟩
  · have hi : i < xs.length := (List.getElem?_eq_some_iff.1 hx).1
    rw [List.getElem?_eq_getElem hi] at hx
    rw [List.getElem?_ofFn, dif_pos hi] at hy
    cases hx; cases hy
    exact (gs ⟨i, hi⟩).2.2.1
  · have hi : i < xs.length := by
      have := (List.getElem?_eq_some_iff.1 hc).1
      simpa using this
    rw [List.getElem?_ofFn, dif_pos hi] at hc hx
    cases hc; cases hx
    exact (gs ⟨i, hi⟩).2.1
  · have hfl := flat_len hcl
    rw [List.length_ofFn] at hfl
    refine ⟨by rw [List.length_ofFn]; exact hs.sh, by rw [List.length_ofFn]; exact hfl, by rw [List.length_ofFn]; exact hs.le, fun k u hk => ?_, by rw [List.length_ofFn]; exact hs.cap⟩
    have hk' : k < xs.length * sz := by rw [← hfl]; exact (List.getElem?_eq_some_iff.1 hk).1
    have hi : k / sz < xs.length := (Nat.div_lt_iff_lt_mul hsz).2 hk'
    have hk2 : k = k / sz * sz + k % sz := by rw [Nat.mul_comm]; exact (Nat.div_add_mod k sz).symm
    have hc : (List.ofFn fun i => (g i).1)[k / sz]? = some (g ⟨k / sz, hi⟩).1 := by rw [List.getElem?_ofFn, dif_pos hi]
    rw [hk2, flat_at hcl hc _ (Nat.mod_lt _ hsz)] at hk
    have := (gs ⟨k / sz, hi⟩).2.2.2 _ _ hk
    rw [show sO v + k = sO v + k / sz * sz + k % sz by omega]
    exact this
theorem set_ext {α : Type} {xs ys : List α} {i : Nat} {a : α} (hl : ys.length = xs.length) (h : ∀ (j : Nat) x y, xs[j]? = some x → ys[j]? = some y → y = if j = i then a else x) : ys = xs.set i a :=
  List.ext_getElem (by simp [hl]) fun j g1 g2 => by
    have hj : j < xs.length := by omega
    have := h j _ _ (List.getElem?_eq_getElem hj) (List.getElem?_eq_getElem g1)
    rw [List.getElem_set, this]
    by_cases hji : j = i
    · rw [if_pos hji, if_pos hji.symm]
    · rw [if_neg hji, if_neg (fun e => hji e.symm)]
/-- Numbers of a list, some of them replaced by n. -/
def Near (n : Int) (xs ys : List Int) : Prop := ys.length = xs.length ∧ ∀ (i : Nat) x y, xs[i]? = some x → ys[i]? = some y → y = x ∨ y = n
theorem near_all {n : Int} {xs ys : List Int} (h : Near n xs ys) {p : Int → Prop} (hp : ∀ x ∈ xs, p x) (hn : p n) : ∀ y ∈ ys, p y := by
  intro y hy
  obtain ⟨i, hi⟩ := List.getElem?_of_mem hy
  have hl : i < xs.length := by rw [← h.1]; exact (List.getElem?_eq_some_iff.1 hi).1
  rcases h.2 i _ y (List.getElem?_eq_getElem hl) hi with e | e
  · rw [e]; exact hp _ (List.getElem_mem hl)
  · rw [e]; exact hn
section
variable {E E2 : Env} {b k : Nat} {v r old : Value} {n : Int}
theorem ListE.near {xs : List Int} (h : ListE intR 1 E v xs) (hp : Put E b k (vi n) E2) (hn : I64 n) : ∃ ys : List Int, ListE intR 1 E2 v ys ∧ Near n xs ys ∧ ∀ (i : Nat), i < xs.length → b = sB v → k = sO v + i → ys[i]? = some n := by
  obtain ⟨ys, h1, h2, h3⟩ := ListE.change (E2 := E2) (by decide) (fun i x y => (y = x ∨ y = n) ∧ (b = sB v → k = sO v + i → y = n)) h fun i cs x hx hl hR hc => by
    obtain ⟨rfl, hR2⟩ := hR
    rcases hp.or (hc 0 _ rfl) with h | ⟨he, h⟩
    · by_cases hh : b = sB v ∧ k = sO v + i
      · obtain ⟨rfl, rfl⟩ := hh
        refine ⟨[vi n], n, rfl, ⟨rfl, hn⟩, ⟨.inr rfl, fun _ _ => rfl⟩, fun j u hu => ?_⟩
        cases j with
        | zero => cases hu; rw [show sO v + i * 1 + 0 = sO v + i by omega]; exact hp.new
        | succ j => cases hu
      · refine ⟨[vi x], x, rfl, ⟨rfl, hR2⟩, ⟨.inl rfl, fun e1 e2 => absurd ⟨e1, e2⟩ hh⟩, fun j u hu => ?_⟩
        cases j with
        | zero => cases hu; exact h
        | succ j => cases hu
    · refine ⟨[vi n], n, rfl, ⟨rfl, hn⟩, ⟨.inr rfl, fun _ _ => rfl⟩, fun j u hu => ?_⟩
      cases j with
      | zero => cases hu; exact h
      | succ j => cases hu
  refine ⟨ys, h3, ⟨h1, fun i x y hx hy => (h2 i x y hx hy).1⟩, fun i hi e1 e2 => ?_⟩
  obtain ⟨y, hy⟩ : ∃ y, ys[i]? = some y := ⟨_, List.getElem?_eq_getElem (by omega)⟩
  rw [hy, (h2 i _ y (List.getElem?_eq_getElem hi) hy).2 e1 e2]
theorem ListE.putAt {xs : List Int} (h : ListE intR 1 E v xs) (hp : Put E b k (vi n) E2) (hn : I64 n) {i : Nat} (hb : b = sB v) (hk : k = sO v + i) : ListE intR 1 E2 v (xs.set i n) := by
  obtain ⟨ys, h1, h2, h3⟩ := ListE.change (E2 := E2) (by decide) (fun j x y => y = if j = i then n else x) h fun j cs x hx hl hR hc => by
    obtain ⟨rfl, hR2⟩ := hR
    by_cases hj : j = i
    · subst hj
      refine ⟨[vi n], n, rfl, ⟨rfl, hn⟩, by rw [if_pos rfl], fun t u hu => ?_⟩
      cases t with
      | zero => cases hu; rw [show sO v + j * 1 + 0 = k by omega, ← hb]; exact hp.new
      | succ t => cases hu
    · refine ⟨[vi x], x, rfl, ⟨rfl, hR2⟩, by rw [if_neg hj], fun t u hu => ?_⟩
      cases t with
      | zero => cases hu; exact hp.cell (hc 0 _ rfl) (by omega)
      | succ t => cases hu
  have e : ys = xs.set i n := set_ext h1 h2
  rw [← e]; exact h3
/-- A cell that is no number is none of a list of numbers. -/
theorem ListE.putS {xs : List Int} (h : ListE intR 1 E v xs) (hp : Put E b k r E2) (ho : E.cell? ⟨b, k, none⟩ = some old) (hi : ∀ kd x, old ≠ .int kd x) : ListE intR 1 E2 v xs := by
  obtain ⟨ys, h1, h2, h3⟩ := ListE.change (E2 := E2) (by decide) (fun j x y => y = x) h fun j cs x hx hl hR hc => by
    obtain ⟨rfl, hR2⟩ := hR
    refine ⟨[vi x], x, rfl, ⟨rfl, hR2⟩, rfl, fun t u hu => ?_⟩
    cases t with
    | zero =>
      cases hu
      refine hp.cell (hc 0 _ rfl) ?_
      rintro ⟨rfl, rfl⟩
      rw [hc 0 _ rfl] at ho
      cases ho
      exact hi _ _ rfl
    | succ t => cases hu
  have e : ys = xs := List.ext_getElem (by omega) fun j g1 g2 => h2 j _ _ (List.getElem?_eq_getElem g2) (List.getElem?_eq_getElem g1)
  rw [← e]; exact h3
theorem ListE.putSV {xs : List Vec} (h : ListE vecR 2 E v xs) (hp : Put E b k r E2) (ho : E.cell? ⟨b, k, none⟩ = some old) (hi : ∀ kd x, old ≠ .int kd x) : ListE vecR 2 E2 v xs := by
  obtain ⟨ys, h1, h2, h3⟩ := ListE.change (E2 := E2) (by decide) (fun j x y => y = x) h fun j cs x hx hl hR hc => by
    obtain ⟨rfl, hR2⟩ := hR
    have hh : ∀ t z, (E.cell? ⟨sB v, sO v + j * 2 + t, none⟩ = some (vi z)) → E2.cell? ⟨sB v, sO v + j * 2 + t, none⟩ = some (vi z) := fun t z hz => by
      refine hp.cell hz ?_
      rintro ⟨rfl, rfl⟩
      rw [hz] at ho
      cases ho
      exact hi _ _ rfl
    refine ⟨_, x, hl, ⟨rfl, hR2⟩, rfl, fun t u hu => ?_⟩
    match t with
    | 0 => cases hu; exact hh _ _ (hc 0 _ rfl)
    | 1 => cases hu; exact hh _ _ (hc 1 _ rfl)
    | t + 2 => cases hu
  have e : ys = xs := List.ext_getElem (by omega) fun j g1 g2 => h2 j _ _ (List.getElem?_eq_getElem g2) (List.getElem?_eq_getElem g1)
  rw [← e]; exact h3
/-- A list of lists, one of them replaced. -/
theorem ListE.putL {xs : List (List Int)} {q : Value} {y : List Int} (h : ListE (listR intR 1) 1 E v xs) (hp : Put E b k q E2) {i : Nat} (hb : b = sB v) (hk : k = sO v + i) (hi : i < xs.length) (hq : ListE intR 1 E q y) : ListE (listR intR 1) 1 E2 v (xs.set i y) := by
  obtain ⟨cs0, _, ⟨q0, rfl, hq0⟩, hc0⟩ := h.get (List.getElem?_eq_getElem hi)
  have ho : E.cell? ⟨b, k, none⟩ = some q0 := by
    have := hc0 0 _ rfl
    rw [hb, hk, show sO v + i = sO v + i * 1 + 0 by omega]; exact this
  have hn0 : ∀ kd x, q0 ≠ .int kd x := fun kd x e => by
    obtain ⟨c, hc⟩ := hq0.sl
    obtain ⟨a, c', e'⟩ := hc.shape
    rw [e] at e'; cases e'
  obtain ⟨ys, h1, h2, h3⟩ := ListE.change (E2 := E2) (by decide) (fun j x z => z = if j = i then y else x) h fun j cs x hx hl hR hc => by
    obtain ⟨qx, rfl, hR2⟩ := hR
    by_cases hj : j = i
    · subst hj
      refine ⟨[q], y, rfl, ⟨q, rfl, hq.putS hp ho hn0⟩, by rw [if_pos rfl], fun t u hu => ?_⟩
      cases t with
      | zero => cases hu; rw [show sO v + j * 1 + 0 = k by omega, ← hb]; exact hp.new
      | succ t => cases hu
    · refine ⟨[qx], x, rfl, ⟨qx, rfl, hR2.putS hp ho hn0⟩, by rw [if_neg hj], fun t u hu => ?_⟩
      cases t with
      | zero => cases hu; exact hp.cell (hc 0 _ rfl) (by omega)
      | succ t => cases hu
  have e : ys = xs.set i y := set_ext h1 h2
  rw [← e]; exact h3
/-- A number changed: lists of pairs, and of lists. -/
theorem ListE.nearV {xs : List Vec} (h : ListE vecR 2 E v xs) (hp : Put E b k (vi n) E2) (hn : I64 n) : ∃ ys : List Vec, ListE vecR 2 E2 v ys ∧ ys.length = xs.length := by
  obtain ⟨ys, h1, h2, h3⟩ := ListE.change (E2 := E2) (by decide) (fun j x y => True) h fun j cs x hx hl hR hc => by
    obtain ⟨rfl, hx1, hx2⟩ := hR
    have g0 := hp.or (hc 0 _ rfl)
    have g1 := hp.or (hc 1 _ rfl)
    obtain ⟨a, ha, ga⟩ : ∃ a, I64 a ∧ E2.cell? ⟨sB v, sO v + j * 2 + 0, none⟩ = some (vi a) := by
      rcases g0 with g | g
      · exact ⟨_, hx1, g⟩
      · exact ⟨_, hn, g.2⟩
    obtain ⟨c, hcc, gc⟩ : ∃ a, I64 a ∧ E2.cell? ⟨sB v, sO v + j * 2 + 1, none⟩ = some (vi a) := by
      rcases g1 with g | g
      · exact ⟨_, hx2, g⟩
      · exact ⟨_, hn, g.2⟩
    refine ⟨[vi a, vi c], ⟨a, c⟩, rfl, ⟨rfl, ha, hcc⟩, trivial, fun t u hu => ?_⟩
    match t with
    | 0 => cases hu; exact ga
    | 1 => cases hu; exact gc
    | t + 2 => cases hu
  exact ⟨ys, h3, h1⟩
theorem ListE.putVX {xs : List Vec} (h : ListE vecR 2 E v xs) (hp : Put E b k (vi n) E2) (hn : I64 n) {i : Nat} {x0 : Vec} (hx0 : xs[i]? = some x0) (hb : b = sB v) (hk : k = sO v + i * 2) : ListE vecR 2 E2 v (xs.set i ⟨n, x0.y⟩) := by
  obtain ⟨ys, h1, h2, h3⟩ := ListE.change (E2 := E2) (by decide) (fun j x y => y = if j = i then ⟨n, x0.y⟩ else x) h fun j cs x hx hl hR hc => by
    obtain ⟨rfl, hx1, hx2⟩ := hR
    by_cases hj : j = i
    · subst hj
      rw [hx0] at hx
      cases hx
      refine ⟨[vi n, vi x0.y], ⟨n, x0.y⟩, rfl, ⟨rfl, hn, hx2⟩, by rw [if_pos rfl], fun t u hu => ?_⟩
      match t with
      | 0 => cases hu; rw [show sO v + j * 2 + 0 = k by omega, ← hb]; exact hp.new
      | 1 => cases hu; exact hp.cell (hc 1 _ rfl) (by omega)
      | t + 2 => cases hu
    · refine ⟨[vi x.x, vi x.y], x, rfl, ⟨rfl, hx1, hx2⟩, by rw [if_neg hj], fun t u hu => ?_⟩
      match t with
      | 0 => cases hu; exact hp.cell (hc 0 _ rfl) (by omega)
      | 1 => cases hu; exact hp.cell (hc 1 _ rfl) (by omega)
      | t + 2 => cases hu
  have e : ys = xs.set i ⟨n, x0.y⟩ := set_ext h1 h2
  rw [← e]; exact h3
theorem ListE.nearL {xs : List (List Int)} {x0 : Int} (h : ListE (listR intR 1) 1 E v xs) (hp : Put E b k (vi n) E2) (ho : E.cell? ⟨b, k, none⟩ = some (vi x0)) (hn : I64 n) :
    ∃ ys : List (List Int), ListE (listR intR 1) 1 E2 v ys ∧ ys.length = xs.length ∧ (∀ (i : Nat) x y, xs[i]? = some x → ys[i]? = some y → Near n x y) ∧
      ∀ (i : Nat) q x (j : Nat), xs[i]? = some x → E.cell? ⟨sB v, sO v + i, none⟩ = some q → j < x.length → b = sB q → k = sO q + j → ∃ y, ys[i]? = some y ∧ y[j]? = some n := by
  obtain ⟨ys, h1, h2, h3⟩ := ListE.change (E2 := E2) (by decide) (fun i x y => Near n x y ∧ ∀ q j, E.cell? ⟨sB v, sO v + i, none⟩ = some q → j < x.length → b = sB q → k = sO q + j → y[j]? = some n) h fun i cs x hx hl hR hc => by
    obtain ⟨qx, rfl, hR2⟩ := hR
    obtain ⟨y, g1, g2, g3⟩ := hR2.near hp hn
    have hq : E.cell? ⟨sB v, sO v + i, none⟩ = some qx := by
      have := hc 0 _ rfl
      rw [show sO v + i * 1 + 0 = sO v + i by omega] at this; exact this
    refine ⟨[qx], y, rfl, ⟨qx, rfl, g1⟩, ⟨g2, fun q j hq' hj e1 e2 => ?_⟩, fun t u hu => ?_⟩
    · rw [hq] at hq'; cases hq'
      exact g3 j hj e1 e2
    · cases t with
      | zero =>
        cases hu
        refine hp.cell (hc 0 _ rfl) ?_
        rintro ⟨rfl, rfl⟩
        rw [hc 0 _ rfl] at ho
        cases ho
        obtain ⟨c, hc⟩ := hR2.sl
        obtain ⟨a, c', e'⟩ := hc.shape
        cases e'
      | succ t => cases hu
  refine ⟨ys, h3, h1, fun i x y hx hy => (h2 i x y hx hy).1, fun i q x j hx hq hj e1 e2 => ?_⟩
  obtain ⟨y, hy⟩ : ∃ y, ys[i]? = some y := ⟨_, List.getElem?_eq_getElem (by rw [h1]; exact (List.getElem?_eq_some_iff.1 hx).1)⟩
  exact ⟨y, hy, (h2 i x y hx hy).2 q j hq hj e1 e2⟩
end
end Go.Proofs.YtomfoaaaeidpnaaDoor
