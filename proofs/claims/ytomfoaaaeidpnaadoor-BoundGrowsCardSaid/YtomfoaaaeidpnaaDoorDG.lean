/-
  Memory in classes: a number changed in one class leaves the others.
-/
import Derived.Test.YtomfoaaaeidpnaaDoorSlJ
import Derived.Test.YtomfoaaaeidpnaaDoorK4
set_option linter.unusedVariables false
set_option linter.unusedSimpArgs false
namespace Go.Proofs.YtomfoaaaeidpnaaDoor
open Go Go.RowKit
/-- What of an environment is of one class. -/
def Env.on (E : Env) (cls : Nat → Nat) (c : Nat) : Env := { E with H := fun b => if cls b = c then E.H b else none }
theorem on_at {E : Env} {cls : Nat → Nat} {c b : Nat} {o : Obj} : (Env.on E cls c).H b = some o ↔ cls b = c ∧ E.H b = some o := by
  unfold Env.on
  dsimp only
  split
  · rename_i h; exact ⟨fun h2 => ⟨h, h2⟩, fun h2 => h2.2⟩
  · rename_i h; exact ⟨fun h2 => (by cases h2), fun h2 => absurd h2.1 h⟩
theorem on_le {E : Env} {cls : Nat → Nat} {c : Nat} : (Env.on E cls c).Le E := ⟨rfl, rfl, rfl, fun b o h => (on_at.1 h).2⟩
theorem on_cell {E : Env} {cls : Nat → Nat} {c b k : Nat} {u : Value} (h : (Env.on E cls c).cell? ⟨b, k, none⟩ = some u) : cls b = c ∧ E.cell? ⟨b, k, none⟩ = some u := by
  refine ⟨?_, on_le.cell h⟩
  cases hb : (Env.on E cls c).H b with
  | none => exact absurd hb (cell_some h)
  | some o => exact (on_at.1 hb).1
theorem cell_on {E : Env} {cls : Nat → Nat} {c b k : Nat} {u : Value} (h : E.cell? ⟨b, k, none⟩ = some u) (hc : cls b = c) : (Env.on E cls c).cell? ⟨b, k, none⟩ = some u := by
  unfold Env.cell? Env.on at *
  dsimp only at *
  rw [if_pos hc]
  exact h
theorem put_other {E E2 : Env} {cls : Nat → Nat} {c b k : Nat} {r : Value} (h : Put E b k r E2) (hc : cls b ≠ c) : (Env.on E cls c).Le (Env.on E2 cls c) :=
  ⟨h.os, h.tape, h.output, fun b' o hb => by
    obtain ⟨h1, h2⟩ := on_at.1 hb
    exact on_at.2 ⟨h1, h.ne b' o (fun e => hc (e ▸ h1)) h2⟩⟩
theorem put_on {E E2 : Env} {cls : Nat → Nat} {c b k : Nat} {r : Value} (h : Put E b k r E2) (hc : cls b = c) : Put (Env.on E cls c) b k r (Env.on E2 cls c) :=
  ⟨h.os, h.tape, h.output, fun b' o hne hb => by
    obtain ⟨h1, h2⟩ := on_at.1 hb
    exact on_at.2 ⟨h1, h.ne b' o hne h2⟩, fun j u hj hu => cell_on (h.keep j u hj (on_cell hu).2) hc, cell_on h.new hc⟩
/-- Some of the numbers x0 became n. -/
def Chg (x0 n : Int) (xs ys : List Int) : Prop := ys.length = xs.length ∧ ∀ (j : Nat) u v, xs[j]? = some u → ys[j]? = some v → v = u ∨ (u = x0 ∧ v = n)
section
variable {E E2 : Env} {b k : Nat} {v : Value} {x0 n : Int}
theorem ListE.chgI {xs : List Int} (h : ListE intR 1 E v xs) (hp : Put E b k (vi n) E2) (ho : E.cell? ⟨b, k, none⟩ = some (vi x0)) (hn : I64 n) : ∃ ys : List Int, ListE intR 1 E2 v ys ∧ Chg x0 n xs ys := by
  obtain ⟨ys, h1, h2, h3⟩ := ListE.change (E2 := E2) (by decide) (fun i x y => y = x ∨ (x = x0 ∧ y = n)) h fun i cs x hx hl hR hc => by
    obtain ⟨rfl, hR2⟩ := hR
    rcases hp.or (hc 0 _ rfl) with h | ⟨he, h⟩
    · refine ⟨[vi x], x, rfl, ⟨rfl, hR2⟩, .inl rfl, fun j u hu => ?_⟩
      cases j with
      | zero => cases hu; exact h
      | succ j => cases hu
    · have hx0 : x = x0 := by
        have := hc 0 _ rfl
        rw [he.1, he.2, ho] at this
        cases this; rfl
      refine ⟨[vi n], n, rfl, ⟨rfl, hn⟩, .inr ⟨hx0, rfl⟩, fun j u hu => ?_⟩
      cases j with
      | zero => cases hu; exact h
      | succ j => cases hu
  exact ⟨ys, h3, h1, h2⟩
theorem ListE.chgL {xs : List (List Int)} (h : ListE (listR intR 1) 1 E v xs) (hp : Put E b k (vi n) E2) (ho : E.cell? ⟨b, k, none⟩ = some (vi x0)) (hn : I64 n) :
    ∃ ys : List (List Int), ListE (listR intR 1) 1 E2 v ys ∧ ys.length = xs.length ∧ ∀ (i : Nat) x y, xs[i]? = some x → ys[i]? = some y → Chg x0 n x y := by
  obtain ⟨ys, h1, h2, h3⟩ := ListE.change (E2 := E2) (by decide) (fun i x y => Chg x0 n x y) h fun i cs x hx hl hR hc => by
    obtain ⟨qx, rfl, hR2⟩ := hR
    obtain ⟨y, g1, g2⟩ := hR2.chgI hp ho hn
    refine ⟨[qx], y, rfl, ⟨qx, rfl, g1⟩, g2, fun t u hu => ?_⟩
    cases t with
    | zero =>
      cases hu
      refine hp.cell (hc 0 _ rfl) ?_
      rintro ⟨rfl, rfl⟩
      rw [hc 0 _ rfl] at ho
      cases ho
      obtain ⟨c, hc⟩ := hR2.sl
      obtain ⟨a, c', e'⟩ := hc.shape
      cases e'
    | succ t => cases hu
  exact ⟨ys, h3, h1, h2⟩
end
/-- Numbers of the same absolute values. -/
def AbsL (xs ys : List Int) : Prop := ys.length = xs.length ∧ ∀ (j : Nat) u v, xs[j]? = some u → ys[j]? = some v → v.natAbs = u.natAbs
def AbsLL (xs ys : List (List Int)) : Prop := ys.length = xs.length ∧ ∀ (j : Nat) u v, xs[j]? = some u → ys[j]? = some v → AbsL u v
theorem AbsL.refl (xs : List Int) : AbsL xs xs := ⟨rfl, fun j u v h1 h2 => by rw [h1] at h2; cases h2; rfl⟩
theorem AbsLL.refl (xs : List (List Int)) : AbsLL xs xs := ⟨rfl, fun j u v h1 h2 => by rw [h1] at h2; cases h2; exact AbsL.refl _⟩
theorem get_mid {α : Type} {ys : List α} {n j : Nat} (hl : ys.length = n) (hj : j < n) : ∃ y, ys[j]? = some y := ⟨_, List.getElem?_eq_getElem (by omega)⟩
theorem AbsL.chg {xs ys zs : List Int} {x0 n : Int} (h : AbsL xs ys) (hc : Chg x0 n ys zs) (hn : n.natAbs = x0.natAbs) : AbsL xs zs := by
  refine ⟨by rw [hc.1, h.1], fun j u w hu hw => ?_⟩
  have hj := (List.getElem?_eq_some_iff.1 hu).1
  obtain ⟨v, hv⟩ := get_mid h.1 hj
  have h1 := h.2 j u v hu hv
  rcases hc.2 j v w hv hw with e | ⟨e1, e2⟩
  · rw [e]; exact h1
  · rw [e2, hn, ← e1]; exact h1
theorem AbsLL.chg {xs ys zs : List (List Int)} {x0 n : Int} (h : AbsLL xs ys) (hl : zs.length = ys.length) (hc : ∀ (i : Nat) x y, ys[i]? = some x → zs[i]? = some y → Chg x0 n x y) (hn : n.natAbs = x0.natAbs) : AbsLL xs zs := by
  refine ⟨by rw [hl, h.1], fun j u w hu hw => ?_⟩
  have hj := (List.getElem?_eq_some_iff.1 hu).1
  obtain ⟨v, hv⟩ := get_mid h.1 hj
  exact (h.2 j u v hu hv).chg (hc j v w hv hw) hn
theorem sub_on {X Y Z E0 : Env} {cls : Nat → Nat} {c : Nat} (h1 : E0.Le X) (h2 : Y.Le Z) (hc : ∀ b o, X.H b = none → Y.H b = some o → cls b = c) : (Y.sub X).Le (Env.on (Z.sub E0) cls c) :=
  ⟨h2.os, h2.tape, h2.output, fun b o h => by
    obtain ⟨g1, g2, g3⟩ := sub_at.1 h
    refine on_at.2 ⟨hc b o g1 g2, sub_at.2 ⟨?_, h2.H b o g2, g3⟩⟩
    cases hb : E0.H b with
    | none => rfl
    | some o' => rw [h1.H b o' hb] at g1; cases g1⟩
theorem vec_at : ∀ (V : List Vec) (j : Nat) (x : Vec), V[j]? = some x → (V.flatMap vecC)[j * 2]? = some (vi x.x) ∧ (V.flatMap vecC)[j * 2 + 1]? = some (vi x.y) := by
  intro V
  induction V with
  | nil => intro j x h; cases h
  | cons a s ih =>
    intro j x h
    cases j with
    | zero => cases h; exact ⟨rfl, rfl⟩
    | succ j =>
      have := ih j x h
      rw [List.flatMap_cons, show (j + 1) * 2 = j * 2 + 1 + 1 by omega]
      exact this
theorem vec_set : ∀ (V : List Vec) (j : Nat) (x y : Vec), V[j]? = some x → (V.flatMap vecC).take (j * 2) ++ vecC y ++ (V.flatMap vecC).drop (j * 2 + 2) = (V.set j y).flatMap vecC := by
  intro V
  induction V with
  | nil => intro j x y h; cases h
  | cons a s ih =>
    intro j x y h
    cases j with
    | zero => rfl
    | succ j =>
      have := ih j x y h
      rw [List.set_cons_succ, List.flatMap_cons, List.flatMap_cons, show (j + 1) * 2 = j * 2 + 1 + 1 by omega, ← this]
      rfl
theorem vec_set1 : ∀ (V : List Vec) (j : Nat) (x : Vec) (n : Int), V[j]? = some x → (V.flatMap vecC).set (j * 2) (vi n) = (V.set j ⟨n, x.y⟩).flatMap vecC := by
  intro V
  induction V with
  | nil => intro j x n h; cases h
  | cons a s ih =>
    intro j x n h
    cases j with
    | zero => cases h; rfl
    | succ j =>
      have := ih j x n h
      rw [List.set_cons_succ, List.flatMap_cons, List.flatMap_cons, show (j + 1) * 2 = j * 2 + 1 + 1 by omega, ← this]
      rfl
theorem vec_len (V : List Vec) : (V.flatMap vecC).length = V.length * 2 := by
  induction V with
  | nil => rfl
  | cons a s ih => rw [List.flatMap_cons, List.length_append, ih]; simp; omega
theorem vec_cs {E : Env} : ∀ (V : List Vec), (∀ v ∈ V, I64 v.x ∧ I64 v.y) → CsE vecR 2 E (V.flatMap vecC) V := by
  intro V
  induction V with
  | nil => intro _; exact CsE.nil
  | cons a s ih =>
    intro h
    obtain ⟨css, h1, h2, h3, h4⟩ := ih fun v hv => h v (List.mem_cons_of_mem _ hv)
    refine ⟨vecC a :: css, by rw [List.flatMap_cons, h1]; rfl, by simp [h2], fun c hc => ?_, fun i c y hc hy => ?_⟩
    · rcases List.mem_cons.1 hc with rfl | hc
      · rfl
      · exact h3 c hc
    · cases i with
      | zero => cases hc; cases hy; exact ⟨rfl, h a (List.mem_cons_self ..)⟩
      | succ i => exact h4 i c y hc hy
/-- Differences of the same absolute values. -/
def AbsV (xs ys : List Vec) : Prop := ys.length = xs.length ∧ ∀ (j : Nat) u v, xs[j]? = some u → ys[j]? = some v → v.x.natAbs = u.x.natAbs ∧ v.y.natAbs = u.y.natAbs
theorem AbsV.refl (xs : List Vec) : AbsV xs xs := ⟨rfl, fun j u v h1 h2 => by rw [h1] at h2; cases h2; exact ⟨rfl, rfl⟩⟩
theorem AbsV.neg {xs ys : List Vec} {j : Nat} {x : Vec} (h : AbsV xs ys) (hx : ys[j]? = some x) : AbsV xs (ys.set j ⟨-x.x, -x.y⟩) := by
  refine ⟨by rw [List.length_set, h.1], fun i u v hu hv => ?_⟩
  rw [List.getElem?_set] at hv
  split at hv
  · rename_i e
    subst e
    split at hv
    · cases hv
      have := h.2 j u x hu hx
      dsimp only
      omega
    · cases hv
  · exact h.2 i u v hu hv
/-- Numbers that are as great or greater, and not too great. -/
def GrLL (xs ys : List (List Int)) : Prop := ys.length = xs.length ∧ ∀ (i : Nat) x y, xs[i]? = some x → ys[i]? = some y → y.length = x.length ∧ ∀ (j : Nat) u v, x[j]? = some u → y[j]? = some v → u.natAbs ≤ v.natAbs ∧ v.natAbs ≤ 32768
def GrV (xs ys : List Vec) : Prop := ys.length = xs.length ∧ ∀ (i : Nat) u v, xs[i]? = some u → ys[i]? = some v → u.x.natAbs ≤ v.x.natAbs ∧ u.y.natAbs ≤ v.y.natAbs ∧ v.x.natAbs ≤ 8192 ∧ v.y.natAbs ≤ 8192
theorem GrLL.refl {xs : List (List Int)} (h : ∀ b ∈ xs, ∀ x ∈ b, x.natAbs ≤ 32768) : GrLL xs xs := ⟨rfl, fun i x y h1 h2 => by
  rw [h1] at h2; cases h2
  exact ⟨rfl, fun j u v h3 h4 => by rw [h3] at h4; cases h4; exact ⟨Nat.le_refl _, h x (List.mem_of_getElem? h1) u (List.mem_of_getElem? h3)⟩⟩⟩
theorem GrLL.chg {xs zs : List (List Int)} {x0 n : Int} (h : ∀ b ∈ xs, ∀ x ∈ b, x.natAbs ≤ 32768) (hl : zs.length = xs.length) (hc : ∀ (i : Nat) x y, xs[i]? = some x → zs[i]? = some y → Chg x0 n x y) (hn : x0.natAbs ≤ n.natAbs ∧ n.natAbs ≤ 32768) : GrLL xs zs := by
  refine ⟨hl, fun i x y h1 h2 => ⟨(hc i x y h1 h2).1, fun j u v h3 h4 => ?_⟩⟩
  have hu := h x (List.mem_of_getElem? h1) u (List.mem_of_getElem? h3)
  rcases (hc i x y h1 h2).2 j u v h3 h4 with e | ⟨e1, e2⟩
  · rw [e]; exact ⟨Nat.le_refl _, hu⟩
  · rw [e1, e2]; exact hn
theorem GrV.refl {xs : List Vec} (h : ∀ v ∈ xs, v.x.natAbs ≤ 8192 ∧ v.y.natAbs ≤ 8192) : GrV xs xs := ⟨rfl, fun i u v h1 h2 => by
  rw [h1] at h2; cases h2
  have := h u (List.mem_of_getElem? h1)
  omega⟩
theorem GrV.set {xs : List Vec} {j : Nat} {x : Vec} {n : Int} (h : ∀ v ∈ xs, v.x.natAbs ≤ 8192 ∧ v.y.natAbs ≤ 8192) (hx : xs[j]? = some x) (hn : x.x.natAbs ≤ n.natAbs ∧ n.natAbs ≤ 8192) : GrV xs (xs.set j ⟨n, x.y⟩) := by
  refine ⟨List.length_set, fun i u v hu hv => ?_⟩
  have hb := h u (List.mem_of_getElem? hu)
  rw [List.getElem?_set] at hv
  split at hv
  · rename_i e
    subst e
    rw [hx] at hu
    cases hu
    split at hv
    · cases hv
      dsimp only
      omega
    · cases hv
  · rw [hu] at hv; cases hv
    omega
/-- The lists of two copies, each in its class. -/
structure Inv (E1 X : Env) (cls : Nat → Nat) (m : Mb) (r1 u1 r3 u3 : Value) (B1 B3 : List (List Int)) : Prop where
  le : E1.Le X
  f1 : ListE (listR intR 1) 1 (Env.on (X.sub E1) cls 1) u1 B1
  f2 : ListE intR 1 (Env.on (X.sub E1) cls 2) r1 m.refs
  f3 : ListE (listR intR 1) 1 (Env.on (X.sub E1) cls 3) u3 B3
  f4 : ListE intR 1 (Env.on (X.sub E1) cls 4) r3 m.refs
theorem on_sub {E1 X : Env} {cls : Nat → Nat} {c : Nat} : (Env.on (X.sub E1) cls c).Le X := on_le.trans (Env.sub_le _ _)
theorem Inv.put1 {E1 X X2 : Env} {cls : Nat → Nat} {m : Mb} {r1 u1 r3 u3 : Value} {B1 B3 : List (List Int)} {b k : Nat} {x0 n : Int} (h : Inv E1 X cls m r1 u1 r3 u3 B1 B3) (hp : Put (X.sub E1) b k (vi n) (X2.sub E1)) (hle : E1.Le X2)
    (ho : (Env.on (X.sub E1) cls 1).cell? ⟨b, k, none⟩ = some (vi x0)) (hn : I64 n) : ∃ B2, Inv E1 X2 cls m r1 u1 r3 u3 B2 B3 ∧ B2.length = B1.length ∧ ∀ (i : Nat) x y, B1[i]? = some x → B2[i]? = some y → Chg x0 n x y := by
  have hc := (on_cell ho).1
  obtain ⟨B2, g1, g2, g3⟩ := h.f1.chgL (put_on hp hc) ho hn
  exact ⟨B2, ⟨hle, g1, h.f2.mono (put_other hp (by omega)), h.f3.mono (put_other hp (by omega)), h.f4.mono (put_other hp (by omega))⟩, g2, g3⟩
theorem Inv.put3 {E1 X X2 : Env} {cls : Nat → Nat} {m : Mb} {r1 u1 r3 u3 : Value} {B1 B3 : List (List Int)} {b k : Nat} {x0 n : Int} (h : Inv E1 X cls m r1 u1 r3 u3 B1 B3) (hp : Put (X.sub E1) b k (vi n) (X2.sub E1)) (hle : E1.Le X2)
    (ho : (Env.on (X.sub E1) cls 3).cell? ⟨b, k, none⟩ = some (vi x0)) (hn : I64 n) : ∃ B2, Inv E1 X2 cls m r1 u1 r3 u3 B1 B2 ∧ B2.length = B3.length ∧ ∀ (i : Nat) x y, B3[i]? = some x → B2[i]? = some y → Chg x0 n x y := by
  have hc := (on_cell ho).1
  obtain ⟨B2, g1, g2, g3⟩ := h.f3.chgL (put_on hp hc) ho hn
  exact ⟨B2, ⟨hle, h.f1.mono (put_other hp (by omega)), h.f2.mono (put_other hp (by omega)), g1, h.f4.mono (put_other hp (by omega))⟩, g2, g3⟩
end Go.Proofs.YtomfoaaaeidpnaaDoor
