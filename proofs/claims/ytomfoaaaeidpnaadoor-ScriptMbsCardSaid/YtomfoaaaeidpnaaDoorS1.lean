/-
  What makes things of bytes, in plain words: a stream of bytes, and where in it one is.
-/
import Derived.Test.YtomfoaaaeidpnaaDoorK1
import Derived.Test.YtomfoaaaeidpnaaDoorM3
set_option linter.unusedVariables false
set_option linter.unusedSimpArgs false
namespace Go.Proofs.YtomfoaaaeidpnaaDoor
open Go Go.RowKit
abbrev Par (α : Type) := (Nat → UInt8) → Nat → α × Nat
def Par.ret {α : Type} (a : α) : Par α := fun _ p => (a, p)
def Par.bnd {α β : Type} (x : Par α) (f : α → Par β) : Par β := fun σ p => f (x σ p).1 σ (x σ p).2
/-- A byte modulo n. -/
def tk (n : Nat) : Par Nat := fun σ p => ((σ p).toNat % n, p + 1)
/-- So many times, one after another. -/
def repP {α : Type} (x : Par α) : Nat → Par (List α)
  | 0 => .ret []
  | n + 1 => (repP x n).bnd fun l => x.bnd fun a => .ret (l ++ [a])
def itP {β : Type} (f : β → Par β) : Nat → β → Par β
  | 0, b => .ret b
  | n + 1, b => (itP f n b).bnd f
def mapP {α β : Type} (f : α → Par β) : List α → Par (List β)
  | [] => .ret []
  | a :: l => (f a).bnd fun b => (mapP f l).bnd fun r => .ret (b :: r)
theorem mapP_snoc {α β : Type} (f : α → Par β) (l : List α) (a : α) (σ : Nat → UInt8) (p : Nat) :
    mapP f (l ++ [a]) σ p = ((mapP f l σ p).1 ++ [(f a σ (mapP f l σ p).2).1], (f a σ (mapP f l σ p).2).2) := by
  induction l generalizing p with
  | nil => rfl
  | cons c l ih =>
    show ((f c σ p).1 :: (mapP f (l ++ [a]) σ (f c σ p).2).1, (mapP f (l ++ [a]) σ (f c σ p).2).2) = _
    rw [ih]
    rfl
/-- A number from -most to most. -/
def smallI (a : Nat) (most : Int) : Int :=
  let n : Int := if a % 2 = 1 then ((a + 1) / 2 : Nat) else -((a / 2 : Nat) : Int)
  if n < -most ∨ most < n then 0 else n
def greatI (a b c : Nat) (most : Nat) : Int :=
  let n : Int := ((256 * b + c) % (most + 1) : Nat)
  if a % 2 = 1 then -n else n
def numP (most : Nat) : Par Int :=
  (tk 256).bnd fun a => if a < 240 then .ret (smallI a most) else (tk 256).bnd fun b => (tk 256).bnd fun c => .ret (greatI a b c most)
/-- The coefficients of a block. -/
def setP (size : Nat) (out : List Int) : Par (List Int) := (tk size).bnd fun i => (numP 32768).bnd fun n => .ret (out.set i n)
def blkP (size : Nat) : Par (List Int) :=
  (tk 4).bnd fun k => if k = 3 then repP ((tk 5).bnd fun a => .ret ((a : Int) - 2)) size else itP (setP size) k (List.replicate size 0)
def pcmP : Par (List UInt8) := (tk 256).bnd fun a => (tk 256).bnd fun d => .ret ((List.range 384).map fun i => UInt8.ofNat (a + d * i))
def vecP : Par Vec := (numP 8192).bnd fun x => (numP 8192).bnd fun y => .ret ⟨x, y⟩
def u8P (n : Nat) : Par UInt8 := (tk n).bnd fun a => .ret (UInt8.ofNat a)
/-- The pieces of a part of a sub kind. -/
def pieceN (a : UInt8) : Nat := if a.toNat = 0 then 1 else if a.toNat = 3 then 4 else 2
def vec4 (l : List UInt8) : Vector UInt8 4 := #v[(l[0]?).getD 0, (l[1]?).getD 0, (l[2]?).getD 0, (l[3]?).getD 0]
def vec16 (l : List UInt8) : Vector UInt8 16 := #v[(l[0]?).getD 0, (l[1]?).getD 0, (l[2]?).getD 0, (l[3]?).getD 0, (l[4]?).getD 0, (l[5]?).getD 0, (l[6]?).getD 0, (l[7]?).getD 0, (l[8]?).getD 0, (l[9]?).getD 0, (l[10]?).getD 0, (l[11]?).getD 0, (l[12]?).getD 0, (l[13]?).getD 0, (l[14]?).getD 0, (l[15]?).getD 0]
/-- What inter macroblocks have first: sub kinds, how many references and differences. -/
def motH (k : UInt8) : Par (List UInt8 × Nat × Nat) :=
  if k.toNat = 3 then .ret ([], 1, 1)
  else if k.toNat = 4 ∨ k.toNat = 5 then .ret ([], 2, 2)
  else if k.toNat = 6 then (repP (u8P 4) 4).bnd fun s => .ret (s, 4, (s.map pieceN).sum)
  else .ret ([], 0, 0)
def refP (refs : Nat) : Par Int := (tk refs).bnd fun a => .ret (a : Int)
def motP (k : UInt8) (refs : Nat) : Par (List UInt8 × List Int × List Vec) :=
  (motH k).bnd fun h => (repP (refP refs) h.2.1).bnd fun r => (repP vecP h.2.2).bnd fun v => .ret (h.1, r, v)
def optP {α : Type} (b : Bool) (x : Par α) (d : α) : Par α := if b then x else .ret d
def cbpP (k : UInt8) : Par UInt8 := if k.toNat = 1 then (tk 2).bnd fun a => (tk 3).bnd fun b => .ret (UInt8.ofNat (15 * a + 16 * b)) else u8P 48
def mbP (intra : Bool) (refs : Nat) : Par Mb :=
  (u8P (if intra then 3 else 8)).bnd fun k =>
  if k.toNat = 2 then pcmP.bnd fun s => .ret ⟨2, 0, 0, Vector.replicate 16 0, Vector.replicate 4 0, [], [], 0, 0, [], s⟩
  else if k.toNat = 7 then .ret ⟨7, 0, 0, Vector.replicate 16 0, Vector.replicate 4 0, [], [], 0, 0, [], []⟩
  else (optP (decide (k.toNat = 1)) (u8P 4) 0).bnd fun mo => (optP (decide (k.toNat ≤ 1)) (u8P 4) 0).bnd fun ch => (optP (decide (k.toNat = 0)) (repP (u8P 9) 16) []).bnd fun pr =>
    (motP k refs).bnd fun q => (cbpP k).bnd fun c => (optP (decide (k.toNat = 1) || !decide (c.toNat = 0)) ((tk 52).bnd fun a => .ret ((a : Int) - 26)) 0).bnd fun qp =>
    let m : Mb := ⟨k, mo, ch, vec16 pr, vec4 q.1, q.2.1, q.2.2, c, qp, [], []⟩
    (mapP (fun x : Coded => blkP (sizeN x.cat)) (blocksL m)).bnd fun bl => .ret { m with blocks := bl }
/-- The bytes of a string, and 0 after them. -/
def strm (s : List UInt8) : Nat → UInt8 := fun i => (s[i]?).getD 0
/-- What is made depends only on the bytes that are taken. -/
def Loc {α : Type} (x : Par α) : Prop := ∀ σ p, p ≤ (x σ p).2 ∧ ∀ τ, (∀ i, p ≤ i → i < (x σ p).2 → τ i = σ i) → x τ p = x σ p
theorem loc_ret {α : Type} (a : α) : Loc (Par.ret a) := fun σ p => ⟨Nat.le_refl _, fun τ _ => rfl⟩
theorem loc_tk (n : Nat) : Loc (tk n) := fun σ p => ⟨Nat.le_succ _, fun τ h => by
  have := h p (Nat.le_refl _) (Nat.lt_succ_self _)
  unfold tk; rw [this]⟩
theorem loc_bnd {α β : Type} {x : Par α} {f : α → Par β} (hx : Loc x) (hf : ∀ a, Loc (f a)) : Loc (x.bnd f) := fun σ p => by
  obtain ⟨h1, h2⟩ := hx σ p
  obtain ⟨h3, h4⟩ := hf (x σ p).1 σ (x σ p).2
  refine ⟨Nat.le_trans h1 h3, fun τ h => ?_⟩
  have e1 : x τ p = x σ p := h2 τ fun i hi hlt => h i hi (Nat.lt_of_lt_of_le hlt h3)
  show f (x τ p).1 τ (x τ p).2 = f (x σ p).1 σ (x σ p).2
  rw [e1]
  exact h4 τ fun i hi hlt => h i (Nat.le_trans h1 hi) hlt
theorem loc_rep {α : Type} {x : Par α} (hx : Loc x) : ∀ n, Loc (repP x n)
  | 0 => loc_ret _
  | n + 1 => loc_bnd (loc_rep hx n) fun _ => loc_bnd hx fun _ => loc_ret _
theorem loc_it {β : Type} {f : β → Par β} (hf : ∀ b, Loc (f b)) : ∀ n b, Loc (itP f n b)
  | 0, _ => loc_ret _
  | n + 1, b => loc_bnd (loc_it hf n b) hf
theorem loc_map {α β : Type} {f : α → Par β} (hf : ∀ a, Loc (f a)) : ∀ l, Loc (mapP f l)
  | [] => loc_ret _
  | a :: l => loc_bnd (hf a) fun _ => loc_bnd (loc_map hf l) fun _ => loc_ret _
theorem loc_ite {α : Type} {c : Prop} [Decidable c] {x y : Par α} (hx : Loc x) (hy : Loc y) : Loc (if c then x else y) := by
  split
  · exact hx
  · exact hy
theorem loc_opt {α : Type} {b : Bool} {x : Par α} {d : α} (hx : Loc x) : Loc (optP b x d) := loc_ite hx (loc_ret _)
theorem loc_num (n : Nat) : Loc (numP n) := loc_bnd (loc_tk _) fun _ => loc_ite (loc_ret _) (loc_bnd (loc_tk _) fun _ => loc_bnd (loc_tk _) fun _ => loc_ret _)
theorem loc_blk (n : Nat) : Loc (blkP n) := loc_bnd (loc_tk _) fun _ => loc_ite (loc_rep (loc_bnd (loc_tk _) fun _ => loc_ret _) _) (loc_it (fun _ => loc_bnd (loc_tk _) fun _ => loc_bnd (loc_num _) fun _ => loc_ret _) _ _)
theorem loc_pcm : Loc pcmP := loc_bnd (loc_tk _) fun _ => loc_bnd (loc_tk _) fun _ => loc_ret _
theorem loc_vec : Loc vecP := loc_bnd (loc_num _) fun _ => loc_bnd (loc_num _) fun _ => loc_ret _
theorem loc_u8 (n : Nat) : Loc (u8P n) := loc_bnd (loc_tk _) fun _ => loc_ret _
theorem loc_motH (k : UInt8) : Loc (motH k) :=
  loc_ite (loc_ret _) (loc_ite (loc_ret _) (loc_ite (loc_bnd (loc_rep (loc_u8 _) _) fun _ => loc_ret _) (loc_ret _)))
theorem loc_mot (k : UInt8) (refs : Nat) : Loc (motP k refs) :=
  loc_bnd (loc_motH k) fun _ => loc_bnd (loc_rep (loc_bnd (loc_tk _) fun _ => loc_ret _) _) fun _ => loc_bnd (loc_rep loc_vec _) fun _ => loc_ret _
theorem loc_cbp (k : UInt8) : Loc (cbpP k) := loc_ite (loc_bnd (loc_tk _) fun _ => loc_bnd (loc_tk _) fun _ => loc_ret _) (loc_u8 _)
theorem loc_mb (intra : Bool) (refs : Nat) : Loc (mbP intra refs) :=
  loc_bnd (loc_u8 _) fun _ => loc_ite (loc_bnd loc_pcm fun _ => loc_ret _) (loc_ite (loc_ret _) (loc_bnd (loc_opt (loc_u8 _)) fun _ => loc_bnd (loc_opt (loc_u8 _)) fun _ => loc_bnd (loc_opt (loc_rep (loc_u8 _) _)) fun _ =>
    loc_bnd (loc_mot _ _) fun _ => loc_bnd (loc_cbp _) fun _ => loc_bnd (loc_opt (loc_bnd (loc_tk _) fun _ => loc_ret _)) fun _ => loc_bnd (loc_map (fun _ => loc_blk _) _) fun _ => loc_ret _))
end Go.Proofs.YtomfoaaaeidpnaaDoor
