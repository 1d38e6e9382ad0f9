/-
  What script makes is valid.
-/
import Derived.Test.YtomfoaaaeidpnaaDoorM7
import Derived.Test.YtomfoaaaeidpnaaDoorS7
set_option linter.unusedVariables false
set_option linter.unusedSimpArgs false
namespace Go.Proofs.YtomfoaaaeidpnaaDoor
open Go Go.RowKit
theorem firstE_ok : ∀ {F : List Fld}, (∀ x ∈ F, fldErr x = 0) → firstE F = 0
  | [], _ => rfl
  | y :: F, h => by
    unfold firstE
    rw [if_neg (by rw [h y (List.mem_cons_self ..)]; simp)]
    exact firstE_ok fun x hx => h x (List.mem_cons_of_mem _ hx)
theorem rl_ok {l : List Int} {n lo hi : Int} (h1 : (l.length : Int) = n) (h2 : ∀ x ∈ l, lo ≤ x ∧ x ≤ hi) : rangedL l n lo hi = 0 := by
  unfold rangedL
  rw [if_neg (by simp [h1]), if_pos (List.all_eq_true.2 fun x hx => decide_eq_true (h2 x hx))]
theorem ru_ok {l : List UInt8} {n : Int} {hi : Nat} (h1 : (l.length : Int) = n) (h2 : ∀ x ∈ l, x.toNat ≤ hi) : rangedU l n 0 hi = 0 := by
  unfold rangedU
  rw [if_neg (by simp [h1]), if_pos (List.all_eq_true.2 fun x hx => decide_eq_true ⟨Nat.zero_le _, h2 x hx⟩)]
theorem fld_ok {a b : Bool} {c : Int} (h1 : a = true → c = 0) (h2 : a = false → b = true) : fldErr (a, b, c) = 0 := by
  unfold fldErr
  cases a with
  | true => exact h1 rfl
  | false =>
    show (if b = true then (0 : Int) else 2) = 0
    rw [if_pos (h2 rfl)]
theorem check_of {m : Mb} {intra : Bool} {refs : Int} (hk : m.kind.toNat ≤ 7) (hi : intra = true → m.kind.toNat ≤ 2) (hv : intra = true ∧ refs = 0 ∨ intra = false ∧ 1 ≤ refs ∧ refs ≤ 32) (hF : ∀ x ∈ fieldsL m refs, fldErr x = 0) : checkE m intra refs = 0 := by
  unfold checkE
  have hk7 : ¬ (7 : Int) < (m.kind.toNat : Int) := by omega
  rcases hv with ⟨rfl, rfl⟩ | ⟨rfl, h1, h2⟩
  · rw [if_neg (by decide), if_neg (by simp only [decide_eq_false hk7, decide_eq_true (hi rfl)]; decide)]
    exact firstE_ok hF
  · have g1 : ¬ refs < 1 := by omega
    have g2 : ¬ 32 < refs := by omega
    rw [if_neg (by simp only [decide_eq_false g1, decide_eq_false g2, Bool.false_and, Bool.not_false, Bool.true_and, Bool.or_false]; decide), if_neg (by simp only [decide_eq_false hk7, Bool.false_or, Bool.false_and]; decide)]
    exact firstE_ok hF
theorem u8P_lt {n : Nat} (hn : 1 ≤ n ∧ n ≤ 256) (σ : Nat → UInt8) (p : Nat) : (u8P n σ p).1.toNat < n := by
  have := Nat.mod_lt (σ p).toNat (show 0 < n by omega)
  show (UInt8.ofNat ((σ p).toNat % n)).toNat < n
  rw [UInt8.toNat_ofNat', Nat.mod_eq_of_lt (by omega)]
  exact this
theorem rep_all {α : Type} (x : Par α) (P : α → Prop) (h : ∀ σ p, P (x σ p).1) (σ : Nat → UInt8) (p : Nat) : ∀ n, ∀ a ∈ (repP x n σ p).1, P a
  | 0 => fun a ha => by cases ha
  | n + 1 => fun a ha => by
    have ha : a ∈ (repP x n σ p).1 ++ [(x σ (repP x n σ p).2).1] := ha
    rcases List.mem_append.1 ha with ha | ha
    · exact rep_all x P h σ p n a ha
    · rw [List.mem_singleton.1 ha]; exact h _ _
theorem mapP_at {α β : Type} (f : α → Par β) (l : List α) (σ : Nat → UInt8) : ∀ (p i : Nat) (b : β) (c : α), (mapP f l σ p).1[i]? = some b → l[i]? = some c → ∃ q, b = (f c σ q).1 := by
  induction l with
  | nil => intro p i b c _ hc; simp at hc
  | cons a l ih =>
    intro p i b c hb hc
    have hb : ((f a σ p).1 :: (mapP f l σ (f a σ p).2).1)[i]? = some b := hb
    cases i with
    | zero =>
      simp only [List.getElem?_cons_zero, Option.some.injEq] at hb hc
      subst hb; subst hc
      exact ⟨p, rfl⟩
    | succ i =>
      simp only [List.getElem?_cons_succ] at hb hc
      exact ih _ i b c hb hc
theorem mapP_lenV {α β : Type} (f : α → Par β) (l : List α) (σ : Nat → UInt8) : ∀ p, (mapP f l σ p).1.length = l.length := by
  induction l with
  | nil => exact fun p => rfl
  | cons a l ih =>
    intro p
    show ((f a σ p).1 :: (mapP f l σ (f a σ p).2).1).length = _
    rw [List.length_cons, ih, List.length_cons]
theorem vec4_list {l : List UInt8} (h : l.length = 4) : (vec4 l).toList = l := by
  match l, h with
  | [a, b, c, d], _ => rfl
theorem vec16_list {l : List UInt8} (h : l.length = 16) : (vec16 l).toList = l := by
  match l, h with
  | [a0, a1, a2, a3, a4, a5, a6, a7, a8, a9, a10, a11, a12, a13, a14, a15], _ => rfl
theorem quart_piece (x : UInt8) (h : x.toNat ≤ 3) : (quart x.toNat).length = pieceN x := by
  have : x.toNat = 0 ∨ x.toNat = 1 ∨ x.toNat = 2 ∨ x.toNat = 3 := by omega
  unfold pieceN
  rcases this with h | h | h | h <;> (rw [h]; rfl)
theorem qsum_piece (l : List UInt8) (h : ∀ x ∈ l, x.toNat ≤ 3) : qsum l = (l.map pieceN).sum := by
  unfold qsum
  congr 1
  exact List.map_congr_left fun x hx => quart_piece x (h x hx)
theorem go_ok : ∀ {bs : List (List Int)} {cs : List Coded}, (∀ (i : Nat) b c, bs[i]? = some b → cs[i]? = some c → rangedL b (sizeN c.cat) (-32768) 32768 = 0) → blocksGo bs cs = 0
  | [], cs, _ => by unfold blocksGo; rfl
  | b0 :: bs, [], _ => by unfold blocksGo; rfl
  | b0 :: bs, c0 :: cs, h => by
    unfold blocksGo
    rw [if_neg (by simp [h 0 b0 c0 rfl rfl])]
    exact go_ok fun i b c hb hc => h (i + 1) b c (by simpa using hb) (by simpa using hc)
/-- What motion makes. -/
theorem mot_facts (k : UInt8) (refs : Nat) (σ : Nat → UInt8) (p : Nat) (hr : 3 ≤ k.toNat → 1 ≤ refs) :
    (k.toNat = 6 → (motP k refs σ p).1.1.length = 4 ∧ ∀ x ∈ (motP k refs σ p).1.1, x.toNat ≤ 3) ∧ (¬ k.toNat = 6 → (motP k refs σ p).1.1 = []) ∧
    (motP k refs σ p).1.2.1.length = partsN k ∧ (∀ x ∈ (motP k refs σ p).1.2.1, 0 ≤ x ∧ x ≤ (refs : Int) - 1) ∧
    (3 ≤ k.toNat ∧ k.toNat ≤ 6 → (piecesP k (vec4 (motP k refs σ p).1.1)).2 = 0 ∧ (motP k refs σ p).1.2.2.length = (piecesP k (vec4 (motP k refs σ p).1.1)).1) ∧ (¬ (3 ≤ k.toNat ∧ k.toNat ≤ 6) → (motP k refs σ p).1.2.2 = []) ∧
    (∀ v ∈ (motP k refs σ p).1.2.2, (-8192 ≤ v.x ∧ v.x ≤ 8192) ∧ (-8192 ≤ v.y ∧ v.y ≤ 8192)) := by
  have e : motP k refs σ p = (((motH k σ p).1.1, (repP (refP refs) (motH k σ p).1.2.1 σ (motH k σ p).2).1, (repP vecP (motH k σ p).1.2.2 σ (repP (refP refs) (motH k σ p).1.2.1 σ (motH k σ p).2).2).1), (repP vecP (motH k σ p).1.2.2 σ (repP (refP refs) (motH k σ p).1.2.1 σ (motH k σ p).2).2).2) := rfl
  rw [e]
  dsimp only
  have hv := vec_nums σ (repP (refP refs) (motH k σ p).1.2.1 σ (motH k σ p).2).2 (motH k σ p).1.2.2
  have hvl := rep_len vecP σ (repP (refP refs) (motH k σ p).1.2.1 σ (motH k σ p).2).2 (motH k σ p).1.2.2
  have hrl := rep_len (refP refs) σ (motH k σ p).2 (motH k σ p).1.2.1
  have hrn : 3 ≤ k.toNat → ∀ x ∈ (repP (refP refs) (motH k σ p).1.2.1 σ (motH k σ p).2).1, 0 ≤ x ∧ x ≤ (refs : Int) - 1 := fun h x hx => by
    have := ref_nums refs (hr h) σ _ _ x hx
    omega
  have hH : (k.toNat = 3 ∧ (motH k σ p).1 = ([], 1, 1)) ∨ ((k.toNat = 4 ∨ k.toNat = 5) ∧ (motH k σ p).1 = ([], 2, 2)) ∨ (k.toNat = 6 ∧ (motH k σ p).1 = ((repP (u8P 4) 4 σ p).1, 4, (((repP (u8P 4) 4 σ p).1).map pieceN).sum)) ∨ ((k.toNat < 3 ∨ 6 < k.toNat) ∧ (motH k σ p).1 = ([], 0, 0)) := by
    unfold motH
    by_cases h3 : k.toNat = 3
    · rw [if_pos h3]; exact .inl ⟨h3, rfl⟩
    rw [if_neg h3]
    by_cases h45 : k.toNat = 4 ∨ k.toNat = 5
    · rw [if_pos h45]; exact .inr (.inl ⟨h45, rfl⟩)
    rw [if_neg h45]
    by_cases h6 : k.toNat = 6
    · rw [if_pos h6]; exact .inr (.inr (.inl ⟨h6, rfl⟩))
    rw [if_neg h6]
    exact .inr (.inr (.inr ⟨by omega, rfl⟩))
  generalize repP vecP (motH k σ p).1.2.2 σ (repP (refP refs) (motH k σ p).1.2.1 σ (motH k σ p).2).2 = V at *
  generalize repP (refP refs) (motH k σ p).1.2.1 σ (motH k σ p).2 = R at *
  generalize (motH k σ p).1 = H at *
  rcases hH with ⟨h, rfl⟩ | ⟨h, rfl⟩ | ⟨h, rfl⟩ | ⟨h, rfl⟩
  · refine ⟨fun h6 => by omega, fun _ => rfl, by rw [hrl]; unfold partsN; rw [if_pos h], hrn (by omega), fun _ => ?_, fun h' => absurd h' (by omega), hv⟩
    unfold piecesP
    rw [if_pos h]
    exact ⟨rfl, hvl⟩
  · refine ⟨fun h6 => by omega, fun _ => rfl, ?_, hrn (by omega), fun _ => ?_, fun h' => absurd h' (by omega), hv⟩
    · rw [hrl]
      unfold partsN
      rcases h with h | h <;> (rw [h]; rfl)
    · unfold piecesP
      rcases h with h | h <;> (rw [h]; exact ⟨rfl, hvl⟩)
  · have hl := rep_len (u8P 4) σ p 4
    have ha := rep_all (u8P 4) (fun x => x.toNat ≤ 3) (fun σ p => by have := u8P_lt (n := 4) (by omega) σ p; omega) σ p 4
    generalize (repP (u8P 4) 4 σ p).1 = sl at *
    refine ⟨fun _ => ⟨hl, ha⟩, fun h' => absurd h h', by rw [hrl]; unfold partsN; rw [h]; rfl, hrn (by omega), fun _ => ?_, fun h' => absurd h' (by omega), hv⟩
    unfold piecesP
    rw [h]
    rw [if_neg (by decide), if_neg (by decide), if_neg (by decide), if_pos rfl, vec4_list hl, if_pos (List.all_eq_true.2 fun x hx => decide_eq_true (ha x hx)), qsum_piece sl ha]
    exact ⟨rfl, hvl⟩
  · have hr0 : R.1 = [] := List.eq_nil_of_length_eq_zero hrl
    have hv0 : V.1 = [] := List.eq_nil_of_length_eq_zero hvl
    rw [hr0, hv0]
    refine ⟨fun h6 => by omega, fun _ => rfl, ?_, fun x hx => (by cases hx), fun h' => (by omega), fun _ => rfl, fun x hx => (by cases hx)⟩
    unfold partsN
    rw [if_neg (by omega), if_neg (by omega), if_neg (by omega), if_neg (by omega)]
    rfl
theorem opt_u8 (b : Bool) (σ : Nat → UInt8) (p : Nat) : (b = true → (optP b (u8P 4) 0 σ p).1.toNat ≤ 3) ∧ (b = false → (optP b (u8P 4) 0 σ p).1 = 0) := by
  unfold optP
  cases b with
  | true => exact ⟨fun _ => (by have := u8P_lt (n := 4) (by omega) σ p; rw [if_pos rfl]; omega), fun h => (by cases h)⟩
  | false => exact ⟨fun h => (by cases h), fun _ => rfl⟩
theorem cbp_facts (k : UInt8) (σ : Nat → UInt8) (p : Nat) : ¬ (47 < (cbpP k σ p).1.toNat ∨ k.toNat = 1 ∧ (cbpP k σ p).1.toNat % 16 ≠ 0 ∧ (cbpP k σ p).1.toNat % 16 ≠ 15) := by
  unfold cbpP
  by_cases h : k.toNat = 1
  · rw [if_pos h]
    show ¬ (47 < (UInt8.ofNat (15 * (tk 2 σ p).1 + 16 * (tk 3 σ (p + 1)).1)).toNat ∨ k.toNat = 1 ∧ (UInt8.ofNat (15 * (tk 2 σ p).1 + 16 * (tk 3 σ (p + 1)).1)).toNat % 16 ≠ 0 ∧ (UInt8.ofNat (15 * (tk 2 σ p).1 + 16 * (tk 3 σ (p + 1)).1)).toNat % 16 ≠ 15)
    have h2 : (tk 2 σ p).1 < 2 := Nat.mod_lt _ (by decide)
    have h3 : (tk 3 σ (p + 1)).1 < 3 := Nat.mod_lt _ (by decide)
    rw [UInt8.toNat_ofNat', Nat.mod_eq_of_lt (by omega)]
    generalize (tk 2 σ p).1 = a at *
    generalize (tk 3 σ (p + 1)).1 = b at *
    have ha : a = 0 ∨ a = 1 := by omega
    rcases ha with rfl | rfl <;> omega
  · rw [if_neg h]
    have := u8P_lt (n := 48) (by omega) σ p
    omega
theorem opt_qp (b : Bool) (σ : Nat → UInt8) (p : Nat) : (b = true → -26 ≤ (optP b ((tk 52).bnd fun a => .ret ((a : Int) - 26)) 0 σ p).1 ∧ (optP b ((tk 52).bnd fun a => .ret ((a : Int) - 26)) 0 σ p).1 ≤ 25) ∧ (b = false → (optP b ((tk 52).bnd fun a => .ret ((a : Int) - 26)) 0 σ p).1 = 0) := by
  unfold optP
  cases b with
  | true =>
    refine ⟨fun _ => ?_, fun h => (by cases h)⟩
    rw [if_pos rfl]
    have h2 : (tk 52 σ p).1 < 52 := Nat.mod_lt _ (by decide)
    show -26 ≤ (((tk 52 σ p).1 : Nat) : Int) - 26 ∧ (((tk 52 σ p).1 : Nat) : Int) - 26 ≤ 25
    omega
  | false => exact ⟨fun h => (by cases h), fun _ => rfl⟩
theorem valid_mb (intra : Bool) (refs : Nat) (σ : Nat → UInt8) (p : Nat) (hv : intra = true ∧ refs = 0 ∨ intra = false ∧ 1 ≤ refs ∧ refs ≤ 32) : checkE (mbP intra refs σ p).1 intra (refs : Int) = 0 := by
  have hv' : intra = true ∧ (refs : Int) = 0 ∨ intra = false ∧ 1 ≤ (refs : Int) ∧ (refs : Int) ≤ 32 := by
    rcases hv with ⟨h1, h2⟩ | ⟨h1, h2, h3⟩
    · exact .inl ⟨h1, by omega⟩
    · exact .inr ⟨h1, by omega, by omega⟩
  have hk8 : (u8P (if intra then 3 else 8) σ p).1.toNat ≤ 7 ∧ (intra = true → (u8P (if intra then 3 else 8) σ p).1.toNat ≤ 2) := by
    cases intra with
    | true => have := u8P_lt (n := 3) (by omega) σ p; exact ⟨by show (u8P 3 σ p).1.toNat ≤ 7; omega, fun _ => by show (u8P 3 σ p).1.toNat ≤ 2; omega⟩
    | false => have := u8P_lt (n := 8) (by omega) σ p; exact ⟨by show (u8P 8 σ p).1.toNat ≤ 7; omega, fun h => by cases h⟩
  rcases h1 : u8P (if intra then 3 else 8) σ p with ⟨k, p1⟩
  rw [h1] at hk8
  dsimp only at hk8
  by_cases h2 : k.toNat = 2
  · rw [mbP_pcm h1 h2]
    have hl : ((pcmP σ p1).1).length = 384 := by
      show ((List.range 384).map _).length = 384
      rw [List.length_map, List.length_range]
    generalize (pcmP σ p1).1 = l at *
    refine check_of (by show (2 : UInt8).toNat ≤ 7; decide) (fun _ => by show (2 : UInt8).toNat ≤ 2; decide) hv' fun x hx => ?_
    have hp : pcmE (pcmM l) = 0 := by
      unfold pcmE
      rw [if_neg]
      exact fun h => h hl
    simp only [fieldsL, List.mem_cons, List.not_mem_nil, or_false] at hx
    rcases hx with rfl | rfl | rfl | rfl | rfl | rfl | rfl | rfl | rfl | rfl
    · rfl
    · rfl
    · exact fld_ok (fun h => by cases h) (fun _ => decide_eq_true rfl)
    · exact fld_ok (fun h => by cases h) (fun _ => decide_eq_true rfl)
    · rfl
    · rfl
    · rfl
    · rfl
    · rfl
    · exact fld_ok (fun _ => hp) (fun h => by cases h)
  by_cases h7 : k.toNat = 7
  · rw [mbP_skip h1 h7]
    refine check_of (by show (7 : UInt8).toNat ≤ 7; decide) (fun h => by have := hk8.2 h; omega) hv' fun x hx => ?_
    simp only [fieldsL, List.mem_cons, List.not_mem_nil, or_false] at hx
    rcases hx with rfl | rfl | rfl | rfl | rfl | rfl | rfl | rfl | rfl | rfl
    · rfl
    · rfl
    · exact fld_ok (fun h => by cases h) (fun _ => decide_eq_true rfl)
    · exact fld_ok (fun h => by cases h) (fun _ => decide_eq_true rfl)
    · rfl
    · rfl
    · rfl
    · rfl
    · rfl
    · rfl
  have hkr : 3 ≤ k.toNat → 1 ≤ refs := fun h => by
    rcases hv with ⟨g, _⟩ | ⟨_, g, _⟩
    · have := hk8.2 g; omega
    · exact g
  have fmo := opt_u8 (decide (k.toNat = 1)) σ p1
  rcases hmo : optP (decide (k.toNat = 1)) (u8P 4) 0 σ p1 with ⟨mo, p2⟩
  rw [hmo] at fmo
  have fch := opt_u8 (decide (k.toNat ≤ 1)) σ p2
  rcases hch : optP (decide (k.toNat ≤ 1)) (u8P 4) 0 σ p2 with ⟨ch, p3⟩
  rw [hch] at fch
  have fpr : (k.toNat = 0 → (optP (decide (k.toNat = 0)) (repP (u8P 9) 16) [] σ p3).1.length = 16 ∧ ∀ x ∈ (optP (decide (k.toNat = 0)) (repP (u8P 9) 16) [] σ p3).1, x.toNat ≤ 8) ∧ (¬ k.toNat = 0 → (optP (decide (k.toNat = 0)) (repP (u8P 9) 16) [] σ p3).1 = []) := by
    unfold optP
    by_cases h0 : k.toNat = 0
    · rw [decide_eq_true h0, if_pos rfl]
      exact ⟨fun _ => ⟨rep_len (u8P 9) σ p3 16, rep_all (u8P 9) (fun x => x.toNat ≤ 8) (fun σ p => by have := u8P_lt (n := 9) (by omega) σ p; omega) σ p3 16⟩, fun h => absurd h0 h⟩
    · rw [decide_eq_false h0, if_neg (by decide)]
      exact ⟨fun h => absurd h h0, fun _ => rfl⟩
  rcases hpr : optP (decide (k.toNat = 0)) (repP (u8P 9) 16) [] σ p3 with ⟨pr, p4⟩
  rw [hpr] at fpr
  obtain ⟨m1, m2, m3, m4, m5, m6, m7⟩ := mot_facts k refs σ p4 hkr
  rcases hmot : motP k refs σ p4 with ⟨⟨sl, rl, vl⟩, p5⟩
  rw [hmot] at m1 m2 m3 m4 m5 m6 m7
  have fc := cbp_facts k σ p5
  rcases hc : cbpP k σ p5 with ⟨c, p6⟩
  rw [hc] at fc
  have fqp := opt_qp (decide (k.toNat = 1) || !decide (c.toNat = 0)) σ p6
  rcases hqp : optP (decide (k.toNat = 1) || !decide (c.toNat = 0)) ((tk 52).bnd fun a => .ret ((a : Int) - 26)) 0 σ p6 with ⟨qp, p7⟩
  rw [hqp] at fqp
  have fbl := mapP_lenV (fun x : Coded => blkP (sizeN x.cat)) (blocksL (mF k mo ch pr sl c qp)) σ p7
  have fba := mapP_at (fun x : Coded => blkP (sizeN x.cat)) (blocksL (mF k mo ch pr sl c qp)) σ p7
  have hcat := blkCat (mF k mo ch pr sl c qp)
  rcases hbl : mapP (fun x : Coded => blkP (sizeN x.cat)) (blocksL (mF k mo ch pr sl c qp)) σ p7 with ⟨bl, p8⟩
  rw [hbl] at fbl fba
  rw [mbP_eq h1 h2 h7 hmo hch hpr hmot hc hqp hbl]
  dsimp only at *
  have hcd : codedB k = true := by
    unfold codedB
    have : k.toNat < 7 := by omega
    simp [this, h2]
  have hwl : ∀ (m : Mb), m.kind = k → m.cbp = c → blocksL m = blocksL (mF k mo ch pr sl c qp) := fun m e1 e2 => by
    unfold blocksL
    rw [e1, e2]
    rfl
  refine check_of hk8.1 hk8.2 hv' fun x hx => ?_
  simp only [fieldsL, List.mem_cons, List.not_mem_nil, or_false] at hx
  rcases hx with rfl | rfl | rfl | rfl | rfl | rfl | rfl | rfl | rfl | rfl
  · refine fld_ok (fun h => ru_ok rfl fun x hx => ?_) (fun h => ?_)
    · have h : k.toNat = 1 := by have := of_decide_eq_true h; omega
      rw [List.mem_singleton.1 hx]
      exact fmo.1 (decide_eq_true h)
    · have h : ¬ k.toNat = 1 := by have := of_decide_eq_false h; omega
      rw [fmo.2 (decide_eq_false h)]
      rfl
  · refine fld_ok (fun h => ru_ok rfl fun x hx => ?_) (fun h => ?_)
    · have h : k.toNat ≤ 1 := by have := of_decide_eq_true h; omega
      rw [List.mem_singleton.1 hx]
      exact fch.1 (decide_eq_true h)
    · have h : ¬ k.toNat ≤ 1 := by have := of_decide_eq_false h; omega
      rw [fch.2 (decide_eq_false h)]
      rfl
  · refine fld_ok (fun h => ?_) (fun h => ?_)
    · have h : k.toNat = 0 := by have := of_decide_eq_true h; omega
      rw [vec16_list (fpr.1 h).1]
      exact ru_ok (by rw [(fpr.1 h).1]; rfl) (fpr.1 h).2
    · have h : ¬ k.toNat = 0 := by have := of_decide_eq_false h; omega
      rw [fpr.2 h]
      exact decide_eq_true rfl
  · refine fld_ok (fun h => ?_) (fun h => ?_)
    · have h : k.toNat = 6 := by have := of_decide_eq_true h; omega
      rw [vec4_list (m1 h).1]
      exact ru_ok (by rw [(m1 h).1]; rfl) (m1 h).2
    · have h : ¬ k.toNat = 6 := by have := of_decide_eq_false h; omega
      rw [m2 h]
      exact decide_eq_true rfl
  · refine fld_ok (fun h => rl_ok (by rw [m3]) m4) (fun h => ?_)
    have h := of_decide_eq_false h
    have : rl.length = 0 := by omega
    exact decide_eq_true (by omega)
  · have hpk : (0 : Int) < (partsN k : Int) ↔ 3 ≤ k.toNat ∧ k.toNat ≤ 6 := by
      unfold partsN
      by_cases g3 : k.toNat = 3
      · rw [if_pos g3]; omega
      rw [if_neg g3]
      by_cases g4 : k.toNat = 4
      · rw [if_pos g4]; omega
      rw [if_neg g4]
      by_cases g5 : k.toNat = 5
      · rw [if_pos g5]; omega
      rw [if_neg g5]
      by_cases g6 : k.toNat = 6
      · rw [if_pos g6]; omega
      rw [if_neg g6]; omega
    refine fld_ok (fun h => ?_) (fun h => ?_)
    · obtain ⟨g1, g2⟩ := m5 (hpk.1 (of_decide_eq_true h))
      unfold vectorsE
      dsimp only
      rw [if_neg (by rw [g1, g2]; simp)]
      refine rl_ok ?_ fun x hx => ?_
      · rw [← g2]
        have : (vl.flatMap fun v => [v.x, v.y]).length = 2 * vl.length := by
          generalize vl = l
          induction l with
          | nil => rfl
          | cons a l ih => rw [List.flatMap_cons, List.length_append, ih, List.length_cons]; simp only [List.length_cons, List.length_nil]; omega
        omega
      · obtain ⟨v, hv2, hx2⟩ := List.mem_flatMap.1 hx
        have := m7 v hv2
        simp only [List.mem_cons, List.not_mem_nil, or_false] at hx2
        rcases hx2 with rfl | rfl <;> omega
    · have h := of_decide_eq_false h
      rw [m6 (fun g => h (hpk.2 g))]
      rfl
  · refine fld_ok (fun h => ?_) (fun h => ?_)
    · unfold cbpE
      exact if_neg fc
    · exact absurd (show codedB k = false from h) (by rw [hcd]; decide)
  · refine fld_ok (fun h => rl_ok rfl fun x hx => ?_) (fun h => ?_)
    · rw [List.mem_singleton.1 hx]
      refine fqp.1 ?_
      have h : (decide ((k.toNat : Int) = 1) || (codedB k && !decide ((c.toNat : Int) = 0))) = true := h
      rw [hcd] at h
      simp only [Bool.true_and, Bool.or_eq_true, decide_eq_true_eq, Bool.not_eq_true', decide_eq_false_iff_not] at h ⊢
      omega
    · have h : (decide ((k.toNat : Int) = 1) || (codedB k && !decide ((c.toNat : Int) = 0))) = false := h
      rw [hcd] at h
      rw [fqp.2 (by simp only [Bool.true_and, Bool.or_eq_false_iff, decide_eq_false_iff_not, Bool.not_eq_false', decide_eq_true_eq] at h ⊢; omega)]
      rfl
  · refine fld_ok (fun h => ?_) (fun h => ?_)
    · unfold blocksE
      rw [hwl _ rfl rfl]
      dsimp only
      rw [if_neg (by rw [fbl]; simp)]
      refine go_ok fun i b y hb hy => ?_
      obtain ⟨q, rfl⟩ := fba i b y hb hy
      have hyc := hcat y (List.mem_of_getElem? hy)
      have hsz : 1 ≤ sizeN y.cat := by unfold sizeN; (repeat' split) <;> omega
      obtain ⟨g1, g2⟩ := blk_nums (sizeN y.cat) hsz σ q
      exact rl_ok (by rw [g1]) g2
    · exact absurd (show codedB k = false from h) (by rw [hcd]; decide)
  · refine fld_ok (fun h => ?_) (fun h => by simp)
    exact absurd (of_decide_eq_true h) (by show ¬ (k.toNat : Int) = 2; omega)
end Go.Proofs.YtomfoaaaeidpnaaDoor
