/-
  One number of a valid macroblock changed: what Check says then.
-/
import Derived.Test.YteeeabnfgpolgaaDoorM7
import Derived.Test.YteeeabnfgpolgaaDoorSlJ
set_option linter.unusedVariables false
set_option linter.unusedSimpArgs false
namespace Go.Proofs.YteeeabnfgpolgaaDoor
open Go Go.RowKit
theorem firstE_all : ∀ {F : List Fld}, firstE F = 0 → ∀ x ∈ F, fldErr x = 0
  | [], _, x, hx => by cases hx
  | y :: F, h, x, hx => by
    unfold firstE at h
    by_cases hy : fldErr y = 0
    · rw [if_neg (by simp [hy])] at h
      rcases List.mem_cons.1 hx with rfl | hx
      · exact hy
      · exact firstE_all h x hx
    · rw [if_pos hy] at h; exact absurd h hy
theorem firstE_zero : ∀ {F : List Fld}, (∀ x ∈ F, fldErr x = 0) → firstE F = 0
  | [], _ => rfl
  | y :: F, h => by
    unfold firstE
    rw [if_neg (by rw [h y (List.mem_cons_self ..)]; simp)]
    exact firstE_zero fun x hx => h x (List.mem_cons_of_mem _ hx)
theorem firstE_set : ∀ {F : List Fld} {i : Nat} {x : Fld}, (∀ z ∈ F, fldErr z = 0) → i < F.length → firstE (F.set i x) = fldErr x
  | [], i, x, _, hi => by cases hi
  | y :: F, 0, x, h, _ => by
    rw [List.set_cons_zero]
    unfold firstE
    split
    · rfl
    · rename_i h0
      rw [firstE_zero fun z hz => h z (List.mem_cons_of_mem _ hz)]
      exact (Classical.not_not.1 h0).symm
  | y :: F, i + 1, x, h, hi => by
    rw [List.set_cons_succ]
    unfold firstE
    rw [if_neg (by rw [h y (List.mem_cons_self ..)]; simp)]
    exact firstE_set (fun z hz => h z (List.mem_cons_of_mem _ hz)) (by simpa using hi)
section
variable {m m' : Mb}
theorem check_kind (hv : checkE m false 3 = 0) : m.kind.toNat ≤ 7 ∧ firstE (fieldsL m 3) = 0 := by
  unfold checkE at hv
  rw [if_neg (by decide)] at hv
  by_cases h : (7 : Int) < (m.kind.toNat : Int)
  · rw [if_pos (by simp only [decide_eq_true h, Bool.true_or])] at hv; cases hv
  · rw [if_neg (by simp only [decide_eq_false h, Bool.false_and, Bool.or_false]; decide)] at hv
    exact ⟨by omega, hv⟩
theorem check_first (hk : m.kind.toNat ≤ 7) : checkE m false 3 = firstE (fieldsL m 3) := by
  unfold checkE
  have h : ¬ (7 : Int) < (m.kind.toNat : Int) := by omega
  rw [if_neg (by decide), if_neg (by simp only [decide_eq_false h, Bool.false_and, Bool.or_false]; decide)]
theorem check_set (hv : checkE m false 3 = 0) (i : Nat) (x : Fld) (hk : m'.kind = m.kind) (hi : i < 10) (hf : fieldsL m' 3 = (fieldsL m 3).set i x) : checkE m' false 3 = fldErr x := by
  obtain ⟨h1, h2⟩ := check_kind hv
  rw [check_first (by rw [hk]; exact h1), hf]
  exact firstE_set (firstE_all h2) hi
theorem check_fld (hv : checkE m false 3 = 0) {i : Nat} {x : Fld} (h : (fieldsL m 3)[i]? = some x) : fldErr x = 0 := firstE_all (check_kind hv).2 x (List.mem_of_getElem? h)
theorem ranged1 (n lo hi : Int) : rangedL [n] 1 lo hi = if n < lo ∨ hi < n then 3 else 0 := by
  unfold rangedL
  rw [if_neg (by simp)]
  simp only [List.all_cons, List.all_nil, Bool.and_true]
  by_cases h : n < lo ∨ hi < n
  · rw [if_pos h, if_neg (by simp only [decide_eq_true_eq]; omega)]
  · rw [if_neg h, if_pos (by simp only [decide_eq_true_eq]; omega)]
theorem rangedL_zero {l : List Int} {n lo hi : Int} (h : rangedL l n lo hi = 0) : (l.length : Int) = n ∧ ∀ x ∈ l, lo ≤ x ∧ x ≤ hi := by
  unfold rangedL at h
  split at h
  · cases h
  · rename_i h1
    split at h
    · rename_i h2
      refine ⟨Classical.not_not.1 h1, fun x hx => ?_⟩
      have := List.all_eq_true.1 h2 x hx
      exact of_decide_eq_true this
    · cases h
theorem rangedL_ok {l : List Int} {n lo hi : Int} (h1 : (l.length : Int) = n) (h2 : ∀ x ∈ l, lo ≤ x ∧ x ≤ hi) : rangedL l n lo hi = 0 := by
  unfold rangedL
  rw [if_neg (by simp [h1]), if_pos (List.all_eq_true.2 fun x hx => decide_eq_true (h2 x hx))]
theorem rangedL_bad {l : List Int} {n lo hi x : Int} (h1 : (l.length : Int) = n) (hx : x ∈ l) (hb : x < lo ∨ hi < x) : rangedL l n lo hi = 3 := by
  unfold rangedL
  rw [if_neg (by simp [h1]), if_neg (fun h => ?_)]
  have := of_decide_eq_true (List.all_eq_true.1 h x hx)
  omega
theorem mem_set_or {α : Type} {l : List α} {i : Nat} {a x : α} (h : x ∈ l.set i a) : x ∈ l ∨ x = a := List.mem_or_eq_of_mem_set h
theorem rangedL_set {l : List Int} {n lo hi y : Int} (h : rangedL l n lo hi = 0) {i : Nat} (hi' : i < l.length) : rangedL (l.set i y) n lo hi = if y < lo ∨ hi < y then 3 else 0 := by
  obtain ⟨h1, h2⟩ := rangedL_zero h
  split
  · rename_i hb
    exact rangedL_bad (by rw [List.length_set]; exact h1) (List.mem_set hi' _) hb
  · rename_i hb
    refine rangedL_ok (by rw [List.length_set]; exact h1) fun x hx => ?_
    rcases mem_set_or hx with hx | rfl
    · exact h2 x hx
    · omega
theorem sp_qp (hv : checkE m false 3 = 0) (n : Int) : checkE { m with qp := n } false 3 = if m.kind.toNat = 1 ∨ m.cbp.toNat ≠ 0 then (if n < -26 ∨ 25 < n then 3 else 0) else if n = 0 then 0 else 2 := by
  have hc := check_fld hv (i := 6) rfl
  rw [check_set (m' := { m with qp := n }) hv 7 (decide ((m.kind.toNat : Int) = 1) || (codedB m.kind && !decide ((m.cbp.toNat : Int) = 0)), decide (n = 0), rangedL [n] 1 (-26) 25) rfl (by decide) rfl]
  unfold fldErr at hc ⊢
  dsimp only at hc ⊢
  rw [ranged1]
  by_cases h1 : m.kind.toNat = 1
  · have e : decide ((m.kind.toNat : Int) = 1) = true := by simp [h1]
    have hor : m.kind.toNat = 1 ∨ m.cbp.toNat ≠ 0 := .inl h1
    rw [e, Bool.true_or, if_pos rfl, if_pos hor]
  · have e : decide ((m.kind.toNat : Int) = 1) = false := by simp; omega
    rw [e, Bool.false_or]
    by_cases h2 : m.cbp.toNat = 0
    · have e2 : decide ((m.cbp.toNat : Int) = 0) = true := by simp [h2]
      have hor : ¬ (m.kind.toNat = 1 ∨ m.cbp.toNat ≠ 0) := by omega
      rw [e2, Bool.not_true, Bool.and_false, if_neg (by decide), if_neg hor]
      by_cases hn : n = 0
      · rw [decide_eq_true hn, if_pos rfl, if_pos hn]
      · rw [decide_eq_false hn, if_neg (by decide), if_neg hn]
    · have e2 : decide ((m.cbp.toNat : Int) = 0) = false := by simp; omega
      rw [e2] at hc ⊢
      have hcd : codedB m.kind = true := by
        cases hcd : codedB m.kind with
        | true => rfl
        | false => rw [hcd] at hc; simp at hc
      have hor : m.kind.toNat = 1 ∨ m.cbp.toNat ≠ 0 := .inr h2
      rw [hcd, Bool.not_false, Bool.and_true, if_pos rfl, if_pos hor]
theorem rangedU1 (x : UInt8) (hi : Nat) : rangedU [x] 1 0 hi = if hi < x.toNat then 3 else 0 := by
  unfold rangedU
  rw [if_neg (by simp)]
  simp only [List.all_cons, List.all_nil, Bool.and_true]
  by_cases h : hi < x.toNat
  · rw [if_pos h, if_neg (by simp only [decide_eq_true_eq]; omega)]
  · rw [if_neg h, if_pos (by simp only [decide_eq_true_eq]; omega)]
theorem sp_mode (hv : checkE m false 3 = 0) (x : UInt8) : checkE { m with mode := x } false 3 = if m.kind.toNat = 1 then (if 3 < x.toNat then 3 else 0) else if x.toNat = 0 then 0 else 2 := by
  rw [check_set (m' := { m with mode := x }) hv 0 (decide ((m.kind.toNat : Int) = 1), decide ((x.toNat : Int) = 0), rangedU [x] 1 0 3) rfl (by decide) rfl]
  unfold fldErr
  dsimp only
  rw [rangedU1]
  by_cases h1 : m.kind.toNat = 1
  · have e : decide ((m.kind.toNat : Int) = 1) = true := by simp [h1]
    rw [e, if_pos rfl, if_pos h1]
  · have e : decide ((m.kind.toNat : Int) = 1) = false := by simp; omega
    rw [e, if_neg (by decide), if_neg h1]
    by_cases hn : x.toNat = 0
    · simp [hn]
    · simp [hn]
theorem sp_refs (hv : checkE m false 3 = 0) (n : Int) {i : Nat} (hi : i < m.refs.length) : checkE { m with refs := m.refs.set i n } false 3 = if n < 0 ∨ 2 < n then 3 else 0 := by
  have hc := check_fld hv (i := 4) rfl
  rw [check_set (m' := { m with refs := m.refs.set i n }) hv 4 (decide ((0 : Int) < (partsN m.kind : Int)), decide (((m.refs.set i n).length : Int) = 0), rangedL (m.refs.set i n) (partsN m.kind) 0 (3 - 1)) rfl (by decide) rfl]
  unfold fldErr at hc ⊢
  dsimp only at hc ⊢
  by_cases h1 : (0 : Int) < (partsN m.kind : Int)
  · rw [decide_eq_true h1, if_pos rfl] at hc ⊢
    rw [rangedL_set hc hi]
    rfl
  · rw [decide_eq_false h1, if_neg (by decide)] at hc
    have : ¬ ((m.refs.length : Int) = 0) := by omega
    rw [decide_eq_false this] at hc
    cases hc
theorem vecs_set {l : List Vec} {i : Nat} {n : Int} {x0 : Vec} (hx : l[i]? = some x0) : (l.set i ⟨n, x0.y⟩).flatMap (fun v => [v.x, v.y]) = (l.flatMap fun v => [v.x, v.y]).set (2 * i) n := by
  induction l generalizing i with
  | nil => simp at hx
  | cons a l ih =>
    cases i with
    | zero => simp only [List.getElem?_cons_zero, Option.some.injEq] at hx; subst hx; rfl
    | succ i =>
      simp only [List.getElem?_cons_succ] at hx
      rw [List.set_cons_succ, List.flatMap_cons, List.flatMap_cons, ih hx, show 2 * (i + 1) = 2 * i + 1 + 1 by omega]
      rfl
theorem sp_mvds (hv : checkE m false 3 = 0) (n : Int) {i : Nat} {x0 : Vec} (hx : m.mvds[i]? = some x0) : checkE { m with mvds := m.mvds.set i ⟨n, x0.y⟩ } false 3 = if n < -8192 ∨ 8192 < n then 3 else 0 := by
  have hi : i < m.mvds.length := (List.getElem?_eq_some_iff.1 hx).1
  have hc := check_fld hv (i := 5) rfl
  rw [check_set (m' := { m with mvds := m.mvds.set i ⟨n, x0.y⟩ }) hv 5 (decide ((0 : Int) < (partsN m.kind : Int)), decide (((m.mvds.set i ⟨n, x0.y⟩).length : Int) = 0), vectorsE { m with mvds := m.mvds.set i ⟨n, x0.y⟩ }) rfl (by decide) rfl]
  unfold fldErr at hc ⊢
  dsimp only at hc ⊢
  by_cases h1 : (0 : Int) < (partsN m.kind : Int)
  · rw [decide_eq_true h1, if_pos rfl] at hc ⊢
    unfold vectorsE at hc ⊢
    dsimp only at hc ⊢
    rw [List.length_set]
    by_cases h2 : (piecesP m.kind m.sub).2 ≠ 0 ∨ m.mvds.length ≠ (piecesP m.kind m.sub).1
    · rw [if_pos h2] at hc; cases hc
    · rw [if_neg h2] at hc ⊢
      rw [vecs_set hx, rangedL_set hc]
      have : (m.mvds.flatMap fun v => [v.x, v.y]).length = 2 * m.mvds.length := by
        generalize m.mvds = l
        induction l with
        | nil => rfl
        | cons a l ih => rw [List.flatMap_cons, List.length_append, ih, List.length_cons]; simp only [List.length_cons, List.length_nil]; omega
      omega
  · rw [decide_eq_false h1, if_neg (by decide)] at hc
    have : ¬ ((m.mvds.length : Int) = 0) := by omega
    rw [decide_eq_false this] at hc
    cases hc
theorem spGo_zero : ∀ {bs : List (List Int)} {cs : List Coded}, blocksGo bs cs = 0 → ∀ (i : Nat) b c, bs[i]? = some b → cs[i]? = some c → rangedL b (sizeN c.cat) (-32768) 32768 = 0
  | [], cs, _, i, b, c, hb, _ => by simp at hb
  | b0 :: bs, [], _, i, b, c, _, hc => by simp at hc
  | b0 :: bs, c0 :: cs, h, i, b, c, hb, hc => by
    unfold blocksGo at h
    by_cases h0 : rangedL b0 (sizeN c0.cat) (-32768) 32768 = 0
    · rw [if_neg (by simp [h0])] at h
      cases i with
      | zero =>
        simp only [List.getElem?_cons_zero, Option.some.injEq] at hb hc
        subst hb; subst hc
        exact h0
      | succ i => exact spGo_zero h i b c (by simpa using hb) (by simpa using hc)
    · rw [if_pos h0] at h; exact absurd h h0
theorem spGo_ok : ∀ {bs : List (List Int)} {cs : List Coded}, (∀ (i : Nat) b c, bs[i]? = some b → cs[i]? = some c → rangedL b (sizeN c.cat) (-32768) 32768 = 0) → blocksGo bs cs = 0
  | [], cs, _ => by unfold blocksGo; rfl
  | b0 :: bs, [], _ => by unfold blocksGo; rfl
  | b0 :: bs, c0 :: cs, h => by
    unfold blocksGo
    rw [if_neg (by simp [h 0 b0 c0 rfl rfl])]
    exact spGo_ok fun i b c hb hc => h (i + 1) b c (by simpa using hb) (by simpa using hc)
theorem spGo_bad : ∀ {bs : List (List Int)} {cs : List Coded}, (∀ (i : Nat) b c, bs[i]? = some b → cs[i]? = some c → rangedL b (sizeN c.cat) (-32768) 32768 = 0 ∨ rangedL b (sizeN c.cat) (-32768) 32768 = 3) →
    (∃ (i : Nat) (b : List Int) (c : Coded), bs[i]? = some b ∧ cs[i]? = some c ∧ rangedL b (sizeN c.cat) (-32768) 32768 = 3) → blocksGo bs cs = 3
  | [], cs, _, ⟨i, b, c, hb, _, _⟩ => by simp at hb
  | b0 :: bs, [], _, ⟨i, b, c, _, hc, _⟩ => by simp at hc
  | b0 :: bs, c0 :: cs, h, ⟨i, b, c, hb, hc, hr⟩ => by
    unfold blocksGo
    rcases h 0 b0 c0 rfl rfl with h0 | h0
    · rw [if_neg (by simp [h0])]
      refine spGo_bad (fun i b c hb hc => h (i + 1) b c (by simpa using hb) (by simpa using hc)) ?_
      cases i with
      | zero =>
        simp only [List.getElem?_cons_zero, Option.some.injEq] at hb hc
        subst hb; subst hc
        rw [h0] at hr; cases hr
      | succ i => exact ⟨i, b, c, by simpa using hb, by simpa using hc, hr⟩
    · rw [if_pos (by rw [h0]; decide), h0]
/-- Blocks in which some numbers are n now. -/
theorem sp_blocks (hv : checkE m false 3 = 0) (n : Int) (bs : List (List Int)) (hl : bs.length = m.blocks.length) (hn : ∀ (i : Nat) x y, m.blocks[i]? = some x → bs[i]? = some y → Near n x y) (hx : ∃ (i : Nat) (y : List Int), bs[i]? = some y ∧ n ∈ y) :
    checkE { m with blocks := bs } false 3 = if n < -32768 ∨ 32768 < n then 3 else 0 := by
  obtain ⟨i0, y0, hy0, hny⟩ := hx
  have hi0 : i0 < bs.length := (List.getElem?_eq_some_iff.1 hy0).1
  have hc := check_fld hv (i := 8) rfl
  rw [check_set (m' := { m with blocks := bs }) hv 8 (codedB m.kind, decide ((bs.length : Int) = 0), blocksE { m with blocks := bs }) rfl (by decide) rfl]
  unfold fldErr at hc ⊢
  dsimp only at hc ⊢
  cases hcd : codedB m.kind with
  | false =>
    rw [hcd, if_neg (by decide)] at hc
    have : ¬ ((m.blocks.length : Int) = 0) := by omega
    rw [decide_eq_false this] at hc
    cases hc
  | true =>
    rw [hcd, if_pos rfl] at hc
    rw [if_pos rfl]
    have hbl : blocksL { m with blocks := bs } = blocksL m := rfl
    unfold blocksE at hc ⊢
    rw [hbl]
    dsimp only
    by_cases h2 : m.blocks.length ≠ (blocksL m).length
    · rw [if_pos h2] at hc; cases hc
    · rw [if_neg h2] at hc
      rw [if_neg (by omega)]
      have hz := spGo_zero hc
      have hg : ∀ (i : Nat) b c, bs[i]? = some b → (blocksL m)[i]? = some c → ∃ b', m.blocks[i]? = some b' ∧ Near n b' b ∧ (b.length : Int) = sizeN c.cat ∧ ∀ x ∈ b', -32768 ≤ x ∧ x ≤ 32768 := fun i b c hb hcc => by
        have hi : i < bs.length := (List.getElem?_eq_some_iff.1 hb).1
        obtain ⟨b', hb'⟩ : ∃ b', m.blocks[i]? = some b' := ⟨_, List.getElem?_eq_getElem (by omega)⟩
        have h1 := rangedL_zero (hz i b' c hb' hcc)
        have h3 := hn i b' b hb' hb
        exact ⟨b', hb', h3, by rw [h3.1]; exact h1.1, h1.2⟩
      split
      · rename_i hb
        refine spGo_bad (fun i b c hb' hcc => ?_) ?_
        · obtain ⟨b', h1, h3, h4, h5⟩ := hg i b c hb' hcc
          by_cases hnb : n ∈ b
          · exact .inr (rangedL_bad h4 hnb hb)
          · refine .inl (rangedL_ok h4 fun x hx => ?_)
            obtain ⟨j, hj⟩ := List.getElem?_of_mem hx
            have hjl : j < b'.length := by rw [← h3.1]; exact (List.getElem?_eq_some_iff.1 hj).1
            rcases h3.2 j _ x (List.getElem?_eq_getElem hjl) hj with e | e
            · rw [e]; exact h5 _ (List.getElem_mem hjl)
            · rw [e] at hx; exact absurd hx hnb
        · obtain ⟨c, hcc⟩ : ∃ c, (blocksL m)[i0]? = some c := ⟨_, List.getElem?_eq_getElem (by omega)⟩
          obtain ⟨b', h1, h3, h4, h5⟩ := hg i0 y0 c hy0 hcc
          exact ⟨i0, y0, c, hy0, hcc, rangedL_bad h4 hny hb⟩
      · rename_i hb
        refine spGo_ok fun i b c hb' hcc => ?_
        obtain ⟨b', h1, h3, h4, h5⟩ := hg i b c hb' hcc
        exact rangedL_ok h4 (near_all h3 (p := fun x => -32768 ≤ x ∧ x ≤ 32768) h5 (by omega))
theorem zero16_set (i : Nat) (hi : i < 16) (x : UInt8) : (zero16.set i x = zero16) ↔ x.toNat = 0 := by
  constructor
  · intro h
    have h2 : (zero16.set i x)[i] = zero16[i] := by rw [h]
    rw [Vector.getElem_set_self] at h2
    rw [h2]
    unfold zero16
    rw [Vector.getElem_replicate]
    rfl
  · intro h
    have hx : x = 0 := UInt8.toNat_inj.1 h
    subst hx
    refine Vector.ext fun j hj => ?_
    rw [Vector.getElem_set]
    split
    · unfold zero16; rw [Vector.getElem_replicate]
    · rfl
theorem sp_preds (hv : checkE m false 3 = 0) (x : UInt8) {i : Nat} (hi : i < 16) : checkE { m with preds := m.preds.set i x } false 3 = if m.kind.toNat = 0 then (if 8 < x.toNat then 3 else 0) else if x.toNat = 0 then 0 else 2 := by
  have hc := check_fld hv (i := 2) rfl
  rw [check_set (m' := { m with preds := m.preds.set i x }) hv 2 (decide ((m.kind.toNat : Int) = 0), decide (m.preds.set i x = zero16), rangedU (m.preds.set i x).toList 16 0 8) rfl (by decide) rfl]
  unfold fldErr at hc ⊢
  dsimp only at hc ⊢
  by_cases h1 : m.kind.toNat = 0
  · have e : decide ((m.kind.toNat : Int) = 0) = true := by simp [h1]
    rw [e, if_pos rfl] at hc ⊢
    rw [if_pos h1]
    have hs : (m.preds.set i x).toList = m.preds.toList.set i x := by rw [Vector.toList_set]
    rw [hs]
    have hlen : m.preds.toList.length = 16 := by simp
    unfold rangedU at hc ⊢
    rw [List.length_set, hlen]
    rw [hlen, if_neg (by decide)] at hc
    rw [if_neg (by decide)]
    have hall : m.preds.toList.all (fun x => decide (0 ≤ x.toNat ∧ x.toNat ≤ 8)) = true := by
      by_cases hh : m.preds.toList.all (fun x => decide (0 ≤ x.toNat ∧ x.toNat ≤ 8)) = true
      · exact hh
      · rw [if_neg hh] at hc; cases hc
    split
    · rename_i h3
      have := of_decide_eq_true (List.all_eq_true.1 h3 x (List.mem_set (by omega) _))
      rw [if_neg (by omega)]
    · rename_i h3
      split
      · rfl
      · rename_i h4
        refine absurd (List.all_eq_true.2 fun y hy => ?_) h3
        rcases mem_set_or hy with hy | rfl
        · exact List.all_eq_true.1 hall y hy
        · exact decide_eq_true ⟨Nat.zero_le _, by omega⟩
  · have e : decide ((m.kind.toNat : Int) = 0) = false := by simp; omega
    rw [e, if_neg (by decide)] at hc ⊢
    rw [if_neg h1]
    have hz : m.preds = zero16 := by
      by_cases hh : m.preds = zero16
      · exact hh
      · rw [decide_eq_false hh] at hc; cases hc
    rw [hz]
    by_cases hx : x.toNat = 0
    · rw [if_pos hx, decide_eq_true ((zero16_set i hi x).2 hx), if_pos rfl]
    · rw [if_neg hx, decide_eq_false (fun h => hx ((zero16_set i hi x).1 h)), if_neg (by decide)]
end
end Go.Proofs.YteeeabnfgpolgaaDoor
