/-
  Bins does not depend on signs and does not become less if a number grows (plain law).
-/
import Derived.Test.YtomfoaaaeidpnaaDoorD1
set_option linter.unusedVariables false
set_option linter.unusedSimpArgs false
namespace Go.Proofs.YtomfoaaaeidpnaaDoor
open Go Go.RowKit
theorem blocksGo_same {bs bs' : List (List Int)} {cs : List Coded} (hl : bs'.map (·.length) = bs.map (·.length)) (hr : ∀ b ∈ bs', ∀ x ∈ b, -32768 ≤ x ∧ x ≤ 32768) (h : blocksGo bs cs = 0) : blocksGo bs' cs = 0 := by
  induction bs generalizing bs' cs with
  | nil => cases bs' with
    | nil => rfl
    | cons a r => cases hl
  | cons b bs ih =>
    cases bs' with
    | nil => cases hl
    | cons b' bs' =>
      cases cs with
      | nil => rfl
      | cons c cs =>
        rw [blocksGo] at h ⊢
        simp only [List.map_cons, List.cons.injEq] at hl
        split at h
        · rename_i h1; exact absurd h h1
        · rename_i h1
          have h1 := (rangedL_ok (Classical.not_not.1 h1)).1
          have e : rangedL b' (sizeN c.cat) (-32768) 32768 = 0 := rangedL_in (by omega) fun j x hx => hr b' (List.mem_cons_self ..) x (List.mem_of_getElem? hx)
          rw [if_neg (by rw [e]; decide)]
          exact ih hl.2 (fun b hb => hr b (List.mem_cons_of_mem _ hb)) h
theorem blocksGo_len {bs : List (List Int)} {cs : List Coded} (hl : bs.length = cs.length) (hc : ∀ c ∈ cs, c.cat.toNat < 5) (h : blocksGo bs cs = 0) : ∀ b ∈ bs, b ≠ [] := by
  induction bs generalizing cs with
  | nil => intro b hb; cases hb
  | cons b bs ih =>
    cases cs with
    | nil => cases hl
    | cons c cs =>
      rw [blocksGo] at h
      split at h
      · rename_i h1; exact absurd h h1
      · rename_i h1
        have h1 := (rangedL_ok (Classical.not_not.1 h1)).1
        have h2 := hc c (List.mem_cons_self ..)
        have h3 : 4 ≤ sizeN c.cat := by unfold sizeN; (repeat' split) <;> omega
        intro b' hb'
        rcases List.mem_cons.1 hb' with rfl | hb'
        · intro e; rw [e] at h1; simp at h1; omega
        · exact ih (Nat.succ.inj hl) (fun c hc' => hc c (List.mem_cons_of_mem _ hc')) h b' hb'
/-- What has the same lengths, and numbers in their ranges, is valid too. -/
theorem valid_same {m : Mb} {V : List Vec} {B : List (List Int)} (hv : V.length = m.mvds.length) (hv2 : ∀ v ∈ V, (-8192 ≤ v.x ∧ v.x ≤ 8192) ∧ (-8192 ≤ v.y ∧ v.y ≤ 8192)) (hb : B.map (·.length) = m.blocks.map (·.length)) (hb2 : ∀ b ∈ B, ∀ x ∈ b, -32768 ≤ x ∧ x ≤ 32768)
    (h : validB m = true) : validB { m with mvds := V, blocks := B } = true := by
  obtain ⟨hk, hf⟩ := valid_fields h
  have hbl : B.length = m.blocks.length := by have := congrArg List.length hb; simpa using this
  refine decide_eq_true ?_
  rw [checkE_inter (by omega) (by omega), if_neg (by simp only [decide_eq_true_eq]; omega), fields_zero]
  rw [fields_zero] at hf
  intro i hi x hx
  have : i = 0 ∨ i = 1 ∨ i = 2 ∨ i = 3 ∨ i = 4 ∨ i = 5 ∨ i = 6 ∨ i = 7 ∨ i = 8 ∨ i = 9 := by omega
  rcases this with rfl | rfl | rfl | rfl | rfl | rfl | rfl | rfl | rfl | rfl
  · exact hf 0 hi x hx
  · exact hf 1 hi x hx
  · exact hf 2 hi x hx
  · exact hf 3 hi x hx
  · exact hf 4 hi x hx
  · have hx := Option.some.inj hx
    subst hx
    have h5 := hf 5 hi _ rfl
    unfold fldErr at h5 ⊢
    dsimp only at h5 ⊢
    rw [hv]
    split at h5
    · rename_i hc
      rw [if_pos hc]
      unfold vectorsE at h5 ⊢
      dsimp only
      split at h5
      · omega
      · rename_i hn
        rw [hv, if_neg hn]
        have h1 := (rangedL_ok h5).1
        refine rangedL_in ?_ fun j x hx => ?_
        · rw [← h1]
          simp only [List.length_flatMap, List.length_cons, List.length_nil]
          rw [List.map_const', List.map_const', hv]
        · obtain ⟨v, hvv, hm⟩ := List.mem_flatMap.1 (List.mem_of_getElem? hx)
          have := hv2 v hvv
          simp only [List.mem_cons, List.not_mem_nil, or_false] at hm
          rcases hm with rfl | rfl
          · exact this.1
          · exact this.2
    · rename_i hc
      rw [if_neg hc]
      exact h5
  · exact hf 6 hi x hx
  · exact hf 7 hi x hx
  · have hx := Option.some.inj hx
    subst hx
    have h8 := hf 8 hi _ rfl
    unfold fldErr at h8 ⊢
    dsimp only at h8 ⊢
    rw [hbl]
    split at h8
    · rename_i hc
      rw [if_pos hc]
      unfold blocksE at h8 ⊢
      dsimp only
      have e : blocksL { m with mvds := V, blocks := B } = blocksL m := rfl
      rw [e]
      split at h8
      · omega
      · rename_i hn
        rw [hbl, if_neg hn]
        exact blocksGo_same hb hb2 h8
    · rename_i hc
      rw [if_neg hc]
      exact h8
  · exact hf 9 hi x hx
theorem valid_block {m : Mb} (h : validB m = true) : ∀ b ∈ m.blocks, b ≠ [] := by
  have h := (valid_fields h).2
  have f8 := fld_at h (i := 8) rfl
  rcases f8 with ⟨_, f8⟩ | ⟨_, f8⟩
  · have f8 : blocksE m = 0 := f8
    unfold blocksE at f8
    split at f8
    · omega
    · rename_i h0
      exact blocksGo_len (Classical.not_not.1 h0) (blocksL_cat m) f8
  · have h1 := of_decide_eq_true f8
    have h2 : m.blocks = [] := List.eq_nil_of_length_eq_zero (by omega)
    rw [h2]
    intro b hb; cases hb
theorem log2_mono {a b : Nat} (h : a ≤ b) : Nat.log2 a ≤ Nat.log2 b := by
  by_cases ha : a = 0
  · subst ha; simp
  · have h1 : b < 2 ^ (Nat.log2 b + 1) := Nat.lt_log2_self
    have := (Nat.log2_lt ha (k := Nat.log2 b + 1)).2 (by omega)
    omega
theorem escN_mono {a b k : Nat} (h : a ≤ b) : escN a k ≤ escN b k := by
  unfold escN
  have := log2_mono (a := a / 2 ^ k + 1) (b := b / 2 ^ k + 1) (Nat.succ_le_succ (Nat.div_le_div_right h))
  omega
theorem compN_mono {a b : Int} (h : a.natAbs ≤ b.natAbs) : compN a ≤ compN b := by
  have := escN_mono (a := a.natAbs - 9) (b := b.natAbs - 9) (k := 3) (by omega)
  unfold compN
  split <;> split <;> omega
theorem levelN_mono {a b : Int} (h : a.natAbs ≤ b.natAbs) : levelN a ≤ levelN b := by
  have := escN_mono (a := a.natAbs - 15) (b := b.natAbs - 15) (k := 0) (by omega)
  unfold levelN
  by_cases ha : a = 0
  · rw [if_pos ha]; exact Nat.zero_le _
  · have hb : b ≠ 0 := by omega
    rw [if_neg ha, if_neg hb]
    by_cases h1 : 15 ≤ a.natAbs
    · rw [if_pos h1, if_pos (by omega)]; omega
    · rw [if_neg h1]; omega
theorem sumN_le2 {α : Type} (f : α → Nat) (l l' : List α) (hl : l.length = l'.length) (h : ∀ (i : Nat) x y, l[i]? = some x → l'[i]? = some y → f x ≤ f y) : sumN f l ≤ sumN f l' := by
  induction l generalizing l' with
  | nil => exact Nat.zero_le _
  | cons a r ih =>
    cases l' with
    | nil => cases hl
    | cons b s =>
      rw [sumN_cons, sumN_cons]
      have h1 := h 0 a b rfl rfl
      have h2 := ih s (Nat.succ.inj hl) fun i x y hx hy => h (i + 1) x y hx hy
      omega
/-- Numbers that are as great or greater. -/
def LeL (a b : List Int) : Prop := a.length = b.length ∧ ∀ (i : Nat) x y, a[i]? = some x → b[i]? = some y → x.natAbs ≤ y.natAbs
theorem blockN_mono {a b : List Int} (h : LeL a b) : blockN a ≤ blockN b := by
  have := sumN_le2 levelN a b h.1 fun i x y hx hy => levelN_mono (h.2 i x y hx hy)
  have hl := h.1
  unfold blockN
  split <;> split <;> omega
theorem bins_le {m : Mb} {V : List Vec} {B : List (List Int)} (hv : V.length = m.mvds.length) (hv2 : ∀ (i : Nat) x y, m.mvds[i]? = some x → V[i]? = some y → x.x.natAbs ≤ y.x.natAbs ∧ x.y.natAbs ≤ y.y.natAbs)
    (hb : B.length = m.blocks.length) (hb2 : ∀ (i : Nat) x y, m.blocks[i]? = some x → B[i]? = some y → LeL x y) : binsN m ≤ binsN { m with mvds := V, blocks := B } := by
  have h1 := sumN_le2 vecN m.mvds V hv.symm fun i x y hx hy => by
    have := hv2 i x y hx hy
    have := compN_mono this.1
    have := compN_mono (hv2 i x y hx hy).2
    unfold vecN; omega
  have h2 := sumN_le2 blockN m.blocks B hb.symm fun i x y hx hy => blockN_mono (hb2 i x y hx hy)
  unfold binsN
  dsimp only
  split
  · omega
  · split <;> omega
def negV (v : Vec) : Vec := ⟨-v.x, -v.y⟩
def negM (m : Mb) : Mb := { m with mvds := m.mvds.map negV, blocks := m.blocks.map (·.map (- ·)) }
theorem sumN_map {α β : Type} (f : β → Nat) (g : α → β) (l : List α) : sumN f (l.map g) = sumN (fun x => f (g x)) l := by simp [sumN, Function.comp_def]
theorem sumN_congr {α : Type} (f g : α → Nat) (l : List α) (h : ∀ x, f x = g x) : sumN f l = sumN g l := by rw [show f = g from funext h]
theorem levelN_neg (v : Int) : levelN (-v) = levelN v := by
  unfold levelN
  rw [Int.natAbs_neg]
  by_cases h : v = 0
  · rw [if_pos h, if_pos (by omega)]
  · rw [if_neg h, if_neg (by omega)]
theorem blockN_neg (l : List Int) : blockN (l.map (- ·)) = blockN l := by
  unfold blockN
  rw [sumN_map, sumN_congr (fun x => levelN (-x)) levelN l levelN_neg, List.length_map]
theorem vecN_neg (v : Vec) : vecN (negV v) = vecN v := by unfold vecN compN negV; simp only [Int.natAbs_neg]
theorem bins_neg (m : Mb) : binsN (negM m) = binsN m := by
  unfold binsN negM
  dsimp only
  rw [sumN_map, sumN_map, sumN_congr _ vecN m.mvds vecN_neg, sumN_congr _ blockN m.blocks blockN_neg]
theorem valid_neg {m : Mb} (h : validB m = true) : validB (negM m) = true := by
  have hs := valid_sm h
  refine valid_same (by simp) (fun v hv => ?_) (by simp [Function.comp_def]) (fun b hb x hx => ?_) h
  · obtain ⟨u, hu, rfl⟩ := List.mem_map.1 hv
    have := hs.mvds u hu
    unfold negV
    dsimp only
    omega
  · obtain ⟨c, hc, rfl⟩ := List.mem_map.1 hb
    obtain ⟨y, hy, rfl⟩ := List.mem_map.1 hx
    have := (hs.blocks c hc).2 y hy
    omega
theorem binsV_neg {m : Mb} (h : validB m = true) : binsV (negM m) = binsV m := by
  unfold binsV
  rw [if_pos (valid_neg h), if_pos h, bins_neg]
def growI (v more most : Int) : Int := if v < 0 then max (v - more) (-most) else min (v + more) most
theorem growI_le {v more most : Int} (h0 : 0 ≤ more) (h1 : (v.natAbs : Int) ≤ most) : v.natAbs ≤ (growI v more most).natAbs ∧ -most ≤ growI v more most ∧ growI v more most ≤ most := by
  unfold growI
  split <;> omega
theorem binsV_grow {m : Mb} {V : List Vec} {B : List (List Int)} (h : validB m = true) (hv : V.length = m.mvds.length) (hv2 : ∀ (i : Nat) x y, m.mvds[i]? = some x → V[i]? = some y → x.x.natAbs ≤ y.x.natAbs ∧ x.y.natAbs ≤ y.y.natAbs ∧ y.x.natAbs ≤ 8192 ∧ y.y.natAbs ≤ 8192)
    (hb : B.length = m.blocks.length) (hb2 : ∀ (i : Nat) x y, m.blocks[i]? = some x → B[i]? = some y → LeL x y ∧ ∀ z ∈ y, z.natAbs ≤ 32768) : binsV m ≤ binsV { m with mvds := V, blocks := B } := by
  have hV : validB { m with mvds := V, blocks := B } = true := by
    refine valid_same hv (fun v hv' => ?_) ?_ (fun b hb' x hx => ?_) h
    · obtain ⟨i, hi⟩ := List.getElem?_of_mem hv'
      have hil := (List.getElem?_eq_some_iff.1 hi).1
      have := hv2 i (m.mvds[i]'(by omega)) v (List.getElem?_eq_getElem (by omega)) hi
      omega
    · refine List.ext_getElem? fun i => ?_
      rw [List.getElem?_map, List.getElem?_map]
      by_cases hi : i < B.length
      · have h1 : B[i]? = some B[i] := List.getElem?_eq_getElem hi
        have h2 : m.blocks[i]? = some (m.blocks[i]'(by omega)) := List.getElem?_eq_getElem (by omega)
        rw [h1, h2]
        exact congrArg some (hb2 i _ _ h2 h1).1.1.symm
      · rw [List.getElem?_eq_none (by omega), List.getElem?_eq_none (by omega)]
    · obtain ⟨i, hi⟩ := List.getElem?_of_mem hb'
      have hil := (List.getElem?_eq_some_iff.1 hi).1
      have := (hb2 i (m.blocks[i]'(by omega)) b (List.getElem?_eq_getElem (by omega)) hi).2 x hx
      omega
  unfold binsV
  rw [if_pos h, if_pos hV]
  exact bins_le hv (fun i x y hx hy => ⟨(hv2 i x y hx hy).1, (hv2 i x y hx hy).2.1⟩) hb fun i x y hx hy => (hb2 i x y hx hy).1
theorem binsN_ge (m : Mb) : 2 ≤ binsN m := by
  unfold binsN
  split
  · omega
  · split <;> omega
end Go.Proofs.YtomfoaaaeidpnaaDoor
