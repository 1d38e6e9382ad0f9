/-
  What the reference says of a macroblock is what mb.Check says.
-/
import Derived.Test.YtomfoaaaeidpnaaDoorM16
set_option linter.unusedVariables false
set_option linter.unusedSimpArgs false
namespace Go.Proofs.YtomfoaaaeidpnaaDoor
open Go Go.RowKit
def orE (a b : Int) : Int := if a ≠ 0 then a else b
theorem nz_app (a b : List Int) : firstNZ (a ++ b) = orE (firstNZ a) (firstNZ b) := by
  induction a with
  | nil => rfl
  | cons x r ih =>
    rw [List.cons_append, firstNZ, firstNZ]
    by_cases h : x = 0
    · rw [if_neg (by omega), if_neg (by omega), ih]
    · rw [if_pos h, if_pos h]; unfold orE; rw [if_pos h]
theorem nz_one (x : Int) : firstNZ [x] = x := by
  unfold firstNZ firstNZ
  by_cases h : x = 0
  · rw [if_neg (by omega)]; omega
  · rw [if_pos h]
theorem firstE_cons (x : Fld) (r : List Fld) : firstE (x :: r) = orE (fldErr x) (firstE r) := rfl
theorem orE_zero (a : Int) : orE a 0 = a := by unfold orE; split <;> omega
theorem orE_assoc (a b c : Int) : orE (orE a b) c = orE a (orE b c) := by
  unfold orE
  by_cases h : a = 0
  · subst h; simp
  · simp [h]
theorem nz_map {α : Type} (e : Int) (he : e ≠ 0) (p : α → Bool) (f : α → Int) (l : List α) (hf : ∀ x ∈ l, f x = if p x = true then 0 else e) : firstNZ (l.map f) = if l.all p = true then 0 else e := by
  induction l with
  | nil => rfl
  | cons x r ih =>
    rw [List.map_cons, firstNZ, hf x (List.mem_cons_self ..), ih fun y hy => hf y (List.mem_cons_of_mem _ hy), List.all_cons]
    cases p x with
    | true => simp
    | false => simp [he]
theorem absE_dec (p : Prop) [Decidable p] : absE (decide p) = if p then 0 else 2 := by unfold absE; simp only [decide_eq_true_eq]
theorem rng_all {l : List Int} {n : Nat} {lo hi : Int} : firstNZ ([absE (decide ((l.length : Int) = (n : Int)))] ++ l.map (fun x => rngE (decide (lo ≤ x) && decide (x ≤ hi)))) = rangedL l n lo hi := by
  rw [nz_app, nz_one, nz_map 3 (by decide) (fun x => decide (lo ≤ x ∧ x ≤ hi)) _ l (fun x _ => by
    unfold rngE
    simp only [Bool.and_eq_true, decide_eq_true_eq]), absE_dec]
  unfold rangedL orE
  by_cases h : (l.length : Int) = (n : Int)
  · rw [if_pos h, if_neg (by decide), if_neg (show ¬ (l.length : Int) ≠ (n : Int) by omega)]
  · rw [if_neg h, if_pos (by decide), if_pos h]
theorem all_one {α : Type} (p : α → Bool) (x : α) : [x].all p = p x := by simp
/-- Segment by segment. -/
theorem seg_mode (m : Mb) : fldErr (decide ((m.kind.toNat : Int) = 1), decide ((m.mode.toNat : Int) = 0), rangedU [m.mode] 1 0 3) = smallA m := by
  unfold fldErr smallA rangedU
  by_cases h : m.kind.toNat = 1
  · rw [if_pos h]
    have hk : decide ((m.kind.toNat : Int) = 1) = true := decide_eq_true (by omega)
    simp only [hk, if_true]
    unfold rngE
    simp only [List.length_cons, List.length_nil, all_one, decide_eq_true_eq]
    split <;> split <;> (try split) <;> first | rfl | omega
  · rw [if_neg h, absE_dec]
    have : decide ((m.kind.toNat : Int) = 1) = false := decide_eq_false (by omega)
    simp only [this, Bool.false_eq_true, if_false, decide_eq_true_eq]
theorem seg_chroma (m : Mb) : fldErr (decide ((m.kind.toNat : Int) ≤ 1), decide ((m.chroma.toNat : Int) = 0), rangedU [m.chroma] 1 0 3) = smallB m := by
  unfold fldErr smallB rangedU
  by_cases h : m.kind.toNat ≤ 1
  · rw [if_pos h]
    have : decide ((m.kind.toNat : Int) ≤ 1) = true := decide_eq_true (by omega)
    simp only [this, if_true]
    unfold rngE
    simp only [List.length_cons, List.length_nil, all_one, decide_eq_true_eq]
    split <;> split <;> (try split) <;> first | rfl | omega
  · rw [if_neg h, absE_dec]
    have : decide ((m.kind.toNat : Int) ≤ 1) = false := decide_eq_false (by omega)
    simp only [this, Bool.false_eq_true, if_false, decide_eq_true_eq]
theorem all_zero16 (p : Vector UInt8 16) : (p.toList.all fun x => decide ((x.toNat : Int) = 0)) = decide (p = zero16) := by
  rw [Bool.eq_iff_iff, decide_eq_true_eq, List.all_eq_true]
  constructor
  · intro h
    apply Vector.ext
    intro i hi
    have := h p[i] (by rw [Vector.mem_toList_iff]; exact Vector.getElem_mem hi)
    rw [decide_eq_true_eq] at this
    unfold zero16
    rw [Vector.getElem_replicate]
    apply UInt8.toNat_inj.1
    show p[i].toNat = 0
    omega
  · intro h x hx
    subst h
    unfold zero16 at hx
    rw [Vector.mem_toList_iff] at hx
    have : x = 0 := by simpa using hx
    subst this
    rfl
theorem all_zero4 (p : Vector UInt8 4) : (p.toList.all fun x => decide ((x.toNat : Int) = 0)) = decide (p = zero4) := by
  rw [Bool.eq_iff_iff, decide_eq_true_eq, List.all_eq_true]
  constructor
  · intro h
    apply Vector.ext
    intro i hi
    have := h p[i] (by rw [Vector.mem_toList_iff]; exact Vector.getElem_mem hi)
    rw [decide_eq_true_eq] at this
    unfold zero4
    rw [Vector.getElem_replicate]
    apply UInt8.toNat_inj.1
    show p[i].toNat = 0
    omega
  · intro h x hx
    subst h
    unfold zero4 at hx
    rw [Vector.mem_toList_iff] at hx
    have : x = 0 := by simpa using hx
    subst this
    rfl
theorem all_hi (l : List UInt8) (hi : Nat) : (l.all fun x => decide ((x.toNat : Int) ≤ (hi : Int))) = l.all fun x => decide (0 ≤ x.toNat ∧ x.toNat ≤ hi) := by
  congr 1
  funext x
  exact decide_eq_decide.2 (by omega)
theorem seg_preds (m : Mb) : fldErr (decide ((m.kind.toNat : Int) = 0), decide (m.preds = zero16), rangedU m.preds.toList 16 0 8) = firstNZ (m.preds.toList.map (smallF m.kind)) := by
  unfold fldErr
  by_cases h : m.kind.toNat = 0
  · have hk : decide ((m.kind.toNat : Int) = 0) = true := decide_eq_true (by omega)
    simp only [hk, if_true]
    rw [nz_map 3 (by decide) (fun x : UInt8 => decide ((x.toNat : Int) ≤ ((8 : Nat) : Int))) _ _ (fun x _ => by unfold smallF; rw [if_pos h]; rfl), all_hi]
    unfold rangedU
    rw [if_neg (by simp)]
  · have hk : decide ((m.kind.toNat : Int) = 0) = false := decide_eq_false (by omega)
    simp only [hk, Bool.false_eq_true, if_false]
    rw [nz_map 2 (by decide) (fun x : UInt8 => decide ((x.toNat : Int) = 0)) _ _ (fun x _ => by unfold smallF; rw [if_neg h]; rfl), all_zero16]
theorem seg_sub (m : Mb) : fldErr (decide ((m.kind.toNat : Int) = 6), decide (m.sub = zero4), rangedU m.sub.toList 4 0 3) = firstNZ (m.sub.toList.map (smallG m.kind)) := by
  unfold fldErr
  by_cases h : m.kind.toNat = 6
  · have hk : decide ((m.kind.toNat : Int) = 6) = true := decide_eq_true (by omega)
    simp only [hk, if_true]
    rw [nz_map 3 (by decide) (fun x : UInt8 => decide ((x.toNat : Int) ≤ ((3 : Nat) : Int))) _ _ (fun x _ => by unfold smallG; rw [if_pos h]; rfl), all_hi]
    unfold rangedU
    rw [if_neg (by simp)]
  · have hk : decide ((m.kind.toNat : Int) = 6) = false := decide_eq_false (by omega)
    simp only [hk, Bool.false_eq_true, if_false]
    rw [nz_map 2 (by decide) (fun x : UInt8 => decide ((x.toNat : Int) = 0)) _ _ (fun x _ => by unfold smallG; rw [if_neg h]; rfl), all_zero4]
theorem parts_inter (m : Mb) : decide ((0 : Int) < (partsN m.kind : Int)) = (decide (3 ≤ m.kind.toNat) && decide (m.kind.toNat ≤ 6)) := by
  rw [Bool.eq_iff_iff]
  simp only [Bool.and_eq_true, decide_eq_true_eq]
  unfold partsN
  constructor
  · intro h
    by_cases h3 : m.kind.toNat = 3
    · omega
    by_cases h4 : m.kind.toNat = 4
    · omega
    by_cases h5 : m.kind.toNat = 5
    · omega
    by_cases h6 : m.kind.toNat = 6
    · omega
    rw [if_neg h3, if_neg h4, if_neg h5, if_neg h6] at h
    omega
  · intro h
    by_cases h3 : m.kind.toNat = 3
    · rw [if_pos h3]; decide
    rw [if_neg h3]
    by_cases h4 : m.kind.toNat = 4
    · rw [if_pos h4]; decide
    rw [if_neg h4]
    by_cases h5 : m.kind.toNat = 5
    · rw [if_pos h5]; decide
    rw [if_neg h5, if_pos (by omega)]; decide
theorem vec_all (l : List Vec) : ((l.flatMap fun v => [v.x, v.y]).all fun x => decide ((-8192 : Int) ≤ x ∧ x ≤ 8192)) = l.all fun v => (decide (-8192 ≤ v.x) && decide (v.x ≤ 8192)) && (decide (-8192 ≤ v.y) && decide (v.y ≤ 8192)) := by
  induction l with
  | nil => rfl
  | cons v r ih =>
    rw [List.flatMap_cons, List.all_append, ih, List.all_cons]
    congr 1
    simp only [List.all_cons, List.all_nil, Bool.and_true]
    rw [Bool.eq_iff_iff]
    simp only [Bool.and_eq_true, decide_eq_true_eq]
theorem vec_len (l : List Vec) : (l.flatMap fun v => [v.x, v.y]).length = 2 * l.length := by
  induction l with
  | nil => rfl
  | cons v r ih => rw [List.flatMap_cons, List.length_append, ih, List.length_cons]; simp only [List.length_cons, List.length_nil]; omega
/-- A kind with parts says how many, unless a number of Sub is out of its range. -/
theorem pieces_ok (m : Mb) (h : (decide (3 ≤ m.kind.toNat) && decide (m.kind.toNat ≤ 6)) = true) (hs : fldErr (decide ((m.kind.toNat : Int) = 6), decide (m.sub = zero4), rangedU m.sub.toList 4 0 3) = 0) : (piecesP m.kind m.sub).2 = 0 := by
  simp only [Bool.and_eq_true, decide_eq_true_eq] at h
  unfold piecesP
  by_cases h3 : m.kind.toNat = 3
  · rw [if_pos h3]
  rw [if_neg h3]
  by_cases h4 : m.kind.toNat = 4
  · rw [if_pos h4]
  rw [if_neg h4]
  by_cases h5 : m.kind.toNat = 5
  · rw [if_pos h5]
  rw [if_neg h5]
  have h6 : m.kind.toNat = 6 := by omega
  rw [if_pos h6]
  unfold fldErr at hs
  have hk : decide ((m.kind.toNat : Int) = 6) = true := decide_eq_true (by omega)
  simp only [hk, if_true] at hs
  unfold rangedU at hs
  rw [if_neg (by simp)] at hs
  split at hs
  · rename_i ha
    rw [if_pos]
    rw [List.all_eq_true] at ha ⊢
    intro x hx
    have := of_decide_eq_true (ha x hx)
    exact decide_eq_true this.2
  · omega
theorem seg_motion (m : Mb) (refs : Int) (hs : fldErr (decide ((m.kind.toNat : Int) = 6), decide (m.sub = zero4), rangedU m.sub.toList 4 0 3) = 0) :
    firstNZ (motionL m refs) = orE (fldErr (decide ((0 : Int) < (partsN m.kind : Int)), decide ((m.refs.length : Int) = 0), rangedL m.refs (partsN m.kind) 0 (refs - 1))) (fldErr (decide ((0 : Int) < (partsN m.kind : Int)), decide ((m.mvds.length : Int) = 0), vectorsE m)) := by
  rw [parts_inter]
  unfold motionL
  cases hk : (decide (3 ≤ m.kind.toNat) && decide (m.kind.toNat ≤ 6)) with
  | false =>
    rw [if_neg (by decide), show [absE (decide ((m.refs.length : Int) = 0)), absE (decide ((m.mvds.length : Int) = 0))] = [absE (decide ((m.refs.length : Int) = 0))] ++ [absE (decide ((m.mvds.length : Int) = 0))] from rfl, nz_app, nz_one, nz_one]
    rfl
  | true =>
    have hp := pieces_ok m hk hs
    rw [if_pos rfl, show [motA m] ++ m.refs.map (motR refs) ++ [motB m] ++ m.mvds.map motV = ([motA m] ++ m.refs.map (motR refs)) ++ ([motB m] ++ m.mvds.map motV) by simp only [List.append_assoc], nz_app]
    congr 1
    · unfold fldErr
      simp only [if_true]
      exact rng_all
    · unfold fldErr
      simp only [if_true]
      rw [nz_app, nz_one, nz_map 3 (by decide) (fun v : Vec => (decide (-8192 ≤ v.x) && decide (v.x ≤ 8192)) && (decide (-8192 ≤ v.y) && decide (v.y ≤ 8192))) motV _ (fun v _ => rfl)]
      unfold motB
      rw [absE_dec]
      by_cases hl : m.mvds.length = (piecesP m.kind m.sub).1
      · have ev : vectorsE m = rangedL (m.mvds.flatMap fun v => [v.x, v.y]) (2 * (piecesP m.kind m.sub).1) (-8192) 8192 := by
          unfold vectorsE
          rw [if_neg]
          rintro (h | h)
          · exact h hp
          · exact h hl
        rw [ev, if_pos (by omega)]
        unfold orE
        rw [if_neg (by decide)]
        unfold rangedL
        have e2 : ¬ (((2 * m.mvds.length : Nat) : Int) ≠ 2 * ((piecesP m.kind m.sub).1 : Int)) := by omega
        rw [vec_len, vec_all, if_neg e2]
      · have ev : vectorsE m = 2 := by unfold vectorsE; rw [if_pos (.inr hl)]
        rw [ev, if_neg (by omega)]
        rfl
theorem seg_cbp (m : Mb) : fldErr (codedB m.kind, decide ((m.cbp.toNat : Int) = 0), cbpE m) = restA m := by
  unfold fldErr restA
  cases codedB m.kind with
  | true =>
    simp only [if_true]
    unfold cbpE rngE
    simp only [Bool.and_eq_true, Bool.or_eq_true, Bool.not_eq_true', decide_eq_true_eq, decide_eq_false_iff_not]
    split <;> split <;> first | rfl | omega
  | false =>
    simp only [Bool.false_eq_true, if_false]
    rw [absE_dec]
    simp only [decide_eq_true_eq]
theorem seg_qp (m : Mb) : fldErr (decide ((m.kind.toNat : Int) = 1) || (codedB m.kind && !decide ((m.cbp.toNat : Int) = 0)), decide (m.qp = 0), rangedL [m.qp] 1 (-26) 25) = restB m := by
  show fldErr (qpB m, _, _) = _
  unfold fldErr restB
  cases qpB m with
  | true =>
    simp only [if_true]
    unfold rangedL rngE
    simp only [List.length_cons, List.length_nil, all_one, Bool.and_eq_true, decide_eq_true_eq]
    split <;> split <;> (try split) <;> first | rfl | omega
  | false =>
    simp only [Bool.false_eq_true, if_false]
    rw [absE_dec]
    simp only [decide_eq_true_eq]
theorem seg_pcm (m : Mb) : fldErr (decide ((m.kind.toNat : Int) = 2), decide (m.pcm = []), pcmE m) = restP m := by
  unfold fldErr restP
  by_cases h : m.kind.toNat = 2
  · have hk : decide ((m.kind.toNat : Int) = 2) = true := decide_eq_true (by omega)
    rw [if_pos h, absE_dec]
    simp only [hk, if_true]
    unfold pcmE
    split <;> split <;> first | rfl | omega
  · have hk : decide ((m.kind.toNat : Int) = 2) = false := decide_eq_false (by omega)
    rw [if_neg h, absE_dec]
    simp only [hk, Bool.false_eq_true, if_false, decide_eq_true_eq]
theorem go_zip : ∀ (bs : List (List Int)) (cs : List Coded), firstNZ (List.zipWith blkF bs cs).flatten = blocksGo bs cs
  | [], cs => by cases cs <;> rfl
  | b :: bs, [] => rfl
  | b :: bs, c :: cs => by
    rw [List.zipWith_cons_cons, List.flatten_cons, nz_app, go_zip bs cs, blocksGo]
    have : firstNZ (blkF b c) = rangedL b (sizeN c.cat) (-32768) 32768 := rng_all
    rw [this]
    rfl
theorem seg_blocks (m : Mb) : fldErr (codedB m.kind, decide ((m.blocks.length : Int) = 0), blocksE m) = orE (restC m) (firstNZ (blkZ m).flatten) := by
  unfold blkZ restC
  rw [go_zip, absE_dec]
  unfold fldErr
  cases hc : codedB m.kind with
  | true =>
    simp only [if_true]
    unfold blocksE
    by_cases h : m.blocks.length = (blocksL m).length
    · rw [show (if (m.blocks.length : Int) = ((blocksL m).length : Int) then (0 : Int) else 2) = 0 from if_pos (by omega), if_neg (by omega)]
      unfold orE
      rw [if_neg (by decide)]
    · rw [show (if (m.blocks.length : Int) = ((blocksL m).length : Int) then (0 : Int) else 2) = 2 from if_neg (by omega), if_pos h]
      unfold orE
      rw [if_pos (by decide)]
  | false =>
    have hb : blocksL m = [] := by unfold blocksL; rw [hc]; rfl
    rw [hb]
    simp only [Bool.false_eq_true, if_false, decide_eq_true_eq]
    have hg : blocksGo m.blocks [] = 0 := by cases m.blocks <;> rfl
    rw [hg, orE_zero]
    rfl
/-- What the reference returns is what mb.Check returns. -/
theorem ref_check (m : Mb) (intra : Bool) (refs : Int) : refE m intra refs = checkE m intra refs := by
  unfold refE checkE
  have hcond : (!(decide (1 ≤ refs) && decide (refs ≤ 32))) = (decide (refs < 1) || decide (32 < refs)) := by
    rw [Bool.eq_iff_iff]
    simp only [Bool.not_eq_true', Bool.and_eq_false_iff, Bool.or_eq_true, decide_eq_false_iff_not, decide_eq_true_eq]
    omega
  rw [hcond]
  split
  · rfl
  split
  · rfl
  unfold smallL restL fieldsL
  simp only [firstE_cons, show firstE [] = 0 from rfl, orE_zero]
  rw [seg_mode, seg_chroma, seg_preds, seg_cbp, seg_qp, seg_pcm, seg_blocks]
  rw [nz_app, nz_app, nz_app, nz_app, nz_app, nz_app, nz_one]
  rw [show [smallA m, smallB m] = [smallA m] ++ [smallB m] from rfl, nz_app, nz_one, nz_one, show [restA m, restB m, restC m] = [restA m] ++ ([restB m] ++ [restC m]) from rfl, nz_app, nz_app, nz_one, nz_one, nz_one]
  have hsub := seg_sub m
  by_cases hs : firstNZ (m.sub.toList.map (smallG m.kind)) = 0
  · rw [seg_motion m refs (by rw [hsub]; exact hs), hsub]
    simp only [orE_assoc]
  · rw [hsub]
    simp only [orE_assoc]
    have e : ∀ b, orE (firstNZ (m.sub.toList.map (smallG m.kind))) b = firstNZ (m.sub.toList.map (smallG m.kind)) := fun b => if_pos hs
    simp only [e]
end Go.Proofs.YtomfoaaaeidpnaaDoor
