/-
  Drawn regions whose operations' results are told of one another.
-/
import Derived.Test.YtomfoaaaeidpnaaDoorSlD
import Derived.Test.YtomfoaaaeidpnaaDoorSlN
set_option linter.unusedVariables false
set_option linter.unusedSimpArgs false
namespace Go.Proofs.YtomfoaaaeidpnaaDoor
open Go Go.RowKit
variable {ro : Option Nat} {P : Program} {ops : Array Oper} {l : List Value} {ds : List Deferred} {E : Env} {L : List Item} {Q : Exit → Act → World → Prop}
/-- What operation i is told of hangs ahead of it. -/
def pdChk (ops : Array Oper) (pd : Nat → List Nat) : Bool := (List.range ops.size).all fun i => (pd i).all fun j => (upon ops i).contains j
structure FInvY (ops : Array Oper) (l : List Value) (ds : List Deferred) (E : Env) (L : List Item) (p : Nat) (yp : Nat → Value) (con : Nat → List Nat) (phi : Nat → (Nat → Value) → Env → Value → Prop) (it : Nat → (Nat → Value) → List Item) (Ls : Array Bool) (w : World) (y : Nat → Value) (E' : Env) (l' : List Value) : Prop where
  len : l'.length = l.length
  base : ∀ t, (∀ j, j < ops.size → Ls[j]? = some true → dstOf ops j ≠ some t) → l'.getD t undef = l.getD t undef
  done : ∀ j t, j < ops.size → Ls[j]? = some true → dstOf ops j = some t → l'.getD t undef = y j
  closed : ∀ j : Nat, Ls[j]? = some true → ∀ o, ops[j]? = some o → ∀ d ∈ deps o, Ls[d]? = some true
  le : E.Le E'
  phi : ∀ j, j < ops.size → Ls[j]? = some true → phi j y E' (y j)
  ps : ∀ j, ops.size ≤ j → y j = yp j
  sat : Sat E' ((live ops.size p con Ls).flatMap (fun j => it j y) ++ L) w
theorem FInvY.next {p : Nat} {yp : Nat → Value} {con : Nat → List Nat} {phi : Nat → (Nat → Value) → Env → Value → Prop} {it : Nat → (Nat → Value) → List Item} {Ls : Array Bool} {w w' : World} {y : Nat → Value} {E' E2 : Env} {l' : List Value} {i : Nat} {o : Oper} {v : Value} {us rest : List Nat}
    (h : FInvY ops l ds E L p yp con phi it Ls w y E' l') (ho : ops[i]? = some o) (hf : Ls[i]? = some false) (huq : ∀ t, dstOf ops i = some t → t < l.length ∧ ∀ j, j < ops.size → j ≠ i → dstOf ops j ≠ some t)
    (hafter : ∀ d ∈ deps o, Ls[d]? = some true) (hphi : ∀ i y E1 E2 v, Env.Le E1 E2 → phi i y E1 v → phi i y E2 v) (hpq : ∀ j, j = i ∨ Ls[j]? = some true → phi j (upd y i v) = phi j y) (hle : E'.Le E2) (hp : phi i y E2 v)
    (hlive : (live ops.size p con (Ls.setIfInBounds i true)).Perm (i :: ((us.filter fun j => !(con i).contains j) ++ rest))) (hil : i ∉ us ∧ i ∉ rest) (hit : ∀ j, j ∈ us ∨ j ∈ rest → it j (upd y i v) = it j y)
    (hs : Sat E2 (it i (upd y i v) ++ ((us.filter fun j => !(con i).contains j).flatMap (fun j => it j y) ++ (rest.flatMap (fun j => it j y) ++ L))) w') :
    FInvY ops l ds E L p yp con phi it (Ls.setIfInBounds i true) w' (upd y i v) E2 (put l' (dstOf ops i) v) := by
  have hin : i < ops.size := (Array.getElem?_eq_some_iff.1 ho).1
  have hlt : i < Ls.size := (Array.getElem?_eq_some_iff.1 hf).1
  have hnew : ∀ j : Nat, (Ls.setIfInBounds i true)[j]? = some true ↔ j = i ∨ Ls[j]? = some true := by
    intro j
    rw [Array.getElem?_setIfInBounds]
    by_cases hj : i = j
    · subst hj; simp [hlt]
    · simp [hj, Ne.symm hj]
  have hpl : ∀ u, (put l' (dstOf ops i) v).getD u undef = if dstOf ops i = some u then (if u < l'.length then v else l'.getD u undef) else l'.getD u undef := by
    intro u
    cases hd : dstOf ops i with
    | none => simp [put]
    | some t =>
      simp only [put, getD_set, Option.some.injEq]
      by_cases htu : t = u
      · subst htu; simp
      · simp [htu]
  refine ⟨?_, ?_, ?_, ?_, h.le.trans hle, ?_, ?_, ?_⟩
  · cases hd : dstOf ops i <;> simp [put, h.len]
  · intro u hu
    rw [hpl, if_neg]
    · exact h.base u fun j hj hl => hu j hj ((hnew j).2 (.inr hl))
    · exact hu i hin ((hnew i).2 (.inl rfl))
  · intro j u hj hl hd
    rw [hpl]
    by_cases hji : j = i
    · subst hji
      rw [if_pos hd, if_pos (by rw [h.len]; exact (huq u hd).1)]; simp [upd]
    · unfold upd; rw [if_neg, if_neg hji]
      · exact h.done j u hj (((hnew j).1 hl).resolve_left hji) hd
      · intro e
        exact (huq u e).2 j hj hji hd
  · intro j hl o' ho' d hd
    refine (hnew d).2 (.inr ?_)
    rcases (hnew j).1 hl with rfl | hl
    · rw [ho] at ho'; cases ho'; exact hafter d hd
    · exact h.closed j hl o' ho' d hd
  · intro j hj hl
    rw [hpq j ((hnew j).1 hl)]
    by_cases hji : j = i
    · subst hji; simpa [upd] using hp
    · unfold upd; rw [if_neg hji]; exact hphi _ _ _ _ _ hle (h.phi j hj (((hnew j).1 hl).resolve_left hji))
  · intro j hj
    unfold upd; rw [if_neg (by omega)]; exact h.ps j hj
  · refine hs.perm ?_
    refine List.Perm.trans ?_ (List.Perm.append_right _ (List.Perm.flatMap_right _ hlive.symm))
    have h1 : (i :: ((us.filter fun j => !(con i).contains j) ++ rest)).flatMap (fun j => it j (upd y i v)) = it i (upd y i v) ++ ((us.filter fun j => !(con i).contains j).flatMap (fun j => it j y) ++ rest.flatMap (fun j => it j y)) := by
      rw [List.flatMap_cons, List.flatMap_append]
      congr 2
      · exact flatMap_congr' fun j hj => hit j (.inl (List.mem_filter.1 hj).1)
      · exact flatMap_congr' fun j hj => hit j (.inr hj)
    rw [h1]
    simp only [List.append_assoc]
    exact List.Perm.refl _

/-- One operation's part. -/
def FlowOpY (ro : Option Nat) (P : Program) (ops : Array Oper) (l0 : List Value) (ds : List Deferred) (E : Env) (L : List Item) (yp : Nat → Value) (use con : Nat → List Nat) (phi : Nat → (Nat → Value) → Env → Value → Prop) (it : Nat → (Nat → Value) → List Item) (i : Nat) (o : Oper) : Prop :=
  ∀ (y : Nat → Value) (E1 : Env) (Lx : List Item) (w : World), E.Le E1 → (∀ j ∈ upon ops i, phi j y E1 (y j)) → (∀ j, ops.size ≤ j → y j = yp j) → Sat E1 (L ++ ((use i).flatMap (fun j => it j y) ++ Lx)) w →
    (match gslot ops o with
     | none => OW ro P o (setAll l0 (pairs ops (deps o) y)) ds w (fun l' w' => ∃ v E2, l' = put (setAll l0 (pairs ops (deps o) y)) o.dst v ∧ E1.Le E2 ∧ phi i y E2 v ∧ Sat E2 (L ++ (it i (upd y i v) ++ (((use i).filter fun j => !(con i).contains j).flatMap (fun j => it j y) ++ Lx))) w') NoQ
     | some (t, b) => (gval (setAll l0 (pairs ops (deps o) y)) t = some b → OW ro P o (setAll l0 (pairs ops (deps o) y)) ds w (fun l' w' => ∃ v E2, l' = put (setAll l0 (pairs ops (deps o) y)) o.dst v ∧ E1.Le E2 ∧ phi i y E2 v ∧ Sat E2 (L ++ (it i (upd y i v) ++ (((use i).filter fun j => !(con i).contains j).flatMap (fun j => it j y) ++ Lx))) w') NoQ) ∧
        (gval (setAll l0 (pairs ops (deps o) y)) t ≠ some b → phi i y E1 undef ∧ it i (upd y i undef) = [] ∧ con i = []))
def FlowOpsY (ro : Option Nat) (P : Program) (ops : Array Oper) (l0 : List Value) (ds : List Deferred) (E : Env) (L : List Item) (yp : Nat → Value) (use con : Nat → List Nat) (phi : Nat → (Nat → Value) → Env → Value → Prop) (it : Nat → (Nat → Value) → List Item) : Nat → List Oper → Prop
  | _, [] => True
  | i, o :: r => FlowOpY ro P ops l0 ds E L yp use con phi it i o ∧ FlowOpsY ro P ops l0 ds E L yp use con phi it (i + 1) r
theorem FlowOpsY.get {l0 : List Value} {yp : Nat → Value} {use con : Nat → List Nat} {phi : Nat → (Nat → Value) → Env → Value → Prop} {it : Nat → (Nat → Value) → List Item} (os : List Oper) :
    ∀ (k : Nat), FlowOpsY ro P ops l0 ds E L yp use con phi it k os → ∀ (i : Nat) (o : Oper), os[i]? = some o → FlowOpY ro P ops l0 ds E L yp use con phi it (k + i) o := by
  generalize hT : FlowOpY ro P ops l0 ds E L yp use con phi it = T
  have key : ∀ (os : List Oper) (k : Nat), FlowOpsY ro P ops l0 ds E L yp use con phi it k os → ∀ (i : Nat) (o : Oper), os[i]? = some o → T (k + i) o := by
    intro os
    induction os with
    | nil => intro k _ i o e; simp at e
    | cons o r ih =>
      intro k h i o' e
      have h1 : T k o := hT ▸ h.1
      have h2 := ih (k + 1) h.2
      clear h
      cases i with
      | zero => simp at e; subst e; exact h1
      | succ i =>
        have h3 := h2 i o' (by simpa using e)
        have e' : k + 1 + i = k + (i + 1) := by omega
        rw [e'] at h3
        exact h3
  exact key os

theorem wc_flowY {id : Nat} {w : World} (p : Nat) (yp : Nat → Value) (use con itd pd : Nat → List Nat) (phi : Nat → (Nat → Value) → Env → Value → Prop) (it : Nat → (Nat → Value) → List Item) (L : List Item) (hm : P.follows .mixedOrders = true) (hc : flowChk ops l.length p use con itd = true) (hpc : pdChk ops pd = true) (hpd : ∀ i y y', (∀ j ∈ pd i, y j = y' j) → phi i y = phi i y')
    (hA : Sat E ((List.range' ops.size p).flatMap (fun j => it j yp) ++ L) w)
    (hitd : ∀ i y y', (∀ j ∈ itd i, y j = y' j) → it i y = it i y') (hphi : ∀ i y E1 E2 v, Env.Le E1 E2 → phi i y E1 v → phi i y E2 v) (hops : FlowOpsY ro P ops l ds E L yp use con phi it 0 ops.toList)
    (hK : ∀ (y : Nat → Value) (E' : Env) (w' : World), E.Le E' → (∀ j, j < ops.size → phi j y E' (y j)) → (∀ j, ops.size ≤ j → y j = yp j) →
      Sat E' (((List.range (ops.size + p)).filter fun j => !((List.range ops.size).any fun c => (con c).contains j)).flatMap (fun j => it j y) ++ L) w' → Q .normal (A (setAll l (pairs ops (List.range ops.size) y)) ds) w') :
    WC ro P (.region id ops true) Q l ds w := by
  unfold flowChk at hc
  simp only [Bool.and_eq_true] at hc
  obtain ⟨⟨⟨⟨hdown, hd1⟩, hd2⟩, hd3⟩, hd4⟩ := hc
  have huq : ∀ i, i < ops.size → ∀ t, dstOf ops i = some t → t < l.length ∧ ∀ j, j < ops.size → j ≠ i → dstOf ops j ≠ some t := by
    intro i hi t ht
    have h1 := List.all_eq_true.1 hd1 i (List.mem_range.2 hi)
    rw [ht] at h1
    simp only [Bool.and_eq_true, decide_eq_true_eq] at h1
    refine ⟨h1.1, fun j hj hji => ?_⟩
    have h3 := List.all_eq_true.1 h1.2 j (List.mem_range.2 hj)
    simp only [Bool.or_eq_true, decide_eq_true_eq] at h3
    exact h3.resolve_left (fun e => hji e.symm)
  refine wpIn_region_any hm ?_
  let Inv : Array Bool → Act → World → Prop := fun Ls a w => ∃ y E' l', a = A l' ds ∧ FInvY ops l ds E L p yp con phi it Ls w y E' l'
  refine wpAny_sets Inv hdown ?_ ?_ ops.size _ _ _ (by simp) ?_ ?_
  · rintro Ls a w i o ⟨y, E', l', rfl, T⟩ ho hsz hf hafter
    have hin : i < ops.size := (Array.getElem?_eq_some_iff.1 ho).1
    have hadep : ∀ d ∈ deps o, Ls[d]? = some true := by
      intro d hd
      obtain ⟨e, he, hb, rfl⟩ := mem_deps.1 hd
      exact hafter e he hb
    have hup : ∀ d ∈ upon ops i, Ls[d]? = some true := by
      intro d hd
      unfold upon at hd
      rw [ho] at hd
      exact reach_sound T.closed i (deps o) hadep d hd
    have hcl : ∀ c : Nat, Ls[c]? = some true → ∀ d ∈ upon ops c, Ls[d]? = some true := by
      intro c hc d hd
      unfold upon at hd
      cases hoc : ops[c]? with
      | none => rw [hoc] at hd; cases hd
      | some oc =>
        rw [hoc] at hd
        exact reach_sound T.closed c (deps oc) (T.closed c hc oc hoc) d hd
    have h1 := List.all_eq_true.1 hd2 i (List.mem_range.2 hin)
    rw [ho] at h1
    simp only [Option.all_some, Bool.and_eq_true, decide_eq_true_eq] at h1
    obtain ⟨⟨⟨hnd, hns⟩, hnod⟩, hsl⟩ := h1
    have h3 := List.all_eq_true.1 hd3 i (List.mem_range.2 hin)
    simp only [Bool.and_eq_true, decide_eq_true_eq] at h3
    obtain ⟨⟨⟨hun, hcu⟩, huse⟩, hfree⟩ := h3
    have hcu' : ∀ j ∈ con i, j ∈ use i := fun j hj => by simpa using List.all_eq_true.1 hcu j hj
    have huse' : ∀ j ∈ use i, (ops.size ≤ j ∧ j < ops.size + p) ∨ (j ∈ upon ops i ∧ j < i) := fun j hj => by simpa using List.all_eq_true.1 huse j hj
    -- what consumes j is behind what uses it
    have hlater : ∀ a, a < ops.size → ∀ j ∈ use a, ∀ c, c < ops.size → c ≠ a → j ∈ con c → a ∈ upon ops c := by
      intro a ha j hj c hc hca hjc
      have h4 := List.all_eq_true.1 hd3 a (List.mem_range.2 ha)
      simp only [Bool.and_eq_true, decide_eq_true_eq] at h4
      have h5 := List.all_eq_true.1 (List.all_eq_true.1 h4.2 j hj) c (List.mem_range.2 hc)
      simp only [Bool.or_eq_true, decide_eq_true_eq, Bool.not_eq_true', List.contains_iff_mem] at h5
      rcases h5 with (h5 | h5) | h5
      · exact absurd h5 hca
      · have : (con c).contains j = true := by simpa using hjc
        rw [h5] at this; cases this
      · exact h5
    have hul : ∀ j ∈ use i, j ∈ live ops.size p con Ls := by
      intro j hj
      refine mem_live.2 ⟨?_, ?_, ?_⟩
      · rcases huse' j hj with h | h <;> omega
      · rcases huse' j hj with h | h
        · exact .inl h.1
        · exact .inr (hup j h.1)
      · intro c hc hlc hjc
        by_cases hci : c = i
        · subst hci; rw [hf] at hlc; cases hlc
        · have := hcl c hlc i (hlater i hin j hj c hc hci hjc)
          rw [hf] at this; cases this
    have hil : i ∉ live ops.size p con Ls := fun hm => by
      rcases (mem_live.1 hm).2.1 with h | h
      · omega
      · rw [hf] at h; cases h
    obtain ⟨rest, hrest⟩ : ∃ rest, rest = (live ops.size p con Ls).filter fun j => !(use i).contains j := ⟨_, rfl⟩
    have hp1 : (live ops.size p con Ls).Perm (use i ++ rest) := by
      refine perm_of_mem live_nodup (List.nodup_append.2 ⟨hun, hrest ▸ live_nodup.filter _, ?_⟩) ?_
      · intro a ha b hb e
        subst e
        rw [hrest] at hb
        have := (List.mem_filter.1 hb).2
        simp [ha] at this
      · intro a
        rw [List.mem_append, hrest, List.mem_filter]
        constructor
        · intro h
          by_cases hu : a ∈ use i
          · exact .inl hu
          · exact .inr ⟨h, by simp [hu]⟩
        · rintro (h | h)
          · exact hul a h
          · exact h.1
    have hi_us : i ∉ use i := fun h => hil (hul i h)
    have hi_rest : i ∉ rest := fun h => by rw [hrest] at h; exact hil (List.mem_filter.1 h).1
    have hlt : i < Ls.size := by omega
    have hnew : ∀ j : Nat, (Ls.setIfInBounds i true)[j]? = some true ↔ j = i ∨ Ls[j]? = some true := by
      intro j
      rw [Array.getElem?_setIfInBounds]
      by_cases hj : i = j
      · subst hj; simp [hlt]
      · simp [hj, Ne.symm hj]
    have hp2 : (live ops.size p con (Ls.setIfInBounds i true)).Perm (i :: (((use i).filter fun j => !(con i).contains j) ++ rest)) := by
      refine perm_of_mem live_nodup (List.nodup_cons.2 ⟨?_, List.nodup_append.2 ⟨hun.filter _, hrest ▸ live_nodup.filter _, ?_⟩⟩) ?_
      · rw [List.mem_append, List.mem_filter]
        rintro (h | h)
        · exact hi_us h.1
        · exact hi_rest h
      · intro a ha b hb e
        subst e
        rw [hrest] at hb
        have := (List.mem_filter.1 hb).2
        simp [(List.mem_filter.1 ha).1] at this
      · intro a
        rw [mem_live, List.mem_cons, List.mem_append, List.mem_filter, hrest, List.mem_filter, mem_live]
        constructor
        · rintro ⟨h1, h2, h3⟩
          by_cases hai : a = i
          · exact .inl hai
          · refine .inr ?_
            have hl : ops.size ≤ a ∨ Ls[a]? = some true := h2.imp (fun x => x) fun h => ((hnew a).1 h).resolve_left hai
            have hc : ∀ c, c < ops.size → Ls[c]? = some true → a ∉ con c := fun c hc hlc => h3 c hc ((hnew c).2 (.inr hlc))
            have hci : a ∉ con i := h3 i hin ((hnew i).2 (.inl rfl))
            by_cases hu : a ∈ use i
            · exact .inl ⟨hu, by simp [hci]⟩
            · exact .inr ⟨⟨h1, hl, hc⟩, by simp [hu]⟩
        · rintro (rfl | ⟨hu, hci⟩ | ⟨⟨h1, h2, h3⟩, hu⟩)
          · refine ⟨by omega, .inr ((hnew a).2 (.inl rfl)), fun c hc hlc hac => ?_⟩
            rcases (hnew c).1 hlc with rfl | hlc
            · exact hi_us (hcu' _ hac)
            · have h4 := List.all_eq_true.1 hd3 c (List.mem_range.2 hc)
              simp only [Bool.and_eq_true, decide_eq_true_eq] at h4
              have h5 : a ∈ use c := by simpa using List.all_eq_true.1 h4.1.1.2 a hac
              have h6 : (ops.size ≤ a ∧ a < ops.size + p) ∨ (a ∈ upon ops c ∧ a < c) := by simpa using List.all_eq_true.1 h4.1.2 a h5
              rcases h6 with h6 | h6
              · omega
              · have := hcl c hlc a h6.1
                rw [hf] at this; cases this
          · obtain ⟨h1, h2, h3⟩ := mem_live.1 (hul a hu)
            refine ⟨h1, h2.imp (fun x => x) fun h => (hnew a).2 (.inr h), fun c hc hlc hac => ?_⟩
            rcases (hnew c).1 hlc with rfl | hlc
            · simp [hac] at hci
            · exact h3 c hc hlc hac
          · refine ⟨h1, h2.imp (fun x => x) fun h => (hnew a).2 (.inr h), fun c hc hlc hac => ?_⟩
            rcases (hnew c).1 hlc with rfl | hlc
            · exact (by simpa using hu : a ∉ use c) (hcu' a hac)
            · exact h3 c hc hlc hac
    have hop := (hops.get ops.toList 0 i o (by simpa using ho))
    rw [Nat.zero_add] at hop
    have hq1 : ∀ X : List Item, ((use i ++ rest).flatMap (fun j => it j y) ++ L).Perm (L ++ ((use i).flatMap (fun j => it j y) ++ rest.flatMap (fun j => it j y))) := fun _ => by
      rw [List.flatMap_append]; exact List.perm_append_comm
    have hq2 : ∀ X : List Item, (L ++ (X ++ (((use i).filter fun j => !(con i).contains j).flatMap (fun j => it j y) ++ rest.flatMap (fun j => it j y)))).Perm (X ++ (((use i).filter fun j => !(con i).contains j).flatMap (fun j => it j y) ++ (rest.flatMap (fun j => it j y) ++ L))) := fun X => by
      refine List.perm_append_comm.trans ?_
      simp only [List.append_assoc]
      exact List.Perm.refl _
    have hop := hop y E' (rest.flatMap (fun j => it j y)) w T.le (fun j hj => T.phi j (by
      have := hup j hj
      have h7 := (Array.getElem?_eq_some_iff.1 this).1
      omega) (hup j hj)) T.ps ((T.sat.perm (List.Perm.append_right _ (List.Perm.flatMap_right _ hp1))).perm (hq1 []))
    have hview : ∀ u ∈ slotsOf ops o, l'.getD u undef = (setAll l (pairs ops (deps o) y)).getD u undef := by
      intro u hu
      by_cases hx : ∃ j, j < ops.size ∧ Ls[j]? = some true ∧ dstOf ops j = some u
      · obtain ⟨j, hj, hl, hd⟩ := hx
        have h3 := List.all_eq_true.1 hsl u hu
        have h4 := List.all_eq_true.1 h3 j (List.mem_range.2 hj)
        simp only [Bool.or_eq_true, decide_eq_true_eq] at h4
        have hjd : j ∈ deps o := by
          rcases h4 with (h4 | h4) | h4
          · exact absurd hd h4
          · simpa using h4
          · exfalso
            have := hcl j hl i (by simpa using h4)
            rw [hf] at this; cases this
        rw [T.done j u hj hl hd]
        symm
        refine setAll_at ?_ ⟨y j, mem_pairs.2 ⟨j, hjd, hd, rfl⟩⟩ l (huq j hj u hd).1
        intro v' hv'
        obtain ⟨j', hj', hd', rfl⟩ := mem_pairs.1 hv'
        by_cases hjj : j' = j
        · rw [hjj]
        · have hjn : j' < ops.size := by
            have := (Array.getElem?_eq_some_iff.1 (hadep j' hj')).1
            omega
          exact absurd hd' ((huq j hj u hd).2 j' hjn hjj)
      · rw [T.base u fun j hj hl hd => hx ⟨j, hj, hl, hd⟩]
        symm
        refine setAll_other (fun v hv => ?_) l
        obtain ⟨j, hj, hd, _⟩ := mem_pairs.1 hv
        have hjn : j < ops.size := by
          have := (Array.getElem?_eq_some_iff.1 (hadep j hj)).1
          omega
        exact hx ⟨j, hjn, hadep j hj, hd⟩
    have hev : ∀ x ∈ o.op.operands, ev l' x = ev (setAll l (pairs ops (deps o) y)) x := by
      intro x hx
      cases x with
      | tmp u => exact hview u (List.mem_append_left _ (List.mem_filterMap.2 ⟨.tmp u, Array.mem_toList_iff.2 hx, rfl⟩))
      | _ => rfl
    have hodst : o.dst = dstOf ops i := by unfold dstOf; rw [ho]; rfl
    have hsame : ∀ v j, j ∈ use i ∨ j ∈ rest → it j (upd y i v) = it j y := by
      intro v j hj
      refine hitd j _ _ fun d hd => ?_
      unfold upd
      rw [if_neg]
      rintro rfl
      have hjl : j ∈ live ops.size p con Ls := hj.elim (hul j) (fun h => by rw [hrest] at h; exact (List.mem_filter.1 h).1)
      have hjn := (mem_live.1 hjl).1
      have h4 := List.all_eq_true.1 (List.all_eq_true.1 hd4 j (List.mem_range.2 hjn)) d hd
      simp only [Bool.or_eq_true, decide_eq_true_eq, List.contains_iff_mem] at h4
      rcases h4 with (h4 | h4) | h4
      · subst h4; exact hil hjl
      · rcases (mem_live.1 hjl).2.1 with h5 | h5
        · unfold upon at h4
          rw [Array.getElem?_eq_none h5] at h4
          cases h4
        · have := hcl j h5 d h4
          rw [hf] at this; cases this
      · omega
    have hpsame : ∀ v j, j = i ∨ Ls[j]? = some true → phi j (upd y i v) = phi j y := by
      intro v j hj
      have hjn : j < ops.size := by
        rcases hj with hj | hj
        · omega
        · have := (Array.getElem?_eq_some_iff.1 hj).1
          omega
      refine hpd j _ _ fun d hd => ?_
      have h4 : d ∈ upon ops j := by simpa using List.all_eq_true.1 (List.all_eq_true.1 hpc j (List.mem_range.2 hjn)) d hd
      unfold upd
      rw [if_neg]
      intro hdi
      rw [hdi] at h4
      rcases hj with hj | hj
      · rw [hj] at h4
        have := hup i h4; rw [hf] at this; cases this
      · have := hcl j hj i h4; rw [hf] at this; cases this
    have hinj : ∀ v v', put (setAll l (pairs ops (deps o) y)) o.dst v = put (setAll l (pairs ops (deps o) y)) o.dst v' → put l' o.dst v = put l' o.dst v' := by
      intro v v' e
      cases hd : o.dst with
      | none => rfl
      | some t =>
        rw [hd] at e
        simp only [put] at e ⊢
        have h3 := congrArg (fun l => List.getD l t undef) e
        have htl := (huq i hin t (hodst ▸ hd)).1
        simp only [getD_set, setAll_length, htl, and_self, if_true] at h3
        rw [h3]
    have hmk : ∀ v E2 w', E'.Le E2 → phi i y E2 v → Sat E2 (L ++ (it i (upd y i v) ++ (((use i).filter fun j => !(con i).contains j).flatMap (fun j => it j y) ++ rest.flatMap (fun j => it j y)))) w' →
        Inv (Ls.setIfInBounds i true) (A (put l' o.dst v) ds) w' := fun v E2 w' h1 h2 h3 =>
      ⟨_, E2, put l' o.dst v, rfl, by rw [hodst]; exact T.next ho hf (huq i hin) hadep hphi (hpsame v) h1 h2 hp2 ⟨hi_us, hi_rest⟩ (hsame v) (h3.perm (hq2 _))⟩
    have hstep : OW ro P o (setAll l (pairs ops (deps o) y)) ds w (fun l' w' => ∃ v E2, l' = put (setAll l (pairs ops (deps o) y)) o.dst v ∧ E'.Le E2 ∧ phi i y E2 v ∧ Sat E2 (L ++ (it i (upd y i v) ++ (((use i).filter fun j => !(con i).contains j).flatMap (fun j => it j y) ++ rest.flatMap (fun j => it j y)))) w') NoQ →
        o.wpIn (WF ro) 0 P (A l' ds) w (Inv (Ls.setIfInBounds i true)) Q := by
      intro h
      have h7 := ow_view2 (Q := Q) (nx := fun v w' => ∃ E2, E'.Le E2 ∧ phi i y E2 v ∧ Sat E2 (L ++ (it i (upd y i v) ++ (((use i).filter fun j => !(con i).contains j).flatMap (fun j => it j y) ++ rest.flatMap (fun j => it j y)))) w') (next := fun l'' w'' => Inv (Ls.setIfInBounds i true) (A l'' ds) w'') hnd hns hev
        (OW.mono h fun l'' w'' ⟨v, E2, e, h1, h2, h3⟩ => ⟨v, e, E2, h1, h2, h3⟩) (fun v w' ⟨E2, h1, h2, h3⟩ => hmk v E2 w' h1 h2 h3) hinj
      exact Oper.wpIn_mono (fun a w ⟨l'', e, h⟩ => e ▸ h) h7
    have hty : (A l' ds).tmps = ⟨l'⟩ := rfl
    rw [hty]
    unfold Region.wanted
    cases hg : o.guard with
    | none =>
      have e : gslot ops o = none := by simp [gslot, hg]
      rw [e] at hop
      simp only [if_true]
      exact hstep hop
    | some jb =>
      obtain ⟨j, b⟩ := jb
      have e : gslot ops o = some ((ops[j]?).bind (·.dst), b) := by simp [gslot, hg]
      rw [e] at hop
      have hgv : gval l' ((ops[j]?).bind (·.dst)) = gval (setAll l (pairs ops (deps o) y)) ((ops[j]?).bind (·.dst)) := by
        cases hdj : (ops[j]?).bind (·.dst) with
        | none => rfl
        | some u =>
          have hmem : u ∈ slotsOf ops o := by
            unfold slotsOf
            refine List.mem_append_right _ ?_
            rw [hg]
            simp only [dstOf, hdj, Option.toList_some, List.mem_singleton]
          simp only [gval, hview u hmem]
      simp only [yielded_eq, hgv]
      by_cases hv : gval (setAll l (pairs ops (deps o) y)) ((ops[j]?).bind (·.dst)) = some b
      · simp only [hv, beq_self_eq_true, if_true]
        exact hstep (hop.1 hv)
      · have hvb : (gval (setAll l (pairs ops (deps o) y)) ((ops[j]?).bind (·.dst)) == some b) = false := by simpa using hv
        simp only [hvb, Bool.false_eq_true, if_false]
        refine ⟨fun _ _ => trivial, ?_⟩
        rw [A_put]
        obtain ⟨h8, h9, h10⟩ := hop.2 hv
        refine hmk undef E' w (Env.Le.refl _) h8 ?_
        rw [h9, h10]
        have hfl : ((use i).filter fun j => !([] : List Nat).contains j) = use i := List.filter_eq_self.2 fun j _ => by simp
        rw [hfl, List.nil_append]
        exact (T.sat.perm (List.Perm.append_right _ (List.Perm.flatMap_right _ hp1))).perm (hq1 [])
  · rintro Ls a w ⟨y, E', l', rfl, T⟩ hall
    have hlv : live ops.size p con Ls = (List.range (ops.size + p)).filter fun j => !((List.range ops.size).any fun c => (con c).contains j) := by
      unfold live
      refine List.filter_congr fun j hj => ?_
      have h1 : (decide (ops.size ≤ j) || Ls[j]? == some true) = true := by
        rcases Nat.lt_or_ge j ops.size with h | h
        · simp [hall j h]
        · simp [h]
      rw [h1, Bool.true_and]
      congr 1
      rw [Bool.eq_iff_iff, List.any_eq_true, List.any_eq_true]
      constructor
      · rintro ⟨c, hc, h⟩; simp only [Bool.and_eq_true] at h; exact ⟨c, hc, h.2⟩
      · rintro ⟨c, hc, h⟩; exact ⟨c, hc, by simp only [Bool.and_eq_true, beq_iff_eq]; exact ⟨hall c (List.mem_range.1 hc), h⟩⟩
    have hsat := T.sat
    rw [hlv] at hsat
    have hfin := hK y E' w T.le (fun j hj => T.phi j hj (hall j hj)) T.ps hsat
    have hl' : l' = setAll l (pairs ops (List.range ops.size) y) := by
      refine ext_getD (by rw [T.len, setAll_length]) fun t ht => ?_
      by_cases hx : ∃ j, j < ops.size ∧ dstOf ops j = some t
      · obtain ⟨j, hj, hd⟩ := hx
        rw [T.done j t hj (hall j hj) hd]
        symm
        refine setAll_at ?_ ⟨y j, mem_pairs.2 ⟨j, List.mem_range.2 hj, hd, rfl⟩⟩ l (by rw [← T.len]; exact ht)
        intro v' hv'
        obtain ⟨j', hj', hd', rfl⟩ := mem_pairs.1 hv'
        by_cases hjj : j' = j
        · rw [hjj]
        · exact absurd hd' ((huq j hj t hd).2 j' (List.mem_range.1 hj') hjj)
      · rw [T.base t fun j hj _ hd => hx ⟨j, hj, hd⟩]
        symm
        refine setAll_other (fun v hv => ?_) l
        obtain ⟨j, hj, hd, _⟩ := mem_pairs.1 hv
        exact hx ⟨j, List.mem_range.1 hj, hd⟩
    rw [hl']
    exact hfin
  · simp
  · refine ⟨fun j => if ops.size ≤ j then yp j else undef, E, l, rfl, rfl, fun _ _ => rfl, ?_, ?_, Env.Le.refl E, ?_, fun j hj => if_pos hj, ?_⟩
    · intro j t hj hl; rw [Array.getElem?_replicate] at hl; split at hl <;> cases hl
    · intro j hl; rw [Array.getElem?_replicate] at hl; split at hl <;> cases hl
    · intro j hj hl; rw [Array.getElem?_replicate] at hl; split at hl <;> cases hl
    · have hlv : (live ops.size p con (Array.replicate ops.size false)).Perm (List.range' ops.size p) := by
        refine perm_of_mem live_nodup (List.nodup_range' ..) fun a => ?_
        rw [mem_live, List.mem_range'_1]
        constructor
        · rintro ⟨h1, h2, _⟩
          rcases h2 with h2 | h2
          · omega
          · rw [Array.getElem?_replicate] at h2; split at h2 <;> cases h2
        · rintro ⟨h1, h2⟩
          refine ⟨by omega, .inl h1, fun c hc hl => ?_⟩
          rw [Array.getElem?_replicate] at hl; split at hl <;> cases hl
      have h2 : (List.range' ops.size p).flatMap (fun j => it j (fun j => if ops.size ≤ j then yp j else undef)) = (List.range' ops.size p).flatMap (fun j => it j yp) :=
        flatMap_congr' fun j hj => by
          have hjr := List.mem_range'_1.1 hj
          refine hitd j _ _ fun d hd => ?_
          have h4 := List.all_eq_true.1 (List.all_eq_true.1 hd4 j (List.mem_range.2 hjr.2)) d hd
          simp only [Bool.or_eq_true, decide_eq_true_eq, List.contains_iff_mem] at h4
          rw [if_pos]
          rcases h4 with (h4 | h4) | h4
          · omega
          · unfold upon at h4
            rw [Array.getElem?_eq_none hjr.1] at h4
            cases h4
          · exact h4
      have h3 := (hA.drew (w.drawn + 1))
      rw [← h2] at h3
      exact h3.perm (List.Perm.append_right _ (List.Perm.flatMap_right _ hlv.symm))
theorem FlowOpsY.nil {l0 : List Value} {yp : Nat → Value} {use con : Nat → List Nat} {phi : Nat → (Nat → Value) → Env → Value → Prop} {it : Nat → (Nat → Value) → List Item} {k : Nat} : FlowOpsY ro P ops l0 ds E L yp use con phi it k [] := trivial
theorem FlowOpsY.c {l0 : List Value} {yp : Nat → Value} {use con : Nat → List Nat} {phi : Nat → (Nat → Value) → Env → Value → Prop} {it : Nat → (Nat → Value) → List Item} {k : Nat} {o : Oper} {r : List Oper} (hg : o.guard = none) (jt : List (Nat × Tmp)) (hjt : ((deps o).filterMap fun j => (dstOf ops j).map fun t => (j, t)) = jt)
    (ups : List Nat) (hups : upon ops k = ups) (us : List Nat) (hus : use k = us) (us' : List Nat) (hus' : (us.filter fun j => !(con k).contains j) = us')
    (h : ∀ (y : Nat → Value) (E1 : Env) (Lx : List Item) (w : World) (lf : List Value), E.Le E1 → (∀ j ∈ ups, phi j y E1 (y j)) → (∀ j, ops.size ≤ j → y j = yp j) → setAll l0 (jt.map fun x => (x.2, y x.1)) = lf → Sat E1 (us.flatMap (fun j => it j y) ++ (L ++ Lx)) w →
      OW ro P o lf ds w (fun l' w' => ∃ v E2, l' = put lf o.dst v ∧ E1.Le E2 ∧ phi k y E2 v ∧ Sat E2 (it k (upd y k v) ++ (us'.flatMap (fun j => it j y) ++ (L ++ Lx))) w') NoQ)
    (hr : FlowOpsY ro P ops l0 ds E L yp use con phi it (k + 1) r) : FlowOpsY ro P ops l0 ds E L yp use con phi it k (o :: r) := by
  refine ⟨?_, hr⟩
  intro y E1 Lx w h1 h2 h3 h4
  have e : gslot ops o = none := by simp [gslot, hg]
  rw [e]
  rw [hups] at h2
  rw [hus] at h4 ⊢
  rw [hus', pairs_pl y hjt]
  have q1 : ∀ X Y Z : List Item, (X ++ (Y ++ Z)).Perm (Y ++ (X ++ Z)) := fun X Y Z => by
    rw [← List.append_assoc, ← List.append_assoc]; exact List.Perm.append_right _ List.perm_append_comm
  refine OW.mono (h y E1 Lx w _ h1 h2 h3 rfl (h4.perm (q1 _ _ _))) fun l' w' ⟨v, E2, a1, a2, a3, a4⟩ => ⟨v, E2, a1, a2, a3, a4.perm ?_⟩
  refine List.Perm.trans (List.Perm.append_left _ (q1 _ _ _)) (q1 _ _ _)
theorem wc_flowY' {id : Nat} {w : World} (p : Nat) (yp : Nat → Value) (use con itd pd : Nat → List Nat) (phi : Nat → (Nat → Value) → Env → Value → Prop) (it : Nat → (Nat → Value) → List Item) (L : List Item) (n : Nat) (hn : ops.size = n) (hm : P.follows .mixedOrders = true) (hc : flowChk ops l.length p use con itd = true) (hpc : pdChk ops pd = true) (hpd : ∀ i y y', (∀ j ∈ pd i, y j = y' j) → phi i y = phi i y')
    (jtN : List (Nat × Tmp)) (hjt : ((List.range ops.size).filterMap fun j => (dstOf ops j).map fun t => (j, t)) = jtN) (lsN : List Nat) (hls : ((List.range (ops.size + p)).filter fun j => !((List.range ops.size).any fun c => (con c).contains j)) = lsN) (ip : List Nat) (hip : List.range' ops.size p = ip)
    (hA : Sat E (ip.flatMap (fun j => it j yp) ++ L) w)
    (hitd : ∀ i y y', (∀ j ∈ itd i, y j = y' j) → it i y = it i y') (hphi : ∀ i y E1 E2 v, Env.Le E1 E2 → phi i y E1 v → phi i y E2 v) (hops : FlowOpsY ro P ops l ds E L yp use con phi it 0 ops.toList)
    (hK : ∀ (y : Nat → Value) (E' : Env) (w' : World) (lf : List Value), E.Le E' → (∀ j, j < n → phi j y E' (y j)) → (∀ j, n ≤ j → y j = yp j) → setAll l (jtN.map fun x => (x.2, y x.1)) = lf →
      Sat E' (lsN.flatMap (fun j => it j y) ++ L) w' → Q .normal (A lf ds) w') :
    WC ro P (.region id ops true) Q l ds w := by
  subst hip hn
  refine wc_flowY p yp use con itd pd phi it L hm hc hpc hpd hA hitd hphi hops fun y E' w' h1 h2 h3 h4 => ?_
  rw [hls] at h4
  rw [pairs_pl y hjt]
  exact hK y E' w' _ h1 h2 h3 rfl h4
abbrev mixPhiY (vals : List Value) (ps : (Nat → Value) → Nat → Option (Env → Value → Prop)) (i : Nat) (y : Nat → Value) : Env → Value → Prop := mixPhi vals (ps y) i
theorem mixPhi_congr {vals : List Value} {ps ps' : Nat → Option (Env → Value → Prop)} {i : Nat} (h : ps i = ps' i) : mixPhi vals ps i = mixPhi vals ps' i := by
  funext E v
  unfold mixPhi
  rw [h]
end Go.Proofs.YtomfoaaaeidpnaaDoor
