/-
  A region whose order is open, whole.
-/
import Derived.Test.YtomfoaaaeidpnaaDoorSl7
set_option linter.unusedVariables false
set_option linter.unusedSimpArgs false
namespace Go.Proofs.YtomfoaaaeidpnaaDoor
open Go Go.RowKit

section
variable {ro : Option Nat} {P : Program} {ops : Array Oper} {l : List Value} {ds : List Deferred} {E : Env} {L : List Item} {Q : Exit → Act → World → Prop}

def listed (m : Nat) (Ls : Array Bool) : List Nat := (List.range m).filter fun j => Ls[j]? == some true

structure TInv (ops : Array Oper) (l : List Value) (ds : List Deferred) (E : Env) (L : List Item) (m : Nat) (phi : Nat → Env → Value → Prop) (it : Nat → Value → List Item) (Ls : Array Bool) (w : World) (y : Nat → Value) (E' : Env) (l' : List Value) : Prop where
  len : l'.length = l.length
  later : ∀ j, m ≤ j → j < ops.size → Ls[j]? = some false
  base : ∀ t, (∀ j, j < m → Ls[j]? = some true → dstOf ops j ≠ some t) → l'.getD t undef = l.getD t undef
  done : ∀ j t, j < m → Ls[j]? = some true → dstOf ops j = some t → l'.getD t undef = y j
  closed : ∀ j, j < m → Ls[j]? = some true → ∀ o, ops[j]? = some o → ∀ d ∈ deps o, Ls[d]? = some true
  le : E.Le E'
  phi : ∀ j, j < m → Ls[j]? = some true → phi j E' (y j)
  sat : Sat E' ((listed m Ls).flatMap (fun j => it j (y j)) ++ L) w

theorem mem_deps {o : Oper} {d : Nat} : d ∈ deps o ↔ ∃ e ∈ o.after, Region.binds .any e = true ∧ e.on = d := by
  unfold deps
  rw [List.mem_eraseDups, List.mem_map]
  constructor
  · rintro ⟨e, he, rfl⟩
    rw [List.mem_filter] at he
    exact ⟨e, Array.mem_toList_iff.1 he.1, he.2, rfl⟩
  · rintro ⟨e, he, hb, rfl⟩
    exact ⟨e, List.mem_filter.2 ⟨Array.mem_toList_iff.2 he, hb⟩, rfl⟩

theorem reach_sound {Ls : Array Bool} (hcl : ∀ j : Nat, Ls[j]? = some true → ∀ oj, ops[j]? = some oj → ∀ d ∈ deps oj, Ls[d]? = some true) : ∀ (n : Nat) (S : List Nat), (∀ d ∈ S, Ls[d]? = some true) → ∀ d ∈ reach ops n S, Ls[d]? = some true := by
  intro n
  induction n with
  | zero => intro S h d hd; exact h d hd
  | succ j ih =>
    intro S h d hd
    unfold reach at hd
    refine ih _ ?_ d hd
    split
    · rename_i hj
      intro x hx
      rcases List.mem_append.1 hx with hx | hx
      · cases ho : ops[j]? with
        | none => rw [ho] at hx; cases hx
        | some o =>
          rw [ho] at hx
          exact hcl j (h j (by simpa using hj)) o ho x (List.mem_filter.1 hx).1
      · exact h x hx
    · exact h
theorem deps_lt (hd : edgesDown ops = true) {j : Nat} {o : Oper} (ho : ops[j]? = some o) : ∀ d ∈ deps o, d < j := by
  intro d hdd
  obtain ⟨e, he, hb, rfl⟩ := mem_deps.1 hdd
  unfold edgesDown at hd
  rw [List.all_eq_true] at hd
  have hj := (Array.getElem?_eq_some_iff.1 ho).1
  have h1 := hd j (List.mem_range.2 hj)
  rw [ho] at h1
  simp only [Option.map_some, Option.getD_some] at h1
  rw [Array.all_eq_true_iff_forall_mem] at h1
  have h2 := h1 e he
  simpa [hb] using h2
theorem mem_listed {m : Nat} {Ls : Array Bool} {j : Nat} : j ∈ listed m Ls ↔ j < m ∧ Ls[j]? = some true := by
  simp [listed]
theorem count_listed (m : Nat) (Ls : Array Bool) (a : Nat) : (listed m Ls).count a = if a < m ∧ Ls[a]? = some true then 1 else 0 := by
  have := count_filter_range (fun j => Ls[j]? == some true) m a
  simpa [listed] using this
theorem count_nodup {l : List Nat} (h : l.Nodup) (a : Nat) : l.count a = if a ∈ l then 1 else 0 := by
  by_cases ha : a ∈ l
  · rw [if_pos ha]
    have h1 := List.nodup_iff_count.1 h a
    have h2 := List.count_pos_iff.2 ha
    omega
  · rw [if_neg ha, List.count_eq_zero.2 ha]

theorem perm_deps {m : Nat} {Ls : Array Bool} {ks : List Nat} (hn : ks.Nodup) (hk : ∀ d ∈ ks, d < m ∧ Ls[d]? = some true) : ∃ rest, (listed m Ls).Perm (ks ++ rest) := by
  refine ⟨(listed m Ls).filter fun j => !ks.contains j, List.perm_iff_count.2 fun a => ?_⟩
  rw [List.count_append, count_nodup hn]
  by_cases ha : a ∈ ks
  · obtain ⟨h1, h2⟩ := hk a ha
    rw [if_pos ha, count_listed, if_pos ⟨h1, h2⟩, List.count_eq_zero.2]
    intro h
    have := (List.mem_filter.1 h).2
    simp [ha] at this
  · rw [if_neg ha, List.count_filter (by simp [ha])]
    omega
theorem perm_next {m : Nat} {Ls : Array Bool} {i : Nat} (hi : i < m) (hf : Ls[i]? = some false) : (listed m (Ls.setIfInBounds i true)).Perm (i :: listed m Ls) := by
  refine List.perm_iff_count.2 fun a => ?_
  rw [List.count_cons, count_listed, count_listed, Array.getElem?_setIfInBounds]
  have hlt : i < Ls.size := (Array.getElem?_eq_some_iff.1 hf).1
  by_cases h : i = a
  · subst h
    rw [hf]; simp [hi, hlt]
  · simp [h]

theorem TInv.next {m : Nat} {phi : Nat → Env → Value → Prop} {it : Nat → Value → List Item} {Ls : Array Bool} {w w' : World} {y : Nat → Value} {E' E2 : Env} {l' : List Value} {i : Nat} {o : Oper} {t : Tmp} {v : Value} {Lr : List Item}
    (h : TInv ops l ds E L m phi it Ls w y E' l') (hi : i < m) (ho : ops[i]? = some o) (hf : Ls[i]? = some false) (hdst : dstOf ops i = some t) (ht : t < l.length) (huniq : ∀ j, j < m → j ≠ i → dstOf ops j ≠ some t)
    (hafter : ∀ d ∈ deps o, Ls[d]? = some true) (hphi : ∀ i E1 E2 v, Env.Le E1 E2 → phi i E1 v → phi i E2 v) (hle : E'.Le E2) (hp : phi i E2 v)
    (hr : ((listed m Ls).flatMap (fun j => it j (y j)) ++ L).Perm Lr) (hs : Sat E2 (it i v ++ Lr) w') :
    TInv ops l ds E L m phi it (Ls.setIfInBounds i true) w' (fun j => if j = i then v else y j) E2 (l'.set t v) := by
  have hlt : i < Ls.size := (Array.getElem?_eq_some_iff.1 hf).1
  have hnew : ∀ j, (Ls.setIfInBounds i true)[j]? = some true ↔ j = i ∨ Ls[j]? = some true := by
    intro j
    rw [Array.getElem?_setIfInBounds]
    by_cases hj : i = j
    · subst hj; simp [hlt]
    · simp [hj, Ne.symm hj]
  refine ⟨by simp [h.len], ?_, ?_, ?_, ?_, h.le.trans hle, ?_, ?_⟩
  · intro j h1 h2
    rw [Array.getElem?_setIfInBounds, if_neg (by omega)]
    exact h.later j h1 h2
  · intro u hu
    rw [getD_set, if_neg]
    · exact h.base u fun j hj hl => hu j hj ((hnew j).2 (.inr hl))
    · rintro ⟨rfl, _⟩
      exact hu i hi ((hnew i).2 (.inl rfl)) hdst
  · intro j u hj hl hd
    rw [getD_set]
    by_cases hji : j = i
    · subst hji
      rw [hdst] at hd
      cases hd
      rw [if_pos ⟨rfl, by rw [h.len]; exact ht⟩]; simp
    · rw [if_neg, if_neg hji]
      · exact h.done j u hj (((hnew j).1 hl).resolve_left hji) hd
      · rintro ⟨rfl, _⟩
        exact huniq j hj hji hd
  · intro j hj hl o' ho' d hd
    refine (hnew d).2 (.inr ?_)
    rcases (hnew j).1 hl with rfl | hl
    · rw [ho] at ho'; cases ho'; exact hafter d hd
    · exact h.closed j hj hl o' ho' d hd
  · intro j hj hl
    by_cases hji : j = i
    · subst hji; simpa using hp
    · rw [if_neg hji]; exact hphi _ _ _ _ hle (h.phi j hj (((hnew j).1 hl).resolve_left hji))
  · refine hs.perm ?_
    refine (List.Perm.append_left _ hr.symm).trans ?_
    have h1 : (it i v ++ ((listed m Ls).flatMap (fun j => it j (y j)) ++ L)) = ((i :: listed m Ls).flatMap (fun j => it j (if j = i then v else y j)) ++ L) := by
      rw [List.flatMap_cons, List.append_assoc]
      congr 1
      · simp
      · congr 1
        unfold List.flatMap
        congr 1
        apply List.map_congr_left
        intro j hj
        have hj' := (mem_listed.1 hj).2
        rw [if_neg (fun e => by subst e; rw [hf] at hj'; cases hj')]
    rw [h1]
    exact List.Perm.append_right _ (List.Perm.flatMap_right _ (perm_next hi hf).symm)

theorem wc_tame {id : Nat} {w : World} (m : Nat) (phi : Nat → Env → Value → Prop) (it : Nat → Value → List Item) (hm : P.follows .mixedOrders = true) (hc : tameChk ops m l.length = true) (hA : Sat E L w)
    (hphi : ∀ i E1 E2 v, Env.Le E1 E2 → phi i E1 v → phi i E2 v) (hops : TameOps ro P ops l ds E L phi it 0 (ops.toList.take m))
    (hK : ∀ (y : Nat → Value) (E' : Env) (w' : World), E.Le E' → (∀ j, j < m → phi j E' (y j)) → Sat E' ((List.range m).flatMap (fun j => it j (y j)) ++ L) w' →
      RL ro P ds (fun l w => Q .normal (A l ds) w) Q ((annot ops).drop m) (setAll l (pairs ops (List.range m) y)) w') :
    WC ro P (.region id ops true) Q l ds w := by
  unfold tameChk at hc
  simp only [Bool.and_eq_true, decide_eq_true_eq] at hc
  obtain ⟨⟨⟨⟨hdown, hmn⟩, hd1⟩, hd2⟩, hd3⟩ := hc
  refine wpIn_region_any hm ?_
  have hann : ∀ k, (hk : k < ops.size) → (annot ops).drop k = (ops[k], gslot ops ops[k]) :: (annot ops).drop (k + 1) := by
    intro k hk
    rw [List.drop_eq_getElem_cons (by simpa [annot] using hk)]
    simp [annot]
  let Inv : Array Bool → Act → World → Prop := fun Ls a w =>
    (∃ y E' l', a = A l' ds ∧ TInv ops l ds E L m phi it Ls w y E' l') ∨
    (∃ k l', m < k ∧ k ≤ ops.size ∧ (∀ j, j < k → Ls[j]? = some true) ∧ (∀ j, k ≤ j → j < ops.size → Ls[j]? = some false) ∧ a = A l' ds ∧ RL ro P ds (fun l w => Q .normal (A l ds) w) Q ((annot ops).drop k) l' w)
  refine wpAny_sets Inv hdown ?_ ?_ ops.size _ _ _ (by simp) ?_ ?_
  · intro Ls a w i o hI ho hsz hf hafter
    have hin : i < ops.size := (Array.getElem?_eq_some_iff.1 ho).1
    have hoi : ops[i] = o := (Array.getElem?_eq_some_iff.1 ho).2
    have hadep : ∀ d ∈ deps o, Ls[d]? = some true := by
      intro d hd
      obtain ⟨e, he, hb, rfl⟩ := mem_deps.1 hd
      exact hafter e he hb
    have hclosed : ∀ j : Nat, Ls[j]? = some true → ∀ oj, ops[j]? = some oj → ∀ d ∈ deps oj, Ls[d]? = some true := by
      intro j hj oj hoj d hd
      have hjn : j < ops.size := (Array.getElem?_eq_some_iff.1 hoj).1
      rcases hI with ⟨y, E', l', _, T⟩ | ⟨k, l', _, _, hlt, hge, _, _⟩
      · rcases Nat.lt_or_ge j m with h1 | h1
        · exact T.closed j h1 hj oj hoj d hd
        · rw [T.later j h1 hjn] at hj; cases hj
      · rcases Nat.lt_or_ge j k with h1 | h1
        · have := deps_lt hdown hoj d hd
          exact hlt d (by omega)
        · rw [hge j h1 hjn] at hj; cases hj
    have tailDeps : m ≤ i → Oper.noDefer o = true ∧ ∀ j, j < i → Ls[j]? = some true := by
      intro hmi
      have h1 := List.all_eq_true.1 hd3 i (List.mem_range.2 hin)
      rw [ho] at h1
      simp only [Option.all_some, Bool.or_eq_true, decide_eq_true_eq, Bool.and_eq_true] at h1
      have h2 := h1.resolve_left (by omega)
      refine ⟨h2.1, fun j hj => ?_⟩
      have h3 := List.all_eq_true.1 h2.2 j (List.mem_range.2 hj)
      exact reach_sound hclosed i (deps o) hadep j (by simpa using h3)
    -- an operation of the tail, carried out in its turn
    have tailStep : ∀ l', RL ro P ds (fun l w => Q .normal (A l ds) w) Q ((annot ops).drop i) l' w → a = A l' ds → m ≤ i → (∀ j, i < j → j < ops.size → Ls[j]? = some false) →
        (if Region.wanted o (yielded ops a.tmps) then o.wpIn (WF ro) 0 P a w (Inv (Ls.setIfInBounds i true)) Q else (∀ f, o.about P w a.eval = some f → (WF ro).fn f) ∧ Inv (Ls.setIfInBounds i true) (a.put o.dst undef) w) := by
      intro l' hRL ha hmi hlater
      subst ha
      obtain ⟨hnd, hall⟩ := tailDeps hmi
      rw [hann i hin, hoi] at hRL
      have hlt : i < Ls.size := by omega
      have mk : ∀ l'' w'', RL ro P ds (fun l w => Q .normal (A l ds) w) Q ((annot ops).drop (i + 1)) l'' w'' → Inv (Ls.setIfInBounds i true) (A l'' ds) w'' := by
        intro l'' w'' h
        refine .inr ⟨i + 1, l'', by omega, by omega, ?_, ?_, rfl, h⟩
        · intro j hj
          rw [Array.getElem?_setIfInBounds]
          by_cases hji : i = j
          · subst hji; simp [hlt]
          · rw [if_neg hji]; exact hall j (by omega)
        · intro j hj hjn
          rw [Array.getElem?_setIfInBounds, if_neg (by omega)]
          exact hlater j (by omega) hjn
      have hty : (A l' ds).tmps = ⟨l'⟩ := rfl
      rw [hty]
      unfold Region.wanted
      cases hg : o.guard with
      | none =>
        have e : gslot ops o = none := by simp [gslot, hg]
        rw [e] at hRL
        simp only [if_true]
        exact Oper.wpIn_mono (fun a w ⟨l'', e, h⟩ => e ▸ mk l'' w h) hRL
      | some jb =>
        obtain ⟨j, b⟩ := jb
        have e : gslot ops o = some ((ops[j]?).bind (·.dst), b) := by simp [gslot, hg]
        rw [e] at hRL
        simp only [RL] at hRL
        simp only [yielded_eq]
        by_cases hv : gval l' ((ops[j]?).bind (·.dst)) = some b
        · rw [if_pos hv] at hRL
          simp only [hv, beq_self_eq_true, if_true]
          exact Oper.wpIn_mono (fun a w ⟨l'', e, h⟩ => e ▸ mk l'' w h) hRL
        · rw [if_neg hv] at hRL
          have : (gval l' ((ops[j]?).bind (·.dst)) == some b) = false := by simpa using hv
          simp only [this, Bool.false_eq_true, if_false]
          refine ⟨fun _ _ => trivial, ?_⟩
          rw [A_put]
          exact mk _ _ hRL
    rcases hI with ⟨y, E', l', rfl, T⟩ | ⟨k, l', hmk, hkn, hlt, hge, rfl, hRL⟩
    · by_cases hmi : m ≤ i
      · -- the first of the tail
        obtain ⟨_, hall⟩ := tailDeps hmi
        have him : i = m := by
          rcases Nat.lt_or_ge m i with h1 | h1
          · have h2 := hall m h1
            have h3 := T.later m (Nat.le_refl _) (by omega)
            rw [h2] at h3; cases h3
          · omega
        subst him
        have hS : (listed i Ls) = List.range i := by
          unfold listed
          rw [List.filter_eq_self]
          intro j hj
          simp [hall j (List.mem_range.1 hj)]
        have hsat := T.sat
        rw [hS] at hsat
        have hfin := hK y E' w T.le (fun j hj => T.phi j hj (hall j hj)) hsat
        have hl' : l' = setAll l (pairs ops (List.range i) y) := by
          refine ext_getD (by rw [T.len, setAll_length]) fun t ht => ?_
          by_cases hx : ∃ j, j < i ∧ dstOf ops j = some t
          · obtain ⟨j, hj, hd⟩ := hx
            rw [T.done j t hj (hall j hj) hd]
            symm
            refine setAll_at ?_ ⟨y j, mem_pairs.2 ⟨j, List.mem_range.2 hj, hd, rfl⟩⟩ l (by rw [← T.len]; exact ht)
            intro v' hv'
            obtain ⟨j', hj', hd', rfl⟩ := mem_pairs.1 hv'
            have h1 := List.all_eq_true.1 hd1 j (List.mem_range.2 hj)
            rw [hd] at h1
            simp only [Option.any_some, Bool.and_eq_true] at h1
            have h2 := List.all_eq_true.1 h1.2 j' hj'
            simp only [Bool.or_eq_true, decide_eq_true_eq] at h2
            rcases h2 with h2 | h2
            · rw [h2]
            · exact absurd hd' h2
          · rw [T.base t fun j hj _ hd => hx ⟨j, hj, hd⟩]
            symm
            refine setAll_other (fun v hv => ?_) l
            obtain ⟨j, hj, hd, _⟩ := mem_pairs.1 hv
            exact hx ⟨j, List.mem_range.1 hj, hd⟩
        refine tailStep l' ?_ rfl hmi fun j hj hjn => T.later j (by omega) hjn
        rw [hl']; exact hfin
      · -- one of the tame ones
        have hi : i < m := by omega
        have h1 := List.all_eq_true.1 hd2 i (List.mem_range.2 hi)
        rw [ho] at h1
        simp only [Option.all_some, Bool.and_eq_true, decide_eq_true_eq] at h1
        obtain ⟨⟨⟨hnd, hns⟩, hnod⟩, hsl⟩ := h1
        have h2 := List.all_eq_true.1 hd1 i (List.mem_range.2 hi)
        cases hdst : dstOf ops i with
        | none => rw [hdst] at h2; simp at h2
        | some t =>
          rw [hdst] at h2
          simp only [Option.any_some, Bool.and_eq_true, decide_eq_true_eq] at h2
          obtain ⟨htl, huq⟩ := h2
          have huniq : ∀ j, j < m → j ≠ i → dstOf ops j ≠ some t := by
            intro j hj hji
            have h3 := List.all_eq_true.1 huq j (List.mem_range.2 hj)
            simp only [Bool.or_eq_true, decide_eq_true_eq] at h3
            exact h3.resolve_left (fun e => hji e.symm)
          have hdm : ∀ d ∈ deps o, d < m ∧ Ls[d]? = some true := by
            intro d hd
            have h3 := hadep d hd
            refine ⟨?_, h3⟩
            rcases Nat.lt_or_ge d m with h4 | h4
            · exact h4
            · have h5 := (Array.getElem?_eq_some_iff.1 h3).1
              have h6 := T.later d h4 (by omega)
              rw [h3] at h6; cases h6
          obtain ⟨rest, hrest⟩ := perm_deps hnod hdm
          have hp1 : ((listed m Ls).flatMap (fun j => it j (y j)) ++ L).Perm ((deps o).flatMap (fun j => it j (y j)) ++ (rest.flatMap (fun j => it j (y j)) ++ L)) := by
            rw [← List.append_assoc, ← List.flatMap_append]
            exact List.Perm.append_right _ (List.Perm.flatMap_right _ hrest)
          have htake : (ops.toList.take m)[i]? = some o := by
            rw [List.getElem?_take, if_pos hi]; simpa using ho
          have hop := TameOps.get (ops.toList.take m) 0 hops i o htake
          rw [Nat.zero_add] at hop
          have hq1 : ∀ X : List Item, (X ++ (rest.flatMap (fun j => it j (y j)) ++ L)).Perm (L ++ (X ++ rest.flatMap (fun j => it j (y j)))) := fun X => by
            rw [← List.append_assoc]; exact List.perm_append_comm
          have hop := hop y E' (rest.flatMap (fun j => it j (y j))) w T.le (fun j hj => T.phi j (hdm j hj).1 (hdm j hj).2) ((T.sat.perm hp1).perm (hq1 _))
          have hodst : o.dst = some t := by
            have := hdst
            unfold dstOf at this
            rw [ho] at this
            simpa using this
          have hview : ∀ u ∈ slotsOf ops o, l'.getD u undef = (setAll l (pairs ops (deps o) y)).getD u undef := by
            intro u hu
            by_cases hx : ∃ j, j < m ∧ Ls[j]? = some true ∧ dstOf ops j = some u
            · obtain ⟨j, hj, hl, hd⟩ := hx
              have h3 := List.all_eq_true.1 hsl u hu
              have h4 := List.all_eq_true.1 h3 j (List.mem_range.2 hj)
              simp only [Bool.or_eq_true, decide_eq_true_eq] at h4
              have hjd : j ∈ deps o := by
                rcases h4 with (h4 | h4) | h4
                · exact absurd hd h4
                · simpa using h4
                · exfalso
                  cases hoj : ops[j]? with
                  | none => rw [hoj] at h4; simp at h4
                  | some oj =>
                    rw [hoj] at h4
                    have := T.closed j hj hl oj hoj i (by simpa using h4)
                    rw [hf] at this; cases this
              rw [T.done j u hj hl hd]
              symm
              have h5 := List.all_eq_true.1 hd1 j (List.mem_range.2 hj)
              rw [hd] at h5
              simp only [Option.any_some, Bool.and_eq_true, decide_eq_true_eq] at h5
              refine setAll_at ?_ ⟨y j, mem_pairs.2 ⟨j, hjd, hd, rfl⟩⟩ l h5.1
              intro v' hv'
              obtain ⟨j', hj', hd', rfl⟩ := mem_pairs.1 hv'
              have h6 := List.all_eq_true.1 h5.2 j' (List.mem_range.2 (hdm j' hj').1)
              simp only [Bool.or_eq_true, decide_eq_true_eq] at h6
              rcases h6 with h6 | h6
              · rw [h6]
              · exact absurd hd' h6
            · rw [T.base u fun j hj hl hd => hx ⟨j, hj, hl, hd⟩]
              symm
              refine setAll_other (fun v hv => ?_) l
              obtain ⟨j, hj, hd, _⟩ := mem_pairs.1 hv
              exact hx ⟨j, (hdm j hj).1, (hdm j hj).2, hd⟩
          have hev : ∀ x ∈ o.op.operands, ev l' x = ev (setAll l (pairs ops (deps o) y)) x := by
            intro x hx
            cases x with
            | tmp u => exact hview u (List.mem_append_left _ (List.mem_filterMap.2 ⟨.tmp u, Array.mem_toList_iff.2 hx, rfl⟩))
            | _ => rfl
          have hinj : ∀ v v', put (setAll l (pairs ops (deps o) y)) o.dst v = put (setAll l (pairs ops (deps o) y)) o.dst v' → v = v' := by
            intro v v' e
            rw [hodst] at e
            simp only [put] at e
            have h3 := congrArg (fun l => List.getD l t undef) e
            simp only [getD_set, setAll_length, htl, and_self, if_true] at h3
            exact h3
          have hstep : OW ro P o (setAll l (pairs ops (deps o) y)) ds w (fun l' w' => ∃ v E2, l' = put (setAll l (pairs ops (deps o) y)) o.dst v ∧ E'.Le E2 ∧ phi i E2 v ∧ Sat E2 (L ++ (it i v ++ ((deps o).flatMap (fun j => it j (y j)) ++ rest.flatMap (fun j => it j (y j))))) w') NoQ →
              o.wpIn (WF ro) 0 P (A l' ds) w (Inv (Ls.setIfInBounds i true)) Q := by
            intro h
            have h7 := ow_view (Q := Q) (nx := fun v w' => ∃ E2, E'.Le E2 ∧ phi i E2 v ∧ Sat E2 (it i v ++ ((deps o).flatMap (fun j => it j (y j)) ++ (rest.flatMap (fun j => it j (y j)) ++ L))) w') (next := fun l'' w'' => Inv (Ls.setIfInBounds i true) (A l'' ds) w'') hnd hns hev
              (OW.mono h fun l'' w'' ⟨v, E2, e, h1, h2, h3⟩ => ⟨v, e, E2, h1, h2, h3.perm (by have := (hq1 (it i v ++ (deps o).flatMap (fun j => it j (y j)))).symm; simpa only [List.append_assoc] using this)⟩) (fun v w' ⟨E2, h1, h2, h3⟩ => by
                rw [hodst]
                exact .inl ⟨_, E2, l'.set t v, rfl, T.next hi ho hf hdst htl huniq hadep hphi h1 h2 hp1 h3⟩) hinj
            exact Oper.wpIn_mono (fun a w ⟨l'', e, h⟩ => e ▸ h) h7
          have hty : (A l' ds).tmps = ⟨l'⟩ := rfl
          rw [hty]
          unfold Region.wanted
          cases hg : o.guard with
          | none =>
            have e : gslot ops o = none := by simp [gslot, hg]
            rw [e] at hop
            simp only [if_true]
            exact hstep hop
          | some jb =>
            obtain ⟨j, b⟩ := jb
            have e : gslot ops o = some ((ops[j]?).bind (·.dst), b) := by simp [gslot, hg]
            rw [e] at hop
            have hgv : gval l' ((ops[j]?).bind (·.dst)) = gval (setAll l (pairs ops (deps o) y)) ((ops[j]?).bind (·.dst)) := by
              cases hdj : (ops[j]?).bind (·.dst) with
              | none => rfl
              | some u =>
                have hmem : u ∈ slotsOf ops o := by
                  unfold slotsOf
                  refine List.mem_append_right _ ?_
                  rw [hg]
                  simp only [dstOf, hdj, Option.toList_some, List.mem_singleton]
                simp only [gval, hview u hmem]
            simp only [yielded_eq, hgv]
            by_cases hv : gval (setAll l (pairs ops (deps o) y)) ((ops[j]?).bind (·.dst)) = some b
            · simp only [hv, beq_self_eq_true, if_true]
              exact hstep (hop.1 hv)
            · have hvb : (gval (setAll l (pairs ops (deps o) y)) ((ops[j]?).bind (·.dst)) == some b) = false := by simpa using hv
              simp only [hvb, Bool.false_eq_true, if_false]
              refine ⟨fun _ _ => trivial, ?_⟩
              rw [A_put, hodst]
              obtain ⟨h8, h9⟩ := hop.2 hv
              exact .inl ⟨_, E', l'.set t undef, rfl, T.next hi ho hf hdst htl huniq hadep hphi (Env.Le.refl _) h8 hp1 (by rw [h9]; exact T.sat.perm hp1)⟩
    · have hki : k ≤ i := by
        rcases Nat.lt_or_ge i k with h1 | h1
        · have := hlt i h1; rw [hf] at this; cases this
        · exact h1
      obtain ⟨_, hall⟩ := tailDeps (by omega)
      have hik : i = k := by
        rcases Nat.lt_or_ge k i with h1 | h1
        · have h2 := hall k h1
          have h3 := hge k (Nat.le_refl _) (by omega)
          rw [h2] at h3; cases h3
        · omega
      subst hik
      exact tailStep l' hRL rfl (by omega) fun j hj hjn => hge j (by omega) hjn
  · intro Ls a w hI hall
    rcases hI with ⟨y, E', l', rfl, T⟩ | ⟨k, l', hmk, hkn, hlt, hge, rfl, hRL⟩
    · have hmn' : m = ops.size := by
        rcases Nat.lt_or_ge m ops.size with h1 | h1
        · have h2 := hall m h1
          have h3 := T.later m (Nat.le_refl _) h1
          rw [h2] at h3; cases h3
        · omega
      have hS : (listed m Ls) = List.range m := by
        unfold listed
        rw [List.filter_eq_self]
        intro j hj
        simp [hall j (by rw [← hmn']; exact List.mem_range.1 hj)]
      have hsat := T.sat
      rw [hS] at hsat
      have hfin := hK y E' w T.le (fun j hj => T.phi j hj (hall j (by omega))) hsat
      have : (annot ops).drop m = [] := List.drop_eq_nil_of_le (by simp [annot, hmn'])
      rw [this] at hfin
      have hl' : l' = setAll l (pairs ops (List.range m) y) := by
        refine ext_getD (by rw [T.len, setAll_length]) fun t ht => ?_
        by_cases hx : ∃ j, j < m ∧ dstOf ops j = some t
        · obtain ⟨j, hj, hd⟩ := hx
          rw [T.done j t hj (hall j (by omega)) hd]
          symm
          refine setAll_at ?_ ⟨y j, mem_pairs.2 ⟨j, List.mem_range.2 hj, hd, rfl⟩⟩ l (by rw [← T.len]; exact ht)
          intro v' hv'
          obtain ⟨j', hj', hd', rfl⟩ := mem_pairs.1 hv'
          have h1 := List.all_eq_true.1 hd1 j (List.mem_range.2 hj)
          rw [hd] at h1
          simp only [Option.any_some, Bool.and_eq_true] at h1
          have h2 := List.all_eq_true.1 h1.2 j' hj'
          simp only [Bool.or_eq_true, decide_eq_true_eq] at h2
          rcases h2 with h2 | h2
          · rw [h2]
          · exact absurd hd' h2
        · rw [T.base t fun j hj _ hd => hx ⟨j, hj, hd⟩]
          symm
          refine setAll_other (fun v hv => ?_) l
          obtain ⟨j, hj, hd, _⟩ := mem_pairs.1 hv
          exact hx ⟨j, List.mem_range.1 hj, hd⟩
      rw [hl']
      exact hfin
    · have : k = ops.size := by
        rcases Nat.lt_or_ge k ops.size with h1 | h1
        · have h2 := hall k h1
          have h3 := hge k (Nat.le_refl _) h1
          rw [h2] at h3; cases h3
        · omega
      subst this
      have : (annot ops).drop ops.size = [] := List.drop_eq_nil_of_le (by simp [annot])
      rw [this] at hRL
      exact hRL
  · simp
  · refine .inl ⟨fun _ => undef, E, l, rfl, ⟨rfl, ?_, fun _ _ => rfl, ?_, ?_, Env.Le.refl E, ?_, ?_⟩⟩
    · intro j _ hj; simp [hj]
    · intro j t hj hl; rw [Array.getElem?_replicate] at hl; split at hl <;> cases hl
    · intro j hj hl; rw [Array.getElem?_replicate] at hl; split at hl <;> cases hl
    · intro j hj hl; rw [Array.getElem?_replicate] at hl; split at hl <;> cases hl
    · have : listed m (Array.replicate ops.size false) = [] := by
        unfold listed
        rw [List.filter_eq_nil_iff]
        intro j hj
        rw [Array.getElem?_replicate]
        split <;> simp
      rw [this]
      exact (hA.drew (w.drawn + 1)).perm (by simp)

theorem pairs_zip {m : Nat} {ts : List Tmp} {vals : List Value} (hl : vals.length = m) (hts : (List.range m).map (dstOf ops) = ts.map some) : pairs ops (List.range m) (fun j => vals.getD j undef) = ts.zip vals := by
  have key : ∀ (k : Nat) (ts : List Tmp) (vals0 : List Value), (List.range' k ts.length).map (dstOf ops) = ts.map some → vals0.drop k = vals0.drop k → k + ts.length = vals0.length →
      pairs ops (List.range' k ts.length) (fun j => vals0.getD j undef) = ts.zip (vals0.drop k) := by
    intro k ts
    induction ts generalizing k with
    | nil => intro vals0 _ _ _; simp [pairs]
    | cons t ts ih =>
      intro vals0 h _ hn
      simp only [List.length_cons, List.range'_succ, List.map_cons, List.cons.injEq] at h
      have := ih (k + 1) vals0 h.2 rfl (by simp at hn; omega)
      have hk : k < vals0.length := by simp at hn; omega
      rw [List.drop_eq_getElem_cons hk, List.zip_cons_cons, ← this]
      simp only [List.length_cons, List.range'_succ, pairs, List.filterMap_cons, h.1, Option.map_some]
      simp [List.getD, hk]
  have hlen : ts.length = m := by have := congrArg List.length hts; simpa using this.symm
  have := key 0 ts vals (by rw [hlen, ← List.range_eq_range']; exact hts) rfl (by omega)
  rw [hlen, ← List.range_eq_range'] at this
  simpa using this
theorem wc_quiet {id : Nat} {w : World} (m : Nat) (ts : List Tmp) (vals : List Value) (hl : vals.length = m) (hts : (List.range m).map (dstOf ops) = ts.map some) (hm : P.follows .mixedOrders = true) (hc : tameChk ops m l.length = true) (hA : Sat E L w) (hops : QuietOps ro P ops l ds E L vals 0 (ops.toList.take m))
    (hK : ∀ w', Sat E L w' → RL ro P ds (fun l w => Q .normal (A l ds) w) Q ((annot ops).drop m) (setAll l (ts.zip vals)) w') :
    WC ro P (.region id ops true) Q l ds w := by
  refine wc_tame m (fun i _ v => vals[i]? = some v) (fun _ _ => []) hm hc hA (fun _ _ _ _ _ h => h) (quiet_tame _ 0 (by simp; omega) hops) ?_
  intro y E' w' hE hph hS
  have hp : pairs ops (List.range m) y = pairs ops (List.range m) fun j => vals.getD j undef := pairs_congr fun j hj => by
    have := hph j (List.mem_range.1 hj)
    simp [List.getD, this]
  rw [hp, pairs_zip hl hts]
  refine hK w' (Sat.le ?_ hE)
  have hfl : (List.range m).flatMap (fun j => (fun _ _ => [] : Nat → Value → List Item) j (y j)) = [] := by simp
  rw [hfl] at hS
  exact hS
theorem QuietOps.nil {l0 : List Value} {vals : List Value} {k : Nat} : QuietOps ro P ops l0 ds E L vals k [] := trivial
theorem QuietOps.cons {l0 : List Value} {vals : List Value} {k : Nat} {o : Oper} {r : List Oper} (hg : o.guard = none) (js : List Nat) (hj : deps o = js)
    (h : ∀ (v : Value) (E1 : Env) (Lx : List Item) (w : World), vals[k]? = some v → E.Le E1 → Sat E1 (L ++ Lx) w →
      OW ro P o (setAll l0 (pairs ops js fun j => vals.getD j undef)) ds w (fun l' w' => l' = put (setAll l0 (pairs ops js fun j => vals.getD j undef)) o.dst v ∧ Sat E1 (L ++ Lx) w') NoQ)
    (hr : QuietOps ro P ops l0 ds E L vals (k + 1) r) : QuietOps ro P ops l0 ds E L vals k (o :: r) := by subst hj; exact ⟨⟨hg, h⟩, hr⟩
theorem pairs_zipy {m : Nat} {ts : List Tmp} (y : Nat → Value) (hts : (List.range m).map (dstOf ops) = ts.map some) : pairs ops (List.range m) y = ts.zip ((List.range m).map y) := by
  have h := pairs_zip (ops := ops) (m := m) (ts := ts) (vals := (List.range m).map y) (by simp) hts
  rw [← h]
  exact pairs_congr fun j hj => by simp [List.getD, List.mem_range.1 hj]
theorem TameOps.nil {l0 : List Value} {phi : Nat → Env → Value → Prop} {it : Nat → Value → List Item} {k : Nat} : TameOps ro P ops l0 ds E L phi it k [] := trivial
theorem pairs_zipj {js : List Nat} {tj : List Tmp} (y : Nat → Value) (h : js.map (dstOf ops) = tj.map some) : pairs ops js y = tj.zip (js.map y) := by
  induction js generalizing tj with
  | nil => cases tj with
    | nil => rfl
    | cons _ _ => simp at h
  | cons j js ih =>
    cases tj with
    | nil => simp at h
    | cons t tj =>
      simp only [List.map_cons, List.cons.injEq] at h
      have := ih h.2
      unfold pairs at this ⊢
      rw [List.filterMap_cons, h.1]
      simp only [Option.map_some, List.map_cons, List.zip_cons_cons, this]
theorem TameOps.cons {l0 : List Value} {phi : Nat → Env → Value → Prop} {it : Nat → Value → List Item} {k : Nat} {o : Oper} {r : List Oper} (hg : o.guard = none) (js : List Nat) (hj : deps o = js) (tj : List Tmp) (htj : js.map (dstOf ops) = tj.map some)
    (h : ∀ (y : Nat → Value) (E1 : Env) (Lx : List Item) (w : World), E.Le E1 → (∀ j ∈ js, phi j E1 (y j)) → Sat E1 (L ++ (js.flatMap (fun j => it j (y j)) ++ Lx)) w →
      OW ro P o (setAll l0 (tj.zip (js.map y))) ds w (fun l' w' => ∃ v E2, l' = put (setAll l0 (tj.zip (js.map y))) o.dst v ∧ E1.Le E2 ∧ phi k E2 v ∧ Sat E2 (L ++ (it k v ++ (js.flatMap (fun j => it j (y j)) ++ Lx))) w') NoQ)
    (hr : TameOps ro P ops l0 ds E L phi it (k + 1) r) : TameOps ro P ops l0 ds E L phi it k (o :: r) := ⟨TameOp.plain hg js hj (fun y => by rw [pairs_zipj y htj]; exact h y), hr⟩
theorem wc_tame' {id : Nat} {w : World} (m : Nat) (ts : List Tmp) (rs : List Nat) (phi : Nat → Env → Value → Prop) (it : Nat → Value → List Item) (hm : P.follows .mixedOrders = true) (hc : tameChk ops m l.length = true) (hts : (List.range m).map (dstOf ops) = ts.map some) (hrs : List.range m = rs) (hA : Sat E L w)
    (hphi : ∀ i E1 E2 v, Env.Le E1 E2 → phi i E1 v → phi i E2 v) (hops : TameOps ro P ops l ds E L phi it 0 (ops.toList.take m))
    (hK : ∀ (y : Nat → Value) (E' : Env) (w' : World), E.Le E' → (∀ j, j < m → phi j E' (y j)) → Sat E' (rs.flatMap (fun j => it j (y j)) ++ L) w' →
      RL ro P ds (fun l w => Q .normal (A l ds) w) Q ((annot ops).drop m) (setAll l (ts.zip (rs.map y))) w') :
    WC ro P (.region id ops true) Q l ds w := by
  subst hrs
  refine wc_tame m phi it hm hc hA hphi hops fun y E' w' h1 h2 h3 => ?_
  rw [pairs_zipy y hts]
  exact hK y E' w' h1 h2 h3
end
end Go.Proofs.YtomfoaaaeidpnaaDoor
