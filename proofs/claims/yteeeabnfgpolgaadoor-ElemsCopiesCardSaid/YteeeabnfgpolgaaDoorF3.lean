/-
  spindlelaw33.awake, walked.
-/
import Derived.Test.YteeeabnfgpolgaaDoorF2
import Derived.Test.YteeeabnfgpolgaaDoorSlH
set_option linter.unusedVariables false
set_option linter.unusedSimpArgs false
namespace Go.Proofs.YteeeabnfgpolgaaDoor
open Go Go.RowKit
attribute [local irreducible] WC RL OW bodyPostM ThenQ BlockQ LoopQ
def zeroNode : Node := ⟨0, 0, ⟨0, 0, 0, 0, 0, 0, 0, 0, 0⟩, ⟨0, 0, false, 0, 0, 0, 0, 0, false, false⟩, ⟨0, false, ⟨0, false, false, 0, 0, 0, 0, false, 0, false, [], false, false, false, [], 0, 0, 0, 0, 0⟩, []⟩, ⟨0, 0, []⟩⟩
def aw1 : Node := { zeroNode with kind := 1, pps := { zeroNode.pps with cabac := true, refs := 1 } }
def aw2 : Node := { zeroNode with kind := 1, pps := { zeroNode.pps with refs := 1 } }
def awS (i : Int) (m : UInt8) : Node := { zeroNode with kind := 2, slice := { zeroNode.slice with head := { zeroNode.slice.head with init := i, qp := 3 }, mbs := [{ zeroMb with kind := 1, mode := m }] } }
abbrev nilV : Value := .slice none 0 0
theorem awR {E : Env} {n : Node} {v : Value} (hm : n.slice.head.mods = []) (hk : n.slice.head.marks = []) (hb : ListE mbR 29 E v n.slice.mbs) (h1 : headI n.slice.head) (h2 : spsI n.sps) (h3 : ppsI n.pps) (h4 : nalI n.other) : nodeR E (nodeC n nilV nilV v) n :=
  ⟨nilV, nilV, v, rfl, ⟨⟨⟨by rw [hm]; exact ListE.nil, by rw [hk]; exact ListE.nil, h1⟩, hb⟩, h2, h3, h4⟩⟩
theorem CsE.single {α : Type} {R : Rd α} {sz : Nat} {E : Env} {cs : List Value} {x : α} (hl : cs.length = sz) (h : R E cs x) : CsE R sz E cs [x] := by simpa using (CsE.nil (R := R) (sz := sz) (E := E)).snoc hl h
theorem awMb {E : Env} (m : UInt8) : mbR E (mbC { zeroMb with kind := 1, mode := m } nilV nilV nilV) { zeroMb with kind := 1, mode := m } := ⟨nilV, nilV, nilV, rfl, ⟨ListE.nil, ListE.nil, ListE.nil, show I64 0 by decide, Nat.zero_le _⟩⟩
set_option maxHeartbeats 4000000 in
set_option maxRecDepth 20000 in
theorem awake_calls (E : Env) (L : List Item) (w : World) (hA : Sat E L w) (hG : DeepG E) :
    Calls Tryd.prog 40 ⟨[]⟩ w (Ret E L (.bool true)) := by
  refine enter (fn := Tryd.f40) Tryd.func40 rfl 75 rfl [undef, undef, undef, undef, undef, undef, undef, undef, undef, undef, undef, undef, undef, undef, undef, undef, undef, undef, undef, undef, undef, undef, undef, undef, undef, undef, undef, undef, undef, undef, undef, undef, undef, undef, undef, undef, undef, undef, undef, undef, undef, undef, undef, undef, undef, undef, undef, undef, undef, undef, undef, undef, undef, undef, undef, undef, undef, undef, undef, undef, undef, undef, undef, undef, undef, undef, undef, undef, undef, undef, undef, undef, undef, undef, undef] rfl ?_
  repeat' (first | ((refine g_wc ?_; first | (refine wc_seq ?_) | (refine wc_regionS 3 rfl ?_; refine wc_region ?_) | (refine wc_block ?_) | (refine wc_true rfl ?_) | (refine wc_false rfl ?_) | (refine wc_pt rfl (by omega) ?_) | (refine wc_pf rfl (by omega) ?_) | (refine wc_nt rfl (by omega) ?_) | (refine wc_nf rfl (by omega) ?_) | (refine wc_pp rfl (fun h => ?_) (fun h => ?_)) | (refine wc_nn rfl (fun h => ?_) (fun h => ?_)) | (refine wc_skip ?_) | (refine wc_exit ?_) | (refine wc_ret ?_))) | (refine g_rl ?_; first | (first | (refine rl_op ?_) | (refine rl_nil ?_) | (refine rl_on rfl ?_) | (refine rl_pt rfl (by omega) ?_) | (refine rl_qt rfl (by omega) ?_) | (refine rl_nt rfl (by omega) ?_) | (refine rl_mt rfl (by omega) ?_)) | ((first | (refine rl_off rfl rfl ?_) | (refine rl_undef rfl ?_) | (refine rl_pf rfl (by omega) ?_) | (refine rl_qf rfl (by omega) ?_) | (refine rl_nf rfl (by omega) ?_) | (refine rl_mf rfl (by omega) ?_)); refine rn ?_) | (first | (refine rl_pp rfl (fun h => o_n ?_) (fun h => rn ?_)) | (refine rl_qq rfl (fun h => o_n ?_) (fun h => rn ?_)) | (refine rl_nn rfl (fun h => o_n ?_) (fun h => rn ?_)) | (refine rl_mm rfl (fun h => o_n ?_) (fun h => rn ?_)))) | ((refine g_bin ?_; refine p_b ?_); refine rn ?_) | (refine g_call ?_; first | ((first | (refine p_l ?_)); refine rn ?_) | ((first | (refine t_appx rfl rfl hA rfl ?_)); clear hA; (try clear w); intro v w hA hone hnil; refine h_n hA ?_; clear hA; intro hA; refine rn ?_)) | ((refine g_conv ?_; first | (refine p_c hA ?_)); refine rn ?_) | ((refine g_load ?_; first | (refine t_loadx rfl hA ?_) | (refine t_loada rfl hA ?_)); refine rn ?_) | (refine g_store ?_; first | ((first | (refine t_storex rfl rfl hA ?_)); clear hA; (try clear w); intro w hA; refine h_n hA ?_; clear hA; intro hA; refine rn ?_) | ((first | (refine t_storea rfl rfl hA ?_)); clear hA; (try clear w); intro w hA; (try simp only [List.drop_zero, List.drop_nil, List.drop_succ_cons, List.take_succ_cons, List.take_zero, List.length_cons, List.length_nil, Nat.zero_add, Nat.reduceAdd] at hA); refine h_n hA ?_; clear hA; intro hA; refine rn ?_)) | (refine g_ow ?_; first | ((first | (refine p_o ?_)); refine rn ?_) | ((first | (refine t_alloc hA ?_) | (refine ow_box rfl rfl hA ?_) | (refine t_buildSlice rfl (by decide) rfl hA ?_)); clear hA; (try clear w); intro b w hA; refine h_n hA ?_; clear hA; intro hA; refine rn ?_) | ((first | (refine t_make rfl rfl (by omega) (by omega) hA ?_)); clear hA; (try clear w); intro v w hA hone hnil; refine rn ?_)) | (refine tq_normal ?_) | (refine bq_normal ?_) | (refine bq_hit ?_) | (refine bq_miss (by decide) ?_) | (refine tq_exit ?_) | (refine lq_exit ?_) | (refine tq_ret ?_) | (refine bq_ret ?_) | (refine lq_ret ?_))
  obtain ⟨E1, hE1, hA, m1⟩ : ∃ E1, E.Le E1 ∧ Sat E1 _ w ∧ ListE mbR 29 E1 (.slice (some ⟨_, 0, none⟩) 1 1) [{ zeroMb with kind := 1, mode := 0 }] := hA.freezeLitE 1 rfl (CsE.single rfl (awMb 0)) (by decide)
  obtain ⟨E2, hE2, hA, m2⟩ : ∃ E2, E1.Le E2 ∧ Sat E2 _ w ∧ ListE mbR 29 E2 (.slice (some ⟨_, 0, none⟩) 1 1) [{ zeroMb with kind := 1, mode := 0 }] := hA.freezeLitE 2 rfl (CsE.single rfl (awMb 0)) (by decide)
  have m1 := m1.mono hE2
  obtain ⟨E3, hE3, hA, x4⟩ : ∃ E3, E2.Le E3 ∧ Sat E3 _ w ∧ ListE nodeR 47 E3 (.slice (some ⟨_, 0, none⟩) 1 1) [awS 0 0] := hA.freezeLitE 0 rfl (CsE.single rfl (awR (n := awS 0 0) rfl rfl m1 (by decide) (by decide) (by decide) (by decide))) (by decide)
  have m2 := m2.mono hE3
  obtain ⟨E4, hE4, hA, x3⟩ : ∃ E4, E3.Le E4 ∧ Sat E4 _ w ∧ ListE nodeR 47 E4 (.slice (some ⟨_, 0, none⟩) 1 1) [awS 2 0] := hA.freezeLitE 0 rfl (CsE.single rfl (awR (n := awS 2 0) rfl rfl m2 (by decide) (by decide) (by decide) (by decide))) (by decide)
  obtain ⟨E5, hE5, hA, x2⟩ : ∃ E5, E4.Le E5 ∧ Sat E5 _ w ∧ ListE nodeR 47 E5 (.slice (some ⟨_, 0, none⟩) 1 1) [aw2] := hA.freezeLitE 0 rfl (CsE.single rfl (awR (n := aw2) rfl rfl ListE.nil (by decide) (by decide) (by decide) (by decide))) (by decide)
  obtain ⟨E6, hE6, hA, x1⟩ : ∃ E6, E5.Le E6 ∧ Sat E6 _ w ∧ ListE nodeR 47 E6 (.slice (some ⟨_, 0, none⟩) 1 1) [aw1] := hA.freezeLitE 0 rfl (CsE.single rfl (awR (n := aw1) rfl rfl ListE.nil (by decide) (by decide) (by decide) (by decide))) (by decide)
  have x4 := x4.mono (hE4.trans (hE5.trans hE6))
  have x3 := x3.mono (hE5.trans hE6)
  have x2 := x2.mono hE6
  have hEE := hE1.trans (hE2.trans (hE3.trans (hE4.trans (hE5.trans hE6))))
  have hG6 := hG.mono hEE
  replace hA : Sat E6 L w := hA
  have hf3 : ∀ n ∈ [awS 2 0], NodeF n := by
    intro n hn
    obtain rfl := List.mem_singleton.1 hn
    refine ⟨⟨⟨Nat.zero_le _, Nat.zero_le _⟩, by decide, fun m hm => ?_⟩⟩
    obtain rfl : m = { zeroMb with kind := 1, mode := 0 } := List.mem_singleton.1 hm
    exact ⟨Nat.zero_le _, Nat.zero_le _, Nat.zero_le _, fun b hb => by cases hb⟩
  repeat' (first | (refine g_callf 33 ?_; refine ow_call Tryd.call33 rfl ((copyNodes_own _ _ _ _ _ hA x3 hf3 (by decide)).mono ?_); clear hA; (try clear w); rintro e w ⟨E7, hE7, u5, c5, rfl, hu5, hc5, hA⟩; refine ⟨_, rfl, ?_⟩; refine rn ?_) | ((refine g_wc ?_; first | (refine wc_seq ?_) | (refine wc_regionS 4 rfl ?_; refine wc_region ?_) | (refine wc_block ?_) | (refine wc_true rfl ?_) | (refine wc_false rfl ?_) | (refine wc_pt rfl (by omega) ?_) | (refine wc_pf rfl (by omega) ?_) | (refine wc_nt rfl (by omega) ?_) | (refine wc_nf rfl (by omega) ?_) | (refine wc_pp rfl (fun h => ?_) (fun h => ?_)) | (refine wc_nn rfl (fun h => ?_) (fun h => ?_)) | (refine wc_skip ?_) | (refine wc_exit ?_) | (refine wc_ret ?_))) | (refine g_rl ?_; first | (first | (refine rl_op ?_) | (refine rl_nil ?_) | (refine rl_on rfl ?_) | (refine rl_pt rfl (by omega) ?_) | (refine rl_qt rfl (by omega) ?_) | (refine rl_nt rfl (by omega) ?_) | (refine rl_mt rfl (by omega) ?_)) | ((first | (refine rl_off rfl rfl ?_) | (refine rl_undef rfl ?_) | (refine rl_pf rfl (by omega) ?_) | (refine rl_qf rfl (by omega) ?_) | (refine rl_nf rfl (by omega) ?_) | (refine rl_mf rfl (by omega) ?_)); refine rn ?_) | (first | (refine rl_pp rfl (fun h => o_n ?_) (fun h => rn ?_)) | (refine rl_qq rfl (fun h => o_n ?_) (fun h => rn ?_)) | (refine rl_nn rfl (fun h => o_n ?_) (fun h => rn ?_)) | (refine rl_mm rfl (fun h => o_n ?_) (fun h => rn ?_)))) | ((refine g_bin ?_; refine p_b ?_); refine rn ?_) | (refine g_call ?_; first | ((first | (refine p_l ?_)); refine rn ?_) | ((first | (refine t_appx rfl rfl hA rfl ?_)); clear hA; (try clear w); intro v w hA hone hnil; refine h_n hA ?_; clear hA; intro hA; refine rn ?_)) | ((refine g_conv ?_; first | (refine p_c hA ?_)); refine rn ?_) | ((refine g_load ?_; first | (refine t_loadx rfl hA ?_) | (refine t_loada rfl hA ?_)); refine rn ?_) | (refine g_store ?_; first | ((first | (refine t_storex rfl rfl hA ?_)); clear hA; (try clear w); intro w hA; refine h_n hA ?_; clear hA; intro hA; refine rn ?_) | ((first | (refine t_storea rfl rfl hA ?_)); clear hA; (try clear w); intro w hA; (try simp only [List.drop_zero, List.drop_nil, List.drop_succ_cons, List.take_succ_cons, List.take_zero, List.length_cons, List.length_nil, Nat.zero_add, Nat.reduceAdd] at hA); refine h_n hA ?_; clear hA; intro hA; refine rn ?_)) | (refine g_ow ?_; first | ((first | (refine p_o ?_)); refine rn ?_) | ((first | (refine t_alloc hA ?_) | (refine ow_box rfl rfl hA ?_) | (refine t_buildSlice rfl (by decide) rfl hA ?_)); clear hA; (try clear w); intro b w hA; refine h_n hA ?_; clear hA; intro hA; refine rn ?_) | ((first | (refine t_make rfl rfl (by omega) (by omega) hA ?_)); clear hA; (try clear w); intro v w hA hone hnil; refine rn ?_)) | (refine tq_normal ?_) | (refine bq_normal ?_) | (refine bq_hit ?_) | (refine bq_miss (by decide) ?_) | (refine tq_exit ?_) | (refine lq_exit ?_) | (refine tq_ret ?_) | (refine bq_ret ?_) | (refine lq_ret ?_))
  obtain ⟨ks, hks, hA⟩ := hA.thawS hE7
  obtain ⟨cs, hcl, ⟨m, k, b0, rfl, hn⟩, hg⟩ := hc5.get (i := 0) rfl
  have hc5l : c5.length = 47 := hc5.len
  obtain ⟨cs2, hcl2, ⟨r, v, b2, rfl, hm⟩, hg2⟩ := hn.slice.mbs.get (i := 0) rfl
  obtain ⟨cb, hcb⟩ := hn.slice.mbs.sl
  have l43 : c5[43]? = some b0 := hg 43 (by decide)
  have v1 := hg2 1 _ rfl
  repeat' (first | (refine g_ow ?_; refine t_indexAddrR 1 rfl hA rfl rfl (by decide) ?_; refine rn ?_) | (refine g_ow ?_; refine t_load_row' 1 43 rfl rfl rfl hA rfl l43 ?_; refine rn ?_) | (refine g_ow ?_; refine t_indexAddrS rfl hcb rfl (by decide) ?_; refine rn ?_) | (refine g_ow ?_; refine t_store_heap 0 _ rfl rfl rfl rfl hA rfl hks v1 ?_; clear hA; intro w hA; refine h_n hA ?_; clear hA; intro hA; refine rn ?_) | ((refine g_wc ?_; first | (refine wc_seq ?_) | (refine wc_regionS 5 rfl ?_; refine wc_region ?_) | (refine wc_block ?_) | (refine wc_true rfl ?_) | (refine wc_false rfl ?_) | (refine wc_pt rfl (by omega) ?_) | (refine wc_pf rfl (by omega) ?_) | (refine wc_nt rfl (by omega) ?_) | (refine wc_nf rfl (by omega) ?_) | (refine wc_pp rfl (fun h => ?_) (fun h => ?_)) | (refine wc_nn rfl (fun h => ?_) (fun h => ?_)) | (refine wc_skip ?_) | (refine wc_exit ?_) | (refine wc_ret ?_))) | (refine g_rl ?_; first | (first | (refine rl_op ?_) | (refine rl_nil ?_) | (refine rl_on rfl ?_) | (refine rl_pt rfl (by omega) ?_) | (refine rl_qt rfl (by omega) ?_) | (refine rl_nt rfl (by omega) ?_) | (refine rl_mt rfl (by omega) ?_)) | ((first | (refine rl_off rfl rfl ?_) | (refine rl_undef rfl ?_) | (refine rl_pf rfl (by omega) ?_) | (refine rl_qf rfl (by omega) ?_) | (refine rl_nf rfl (by omega) ?_) | (refine rl_mf rfl (by omega) ?_)); refine rn ?_) | (first | (refine rl_pp rfl (fun h => o_n ?_) (fun h => rn ?_)) | (refine rl_qq rfl (fun h => o_n ?_) (fun h => rn ?_)) | (refine rl_nn rfl (fun h => o_n ?_) (fun h => rn ?_)) | (refine rl_mm rfl (fun h => o_n ?_) (fun h => rn ?_)))) | ((refine g_bin ?_; refine p_b ?_); refine rn ?_) | (refine g_call ?_; first | ((first | (refine p_l ?_)); refine rn ?_) | ((first | (refine t_appx rfl rfl hA rfl ?_)); clear hA; (try clear w); intro v w hA hone hnil; refine h_n hA ?_; clear hA; intro hA; refine rn ?_)) | ((refine g_conv ?_; first | (refine p_c hA ?_)); refine rn ?_) | ((refine g_load ?_; first | (refine t_loadx rfl hA ?_) | (refine t_loada rfl hA ?_)); refine rn ?_) | (refine g_store ?_; first | ((first | (refine t_storex rfl rfl hA ?_)); clear hA; (try clear w); intro w hA; refine h_n hA ?_; clear hA; intro hA; refine rn ?_) | ((first | (refine t_storea rfl rfl hA ?_)); clear hA; (try clear w); intro w hA; (try simp only [List.drop_zero, List.drop_nil, List.drop_succ_cons, List.take_succ_cons, List.take_zero, List.length_cons, List.length_nil, Nat.zero_add, Nat.reduceAdd] at hA); refine h_n hA ?_; clear hA; intro hA; refine rn ?_)) | (refine g_ow ?_; first | ((first | (refine p_o ?_)); refine rn ?_) | ((first | (refine t_alloc hA ?_) | (refine ow_box rfl rfl hA ?_) | (refine t_buildSlice rfl (by decide) rfl hA ?_)); clear hA; (try clear w); intro b w hA; refine h_n hA ?_; clear hA; intro hA; refine rn ?_) | ((first | (refine t_make rfl rfl (by omega) (by omega) hA ?_)); clear hA; (try clear w); intro v w hA hone hnil; refine rn ?_)) | (refine tq_normal ?_) | (refine bq_normal ?_) | (refine bq_hit ?_) | (refine bq_miss (by decide) ?_) | (refine tq_exit ?_) | (refine lq_exit ?_) | (refine tq_ret ?_) | (refine bq_ret ?_) | (refine lq_ret ?_))
  obtain ⟨E8, hE8, hF8, hA⟩ := hA.refreeze hks.put
  have hmb : ListE mbR 29 E8 b0 [{ zeroMb with kind := 1, mode := 1 }] := by
    refine CsE.sl (cells := mbC { zeroMb with kind := 1, mode := 1 } r v b2) (CsE.single rfl ⟨r, v, b2, rfl, ⟨hm.refs.empty, hm.mvds.empty, hm.blocks.empty, hm.qp, hm.pcm⟩⟩) ⟨hcb.sh, rfl, by decide, fun j u hu => ?_, hcb.cap⟩
    refine hF8 _ _ ?_
    refine (Env.put_cell (c := sB b0) (j := sO b0 + j) (v := u8 1) v1).trans ?_
    by_cases hj : j = 1
    · subst hj
      rw [if_pos ⟨rfl, by omega⟩]
      exact hu
    · rw [if_neg (fun e => hj (by have := e.2; omega))]
      have e : (mbC { zeroMb with kind := 1, mode := 1 } r v b2) = (mbC { zeroMb with kind := 1, mode := 0 } r v b2).set 1 (u8 1) := rfl
      rw [e, List.getElem?_set_ne (fun h => hj h.symm)] at hu
      have h4 := hg2 j u hu
      rw [Nat.zero_mul, Nat.add_zero] at h4
      exact h4
  have ec5 : c5 = nodeC (awS 2 1) m k b0 := by
    apply List.ext_getElem? fun j => ?_
    rcases Nat.lt_or_ge j 47 with hj | hj
    · have := hg j hj
      rw [Nat.zero_mul, Nat.zero_add] at this
      exact this
    · rw [List.getElem?_eq_none (by omega), List.getElem?_eq_none (by exact hj)]
  have hc8 : CsE nodeR 47 E8 c5 [awS 2 1] := by
    rw [ec5]
    exact CsE.single rfl ⟨m, k, b0, rfl, ⟨⟨⟨hn.slice.head.mods.empty, hn.slice.head.marks.empty, by decide⟩, hmb⟩, by decide, by decide, by decide⟩⟩
  obtain ⟨E9, hE9, hA, x5⟩ : ∃ E9, E8.Le E9 ∧ Sat E9 L w ∧ ListE nodeR 47 E9 u5 [awS 2 1] := Sat.freezeList (xs := [awS 2 1]) hA hc8
  have x1 := x1.mono (hE8.trans hE9)
  have x2 := x2.mono (hE8.trans hE9)
  have x3 := x3.mono (hE8.trans hE9)
  have x4 := x4.mono (hE8.trans hE9)
  have hG9 := hG6.mono (hE8.trans hE9)
  have hL9 := (hEE.trans hE8).trans hE9
  clear hc8 ec5 hmb hF8 hks hg2 hg v1 hcb hm hn l43 hc5 hG6 hG hEE
  have f1 : ∀ n ∈ [aw1], NodeF n := fun n hn => by obtain rfl := List.mem_singleton.1 hn; exact ⟨⟨⟨Nat.zero_le _, Nat.zero_le _⟩, Nat.zero_le _, fun m hm => by cases hm⟩⟩
  have f2 : ∀ n ∈ [aw2], NodeF n := fun n hn => by obtain rfl := List.mem_singleton.1 hn; exact ⟨⟨⟨Nat.zero_le _, Nat.zero_le _⟩, Nat.zero_le _, fun m hm => by cases hm⟩⟩
  have fS : ∀ i m, ∀ n ∈ [awS i m], NodeF n := by
    intro i m n hn
    obtain rfl := List.mem_singleton.1 hn
    refine ⟨⟨⟨Nat.zero_le _, Nat.zero_le _⟩, Nat.le_of_ble_eq_true rfl, fun x hx => ?_⟩⟩
    obtain rfl : x = { zeroMb with kind := 1, mode := m } := List.mem_singleton.1 hx
    exact ⟨Nat.zero_le _, Nat.zero_le _, Nat.zero_le _, fun b hb => by cases hb⟩
  have k1 : decide ([aw1].map ofN = [aw2]) = true := by decide
  have k2 : decide ([awS 2 0].map ofN = [awS 0 0]) = true := by decide
  have k3 : sameB [aw1] [aw2] = true := by decide
  have k4 : decide ([aw1] = [aw2]) = false := by decide
  have k5 : sameB [] [] = true := by decide
  have k6 : sameB [awS 2 0] [awS 0 0] = true := by decide
  have k7 : sameB [awS 2 0] [awS 2 1] = false := by decide
  have k8 : decide ([awS 2 0] = [awS 2 0]) = true := by decide
  have f0 : ∀ n ∈ ([] : List Node), NodeF n := fun n hn => by cases hn
  have x0 : ListE nodeR 47 E9 (.slice none 0 0) [] := ListE.nil
  repeat' (first | (refine g_callf 35 ?_; refine ow_call Tryd.call35 rfl ((elemsOf_calls _ _ _ _ _ hA hG9 (by first | exact x1 | exact x3) (by first | exact f1 | exact fS _ _) (by decide)).mono ?_); clear hA; (try clear w); rintro e w ⟨E', vO, rfl, hE', hO, hA⟩; refine ⟨_, rfl, ?_⟩; refine rn ?_) | (refine g_callf 34 ?_; refine ow_call Tryd.call34 rfl ((equalNodes_calls _ _ _ _ _ _ _ hA (hO.mono (Env.sub_le _ _)) (by first | exact x2.mono hE' | exact x4.mono hE' | exact x3.mono hE')).mono ?_); clear hA; (try clear w); rintro e w ⟨rfl, hA⟩; refine ⟨_, rfl, ?_⟩; (try have hA := hA.le hE'; first | rw [k1] | rw [k2] | rw [k8]); refine rn ?_) | (refine g_callf 38 ?_; refine ow_call Tryd.call38 rfl ((elemsSame_calls _ _ _ _ _ _ _ hA hG9 (by first | exact x1 | exact x3 | exact x0) (by first | exact x2 | exact x4 | exact x5 | exact y0) (by first | exact f1 | exact fS _ _ | exact f0) (by decide) (by first | exact f2 | exact fS _ _ | exact f0) (by decide)).mono ?_); clear hA; (try clear w); rintro e w ⟨rfl, hA⟩; refine ⟨_, rfl, ?_⟩; (try first | rw [k3] | rw [k5] | rw [k6] | rw [k7]); refine rn ?_) | (refine g_callf 37 ?_; refine ow_call Tryd.call37 rfl ((elemsEqual_calls _ _ _ _ _ _ _ hA x1 x2).mono ?_); clear hA; (try clear w); rintro e w ⟨rfl, hA⟩; refine ⟨_, rfl, ?_⟩; (try rw [k4]); refine rn ?_) | (refine g_callf 41 ?_; refine ow_call Tryd.call41 rfl ((elemsCopy_calls _ _ _ _ _ hA hG9 x3 (fS _ _) (by decide)).mono ?_); clear hA; (try clear w); rintro e w ⟨E', vO, rfl, hE', hO, hA⟩; refine ⟨_, rfl, ?_⟩; refine rn ?_) | (refine g_ow ?_; refine t_lay0 hA ?_; clear hA; intro v0 w hA h1 h2; obtain ⟨Ez, hEz, hA, hz⟩ := hA.freeze; have hA := hA.le hEz; have y0 : ListE nodeR 47 E9 v0 [] := (by obtain ⟨a, c, rfl⟩ := hz.shape; exact ListE.nil); refine rn ?_) | ((refine g_wc ?_; first | (refine wc_seq ?_) | (refine wc_region ?_) | (refine wc_block ?_) | (refine wc_true rfl ?_) | (refine wc_false rfl ?_) | (refine wc_pt rfl (by omega) ?_) | (refine wc_pf rfl (by omega) ?_) | (refine wc_nt rfl (by omega) ?_) | (refine wc_nf rfl (by omega) ?_) | (refine wc_pp rfl (fun h => ?_) (fun h => ?_)) | (refine wc_nn rfl (fun h => ?_) (fun h => ?_)) | (refine wc_skip ?_) | (refine wc_exit ?_) | (refine wc_ret ?_))) | (refine g_rl ?_; first | (first | (refine rl_op ?_) | (refine rl_nil ?_) | (refine rl_on rfl ?_) | (refine rl_pt rfl (by omega) ?_) | (refine rl_qt rfl (by omega) ?_) | (refine rl_nt rfl (by omega) ?_) | (refine rl_mt rfl (by omega) ?_)) | ((first | (refine rl_off rfl rfl ?_) | (refine rl_undef rfl ?_) | (refine rl_pf rfl (by omega) ?_) | (refine rl_qf rfl (by omega) ?_) | (refine rl_nf rfl (by omega) ?_) | (refine rl_mf rfl (by omega) ?_)); refine rn ?_) | (first | (refine rl_pp rfl (fun h => o_n ?_) (fun h => rn ?_)) | (refine rl_qq rfl (fun h => o_n ?_) (fun h => rn ?_)) | (refine rl_nn rfl (fun h => o_n ?_) (fun h => rn ?_)) | (refine rl_mm rfl (fun h => o_n ?_) (fun h => rn ?_)))) | ((refine g_bin ?_; refine p_b ?_); refine rn ?_) | (refine g_call ?_; first | ((first | (refine p_l ?_)); refine rn ?_) | ((first | (refine t_appx rfl rfl hA rfl ?_)); clear hA; (try clear w); intro v w hA hone hnil; refine h_n hA ?_; clear hA; intro hA; refine rn ?_)) | ((refine g_conv ?_; first | (refine p_c hA ?_)); refine rn ?_) | ((refine g_load ?_; first | (refine t_loadx rfl hA ?_) | (refine t_loada rfl hA ?_)); refine rn ?_) | (refine g_store ?_; first | ((first | (refine t_storex rfl rfl hA ?_)); clear hA; (try clear w); intro w hA; refine h_n hA ?_; clear hA; intro hA; refine rn ?_) | ((first | (refine t_storea rfl rfl hA ?_)); clear hA; (try clear w); intro w hA; (try simp only [List.drop_zero, List.drop_nil, List.drop_succ_cons, List.take_succ_cons, List.take_zero, List.length_cons, List.length_nil, Nat.zero_add, Nat.reduceAdd] at hA); refine h_n hA ?_; clear hA; intro hA; refine rn ?_)) | (refine g_ow ?_; first | ((first | (refine p_o ?_)); refine rn ?_) | ((first | (refine t_alloc hA ?_) | (refine ow_box rfl rfl hA ?_) | (refine t_buildSlice rfl (by decide) rfl hA ?_)); clear hA; (try clear w); intro b w hA; refine h_n hA ?_; clear hA; intro hA; refine rn ?_) | ((first | (refine t_make rfl rfl (by omega) (by omega) hA ?_)); clear hA; (try clear w); intro v w hA hone hnil; refine rn ?_)) | (refine tq_normal ?_) | (refine bq_normal ?_) | (refine bq_hit ?_) | (refine bq_miss (by decide) ?_) | (refine tq_exit ?_) | (refine lq_exit ?_) | (refine tq_ret ?_) | (refine bq_ret ?_) | (refine lq_ret ?_))
  exact ret1 (hA.le hL9) rfl rfl
end Go.Proofs.YteeeabnfgpolgaaDoor
