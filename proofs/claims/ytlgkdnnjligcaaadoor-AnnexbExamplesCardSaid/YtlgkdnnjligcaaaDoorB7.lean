/-
  spindlelaw04.AnnexbOdd, walked.
-/
import Derived.Test.YtlgkdnnjligcaaaDoorB6
set_option linter.unusedVariables false
set_option linter.unusedSimpArgs false
namespace Go.Proofs.YtlgkdnnjligcaaaDoor
open Go Go.RowKit
attribute [local irreducible] WC RL OW bodyPostM ThenQ BlockQ LoopQ ScopeQ
theorem cse_map {E : Env} {xs : List (List UInt8)} (h : ∀ u ∈ xs, u.length ≤ 9223372036854775807) : CsE strR 1 E (xs.map vs) xs := by
  refine ⟨xs.map fun u => [vs u], by induction xs with
    | nil => rfl
    | cons a r ih => simp at ih ⊢; exact ih fun u hu => h u (List.mem_cons_of_mem _ hu), by simp, fun c hc => ?_, fun i c x hc hx => ?_⟩
  · obtain ⟨u, _, rfl⟩ := List.mem_map.1 hc; rfl
  · rw [List.getElem?_map, hx] at hc
    cases hc
    exact ⟨rfl, h x (List.mem_of_getElem? hx)⟩
theorem cse_vs {E : Env} {cells : List Value} {xs : List (List UInt8)} (h : CsE strR 1 E cells xs) : cells = xs.map vs := by
  apply List.ext_getElem? fun j => ?_
  have hl := h.len
  rcases Nat.lt_or_ge j xs.length with hj | hj
  · obtain ⟨x, hx⟩ : ∃ x, xs[j]? = some x := ⟨_, List.getElem?_eq_getElem hj⟩
    obtain ⟨cs, hcl, ⟨rfl, _⟩, hg⟩ := h.get hx
    have := hg 0 (by omega)
    rw [Nat.mul_one, Nat.add_zero] at this
    rw [this, List.getElem?_map, hx]; rfl
  · rw [List.getElem?_eq_none (by omega), List.getElem?_eq_none (by simp; omega)]
section
variable {ro : Option Nat} {P : Program} {l : List Value} {ds : List Deferred} {w : World} {next : List Value → World → Prop} {Q : Exit → Act → World → Prop}
variable {d : Option Tmp} {ty : TypeId} {pos : String} {aft : Array Edge} {g : Option (Nat × Bool)} {T : TypeId} {X Y : Operand}
variable {E0 : Env} {L : List Item} {u' : TypeDesc} {z z' : Value} {zs zs' : List Value} {sz by_ by' : Nat}
/-- x[i:] of a list of strings that stays. -/
theorem t_dropS {e : TypeId} {k : IntKind} {i : Nat} {v : Value} {xs : List (List UInt8)} [t : Ty P T (.slice e) z zs sz by_] [t' : Ty P e u' z' zs' 1 by'] (hx : ev l X = v) (hs : ListE strR 1 E0 v xs) (hi : ev l Y = .int k (i : Int)) (h0 : i ≤ xs.length)
    (h : ∀ v', ListE strR 1 E0 v' (xs.drop i) → next (put l d v') w) : OW ro P ⟨d, .slice T X (some Y) none none, ty, pos, aft, g⟩ l ds w next Q := by
  obtain ⟨cells, hc, hsl⟩ := hs.cs
  obtain ⟨ii, hii, hss⟩ := Option.map_eq_some_iff.1 t'.size
  have hmem : ∀ u ∈ xs.drop i, u.length ≤ 9223372036854775807 := fun u hu => by
    obtain ⟨j, hj⟩ := List.getElem?_of_mem (List.mem_of_mem_drop hu)
    obtain ⟨_, _, ⟨_, h64⟩, _⟩ := hs.get hj
    exact h64
  have hcv := cse_vs hc
  rcases hsl.sh with ⟨h00, a, c, hv⟩ | ⟨c, hv⟩
  · obtain rfl : xs = [] := List.eq_nil_of_length_eq_zero h00
    obtain rfl : i = 0 := by simpa using h0
    refine ow_run (v := .slice (if c = 0 then a else a.map (·.add 0)) 0 c) ?_ rfl (h _ ListE.nil)
    simp [execOp, hx, hi, hv, Instr.sliceAt, Instr.slice, Instr.sliceBounds, Instr.sliceBound, asIntOf, underlying, t.und, sizeOf, typeInfo, hii]
  · have hcap := hsl.cap _ _ hv
    have hle := hsl.le
    generalize hB : sB v = b at *
    generalize hO : sO v = o at *
    have hi2 : (i : Int) ≤ (xs.length : Int) := by omega
    have hic : i ≤ xs.length := h0
    have hlist : ListE strR 1 E0 (.slice (if c = i then some ⟨b, o, none⟩ else some ⟨b, o + i * 1, none⟩) (xs.length - i) (c - i)) (xs.drop i) := by
      rcases Nat.lt_or_ge i xs.length with hlt | hge
      · rw [if_neg (by omega)]
        refine (cse_map hmem).sl ⟨.inr ⟨c - i, by rw [List.length_drop]; rfl⟩, by simp, by rw [List.length_drop]; omega, fun j u hj => ?_, fun a' c' e' => by rw [List.length_drop] at *; injection e' with _ _ e3; omega⟩
        have h2 := hsl.at_ (i + j) u (by rw [hcv]; rw [List.getElem?_map, List.getElem?_drop] at hj; rw [List.getElem?_map]; exact hj)
        show E0.cell? ⟨b, o + i * 1 + j, none⟩ = some u
        rw [hB, hO] at h2
        rw [Nat.mul_one, Nat.add_assoc]; exact h2
      · have e1 : xs.drop i = [] := List.drop_eq_nil_of_le hge
        have e2 : xs.length - i = 0 := by omega
        rw [e1, e2]
        exact ListE.nil
    refine ow_run (v := .slice (if c = i then some ⟨b, o, none⟩ else some ⟨b, o + i * 1, none⟩) (xs.length - i) (c - i)) ?_ rfl (h _ hlist)
    have hif : (if i = 0 then ({ block := b, off := o } : Addr) else { block := b, off := o + i }) = { block := b, off := o + i } := by split <;> simp_all
    simp [execOp, hx, hi, hv, Instr.sliceAt, Instr.slice, Instr.sliceBounds, Instr.sliceBound, asIntOf, underlying, t.und, sizeOf, typeInfo, hii, hss, hi2, hic, Addr.add, hif]
end
theorem mem_odd {U : List (List UInt8)} {o : List UInt8} {k n : Nat} (h : ∀ u ∈ U, u.length ≤ n) (ho : o.length ≤ n) : ∀ u ∈ U.take k ++ [o] ++ U.drop k, u.length ≤ n := by
  intro u hu
  rcases List.mem_append.1 hu with hu | hu
  · rcases List.mem_append.1 hu with hu | hu
    · exact h u (List.mem_of_mem_take hu)
    · rw [List.mem_singleton.1 hu]; exact ho
  · exact h u (List.mem_of_mem_drop hu)
theorem all_odd {U : List (List UInt8)} {o : List UInt8} {k : Nat} (h : U.all mayB = true) : (U.take k ++ [o] ++ U.drop k).all mayB = mayB o := by
  have h1 : (U.take k).all mayB = true := List.all_eq_true.2 fun u hu => List.all_eq_true.1 h u (List.mem_of_mem_take hu)
  have h2 : (U.drop k).all mayB = true := List.all_eq_true.2 fun u hu => List.all_eq_true.1 h u (List.mem_of_mem_drop hu)
  simp [List.all_append, h1, h2]
attribute [local irreducible] splitR joinR joinB splitP fitsR
set_option maxRecDepth 4000 in
set_option maxHeartbeats 8000000 in
theorem annexbOdd_calls (v : Value) (o : List UInt8) (a : UInt8) (Ls : List (List UInt8)) (E : Env) (L : List Item) (w : World) (hA : Sat E L w) (hG : GE E) (hx : ListE strR 1 E v Ls) :
    Calls Tryd.prog 10 ⟨[v, .string (bs o), u8 a]⟩ w (Ret E L (.bool true)) := by
  refine enter (fn := Tryd.f10) Tryd.func10 rfl 80 rfl [v, .string (bs o), u8 a, undef, undef, undef, undef, undef, undef, undef, undef, undef, undef, undef, undef, undef, undef, undef, undef, undef, undef, undef, undef, undef, undef, undef, undef, undef, undef, undef, undef, undef, undef, undef, undef, undef, undef, undef, undef, undef, undef, undef, undef, undef, undef, undef, undef, undef, undef, undef, undef, undef, undef, undef, undef, undef, undef, undef, undef, undef, undef, undef, undef, undef, undef, undef, undef, undef, undef, undef, undef, undef, undef, undef, undef, undef, undef, undef, undef, undef] rfl ?_
  have ha := a.toNat_lt
  cases hf : fitsR Ls with
  | none =>
    repeat' (first | (refine g_callf 20 ?_; refine ow_call Tryd.call20 rfl ((fits_calls v Ls E _ w hA hx).mono ?_); clear hA; (try clear w); rintro e w ⟨E1, v1, rfl, hE1, hv1, hA⟩; refine ⟨_, rfl, ?_⟩; (try rw [hf]); refine rn ?_) | (refine g_callf 11 ?_; refine ow_call Tryd.call11 rfl ((known_calls _ _ w hA (hG.mono hE1)).mono ?_); clear hA; (try clear w); rintro e w ⟨rfl, hA⟩; refine ⟨_, rfl, ?_⟩; refine rn ?_) | ((refine g_wc ?_; first | (refine wc_seq ?_) | (refine wc_region ?_) | (refine wc_block ?_) | (refine wc_true rfl ?_) | (refine wc_false rfl ?_) | (refine wc_pt rfl (by omega) ?_) | (refine wc_pf rfl (by omega) ?_) | (refine wc_nt rfl (by omega) ?_) | (refine wc_nf rfl (by omega) ?_) | (refine wc_pp rfl (fun h => ?_) (fun h => ?_)) | (refine wc_nn rfl (fun h => ?_) (fun h => ?_)) | (refine wc_skip ?_) | (refine wc_exit ?_) | (refine wc_ret ?_))) | (refine g_rl ?_; first | (first | (refine rl_op ?_) | (refine rl_nil ?_) | (refine rl_on rfl ?_) | (refine rl_pt rfl (by omega) ?_) | (refine rl_qt rfl (by omega) ?_) | (refine rl_nt rfl (by omega) ?_) | (refine rl_mt rfl (by omega) ?_)) | ((first | (refine rl_off rfl rfl ?_) | (refine rl_undef rfl ?_) | (refine rl_pf rfl (by omega) ?_) | (refine rl_qf rfl (by omega) ?_) | (refine rl_nf rfl (by omega) ?_) | (refine rl_mf rfl (by omega) ?_)); refine rn ?_) | (first | (refine rl_pp rfl (fun h => o_n ?_) (fun h => rn ?_)) | (refine rl_qq rfl (fun h => o_n ?_) (fun h => rn ?_)) | (refine rl_nn rfl (fun h => o_n ?_) (fun h => rn ?_)) | (refine rl_mm rfl (fun h => o_n ?_) (fun h => rn ?_)))) | ((refine g_bin ?_; refine p_b ?_); refine rn ?_) | (refine g_call ?_; first | ((first | (refine p_l ?_)); refine rn ?_) | ((first | (refine t_appx rfl rfl hA rfl ?_)); clear hA; (try clear w); intro v w hA hone hnil; refine h_n hA ?_; clear hA; intro hA; refine rn ?_)) | ((refine g_conv ?_; first | (refine p_c hA ?_)); refine rn ?_) | ((refine g_load ?_; first | (refine t_loadx rfl hA ?_) | (refine t_loada rfl hA ?_)); refine rn ?_) | (refine g_store ?_; first | ((first | (refine t_storex rfl rfl hA ?_)); clear hA; (try clear w); intro w hA; refine h_n hA ?_; clear hA; intro hA; refine rn ?_) | ((first | (refine t_storea rfl rfl hA ?_)); clear hA; (try clear w); intro w hA; (try simp only [List.drop_zero, List.drop_nil, List.drop_succ_cons, List.take_succ_cons, List.take_zero, List.length_cons, List.length_nil, Nat.zero_add, Nat.reduceAdd] at hA); refine h_n hA ?_; clear hA; intro hA; refine rn ?_)) | (refine g_ow ?_; first | ((first | (refine p_o ?_)); refine rn ?_) | ((first | (refine t_alloc hA ?_) | (refine ow_box rfl rfl hA ?_) | (refine t_buildSlice rfl (by decide) rfl hA ?_)); clear hA; (try clear w); intro b w hA; refine h_n hA ?_; clear hA; intro hA; refine rn ?_) | ((first | (refine t_make rfl rfl (by omega) (by omega) hA ?_)); clear hA; (try clear w); intro v w hA hone hnil; refine rn ?_)) | (refine tq_normal ?_) | (refine bq_normal ?_) | (refine bq_hit ?_) | (refine bq_miss (by decide) ?_) | (refine tq_exit ?_) | (refine lq_exit ?_) | (refine tq_ret ?_) | (refine bq_ret ?_) | (refine lq_ret ?_))
    exact ret1 (hA.le hE1) rfl rfl
  | some U =>
    obtain ⟨hUl, hall, hUm⟩ := fits_facts hf
    by_cases ho : 200 < o.length
    · repeat' (first | (refine g_callf 20 ?_; refine ow_call Tryd.call20 rfl ((fits_calls v Ls E _ w hA hx).mono ?_); clear hA; (try clear w); rintro e w ⟨E1, v1, rfl, hE1, hv1, hA⟩; refine ⟨_, rfl, ?_⟩; (try rw [hf]); refine rn ?_) | (refine g_callf 11 ?_; refine ow_call Tryd.call11 rfl ((known_calls _ _ w hA (hG.mono hE1)).mono ?_); clear hA; (try clear w); rintro e w ⟨rfl, hA⟩; refine ⟨_, rfl, ?_⟩; refine rn ?_) | ((refine g_wc ?_; first | (refine wc_seq ?_) | (refine wc_region ?_) | (refine wc_block ?_) | (refine wc_true rfl ?_) | (refine wc_false rfl ?_) | (refine wc_pt rfl (by omega) ?_) | (refine wc_pf rfl (by omega) ?_) | (refine wc_nt rfl (by omega) ?_) | (refine wc_nf rfl (by omega) ?_) | (refine wc_pp rfl (fun h => ?_) (fun h => ?_)) | (refine wc_nn rfl (fun h => ?_) (fun h => ?_)) | (refine wc_skip ?_) | (refine wc_exit ?_) | (refine wc_ret ?_))) | (refine g_rl ?_; first | (first | (refine rl_op ?_) | (refine rl_nil ?_) | (refine rl_on rfl ?_) | (refine rl_pt rfl (by omega) ?_) | (refine rl_qt rfl (by omega) ?_) | (refine rl_nt rfl (by omega) ?_) | (refine rl_mt rfl (by omega) ?_)) | ((first | (refine rl_off rfl rfl ?_) | (refine rl_undef rfl ?_) | (refine rl_pf rfl (by omega) ?_) | (refine rl_qf rfl (by omega) ?_) | (refine rl_nf rfl (by omega) ?_) | (refine rl_mf rfl (by omega) ?_)); refine rn ?_) | (first | (refine rl_pp rfl (fun h => o_n ?_) (fun h => rn ?_)) | (refine rl_qq rfl (fun h => o_n ?_) (fun h => rn ?_)) | (refine rl_nn rfl (fun h => o_n ?_) (fun h => rn ?_)) | (refine rl_mm rfl (fun h => o_n ?_) (fun h => rn ?_)))) | ((refine g_bin ?_; refine p_b ?_); refine rn ?_) | (refine g_call ?_; first | ((first | (refine p_l ?_)); refine rn ?_) | ((first | (refine t_appx rfl rfl hA rfl ?_)); clear hA; (try clear w); intro v w hA hone hnil; refine h_n hA ?_; clear hA; intro hA; refine rn ?_)) | ((refine g_conv ?_; first | (refine p_c hA ?_)); refine rn ?_) | ((refine g_load ?_; first | (refine t_loadx rfl hA ?_) | (refine t_loada rfl hA ?_)); refine rn ?_) | (refine g_store ?_; first | ((first | (refine t_storex rfl rfl hA ?_)); clear hA; (try clear w); intro w hA; refine h_n hA ?_; clear hA; intro hA; refine rn ?_) | ((first | (refine t_storea rfl rfl hA ?_)); clear hA; (try clear w); intro w hA; (try simp only [List.drop_zero, List.drop_nil, List.drop_succ_cons, List.take_succ_cons, List.take_zero, List.length_cons, List.length_nil, Nat.zero_add, Nat.reduceAdd] at hA); refine h_n hA ?_; clear hA; intro hA; refine rn ?_)) | (refine g_ow ?_; first | ((first | (refine p_o ?_)); refine rn ?_) | ((first | (refine t_alloc hA ?_) | (refine ow_box rfl rfl hA ?_) | (refine t_buildSlice rfl (by decide) rfl hA ?_)); clear hA; (try clear w); intro b w hA; refine h_n hA ?_; clear hA; intro hA; refine rn ?_) | ((first | (refine t_make rfl rfl (by omega) (by omega) hA ?_)); clear hA; (try clear w); intro v w hA hone hnil; refine rn ?_)) | (refine tq_normal ?_) | (refine bq_normal ?_) | (refine bq_hit ?_) | (refine bq_miss (by decide) ?_) | (refine tq_exit ?_) | (refine lq_exit ?_) | (refine tq_ret ?_) | (refine bq_ret ?_) | (refine lq_ret ?_))
      exact ret1 (hA.le hE1) rfl rfl
    · repeat' (first | (refine g_callf 20 ?_; refine ow_call Tryd.call20 rfl ((fits_calls v Ls E _ w hA hx).mono ?_); clear hA; (try clear w); rintro e w ⟨E1, v1, rfl, hE1, hv1, hA⟩; refine ⟨_, rfl, ?_⟩; (try rw [hf] at hv1; rw [hf]); refine rn ?_) | ((refine g_wc ?_; first | (refine wc_seq ?_) | (refine wc_regionS 4 rfl ?_; refine wc_region ?_) | (refine wc_block ?_) | (refine wc_true rfl ?_) | (refine wc_false rfl ?_) | (refine wc_pt rfl (by omega) ?_) | (refine wc_pf rfl (by omega) ?_) | (refine wc_nt rfl (by omega) ?_) | (refine wc_nf rfl (by omega) ?_) | (refine wc_pp rfl (fun h => ?_) (fun h => ?_)) | (refine wc_nn rfl (fun h => ?_) (fun h => ?_)) | (refine wc_skip ?_) | (refine wc_exit ?_) | (refine wc_ret ?_))) | (refine g_rl ?_; first | (first | (refine rl_op ?_) | (refine rl_nil ?_) | (refine rl_on rfl ?_) | (refine rl_pt rfl (by omega) ?_) | (refine rl_qt rfl (by omega) ?_) | (refine rl_nt rfl (by omega) ?_) | (refine rl_mt rfl (by omega) ?_)) | ((first | (refine rl_off rfl rfl ?_) | (refine rl_undef rfl ?_) | (refine rl_pf rfl (by omega) ?_) | (refine rl_qf rfl (by omega) ?_) | (refine rl_nf rfl (by omega) ?_) | (refine rl_mf rfl (by omega) ?_)); refine rn ?_) | (first | (refine rl_pp rfl (fun h => o_n ?_) (fun h => rn ?_)) | (refine rl_qq rfl (fun h => o_n ?_) (fun h => rn ?_)) | (refine rl_nn rfl (fun h => o_n ?_) (fun h => rn ?_)) | (refine rl_mm rfl (fun h => o_n ?_) (fun h => rn ?_)))) | ((refine g_bin ?_; refine p_b ?_); refine rn ?_) | (refine g_call ?_; first | ((first | (refine p_l ?_)); refine rn ?_) | ((first | (refine t_appx rfl rfl hA rfl ?_)); clear hA; (try clear w); intro v w hA hone hnil; refine h_n hA ?_; clear hA; intro hA; refine rn ?_)) | ((refine g_conv ?_; first | (refine p_c hA ?_)); refine rn ?_) | ((refine g_load ?_; first | (refine t_loadx rfl hA ?_) | (refine t_loada rfl hA ?_)); refine rn ?_) | (refine g_store ?_; first | ((first | (refine t_storex rfl rfl hA ?_)); clear hA; (try clear w); intro w hA; refine h_n hA ?_; clear hA; intro hA; refine rn ?_) | ((first | (refine t_storea rfl rfl hA ?_)); clear hA; (try clear w); intro w hA; (try simp only [List.drop_zero, List.drop_nil, List.drop_succ_cons, List.take_succ_cons, List.take_zero, List.length_cons, List.length_nil, Nat.zero_add, Nat.reduceAdd] at hA); refine h_n hA ?_; clear hA; intro hA; refine rn ?_)) | (refine g_ow ?_; first | ((first | (refine p_o ?_)); refine rn ?_) | ((first | (refine t_alloc hA ?_) | (refine ow_box rfl rfl hA ?_) | (refine t_buildSlice rfl (by decide) rfl hA ?_)); clear hA; (try clear w); intro b w hA; refine h_n hA ?_; clear hA; intro hA; refine rn ?_) | ((first | (refine t_make rfl rfl (by omega) (by omega) hA ?_)); clear hA; (try clear w); intro v w hA hone hnil; refine rn ?_)) | (refine tq_normal ?_) | (refine bq_normal ?_) | (refine bq_hit ?_) | (refine bq_miss (by decide) ?_) | (refine tq_exit ?_) | (refine lq_exit ?_) | (refine tq_ret ?_) | (refine bq_ret ?_) | (refine lq_ret ?_))
      replace hv1 : ListE strR 1 E1 v1 U := hv1
      obtain ⟨c1, hc1⟩ := hv1.sl
      obtain ⟨k, hk⟩ : ∃ k, k = a.toNat % (U.length + 1) := ⟨_, rfl⟩
      have hkl : k ≤ U.length := by have := Nat.mod_lt a.toNat (show 0 < U.length + 1 by omega); omega
      have hke : (a.toNat : Int) % ((U.length : Int) + 1) = (k : Int) := by subst hk; simp
      repeat' (first | (refine g_call ?_; refine t_lenS rfl hc1 ?_; refine rn ?_) | (refine g_bin ?_; refine ow_remp rfl rfl (by omega) ?_; rw [hke]; refine rn ?_) | ((refine g_wc ?_; first | (refine wc_seq ?_) | (refine wc_regionS 5 rfl ?_; refine wc_region ?_) | (refine wc_block ?_) | (refine wc_true rfl ?_) | (refine wc_false rfl ?_) | (refine wc_pt rfl (by omega) ?_) | (refine wc_pf rfl (by omega) ?_) | (refine wc_nt rfl (by omega) ?_) | (refine wc_nf rfl (by omega) ?_) | (refine wc_pp rfl (fun h => ?_) (fun h => ?_)) | (refine wc_nn rfl (fun h => ?_) (fun h => ?_)) | (refine wc_skip ?_) | (refine wc_exit ?_) | (refine wc_ret ?_))) | (refine g_rl ?_; first | (first | (refine rl_op ?_) | (refine rl_nil ?_) | (refine rl_on rfl ?_) | (refine rl_pt rfl (by omega) ?_) | (refine rl_qt rfl (by omega) ?_) | (refine rl_nt rfl (by omega) ?_) | (refine rl_mt rfl (by omega) ?_)) | ((first | (refine rl_off rfl rfl ?_) | (refine rl_undef rfl ?_) | (refine rl_pf rfl (by omega) ?_) | (refine rl_qf rfl (by omega) ?_) | (refine rl_nf rfl (by omega) ?_) | (refine rl_mf rfl (by omega) ?_)); refine rn ?_) | (first | (refine rl_pp rfl (fun h => o_n ?_) (fun h => rn ?_)) | (refine rl_qq rfl (fun h => o_n ?_) (fun h => rn ?_)) | (refine rl_nn rfl (fun h => o_n ?_) (fun h => rn ?_)) | (refine rl_mm rfl (fun h => o_n ?_) (fun h => rn ?_)))) | ((refine g_bin ?_; refine p_b ?_); refine rn ?_) | (refine g_call ?_; first | ((first | (refine p_l ?_)); refine rn ?_) | ((first | (refine t_appx rfl rfl hA rfl ?_)); clear hA; (try clear w); intro v w hA hone hnil; refine h_n hA ?_; clear hA; intro hA; refine rn ?_)) | ((refine g_conv ?_; first | (refine p_c hA ?_)); refine rn ?_) | ((refine g_load ?_; first | (refine t_loadx rfl hA ?_) | (refine t_loada rfl hA ?_)); refine rn ?_) | (refine g_store ?_; first | ((first | (refine t_storex rfl rfl hA ?_)); clear hA; (try clear w); intro w hA; refine h_n hA ?_; clear hA; intro hA; refine rn ?_) | ((first | (refine t_storea rfl rfl hA ?_)); clear hA; (try clear w); intro w hA; (try simp only [List.drop_zero, List.drop_nil, List.drop_succ_cons, List.take_succ_cons, List.take_zero, List.length_cons, List.length_nil, Nat.zero_add, Nat.reduceAdd] at hA); refine h_n hA ?_; clear hA; intro hA; refine rn ?_)) | (refine g_ow ?_; first | ((first | (refine p_o ?_)); refine rn ?_) | ((first | (refine t_alloc hA ?_) | (refine ow_box rfl rfl hA ?_) | (refine t_buildSlice rfl (by decide) rfl hA ?_)); clear hA; (try clear w); intro b w hA; refine h_n hA ?_; clear hA; intro hA; refine rn ?_) | ((first | (refine t_make rfl rfl (by omega) (by omega) hA ?_)); clear hA; (try clear w); intro v w hA hone hnil; refine rn ?_)) | (refine tq_normal ?_) | (refine bq_normal ?_) | (refine bq_hit ?_) | (refine bq_miss (by decide) ?_) | (refine tq_exit ?_) | (refine lq_exit ?_) | (refine tq_ret ?_) | (refine bq_ret ?_) | (refine lq_ret ?_))
      obtain ⟨A, hAe⟩ : ∃ A, U.take k = A := ⟨_, rfl⟩
      obtain ⟨B, hBe⟩ : ∃ B, U.drop k = B := ⟨_, rfl⟩
      have hAl : A.length = k := by rw [← hAe, List.length_take]; omega
      have hBl : B.length = U.length - k := by rw [← hBe, List.length_drop]
      refine' wc_flow' 0 (fun _ => undef) (fun ix => match ix with | 6 => [3, 5] | 10 => [6] | 11 => [10] | _ => []) (fun ix => match ix with | 6 => [3, 5] | 10 => [6] | 11 => [10] | _ => []) (fun ix => match ix with | 3 => [3] | 5 => [5] | 6 => [6] | 10 => [10] | 11 => [11] | _ => []) (mixPhi [_, _, undef, undef, _, undef, undef, _, _, undef, undef, undef] (fun ix => match ix with | 2 => some (fun E v => ListE strR 1 E v A) | 3 => some (fun E v => v.oneCell' = true) | 5 => some (fun E v => ∃ b, v = .slice (some ⟨b, 0, none⟩) 1 1) | 6 => some (fun E v => v.oneCell' = true) | 9 => some (fun E v => ListE strR 1 E v B) | 10 => some (fun E v => v.oneCell' = true) | 11 => some (fun E v => v.oneCell' = true) | _ => none)) (fun ix yy => match ix with | 3 => [row 9 1 (yy 3) A.length (A.map vs)] | 5 => [cells (sB (yy 5)) [vs o] 9] | 6 => [row 9 1 (yy 6) (A.length + 1) (A.map vs ++ [vs o])] | 10 => [row 9 1 (yy 10) (A.length + 1 + B.length) (A.map vs ++ [vs o] ++ B.map vs)] | 11 => [row 9 1 (yy 11) (A.length + 1 + B.length) (A.map vs ++ [vs o] ++ B.map vs)] | _ => []) (L) 12 (by kernel_rfl) rfl (by kernel_rfl) [(0, 34), (1, 35), (2, 36), (3, 37), (4, 38), (5, 39), (6, 40), (7, 41), (8, 42), (9, 43), (10, 44), (11, 10)] (by kernel_rfl) [0, 1, 2, 4, 7, 8, 9, 11] (by kernel_rfl) [] (by kernel_rfl) hA ?itd5 ?phi5 ?ops5 ?k5
      case itd5 => (intro i y y' h; first | rfl | ((try dsimp only at h ⊢); split <;> first | rfl | (simp only [List.mem_cons, List.not_mem_nil, or_false, forall_eq_or_imp, forall_eq] at h; simp only [h]; done)))
      case phi5 => (refine mix_mono fun i p hp E1 E2 v hE h => ?_; split at hp <;> first | (cases hp; done) | (obtain rfl := Option.some.inj hp; first | exact ListE.mono h hE | exact ListE.mono h (Env.sub_left _ hE) | exact PMono.mono hE h | exact PMono.mono (Env.sub_left _ hE) h | exact h))
      case ops5 =>
        refine' FlowOps.c rfl [] (by decide) [] (by decide) [] rfl [] rfl ?o5_0 ?r5_0
        case o5_0 => intro yy E' Lx w lf hE hph hyp hl hA; simp only [setAll, List.map_cons, List.map_nil, List.set_cons_succ, List.set_cons_zero] at hl; subst hl; (try simp only [List.flatMap_cons, List.flatMap_nil, List.nil_append, List.append_nil, List.cons_append] at hA ⊢); (try clear hph hyp); first | (refine ow_move_v rfl ?_; exact ⟨_, E', pe, Env.Le.refl _, mix_mk rfl rfl, hA⟩)
        case r5_0 =>
          refine' FlowOps.c rfl [] (by decide) [] (by decide) [] rfl [] rfl ?o5_1 ?r5_1
          case o5_1 => intro yy E' Lx w lf hE hph hyp hl hA; simp only [setAll, List.map_cons, List.map_nil, List.set_cons_succ, List.set_cons_zero] at hl; subst hl; (try simp only [List.flatMap_cons, List.flatMap_nil, List.nil_append, List.append_nil, List.cons_append] at hA ⊢); (try clear hph hyp); first | (refine ow_move_v rfl ?_; exact ⟨_, E', pe, Env.Le.refl _, mix_mk rfl rfl, hA⟩)
          case r5_1 =>
            refine' FlowOps.c rfl [(0, 34), (1, 35)] (by decide) [0, 1] (by decide) [] rfl [] rfl ?o5_2 ?r5_2
            case o5_2 => intro yy E' Lx w lf hE hph hyp hl hA; have e0 := mix_known (hph 0 (by decide)) rfl rfl; have e1 := mix_known (hph 1 (by decide)) rfl rfl; simp only [setAll, List.map_cons, List.map_nil, List.set_cons_succ, List.set_cons_zero, ← e0, ← e1] at hl; subst hl; (try simp only [← e0, ← e1] at hA ⊢); (try simp only [List.flatMap_cons, List.flatMap_nil, List.nil_append, List.append_nil, List.cons_append] at hA ⊢); (try clear hph hyp); refine t_sliceL rfl (hv1.mono hE) rfl hkl ?_; intro v' hl; rw [hAe] at hl; exact ⟨v', E', rfl, Env.Le.refl _, mix_mkP rfl hl, hA⟩
            case r5_2 =>
              refine' FlowOps.c rfl [(2, 36)] (by decide) [0, 1, 2] (by decide) [] rfl [] rfl ?o5_3 ?r5_3
              case o5_3 => intro yy E' Lx w lf hE hph hyp hl hA; have e0 := mix_known (hph 0 (by decide)) rfl rfl; have e1 := mix_known (hph 1 (by decide)) rfl rfl; simp only [setAll, List.map_cons, List.map_nil, List.set_cons_succ, List.set_cons_zero, ← e0, ← e1] at hl; subst hl; have p2 := mix_pred (hph 2 (by decide)) rfl; (try simp only [← e0, ← e1] at hA ⊢); generalize yy 2 = y2 at *; (try simp only [List.flatMap_cons, List.flatMap_nil, List.nil_append, List.append_nil, List.cons_append] at hA ⊢); (try clear hph hyp); refine ow_call Tryd.call15 rfl ((copyStrings_own _ _ _ _ _ hA p2 (by omega)).mono ?_); clear hA; rintro e w ⟨v3, c3, rfl, h3, hc3, hA⟩; rw [cse_vs hc3] at hA; exact ⟨_, rfl, v3, E', rfl, Env.Le.refl _, mix_mkP rfl h3, hA⟩
              case r5_3 =>
                refine' FlowOps.c rfl [] (by decide) [] (by decide) [] rfl [] rfl ?o5_4 ?r5_4
                case o5_4 => intro yy E' Lx w lf hE hph hyp hl hA; simp only [setAll, List.map_cons, List.map_nil, List.set_cons_succ, List.set_cons_zero] at hl; subst hl; (try simp only [List.flatMap_cons, List.flatMap_nil, List.nil_append, List.append_nil, List.cons_append] at hA ⊢); (try clear hph hyp); first | (refine ow_move_v rfl ?_; exact ⟨_, E', pe, Env.Le.refl _, mix_mk rfl rfl, hA⟩)
                case r5_4 =>
                  refine' FlowOps.c rfl [(4, 38)] (by decide) [4] (by decide) [] rfl [] rfl ?o5_5 ?r5_5
                  case o5_5 => intro yy E' Lx w lf hE hph hyp hl hA; have e4 := mix_known (hph 4 (by decide)) rfl rfl; simp only [setAll, List.map_cons, List.map_nil, List.set_cons_succ, List.set_cons_zero, ← e4] at hl; subst hl; (try simp only [← e4] at hA ⊢); (try simp only [List.flatMap_cons, List.flatMap_nil, List.nil_append, List.append_nil, List.cons_append] at hA ⊢); (try clear hph hyp); refine t_buildSlice rfl (by decide) rfl hA ?_; clear hA; intro bb w hA; exact ⟨_, E', rfl, Env.Le.refl _, mix_mkP rfl ⟨bb, rfl⟩, hA⟩
                  case r5_5 =>
                    refine' FlowOps.c rfl [(3, 37), (5, 39)] (by decide) [0, 1, 2, 4, 3, 5] (by decide) [3, 5] rfl [] rfl ?o5_6 ?r5_6
                    case o5_6 => intro yy E' Lx w lf hE hph hyp hl hA; have e0 := mix_known (hph 0 (by decide)) rfl rfl; have e1 := mix_known (hph 1 (by decide)) rfl rfl; have e4 := mix_known (hph 4 (by decide)) rfl rfl; simp only [setAll, List.map_cons, List.map_nil, List.set_cons_succ, List.set_cons_zero, ← e0, ← e1, ← e4] at hl; subst hl; have p2 := mix_pred (hph 2 (by decide)) rfl; have p3 := mix_pred (hph 3 (by decide)) rfl; have p5 := mix_pred (hph 5 (by decide)) rfl; (try simp only [← e0, ← e1, ← e4] at hA ⊢); generalize yy 2 = y2 at *; generalize yy 3 = y3 at *; generalize yy 5 = y5 at *; (try simp only [List.flatMap_cons, List.flatMap_nil, List.nil_append, List.append_nil, List.cons_append] at hA ⊢); (try clear hph hyp); obtain ⟨bb, rfl⟩ := p5; refine t_append1 0 1 (by decide) (by rfl) rfl rfl hA rfl rfl rfl (by simp [Value.oneCell']) (by unfold maxLen; omega) (by omega) ?_; clear hA; intro v' w hA h1 h2; exact ⟨v', E', rfl, Env.Le.refl _, mix_mkP rfl h1, hA⟩
                    case r5_6 =>
                      refine' FlowOps.c rfl [] (by decide) [] (by decide) [] rfl [] rfl ?o5_7 ?r5_7
                      case o5_7 => intro yy E' Lx w lf hE hph hyp hl hA; simp only [setAll, List.map_cons, List.map_nil, List.set_cons_succ, List.set_cons_zero] at hl; subst hl; (try simp only [List.flatMap_cons, List.flatMap_nil, List.nil_append, List.append_nil, List.cons_append] at hA ⊢); (try clear hph hyp); first | (refine ow_move_v rfl ?_; exact ⟨_, E', pe, Env.Le.refl _, mix_mk rfl rfl, hA⟩)
                      case r5_7 =>
                        refine' FlowOps.c rfl [] (by decide) [] (by decide) [] rfl [] rfl ?o5_8 ?r5_8
                        case o5_8 => intro yy E' Lx w lf hE hph hyp hl hA; simp only [setAll, List.map_cons, List.map_nil, List.set_cons_succ, List.set_cons_zero] at hl; subst hl; (try simp only [List.flatMap_cons, List.flatMap_nil, List.nil_append, List.append_nil, List.cons_append] at hA ⊢); (try clear hph hyp); first | (refine ow_move_v rfl ?_; exact ⟨_, E', pe, Env.Le.refl _, mix_mk rfl rfl, hA⟩)
                        case r5_8 =>
                          refine' FlowOps.c rfl [(7, 41), (8, 42)] (by decide) [7, 8] (by decide) [] rfl [] rfl ?o5_9 ?r5_9
                          case o5_9 => intro yy E' Lx w lf hE hph hyp hl hA; have e7 := mix_known (hph 7 (by decide)) rfl rfl; have e8 := mix_known (hph 8 (by decide)) rfl rfl; simp only [setAll, List.map_cons, List.map_nil, List.set_cons_succ, List.set_cons_zero, ← e7, ← e8] at hl; subst hl; (try simp only [← e7, ← e8] at hA ⊢); (try simp only [List.flatMap_cons, List.flatMap_nil, List.nil_append, List.append_nil, List.cons_append] at hA ⊢); (try clear hph hyp); refine t_dropS rfl (hv1.mono hE) rfl hkl ?_; intro v' hl; rw [hBe] at hl; exact ⟨v', E', rfl, Env.Le.refl _, mix_mkP rfl hl, hA⟩
                          case r5_9 =>
                            refine' FlowOps.c rfl [(6, 40), (9, 43)] (by decide) [0, 1, 2, 4, 3, 5, 7, 8, 6, 9] (by decide) [6] rfl [] rfl ?o5_10 ?r5_10
                            case o5_10 => intro yy E' Lx w lf hE hph hyp hl hA; have e0 := mix_known (hph 0 (by decide)) rfl rfl; have e1 := mix_known (hph 1 (by decide)) rfl rfl; have e4 := mix_known (hph 4 (by decide)) rfl rfl; have e7 := mix_known (hph 7 (by decide)) rfl rfl; have e8 := mix_known (hph 8 (by decide)) rfl rfl; simp only [setAll, List.map_cons, List.map_nil, List.set_cons_succ, List.set_cons_zero, ← e0, ← e1, ← e4, ← e7, ← e8] at hl; subst hl; have p2 := mix_pred (hph 2 (by decide)) rfl; have p3 := mix_pred (hph 3 (by decide)) rfl; have p5 := mix_pred (hph 5 (by decide)) rfl; have p6 := mix_pred (hph 6 (by decide)) rfl; have p9 := mix_pred (hph 9 (by decide)) rfl; (try simp only [← e0, ← e1, ← e4, ← e7, ← e8] at hA ⊢); generalize yy 2 = y2 at *; generalize yy 3 = y3 at *; generalize yy 5 = y5 at *; generalize yy 6 = y6 at *; generalize yy 9 = y9 at *; (try simp only [List.flatMap_cons, List.flatMap_nil, List.nil_append, List.append_nil, List.cons_append] at hA ⊢); (try clear hph hyp); obtain ⟨cB, hcB, hsB⟩ := p9.cs; rw [cse_vs hcB] at hsB; refine t_append 0 ty23.und (.inl ⟨_, rfl⟩) (by decide) (by rfl) rfl rfl hA rfl (src_E hA hsB (cse_vs hcB ▸ hcB.one)) (by unfold maxLen; omega) (by omega) ?_; clear hA; intro v' w hA h1 h2; exact ⟨v', E', rfl, Env.Le.refl _, mix_mkP rfl h1, hA⟩
                            case r5_10 =>
                              refine' FlowOps.c rfl [(10, 44), (0, 34), (1, 35), (2, 36), (3, 37), (4, 38), (5, 39), (6, 40), (7, 41), (8, 42), (9, 43)] (by decide) [10, 0, 1, 2, 3, 4, 5, 6, 7, 8, 9] (by decide) [10] rfl [] rfl ?o5_11 ?r5_11
                              case o5_11 => intro yy E' Lx w lf hE hph hyp hl hA; have e0 := mix_known (hph 0 (by decide)) rfl rfl; have e1 := mix_known (hph 1 (by decide)) rfl rfl; have e4 := mix_known (hph 4 (by decide)) rfl rfl; have e7 := mix_known (hph 7 (by decide)) rfl rfl; have e8 := mix_known (hph 8 (by decide)) rfl rfl; simp only [setAll, List.map_cons, List.map_nil, List.set_cons_succ, List.set_cons_zero, ← e0, ← e1, ← e4, ← e7, ← e8] at hl; subst hl; have p10 := mix_pred (hph 10 (by decide)) rfl; have p2 := mix_pred (hph 2 (by decide)) rfl; have p3 := mix_pred (hph 3 (by decide)) rfl; have p5 := mix_pred (hph 5 (by decide)) rfl; have p6 := mix_pred (hph 6 (by decide)) rfl; have p9 := mix_pred (hph 9 (by decide)) rfl; (try simp only [← e0, ← e1, ← e4, ← e7, ← e8] at hA ⊢); generalize yy 10 = y10 at *; generalize yy 2 = y2 at *; generalize yy 3 = y3 at *; generalize yy 5 = y5 at *; generalize yy 6 = y6 at *; generalize yy 9 = y9 at *; (try simp only [List.flatMap_cons, List.flatMap_nil, List.nil_append, List.append_nil, List.cons_append] at hA ⊢); (try clear hph hyp); refine ow_assign_v rfl ?_; exact ⟨y10, E', rfl, Env.Le.refl _, mix_mkP rfl p10, hA⟩
                              case r5_11 =>
                                exact FlowOps.nil
      case' k5 => (try clear hA); intro yy E' w lf hE hph hyp hl hA; have e0 := mix_known (hph 0 (by decide)) rfl rfl; have e1 := mix_known (hph 1 (by decide)) rfl rfl; have e4 := mix_known (hph 4 (by decide)) rfl rfl; have e7 := mix_known (hph 7 (by decide)) rfl rfl; have e8 := mix_known (hph 8 (by decide)) rfl rfl; simp only [setAll, List.map_cons, List.map_nil, List.set_cons_succ, List.set_cons_zero, ← e0, ← e1, ← e4, ← e7, ← e8] at hl; subst hl; have p2 := mix_pred (hph 2 (by decide)) rfl; have p3 := mix_pred (hph 3 (by decide)) rfl; have p5 := mix_pred (hph 5 (by decide)) rfl; have p6 := mix_pred (hph 6 (by decide)) rfl; have p9 := mix_pred (hph 9 (by decide)) rfl; have p10 := mix_pred (hph 10 (by decide)) rfl; have p11 := mix_pred (hph 11 (by decide)) rfl; (try simp only [← e0, ← e1, ← e4, ← e7, ← e8] at hA); generalize yy 2 = y2 at *; generalize yy 3 = y3 at *; generalize yy 5 = y5 at *; generalize yy 6 = y6 at *; generalize yy 9 = y9 at *; generalize yy 10 = y10 at *; generalize yy 11 = y11 at *; (try simp only [List.flatMap_cons, List.flatMap_nil, List.nil_append, List.append_nil, List.cons_append] at hA); clear hph hyp
      have hWe : U.take k ++ [o] ++ U.drop k = A ++ [o] ++ B := by rw [hAe, hBe]
      have hWm : ∀ u ∈ A ++ [o] ++ B, u.length ≤ 201 := by rw [← hWe]; exact mem_odd hUm (by omega)
      have hWa : (A ++ [o] ++ B).all mayB = mayB o := by rw [← hWe]; exact all_odd hall
      have hWl : (A ++ [o] ++ B).length = A.length + 1 + B.length := by simp only [List.length_append, List.length_cons, List.length_nil]
      obtain ⟨W, hW⟩ : ∃ W, A ++ [o] ++ B = W := ⟨_, rfl⟩
      have hmp : A.map vs ++ [vs o] ++ B.map vs = W.map vs := by rw [← hW]; simp
      rw [hW] at hWm hWa hWl
      rw [hmp] at hA
      obtain ⟨E3, hE3, hAn, hv3⟩ : ∃ E3, E'.Le E3 ∧ Sat E3 L w ∧ ListE strR 1 E3 y11 W := by
        have hA' : Sat E' (row 9 1 y11 W.length (W.map vs) :: L) w := by rw [hWl]; exact hA
        exact hA'.freezeList (cse_map fun u hu => by have := hWm u hu; omega)
      clear hA
      have hA := hAn
      clear hAn
      have hEE := hE1.trans (hE.trans hE3)
      have hG3 := hG.mono hEE
      have hS : Shorts W := fun u hu => by have := hWm u hu; omega
      cases hm : mayB o with
      | false =>
        rw [hm] at hWa
        have hj := joinR_form (Ls := W) (by omega) hWa
        repeat' (first | (refine g_callf 16 ?_; refine ow_call Tryd.call16 rfl ((join_calls _ _ hS _ _ _ hA hG3 hv3).mono ?_); clear hA; (try clear w); rintro e w ⟨rfl, hA⟩; refine ⟨_, rfl, ?_⟩; (try rw [hj]); refine rn ?_) | (refine g_callf 21 ?_; refine ow_call Tryd.call21 rfl ((lawMay_calls o (by omega) _ _ w hA).mono ?_); clear hA; (try clear w); rintro e w ⟨rfl, hA⟩; refine ⟨_, rfl, ?_⟩; (try rw [hm]); refine rn ?_) | ((refine g_wc ?_; first | (refine wc_seq ?_) | (refine wc_regionS 10 rfl ?_; refine wc_region ?_) | (refine wc_block ?_) | (refine wc_true rfl ?_) | (refine wc_false rfl ?_) | (refine wc_pt rfl (by omega) ?_) | (refine wc_pf rfl (by omega) ?_) | (refine wc_nt rfl (by omega) ?_) | (refine wc_nf rfl (by omega) ?_) | (refine wc_pp rfl (fun h => ?_) (fun h => ?_)) | (refine wc_nn rfl (fun h => ?_) (fun h => ?_)) | (refine wc_skip ?_) | (refine wc_exit ?_) | (refine wc_ret ?_))) | (refine g_rl ?_; first | (first | (refine rl_op ?_) | (refine rl_nil ?_) | (refine rl_on rfl ?_) | (refine rl_pt rfl (by omega) ?_) | (refine rl_qt rfl (by omega) ?_) | (refine rl_nt rfl (by omega) ?_) | (refine rl_mt rfl (by omega) ?_)) | ((first | (refine rl_off rfl rfl ?_) | (refine rl_undef rfl ?_) | (refine rl_pf rfl (by omega) ?_) | (refine rl_qf rfl (by omega) ?_) | (refine rl_nf rfl (by omega) ?_) | (refine rl_mf rfl (by omega) ?_)); refine rn ?_) | (first | (refine rl_pp rfl (fun h => o_n ?_) (fun h => rn ?_)) | (refine rl_qq rfl (fun h => o_n ?_) (fun h => rn ?_)) | (refine rl_nn rfl (fun h => o_n ?_) (fun h => rn ?_)) | (refine rl_mm rfl (fun h => o_n ?_) (fun h => rn ?_)))) | ((refine g_bin ?_; refine p_b ?_); refine rn ?_) | (refine g_call ?_; first | ((first | (refine p_l ?_)); refine rn ?_) | ((first | (refine t_appx rfl rfl hA rfl ?_)); clear hA; (try clear w); intro v w hA hone hnil; refine h_n hA ?_; clear hA; intro hA; refine rn ?_)) | ((refine g_conv ?_; first | (refine p_c hA ?_)); refine rn ?_) | ((refine g_load ?_; first | (refine t_loadx rfl hA ?_) | (refine t_loada rfl hA ?_)); refine rn ?_) | (refine g_store ?_; first | ((first | (refine t_storex rfl rfl hA ?_)); clear hA; (try clear w); intro w hA; refine h_n hA ?_; clear hA; intro hA; refine rn ?_) | ((first | (refine t_storea rfl rfl hA ?_)); clear hA; (try clear w); intro w hA; (try simp only [List.drop_zero, List.drop_nil, List.drop_succ_cons, List.take_succ_cons, List.take_zero, List.length_cons, List.length_nil, Nat.zero_add, Nat.reduceAdd] at hA); refine h_n hA ?_; clear hA; intro hA; refine rn ?_)) | (refine g_ow ?_; first | ((first | (refine p_o ?_)); refine rn ?_) | ((first | (refine t_alloc hA ?_) | (refine ow_box rfl rfl hA ?_) | (refine t_buildSlice rfl (by decide) rfl hA ?_)); clear hA; (try clear w); intro b w hA; refine h_n hA ?_; clear hA; intro hA; refine rn ?_) | ((first | (refine t_make rfl rfl (by omega) (by omega) hA ?_)); clear hA; (try clear w); intro v w hA hone hnil; refine rn ?_)) | (refine tq_normal ?_) | (refine bq_normal ?_) | (refine bq_hit ?_) | (refine bq_miss (by decide) ?_) | (refine tq_exit ?_) | (refine lq_exit ?_) | (refine tq_ret ?_) | (refine bq_ret ?_) | (refine lq_ret ?_))
        refine wc_region ?_
        refine' rl_v hA ?o10_0 ?k10_0
        case o10_0 => intro w hA; first | (refine ow_move_v rfl ?_; exact ⟨pe, hA⟩)
        case' k10_0 => clear hA; intro w hA; refine rn ?_
        refine' rl_v hA ?o10_1 ?k10_1
        case o10_1 => intro w hA; first | (refine ow_eql rfl rfl ?_; exact ⟨pe, hA⟩) | (refine ow_eqs rfl rfl ?_; exact ⟨pe, hA⟩) | (refine t_eqlb rfl rfl ?_; exact ⟨pe, hA⟩)
        case' k10_1 => clear hA; intro w hA; refine rn ?_
        refine' rl_v hA ?o10_2 ?k10_2
        case o10_2 => intro w hA; first | (refine ow_move_v rfl ?_; exact ⟨pe, hA⟩)
        case' k10_2 => clear hA; intro w hA; refine rn ?_
        first | refine' rl_T rfl hA ?o10_3 ?k10_3 | refine' rl_Tn rfl hA ?o10_3 ?k10_3
        case o10_3 => intro hg w hA; first | (refine ow_move_v opr ?_; exact ⟨pe, hA⟩)
        case' k10_3 => clear hA; intro w hA; refine rn ?_
        first | refine' rl_T rfl hA ?o10_4 ?k10_4 | refine' rl_Tn rfl hA ?o10_4 ?k10_4
        case o10_4 => intro hg w hA; first | (refine ow_eql opr opr ?_; exact ⟨pe, hA⟩) | (refine ow_eqs opr opr ?_; exact ⟨pe, hA⟩) | (refine t_eqlb opr opr ?_; exact ⟨pe, hA⟩)
        case' k10_4 => clear hA; intro w hA; refine rn ?_
        refine' rl_v hA ?o10_5 ?k10_5
        case o10_5 => intro w hA; first | (refine ow_and rfl (by first | rfl) rfl ?_; exact ⟨pe, hA⟩) | (refine ow_pick rfl rfl rfl ?_; exact ⟨pe, hA⟩)
        case' k10_5 => clear hA; intro w hA; refine rn ?_
        refine' rl_v hA ?o10_6 ?k10_6
        case o10_6 => intro w hA; first | (refine ow_move_v rfl ?_; exact ⟨pe, hA⟩)
        case' k10_6 => clear hA; intro w hA; refine rn ?_
        first | refine' rl_T rfl hA ?o10_7 ?k10_7 | refine' rl_Tn rfl hA ?o10_7 ?k10_7
        case o10_7 => intro hg w hA; first | (refine ow_call Tryd.call11 rfl ((known_calls _ _ w hA hG3).mono ?_); clear hA; rintro e w ⟨rfl, hA⟩; refine ⟨_, rfl, ?_⟩; exact ⟨put_eq (by rfl), hA⟩)
        case' k10_7 => clear hA; intro w hA; refine rn ?_
        refine' rl_v hA ?o10_8 ?k10_8
        case o10_8 => intro w hA; first | (refine ow_and rfl (by first | rfl) rfl ?_; exact ⟨pe, hA⟩) | (refine ow_pick rfl rfl rfl ?_; exact ⟨pe, hA⟩)
        case' k10_8 => clear hA; intro w hA; refine rn ?_
        refine' rl_v hA ?o10_9 ?k10_9
        case o10_9 => intro w hA; first | (refine ow_assign_v rfl ?_; exact ⟨pe, hA⟩)
        case' k10_9 => clear hA; intro w hA; refine rn ?_
        refine rl_nil ?_
        repeat' (first | ((refine g_wc ?_; first | (refine wc_seq ?_) | (refine wc_region ?_) | (refine wc_block ?_) | (refine wc_true rfl ?_) | (refine wc_false rfl ?_) | (refine wc_pt rfl (by omega) ?_) | (refine wc_pf rfl (by omega) ?_) | (refine wc_nt rfl (by omega) ?_) | (refine wc_nf rfl (by omega) ?_) | (refine wc_pp rfl (fun h => ?_) (fun h => ?_)) | (refine wc_nn rfl (fun h => ?_) (fun h => ?_)) | (refine wc_skip ?_) | (refine wc_exit ?_) | (refine wc_ret ?_))) | (refine g_rl ?_; first | (first | (refine rl_op ?_) | (refine rl_nil ?_) | (refine rl_on rfl ?_) | (refine rl_pt rfl (by omega) ?_) | (refine rl_qt rfl (by omega) ?_) | (refine rl_nt rfl (by omega) ?_) | (refine rl_mt rfl (by omega) ?_)) | ((first | (refine rl_off rfl rfl ?_) | (refine rl_undef rfl ?_) | (refine rl_pf rfl (by omega) ?_) | (refine rl_qf rfl (by omega) ?_) | (refine rl_nf rfl (by omega) ?_) | (refine rl_mf rfl (by omega) ?_)); refine rn ?_) | (first | (refine rl_pp rfl (fun h => o_n ?_) (fun h => rn ?_)) | (refine rl_qq rfl (fun h => o_n ?_) (fun h => rn ?_)) | (refine rl_nn rfl (fun h => o_n ?_) (fun h => rn ?_)) | (refine rl_mm rfl (fun h => o_n ?_) (fun h => rn ?_)))) | ((refine g_bin ?_; refine p_b ?_); refine rn ?_) | (refine g_call ?_; first | ((first | (refine p_l ?_)); refine rn ?_) | ((first | (refine t_appx rfl rfl hA rfl ?_)); clear hA; (try clear w); intro v w hA hone hnil; refine h_n hA ?_; clear hA; intro hA; refine rn ?_)) | ((refine g_conv ?_; first | (refine p_c hA ?_)); refine rn ?_) | ((refine g_load ?_; first | (refine t_loadx rfl hA ?_) | (refine t_loada rfl hA ?_)); refine rn ?_) | (refine g_store ?_; first | ((first | (refine t_storex rfl rfl hA ?_)); clear hA; (try clear w); intro w hA; refine h_n hA ?_; clear hA; intro hA; refine rn ?_) | ((first | (refine t_storea rfl rfl hA ?_)); clear hA; (try clear w); intro w hA; (try simp only [List.drop_zero, List.drop_nil, List.drop_succ_cons, List.take_succ_cons, List.take_zero, List.length_cons, List.length_nil, Nat.zero_add, Nat.reduceAdd] at hA); refine h_n hA ?_; clear hA; intro hA; refine rn ?_)) | (refine g_ow ?_; first | ((first | (refine p_o ?_)); refine rn ?_) | ((first | (refine t_alloc hA ?_) | (refine ow_box rfl rfl hA ?_) | (refine t_buildSlice rfl (by decide) rfl hA ?_)); clear hA; (try clear w); intro b w hA; refine h_n hA ?_; clear hA; intro hA; refine rn ?_) | ((first | (refine t_make rfl rfl (by omega) (by omega) hA ?_)); clear hA; (try clear w); intro v w hA hone hnil; refine rn ?_)) | (refine tq_normal ?_) | (refine bq_normal ?_) | (refine bq_hit ?_) | (refine bq_miss (by decide) ?_) | (refine tq_exit ?_) | (refine lq_exit ?_) | (refine tq_ret ?_) | (refine bq_ret ?_) | (refine lq_ret ?_))
        exact ret1 (hA.le hEE) rfl (by simp)
      | true =>
        rw [hm] at hWa
        obtain ⟨hj, hjl⟩ := join_ok hWa (by omega) (fun u hu => by have := hWm u hu; omega)
        have hs2 : splitR (joinB true W) = (W, 0) := splitR_str (str_join W true hWa) (by omega) (by omega)
        have hdl : decide (W = W) = true := decide_eq_true rfl
        repeat' (first | (refine g_callf 16 ?_; refine ow_call Tryd.call16 rfl ((join_calls _ _ hS _ _ _ hA hG3 hv3).mono ?_); clear hA; (try clear w); rintro e w ⟨rfl, hA⟩; refine ⟨_, rfl, ?_⟩; (try rw [hj]); refine rn ?_) | (refine g_callf 21 ?_; refine ow_call Tryd.call21 rfl ((lawMay_calls o (by omega) _ _ w hA).mono ?_); clear hA; (try clear w); rintro e w ⟨rfl, hA⟩; refine ⟨_, rfl, ?_⟩; (try rw [hm]); refine rn ?_) | (refine g_callf 12 ?_; refine ow_call Tryd.call12 rfl ((split_calls (joinB true W) (by omega) _ _ w hA hG3).mono ?_); clear hA; (try clear w); rintro e w ⟨E4, v4, rfl, hE4, hv4, hA⟩; refine ⟨_, rfl, ?_⟩; (try rw [hs2] at hv4; rw [hs2]); refine rn ?_) | ((refine g_wc ?_; first | (refine wc_seq ?_) | (refine wc_regionS 9 rfl ?_; refine wc_region ?_) | (refine wc_block ?_) | (refine wc_true rfl ?_) | (refine wc_false rfl ?_) | (refine wc_pt rfl (by omega) ?_) | (refine wc_pf rfl (by omega) ?_) | (refine wc_nt rfl (by omega) ?_) | (refine wc_nf rfl (by omega) ?_) | (refine wc_pp rfl (fun h => ?_) (fun h => ?_)) | (refine wc_nn rfl (fun h => ?_) (fun h => ?_)) | (refine wc_skip ?_) | (refine wc_exit ?_) | (refine wc_ret ?_))) | (refine g_rl ?_; first | (first | (refine rl_op ?_) | (refine rl_nil ?_) | (refine rl_on rfl ?_) | (refine rl_pt rfl (by omega) ?_) | (refine rl_qt rfl (by omega) ?_) | (refine rl_nt rfl (by omega) ?_) | (refine rl_mt rfl (by omega) ?_)) | ((first | (refine rl_off rfl rfl ?_) | (refine rl_undef rfl ?_) | (refine rl_pf rfl (by omega) ?_) | (refine rl_qf rfl (by omega) ?_) | (refine rl_nf rfl (by omega) ?_) | (refine rl_mf rfl (by omega) ?_)); refine rn ?_) | (first | (refine rl_pp rfl (fun h => o_n ?_) (fun h => rn ?_)) | (refine rl_qq rfl (fun h => o_n ?_) (fun h => rn ?_)) | (refine rl_nn rfl (fun h => o_n ?_) (fun h => rn ?_)) | (refine rl_mm rfl (fun h => o_n ?_) (fun h => rn ?_)))) | ((refine g_bin ?_; refine p_b ?_); refine rn ?_) | (refine g_call ?_; first | ((first | (refine p_l ?_)); refine rn ?_) | ((first | (refine t_appx rfl rfl hA rfl ?_)); clear hA; (try clear w); intro v w hA hone hnil; refine h_n hA ?_; clear hA; intro hA; refine rn ?_)) | ((refine g_conv ?_; first | (refine p_c hA ?_)); refine rn ?_) | ((refine g_load ?_; first | (refine t_loadx rfl hA ?_) | (refine t_loada rfl hA ?_)); refine rn ?_) | (refine g_store ?_; first | ((first | (refine t_storex rfl rfl hA ?_)); clear hA; (try clear w); intro w hA; refine h_n hA ?_; clear hA; intro hA; refine rn ?_) | ((first | (refine t_storea rfl rfl hA ?_)); clear hA; (try clear w); intro w hA; (try simp only [List.drop_zero, List.drop_nil, List.drop_succ_cons, List.take_succ_cons, List.take_zero, List.length_cons, List.length_nil, Nat.zero_add, Nat.reduceAdd] at hA); refine h_n hA ?_; clear hA; intro hA; refine rn ?_)) | (refine g_ow ?_; first | ((first | (refine p_o ?_)); refine rn ?_) | ((first | (refine t_alloc hA ?_) | (refine ow_box rfl rfl hA ?_) | (refine t_buildSlice rfl (by decide) rfl hA ?_)); clear hA; (try clear w); intro b w hA; refine h_n hA ?_; clear hA; intro hA; refine rn ?_) | ((first | (refine t_make rfl rfl (by omega) (by omega) hA ?_)); clear hA; (try clear w); intro v w hA hone hnil; refine rn ?_)) | (refine tq_normal ?_) | (refine bq_normal ?_) | (refine bq_hit ?_) | (refine bq_miss (by decide) ?_) | (refine tq_exit ?_) | (refine lq_exit ?_) | (refine tq_ret ?_) | (refine bq_ret ?_) | (refine lq_ret ?_))
        replace hv4 : ListE strR 1 E4 v4 W := hv4
        refine wc_region ?_
        refine' rl_v hA ?o9_0 ?k9_0
        case o9_0 => intro w hA; first | (refine ow_move_v rfl ?_; exact ⟨pe, hA⟩)
        case' k9_0 => clear hA; intro w hA; refine rn ?_
        refine' rl_v hA ?o9_1 ?k9_1
        case o9_1 => intro w hA; first | (refine ow_eql rfl rfl ?_; exact ⟨pe, hA⟩) | (refine ow_eqs rfl rfl ?_; exact ⟨pe, hA⟩) | (refine t_eqlb rfl rfl ?_; exact ⟨pe, hA⟩)
        case' k9_1 => clear hA; intro w hA; refine rn ?_
        refine' rl_v hA ?o9_2 ?k9_2
        case o9_2 => intro w hA; first | (refine ow_move_v rfl ?_; exact ⟨pe, hA⟩)
        case' k9_2 => clear hA; intro w hA; refine rn ?_
        first | refine' rl_T rfl hA ?o9_3 ?k9_3 | refine' rl_Tn rfl hA ?o9_3 ?k9_3
        case o9_3 => intro hg w hA; first | (refine ow_move_v opr ?_; exact ⟨pe, hA⟩)
        case' k9_3 => clear hA; intro w hA; refine rn ?_
        first | refine' rl_T rfl hA ?o9_4 ?k9_4 | refine' rl_Tn rfl hA ?o9_4 ?k9_4
        case o9_4 => intro hg w hA; first | (refine ow_eql opr opr ?_; exact ⟨pe, hA⟩) | (refine ow_eqs opr opr ?_; exact ⟨pe, hA⟩) | (refine t_eqlb opr opr ?_; exact ⟨pe, hA⟩)
        case' k9_4 => clear hA; intro w hA; refine rn ?_
        refine' rl_v hA ?o9_5 ?k9_5
        case o9_5 => intro w hA; first | (refine ow_and rfl (by first | rfl) rfl ?_; exact ⟨pe, hA⟩) | (refine ow_pick rfl rfl rfl ?_; exact ⟨pe, hA⟩)
        case' k9_5 => clear hA; intro w hA; refine rn ?_
        refine' rl_v hA ?o9_6 ?k9_6
        case o9_6 => intro w hA; first | (refine ow_move_v rfl ?_; exact ⟨pe, hA⟩)
        case' k9_6 => clear hA; intro w hA; refine rn ?_
        first | refine' rl_T rfl hA ?o9_7 ?k9_7 | refine' rl_Tn rfl hA ?o9_7 ?k9_7
        case o9_7 => intro hg w hA; first | (refine ow_move_v opr ?_; exact ⟨pe, hA⟩)
        case' k9_7 => clear hA; intro w hA; refine rn ?_
        first | refine' rl_T rfl hA ?o9_8 ?k9_8 | refine' rl_Tn rfl hA ?o9_8 ?k9_8
        case o9_8 => intro hg w hA; first | (refine ow_move_v opr ?_; exact ⟨pe, hA⟩)
        case' k9_8 => clear hA; intro w hA; refine rn ?_
        first | refine' rl_T rfl hA ?o9_9 ?k9_9 | refine' rl_Tn rfl hA ?o9_9 ?k9_9
        case o9_9 => intro hg w hA; first | (refine ow_call Tryd.call14 (evs2 opr opr) ((equalStrings_calls _ _ _ _ _ _ _ hA hv4 (hv3.mono hE4)).mono ?_); clear hA; rintro e w ⟨rfl, hA⟩; refine ⟨_, rfl, ?_⟩; (try rw [hdl]); exact ⟨put_eq (by rfl), hA⟩)
        case' k9_9 => clear hA; intro w hA; refine rn ?_
        refine' rl_v hA ?o9_10 ?k9_10
        case o9_10 => intro w hA; first | (refine ow_and rfl (by first | rfl) rfl ?_; exact ⟨pe, hA⟩) | (refine ow_pick rfl rfl rfl ?_; exact ⟨pe, hA⟩)
        case' k9_10 => clear hA; intro w hA; refine rn ?_
        refine' rl_v hA ?o9_11 ?k9_11
        case o9_11 => intro w hA; first | (refine ow_move_v rfl ?_; exact ⟨pe, hA⟩)
        case' k9_11 => clear hA; intro w hA; refine rn ?_
        first | refine' rl_T rfl hA ?o9_12 ?k9_12 | refine' rl_Tn rfl hA ?o9_12 ?k9_12
        case o9_12 => intro hg w hA; first | (refine ow_call Tryd.call11 rfl ((known_calls _ _ w hA (hG3.mono hE4)).mono ?_); clear hA; rintro e w ⟨rfl, hA⟩; refine ⟨_, rfl, ?_⟩; exact ⟨put_eq (by rfl), hA⟩)
        case' k9_12 => clear hA; intro w hA; refine rn ?_
        refine' rl_v hA ?o9_13 ?k9_13
        case o9_13 => intro w hA; first | (refine ow_and rfl (by first | rfl) rfl ?_; exact ⟨pe, hA⟩) | (refine ow_pick rfl rfl rfl ?_; exact ⟨pe, hA⟩)
        case' k9_13 => clear hA; intro w hA; refine rn ?_
        refine' rl_v hA ?o9_14 ?k9_14
        case o9_14 => intro w hA; first | (refine ow_assign_v rfl ?_; exact ⟨pe, hA⟩)
        case' k9_14 => clear hA; intro w hA; refine rn ?_
        refine rl_nil ?_
        repeat' (first | ((refine g_wc ?_; first | (refine wc_seq ?_) | (refine wc_region ?_) | (refine wc_block ?_) | (refine wc_true rfl ?_) | (refine wc_false rfl ?_) | (refine wc_pt rfl (by omega) ?_) | (refine wc_pf rfl (by omega) ?_) | (refine wc_nt rfl (by omega) ?_) | (refine wc_nf rfl (by omega) ?_) | (refine wc_pp rfl (fun h => ?_) (fun h => ?_)) | (refine wc_nn rfl (fun h => ?_) (fun h => ?_)) | (refine wc_skip ?_) | (refine wc_exit ?_) | (refine wc_ret ?_))) | (refine g_rl ?_; first | (first | (refine rl_op ?_) | (refine rl_nil ?_) | (refine rl_on rfl ?_) | (refine rl_pt rfl (by omega) ?_) | (refine rl_qt rfl (by omega) ?_) | (refine rl_nt rfl (by omega) ?_) | (refine rl_mt rfl (by omega) ?_)) | ((first | (refine rl_off rfl rfl ?_) | (refine rl_undef rfl ?_) | (refine rl_pf rfl (by omega) ?_) | (refine rl_qf rfl (by omega) ?_) | (refine rl_nf rfl (by omega) ?_) | (refine rl_mf rfl (by omega) ?_)); refine rn ?_) | (first | (refine rl_pp rfl (fun h => o_n ?_) (fun h => rn ?_)) | (refine rl_qq rfl (fun h => o_n ?_) (fun h => rn ?_)) | (refine rl_nn rfl (fun h => o_n ?_) (fun h => rn ?_)) | (refine rl_mm rfl (fun h => o_n ?_) (fun h => rn ?_)))) | ((refine g_bin ?_; refine p_b ?_); refine rn ?_) | (refine g_call ?_; first | ((first | (refine p_l ?_)); refine rn ?_) | ((first | (refine t_appx rfl rfl hA rfl ?_)); clear hA; (try clear w); intro v w hA hone hnil; refine h_n hA ?_; clear hA; intro hA; refine rn ?_)) | ((refine g_conv ?_; first | (refine p_c hA ?_)); refine rn ?_) | ((refine g_load ?_; first | (refine t_loadx rfl hA ?_) | (refine t_loada rfl hA ?_)); refine rn ?_) | (refine g_store ?_; first | ((first | (refine t_storex rfl rfl hA ?_)); clear hA; (try clear w); intro w hA; refine h_n hA ?_; clear hA; intro hA; refine rn ?_) | ((first | (refine t_storea rfl rfl hA ?_)); clear hA; (try clear w); intro w hA; (try simp only [List.drop_zero, List.drop_nil, List.drop_succ_cons, List.take_succ_cons, List.take_zero, List.length_cons, List.length_nil, Nat.zero_add, Nat.reduceAdd] at hA); refine h_n hA ?_; clear hA; intro hA; refine rn ?_)) | (refine g_ow ?_; first | ((first | (refine p_o ?_)); refine rn ?_) | ((first | (refine t_alloc hA ?_) | (refine ow_box rfl rfl hA ?_) | (refine t_buildSlice rfl (by decide) rfl hA ?_)); clear hA; (try clear w); intro b w hA; refine h_n hA ?_; clear hA; intro hA; refine rn ?_) | ((first | (refine t_make rfl rfl (by omega) (by omega) hA ?_)); clear hA; (try clear w); intro v w hA hone hnil; refine rn ?_)) | (refine tq_normal ?_) | (refine bq_normal ?_) | (refine bq_hit ?_) | (refine bq_miss (by decide) ?_) | (refine tq_exit ?_) | (refine lq_exit ?_) | (refine tq_ret ?_) | (refine bq_ret ?_) | (refine lq_ret ?_))
        exact ret1 (hA.le (hEE.trans hE4)) rfl (by simp)
end Go.Proofs.YtlgkdnnjligcaaaDoor
