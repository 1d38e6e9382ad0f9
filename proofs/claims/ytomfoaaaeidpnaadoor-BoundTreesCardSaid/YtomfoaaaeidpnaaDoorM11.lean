/-
  The small functions of the reference, and its Blocks, walked.
-/
import Derived.Test.YtomfoaaaeidpnaaDoorM4
set_option linter.unusedVariables false
set_option linter.unusedSimpArgs false
namespace Go.Proofs.YtomfoaaaeidpnaaDoor
open Go Go.RowKit
attribute [local irreducible] WC RL OW bodyPostM ThenQ BlockQ LoopQ ScopeQ
def litV (n : Nat) : Env → Value → Prop := fun _ v => ∃ b, v = .slice (some ⟨b, 0, none⟩) n n
instance {n : Nat} : PMono (litV n) := ⟨fun _ h => h⟩
def absE (b : Bool) : Int := if b = true then 0 else 2
def rngE (b : Bool) : Int := if b = true then 0 else 3
section
variable (E : Env) (L : List Item) (w : World)
theorem abs_calls (b : Bool) (hA : Sat E L w) : Calls Tryd.prog 153 ⟨[.bool b]⟩ w (Ret E L (vi (absE b))) := by
  refine enter (fn := Tryd.f153) Tryd.func153 rfl 4 rfl [.bool b, undef, undef, undef] rfl ?_
  cases b
  · repeat' (first | refine st ?_ | refine sr ?_ | refine sl hA ?_ | (refine s_w hA ?_; clear hA; (try clear w); intro w hA) | (refine s_v hA ?_; clear hA; (try clear w); intro v w hA hone hnil) | (refine s_b hA ?_; clear hA; (try clear w); intro b w hA) | refine sp (fun h => ?_) (fun h => ?_) | (refine wc_region ?_))
    exact ret1 hA rfl rfl
  · repeat' (first | refine st ?_ | refine sr ?_ | refine sl hA ?_ | (refine s_w hA ?_; clear hA; (try clear w); intro w hA) | (refine s_v hA ?_; clear hA; (try clear w); intro v w hA hone hnil) | (refine s_b hA ?_; clear hA; (try clear w); intro b w hA) | refine sp (fun h => ?_) (fun h => ?_) | (refine wc_region ?_))
    exact ret1 hA rfl rfl
theorem rng_calls (b : Bool) (hA : Sat E L w) : Calls Tryd.prog 152 ⟨[.bool b]⟩ w (Ret E L (vi (rngE b))) := by
  refine enter (fn := Tryd.f152) Tryd.func152 rfl 4 rfl [.bool b, undef, undef, undef] rfl ?_
  cases b
  · repeat' (first | refine st ?_ | refine sr ?_ | refine sl hA ?_ | (refine s_w hA ?_; clear hA; (try clear w); intro w hA) | (refine s_v hA ?_; clear hA; (try clear w); intro v w hA hone hnil) | (refine s_b hA ?_; clear hA; (try clear w); intro b w hA) | refine sp (fun h => ?_) (fun h => ?_) | (refine wc_region ?_))
    exact ret1 hA rfl rfl
  · repeat' (first | refine st ?_ | refine sr ?_ | refine sl hA ?_ | (refine s_w hA ?_; clear hA; (try clear w); intro w hA) | (refine s_v hA ?_; clear hA; (try clear w); intro v w hA hone hnil) | (refine s_b hA ?_; clear hA; (try clear w); intro b w hA) | refine sp (fun h => ?_) (fun h => ?_) | (refine wc_region ?_))
    exact ret1 hA rfl rfl
theorem within_calls (n lo hi : Int) (hA : Sat E L w) : Calls Tryd.prog 133 ⟨[vi n, vi lo, vi hi]⟩ w (Ret E L (.bool (decide (lo ≤ n) && decide (n ≤ hi)))) := by
  refine enter (fn := Tryd.f133) Tryd.func133 rfl 15 rfl [vi n, vi lo, vi hi, undef, undef, undef, undef, undef, undef, undef, undef, undef, undef, undef, undef] rfl ?_
  repeat' (first | refine st ?_ | refine sr ?_ | refine sl hA ?_ | (refine s_w hA ?_; clear hA; (try clear w); intro w hA) | (refine s_v hA ?_; clear hA; (try clear w); intro v w hA hone hnil) | (refine s_b hA ?_; clear hA; (try clear w); intro b w hA) | refine sp (fun h => ?_) (fun h => ?_) | (refine wc_regionS 1 rfl ?_; refine wc_region ?_))
  refine wc_region ?_
  refine rv hA ?_; clear hA; intro w hA
  refine rv hA ?_; clear hA; intro w hA
  refine rv hA ?_; clear hA; intro w hA
  refine rv hA ?_; clear hA; intro w hA
  refine rt hA ?_; clear hA; intro w hA
  refine rt hA ?_; clear hA; intro w hA
  refine rt hA ?_; clear hA; intro w hA
  refine rv hA ?_; clear hA; intro w hA
  refine rv hA ?_; clear hA; intro w hA
  refine rl_nil ?_
  repeat' (first | refine st ?_ | refine sr ?_ | refine sl hA ?_ | (refine s_w hA ?_; clear hA; (try clear w); intro w hA) | (refine s_v hA ?_; clear hA; (try clear w); intro v w hA hone hnil) | (refine s_b hA ?_; clear hA; (try clear w); intro b w hA) | refine sp (fun h => ?_) (fun h => ?_) | (refine wc_region ?_))
  exact ret1 hA rfl rfl
theorem inter_calls (k : UInt8) (hA : Sat E L w) : Calls Tryd.prog 111 ⟨[u8 k]⟩ w (Ret E L (.bool (decide (3 ≤ k.toNat) && decide (k.toNat ≤ 6)))) := by
  refine enter (fn := Tryd.f111) Tryd.func111 rfl 9 rfl [u8 k, undef, undef, undef, undef, undef, undef, undef, undef] rfl ?_
  repeat' (first | refine st ?_ | refine sr ?_ | refine sl hA ?_ | (refine s_w hA ?_; clear hA; (try clear w); intro w hA) | (refine s_v hA ?_; clear hA; (try clear w); intro v w hA hone hnil) | (refine s_b hA ?_; clear hA; (try clear w); intro b w hA) | refine sp (fun h => ?_) (fun h => ?_) | (refine wc_regionS 1 rfl ?_; refine wc_region ?_))
  refine wc_region ?_
  refine rv hA ?_; clear hA; intro w hA
  refine rv hA ?_; clear hA; intro w hA
  refine rv hA ?_; clear hA; intro w hA
  refine rt hA ?_; clear hA; intro w hA
  refine rt hA ?_; clear hA; intro w hA
  refine rv hA ?_; clear hA; intro w hA
  refine rv hA ?_; clear hA; intro w hA
  refine rl_nil ?_
  repeat' (first | refine st ?_ | refine sr ?_ | refine sl hA ?_ | (refine s_w hA ?_; clear hA; (try clear w); intro w hA) | (refine s_v hA ?_; clear hA; (try clear w); intro v w hA hone hnil) | (refine s_b hA ?_; clear hA; (try clear w); intro b w hA) | refine sp (fun h => ?_) (fun h => ?_) | (refine wc_region ?_))
  exact ret1 hA rfl (by
    show Value.bool _ = Value.bool _
    congr 1
    congr 1
    · exact decide_eq_decide.2 (by omega)
    · exact decide_eq_decide.2 (by omega))
theorem refCoded_calls (k : UInt8) (hA : Sat E L w) : Calls Tryd.prog 114 ⟨[u8 k]⟩ w (Ret E L (.bool (codedB k))) := by
  have e : codedB k = (decide ((k.toNat : Int) ≤ 1) || (decide ((3 : Int) ≤ (k.toNat : Int)) && decide ((k.toNat : Int) ≤ 6))) := by
    unfold codedB
    rw [Bool.eq_iff_iff]
    simp only [Bool.and_eq_true, Bool.or_eq_true, Bool.not_eq_true', decide_eq_true_eq, decide_eq_false_iff_not]
    omega
  refine enter (fn := Tryd.f114) Tryd.func114 rfl 13 rfl [u8 k, undef, undef, undef, undef, undef, undef, undef, undef, undef, undef, undef, undef] rfl ?_
  repeat' (first | refine st ?_ | refine sr ?_ | refine sl hA ?_ | (refine s_w hA ?_; clear hA; (try clear w); intro w hA) | (refine s_v hA ?_; clear hA; (try clear w); intro v w hA hone hnil) | (refine s_b hA ?_; clear hA; (try clear w); intro b w hA) | refine sp (fun h => ?_) (fun h => ?_) | (refine wc_regionS 1 rfl ?_; refine wc_region ?_))
  refine wc_region ?_
  refine rv hA ?_; clear hA; intro w hA
  refine rv hA ?_; clear hA; intro w hA
  refine rv hA ?_; clear hA; intro w hA
  refine rf hA ?_; clear hA; intro w hA
  refine rf hA ?_; clear hA; intro w hA
  refine rf hA ?_; clear hA; intro w hA
  refine rt hA ?_; clear hA; intro w hA
  refine rt hA ?_; clear hA; intro w hA
  refine rf hA ?_; clear hA; intro w hA
  refine rv hA ?_; clear hA; intro w hA
  refine rv hA ?_; clear hA; intro w hA
  refine rl_nil ?_
  repeat' (first | refine st ?_ | refine sr ?_ | refine sl hA ?_ | (refine s_w hA ?_; clear hA; (try clear w); intro w hA) | (refine s_v hA ?_; clear hA; (try clear w); intro v w hA hone hnil) | (refine s_b hA ?_; clear hA; (try clear w); intro b w hA) | refine sp (fun h => ?_) (fun h => ?_) | (refine wc_region ?_))
  exact ret1 hA rfl (by rw [e]; rfl)
theorem refIntra_calls (k : UInt8) (hA : Sat E L w) : Calls Tryd.prog 134 ⟨[u8 k]⟩ w (Ret E L (.bool (decide (k.toNat ≤ 2)))) := by
  have e : decide (k.toNat ≤ 2) = ((decide ((k.toNat : Int) = 0) || decide ((k.toNat : Int) = 1)) || decide ((k.toNat : Int) = 2)) := by
    rw [Bool.eq_iff_iff]
    simp only [Bool.or_eq_true, decide_eq_true_eq]
    omega
  refine enter (fn := Tryd.f134) Tryd.func134 rfl 13 rfl [u8 k, undef, undef, undef, undef, undef, undef, undef, undef, undef, undef, undef, undef] rfl ?_
  repeat' (first | refine st ?_ | refine sr ?_ | refine sl hA ?_ | (refine s_w hA ?_; clear hA; (try clear w); intro w hA) | (refine s_v hA ?_; clear hA; (try clear w); intro v w hA hone hnil) | (refine s_b hA ?_; clear hA; (try clear w); intro b w hA) | refine sp (fun h => ?_) (fun h => ?_) | (refine wc_regionS 1 rfl ?_; refine wc_region ?_))
  refine wc_region ?_
  refine rv hA ?_; clear hA; intro w hA
  refine rv hA ?_; clear hA; intro w hA
  refine rv hA ?_; clear hA; intro w hA
  refine rf hA ?_; clear hA; intro w hA
  refine rf hA ?_; clear hA; intro w hA
  refine rv hA ?_; clear hA; intro w hA
  refine rv hA ?_; clear hA; intro w hA
  refine rf hA ?_; clear hA; intro w hA
  refine rf hA ?_; clear hA; intro w hA
  refine rv hA ?_; clear hA; intro w hA
  refine rv hA ?_; clear hA; intro w hA
  refine rl_nil ?_
  repeat' (first | refine st ?_ | refine sr ?_ | refine sl hA ?_ | (refine s_w hA ?_; clear hA; (try clear w); intro w hA) | (refine s_v hA ?_; clear hA; (try clear w); intro v w hA hone hnil) | (refine s_b hA ?_; clear hA; (try clear w); intro b w hA) | refine sp (fun h => ?_) (fun h => ?_) | (refine wc_region ?_))
  exact ret1 hA rfl (by rw [e]; rfl)
theorem refParts_calls (k : UInt8) (hA : Sat E L w) : Calls Tryd.prog 110 ⟨[u8 k]⟩ w (Ret E L (vi (partsN k))) := by
  unfold partsN
  refine enter (fn := Tryd.f110) Tryd.func110 rfl 11 rfl [u8 k, undef, undef, undef, undef, undef, undef, undef, undef, undef, undef] rfl ?_
  by_cases h3 : k.toNat = 3
  · rw [if_pos h3]
    repeat' (first | refine st ?_ | refine sr ?_ | refine sl hA ?_ | (refine s_w hA ?_; clear hA; (try clear w); intro w hA) | (refine s_v hA ?_; clear hA; (try clear w); intro v w hA hone hnil) | (refine s_b hA ?_; clear hA; (try clear w); intro b w hA) | refine sp (fun h => ?_) (fun h => ?_) | (refine wc_region ?_))
    exact ret1 hA rfl rfl
  rw [if_neg h3]
  by_cases h4 : k.toNat = 4
  · rw [if_pos h4]
    repeat' (first | refine st ?_ | refine sr ?_ | refine sl hA ?_ | (refine s_w hA ?_; clear hA; (try clear w); intro w hA) | (refine s_v hA ?_; clear hA; (try clear w); intro v w hA hone hnil) | (refine s_b hA ?_; clear hA; (try clear w); intro b w hA) | refine sp (fun h => ?_) (fun h => ?_) | (refine wc_region ?_))
    exact ret1 hA rfl rfl
  rw [if_neg h4]
  by_cases h5 : k.toNat = 5
  · rw [if_pos h5]
    repeat' (first | refine st ?_ | refine sr ?_ | refine sl hA ?_ | (refine s_w hA ?_; clear hA; (try clear w); intro w hA) | (refine s_v hA ?_; clear hA; (try clear w); intro v w hA hone hnil) | (refine s_b hA ?_; clear hA; (try clear w); intro b w hA) | refine sp (fun h => ?_) (fun h => ?_) | (refine wc_region ?_))
    exact ret1 hA rfl rfl
  rw [if_neg h5]
  by_cases h6 : k.toNat = 6
  · rw [if_pos h6]
    repeat' (first | refine st ?_ | refine sr ?_ | refine sl hA ?_ | (refine s_w hA ?_; clear hA; (try clear w); intro w hA) | (refine s_v hA ?_; clear hA; (try clear w); intro v w hA hone hnil) | (refine s_b hA ?_; clear hA; (try clear w); intro b w hA) | refine sp (fun h => ?_) (fun h => ?_) | (refine wc_region ?_))
    exact ret1 hA rfl rfl
  rw [if_neg h6]
  repeat' (first | refine st ?_ | refine sr ?_ | refine sl hA ?_ | (refine s_w hA ?_; clear hA; (try clear w); intro w hA) | (refine s_v hA ?_; clear hA; (try clear w); intro v w hA hone hnil) | (refine s_b hA ?_; clear hA; (try clear w); intro b w hA) | refine sp (fun h => ?_) (fun h => ?_) | (refine wc_region ?_))
  exact ret1 hA rfl rfl
set_option maxRecDepth 4000 in
theorem refSize_calls (c : UInt8) (hA : Sat E L w) : Calls Tryd.prog 142 ⟨[u8 c]⟩ w (Ret E L (.tuple ⟨[vi (sizeN c), vi (sizeE c)]⟩)) := by
  have hc8 := c.toNat_lt
  refine enter (fn := Tryd.f142) Tryd.func142 rfl 15 rfl [u8 c, undef, undef, undef, undef, undef, undef, undef, undef, undef, undef, undef, undef, undef, undef] rfl ?_
  by_cases h : 5 ≤ c.toNat
  · rw [sizeN_big c h, sizeE, if_pos h]
    repeat' (first | (refine g_ow ?_; refine t_conv64 rfl (by omega) ?_; refine rn ?_) | refine st ?_ | refine sr ?_ | refine sl hA ?_ | (refine s_w hA ?_; clear hA; (try clear w); intro w hA) | (refine s_v hA ?_; clear hA; (try clear w); intro v w hA hone hnil) | (refine s_b hA ?_; clear hA; (try clear w); intro b w hA) | refine sp (fun h => ?_) (fun h => ?_) | (refine wc_region ?_))
    exact ret2 hA.tail rfl rfl rfl
  · rw [sizeE, if_neg h]
    repeat' (first | (refine g_ow ?_; refine t_conv64 rfl (by omega) ?_; refine rn ?_) | refine st ?_ | refine sr ?_ | refine sl hA ?_ | (refine s_w hA ?_; clear hA; (try clear w); intro w hA) | (refine s_v hA ?_; clear hA; (try clear w); intro v w hA hone hnil) | (refine s_b hA ?_; clear hA; (try clear w); intro b w hA) | refine sp (fun h => ?_) (fun h => ?_) | (refine wc_regionS 4 rfl ?_; refine wc_region ?_))
    have hv := size_at c (by omega)
    have h5 : c.toNat = 0 ∨ c.toNat = 1 ∨ c.toNat = 2 ∨ c.toNat = 3 ∨ c.toNat = 4 := by omega
    obtain ⟨E1, hE1, hA1, g1⟩ := hA.freezeCells
    have hx : E1.cell? ⟨b, ((c.toNat : Int)).toNat * 1, none⟩ = some (vi (sizeN c)) := by
      rw [Int.toNat_natCast, Nat.mul_one]
      refine g1 _ _ ?_
      rcases h5 with h5 | h5 | h5 | h5 | h5 <;> (rw [h5] at hv ⊢; rw [← Option.some.inj hv]; rfl)
    clear hA
    have hA := hA1
    clear hA1
    repeat' (first | (refine g_ow ?_; refine t_indexAddr rfl rfl (by omega) ?_; refine rn ?_) | (refine g_ow ?_; refine t_load_env rfl rfl hA hx ?_; refine rn ?_) | refine st ?_ | refine sr ?_ | refine sl hA ?_ | (refine s_w hA ?_; clear hA; (try clear w); intro w hA) | (refine s_v hA ?_; clear hA; (try clear w); intro v w hA hone hnil) | (refine s_b hA ?_; clear hA; (try clear w); intro b w hA) | refine sp (fun h => ?_) (fun h => ?_) | (refine wc_region ?_))
    exact ret2 (hA.le hE1) rfl rfl rfl
end
theorem lumaL_run (cat c : UInt8) (i j : Nat) (hj : j < 4) (hb : bitB c (4 * i) = true) : lumaL cat c (4 * i + j + 1) = lumaL cat c (4 * i + j) ++ [⟨cat, 0, (4 * i + j : Nat)⟩] := by
  rw [lumaL_step]
  have : bitB c (4 * i + j) = true := by
    unfold bitB at hb ⊢
    rw [show (4 * i + j) / 4 = 4 * i / 4 by omega]; exact hb
  rw [if_pos this]
theorem lumaL_skip (cat c : UInt8) (i j : Nat) (hj : j ≤ 4) (hb : bitB c (4 * i) = false) : lumaL cat c (4 * i + j) = lumaL cat c (4 * i) := by
  induction j with
  | zero => rfl
  | succ j ih =>
    rw [← Nat.add_assoc, lumaL_step, ih (by omega)]
    have : bitB c (4 * i + j) = false := by
      unfold bitB at hb ⊢
      rw [show (4 * i + j) / 4 = 4 * i / 4 by omega]; exact hb
    rw [this, if_neg (by decide), List.append_nil]
theorem bit_quo (c : UInt8) (i p : Nat) (hp : p = 2 ^ i) : decide ((c.toNat : Int) / (p : Int) % 2 = 1) = bitB c (4 * i) := by
  unfold bitB
  rw [show 4 * i / 4 = i by omega, ← hp]
  refine decide_eq_decide.2 ?_
  constructor
  · intro h; exact_mod_cast h
  · intro h; exact_mod_cast h
set_option maxRecDepth 8000 in
set_option maxHeartbeats 8000000 in
theorem refBlocks_calls (m : Mb) (rr vv bb : Value) (E : Env) (L : List Item) (w : World) (hA : Sat E L w) :
    Calls Tryd.prog 141 ⟨[.agg ⟨mbC m rr vv bb⟩]⟩ w (fun e w' => ∃ E' v', e = .returned v' ∧ E.Le E' ∧ ListE codedR 3 E' v' (blocksL m) ∧ Sat E' L w') := by
  refine enter (fn := Tryd.f141) Tryd.func141 rfl 76 rfl [.agg ⟨mbC m rr vv bb⟩, undef, undef, undef, undef, undef, undef, undef, undef, undef, undef, undef, undef, undef, undef, undef, undef, undef, undef, undef, undef, undef, undef, undef, undef, undef, undef, undef, undef, undef, undef, undef, undef, undef, undef, undef, undef, undef, undef, undef, undef, undef, undef, undef, undef, undef, undef, undef, undef, undef, undef, undef, undef, undef, undef, undef, undef, undef, undef, undef, undef, undef, undef, undef, undef, undef, undef, undef, undef, undef, undef, undef, undef, undef, undef, undef] rfl ?_
  cases hc : codedB m.kind with
  | false =>
    have e : blocksL m = [] := by unfold blocksL; rw [hc]; rfl
    rw [e]
    repeat' (first | (refine g_callf 114 ?_; refine ow_call Tryd.call114 rfl ((refCoded_calls _ _ _ _ hA).mono ?_); clear hA; (try clear w); rintro e w ⟨rfl, hA⟩; refine ⟨_, rfl, ?_⟩; (try rw [hc]); refine rn ?_) | refine st ?_ | refine sr ?_ | refine sl hA ?_ | (refine s_w hA ?_; clear hA; (try clear w); intro w hA) | (refine s_v hA ?_; clear hA; (try clear w); intro v w hA hone hnil) | (refine s_b hA ?_; clear hA; (try clear w); intro b w hA) | refine sp (fun h => ?_) (fun h => ?_) | (refine wc_region ?_))
    exact fp_ret (res1 rfl rfl) ⟨E, _, rfl, Env.Le.refl E, ListE.nil, hA.tail⟩
  | true =>
    have hk := m.cbp.toNat_lt
    have e : blocksL m = (if m.kind.toNat = 1 then [⟨0, 0, 0⟩] else []) ++ lumaL (if m.kind.toNat = 1 then 1 else 2) m.cbp 16 ++ (if 0 < m.cbp.toNat / 16 then [⟨3, 0, 0⟩, ⟨3, 1, 0⟩] else []) ++ (if m.cbp.toNat / 16 = 2 then chacL 8 else []) := by unfold blocksL; rw [hc]; rfl
    rw [e]
    clear e
    obtain ⟨pre, hpre⟩ : ∃ pre : List Coded, (if m.kind.toNat = 1 then [⟨0, 0, 0⟩] else []) = pre := ⟨_, rfl⟩
    obtain ⟨cat, hcat⟩ : ∃ cat : UInt8, (if m.kind.toNat = 1 then 1 else 2) = cat := ⟨_, rfl⟩
    rw [hpre, hcat]
    have hpl : pre.length ≤ 1 := by rw [← hpre]; split <;> simp
    repeat' (first | (refine g_callf 114 ?_; refine ow_call Tryd.call114 rfl ((refCoded_calls _ _ _ _ hA).mono ?_); clear hA; (try clear w); rintro e w ⟨rfl, hA⟩; refine ⟨_, rfl, ?_⟩; (try rw [hc]); refine rn ?_) | refine st ?_ | refine sr ?_ | refine sl hA ?_ | (refine s_w hA ?_; clear hA; (try clear w); intro w hA) | (refine s_v hA ?_; clear hA; (try clear w); intro v w hA hone hnil) | (refine s_b hA ?_; clear hA; (try clear w); intro b w hA) | refine sp (fun h => ?_) (fun h => ?_) | (refine wc_regionS 4 rfl ?_; refine wc_region ?_))
    generalize hb1 : b = b1 at *
    have hA' := hA.nilRow 141 3
    clear hA; rename _ => hA
    repeat' (first | refine st ?_ | refine sr ?_ | refine sl hA ?_ | (refine s_w hA ?_; clear hA; (try clear w); intro w hA) | (refine s_v hA ?_; clear hA; (try clear w); intro v w hA hone hnil) | (refine s_b hA ?_; clear hA; (try clear w); intro b w hA) | refine sp (fun h => ?_) (fun h => ?_) | (refine wc_regionS 5 rfl ?_; refine wc_region ?_))
    refine wc_region ?_
    refine rv hA ?_; clear hA; intro w hA
    refine rv hA ?_; clear hA; intro w hA
    refine rv hA ?_; clear hA; intro w hA
    refine rl_nil ?_
    refine tq_normal ?_
    refine wc_mid (fun l w => ∃ (u : Value) (cs : List Value), (∃ jk : Nat → Value, l = [jk 0, .pointer (some ⟨b1, 0, none⟩), jk 2, u, u8 cat, jk 5, jk 6, jk 7, jk 8, jk 9, jk 10, jk 11, jk 12, jk 13, jk 14, jk 15, jk 16, jk 17, jk 18, jk 19, jk 20, jk 21, jk 22, jk 23, jk 24, jk 25, jk 26, jk 27, jk 28, jk 29, jk 30, jk 31, jk 32, jk 33, jk 34, jk 35, jk 36, jk 37, jk 38, jk 39, jk 40, jk 41, jk 42, jk 43, jk 44, jk 45, jk 46, jk 47, jk 48, jk 49, jk 50, jk 51, jk 52, jk 53, jk 54, jk 55, jk 56, jk 57, jk 58, jk 59, jk 60, jk 61, jk 62, jk 63, jk 64, jk 65, jk 66, jk 67, jk 68, jk 69, jk 70, jk 71, jk 72, jk 73, jk 74, jk 75]) ∧ u.oneCell' = true ∧ CsE codedR 3 E cs pre ∧ Sat E (row 141 3 u pre.length cs :: cells b1 (mbC m rr vv bb) 28 :: L) w) ?_ ?_
    · by_cases h1 : m.kind.toNat = 1
      · rw [if_pos h1] at hpre hcat
        subst hpre hcat
        repeat' (first | refine st ?_ | refine sr ?_ | refine sl hA ?_ | (refine s_w hA ?_; clear hA; (try clear w); intro w hA) | (refine s_v hA ?_; clear hA; (try clear w); intro v w hA hone hnil) | (refine s_b hA ?_; clear hA; (try clear w); intro b w hA) | refine sp (fun h => ?_) (fun h => ?_) | (refine wc_region ?_))
        exact mq_normal ⟨_, _, (ex_getD rfl), by assumption, CsE.nil.snoc rfl ⟨rfl, by decide⟩, hA⟩
      · rw [if_neg h1] at hpre hcat
        subst hpre hcat
        repeat' (first | refine st ?_ | refine sr ?_ | refine sl hA ?_ | (refine s_w hA ?_; clear hA; (try clear w); intro w hA) | (refine s_v hA ?_; clear hA; (try clear w); intro v w hA hone hnil) | (refine s_b hA ?_; clear hA; (try clear w); intro b w hA) | refine sp (fun h => ?_) (fun h => ?_) | (refine wc_region ?_))
        exact mq_normal ⟨_, _, (ex_getD rfl), rfl, CsE.nil, hA⟩
    clear hA
    rintro l w ⟨u, cs, ⟨jk, rfl⟩, hone, hcs, hA⟩
    repeat' (first | refine st ?_ | refine sr ?_ | refine sl hA ?_ | (refine s_w hA ?_; clear hA; (try clear w); intro w hA) | (refine s_v hA ?_; clear hA; (try clear w); intro v w hA hone hnil) | (refine s_b hA ?_; clear hA; (try clear w); intro b w hA) | refine sp (fun h => ?_) (fun h => ?_) | (refine wc_region ?_))
    refine wc_loopn (fun k l w => ∃ (i p : Nat) (u : Value) (cs : List Value), (∃ jk : Nat → Value, l = [jk 0, .pointer (some ⟨b1, 0, none⟩), jk 2, u, u8 cat, .int .u8 (p : Int), .int .i64 (i : Int), jk 7, jk 8, jk 9, jk 10, jk 11, jk 12, jk 13, jk 14, jk 15, jk 16, jk 17, jk 18, jk 19, jk 20, jk 21, jk 22, jk 23, jk 24, jk 25, jk 26, jk 27, jk 28, jk 29, jk 30, jk 31, jk 32, jk 33, jk 34, jk 35, jk 36, jk 37, jk 38, jk 39, jk 40, jk 41, jk 42, jk 43, jk 44, jk 45, jk 46, jk 47, jk 48, jk 49, jk 50, jk 51, jk 52, jk 53, jk 54, jk 55, jk 56, jk 57, jk 58, jk 59, jk 60, jk 61, jk 62, jk 63, jk 64, jk 65, jk 66, jk 67, jk 68, jk 69, jk 70, jk 71, jk 72, jk 73, jk 74, jk 75]) ∧ i + k = 4 ∧ p = 2 ^ i ∧ u.oneCell' = true ∧ CsE codedR 3 E cs (pre ++ lumaL cat m.cbp (4 * i)) ∧ Sat E (row 141 3 u (pre ++ lumaL cat m.cbp (4 * i)).length cs :: cells b1 (mbC m rr vv bb) 28 :: L) w) 4 ⟨0, 1, u, cs, (ex_getD rfl), by omega, rfl, hone, by rw [show lumaL cat m.cbp (4 * 0) = [] from rfl, List.append_nil]; exact hcs, by rw [show lumaL cat m.cbp (4 * 0) = [] from rfl, List.append_nil]; exact hA⟩ ?_
    clear hA hcs hone
    rintro k l w ⟨i, p, u, cs, ⟨jk, rfl⟩, hi, hp, hone, hcs, hA⟩
    by_cases hlt : i < 4
    · have hp8 : 1 ≤ p ∧ p ≤ 8 := by
        have : i = 0 ∨ i = 1 ∨ i = 2 ∨ i = 3 := by omega
        rcases this with rfl | rfl | rfl | rfl <;> subst hp <;> decide
      have hbq := bit_quo m.cbp i p hp
      have hq0 : 0 ≤ (m.cbp.toNat : Int) / (p : Int) := Int.ediv_nonneg (by omega) (by omega)
      have hq1 : (m.cbp.toNat : Int) / (p : Int) ≤ 255 := Int.le_trans (Int.ediv_le_self _ (by omega)) (by omega)
      repeat' (first | refine st ?_ | refine sr ?_ | refine sl hA ?_ | (refine s_w hA ?_; clear hA; (try clear w); intro w hA) | (refine s_v hA ?_; clear hA; (try clear w); intro v w hA hone hnil) | (refine s_b hA ?_; clear hA; (try clear w); intro b w hA) | refine sp (fun h => ?_) (fun h => ?_) | (refine wc_region ?_))
      refine wc_loopn (fun k l w => ∃ (j : Nat) (u : Value) (cs : List Value), (∃ jk : Nat → Value, l = [jk 0, .pointer (some ⟨b1, 0, none⟩), jk 2, u, u8 cat, .int .u8 (p : Int), .int .i64 (i : Int), .int .i64 (j : Int), jk 8, jk 9, jk 10, jk 11, jk 12, jk 13, jk 14, jk 15, jk 16, jk 17, jk 18, jk 19, jk 20, jk 21, jk 22, jk 23, jk 24, jk 25, jk 26, jk 27, jk 28, jk 29, jk 30, jk 31, jk 32, jk 33, jk 34, jk 35, jk 36, jk 37, jk 38, jk 39, jk 40, jk 41, jk 42, jk 43, jk 44, jk 45, jk 46, jk 47, jk 48, jk 49, jk 50, jk 51, jk 52, jk 53, jk 54, jk 55, jk 56, jk 57, jk 58, jk 59, jk 60, jk 61, jk 62, jk 63, jk 64, jk 65, jk 66, jk 67, jk 68, jk 69, jk 70, jk 71, jk 72, jk 73, jk 74, jk 75]) ∧ j + k = 4 ∧ (0 < j → bitB m.cbp (4 * i) = true) ∧ u.oneCell' = true ∧ CsE codedR 3 E cs (pre ++ lumaL cat m.cbp (4 * i + j)) ∧ Sat E (row 141 3 u (pre ++ lumaL cat m.cbp (4 * i + j)).length cs :: cells b1 (mbC m rr vv bb) 28 :: L) w) 4 ⟨0, u, cs, (ex_getD rfl), by omega, fun h => absurd h (by omega), hone, hcs, hA⟩ ?_
      clear hA hcs hone
      rintro k2 l w ⟨j, u, cs, ⟨jk, rfl⟩, hj, hjb, hone, hcs, hA⟩
      repeat' (first | refine st ?_ | refine sr ?_ | refine sl hA ?_ | (refine s_w hA ?_; clear hA; (try clear w); intro w hA) | (refine s_v hA ?_; clear hA; (try clear w); intro v w hA hone hnil) | (refine s_b hA ?_; clear hA; (try clear w); intro b w hA) | refine sp (fun h => ?_) (fun h => ?_) | (refine wc_regionS 13 rfl ?_; refine wc_region ?_))
      refine wc_region ?_
      refine' rl_v hA ?o13_0 ?k13_0
      case o13_0 => intro w hA; first | (refine ow_quo8 rfl rfl (by omega) ?_; exact ⟨pe, hA⟩) | (refine ow_remp rfl rfl (by omega) ?_; exact ⟨pe, hA⟩) | (refine oq ?_; exact ⟨pe, hA⟩)
      clear hA; intro w hA; refine rn ?_
      refine' rl_v hA ?o13_1 ?k13_1
      case o13_1 => intro w hA; first | (refine ow_quo8 rfl rfl (by omega) ?_; exact ⟨pe, hA⟩) | (refine ow_remp rfl rfl (by omega) ?_; exact ⟨pe, hA⟩) | (refine oq ?_; exact ⟨pe, hA⟩)
      clear hA; intro w hA; refine rn ?_
      refine' rl_v hA ?o13_2 ?k13_2
      case o13_2 => intro w hA; first | (refine ow_quo8 rfl rfl (by omega) ?_; exact ⟨pe, hA⟩) | (refine ow_remp rfl rfl (by omega) ?_; exact ⟨pe, hA⟩) | (refine oq ?_; exact ⟨pe, hA⟩)
      clear hA; intro w hA; refine rn ?_
      first | refine' rl_T rfl hA ?o13_3 ?k13_3 | refine' rl_Tn rfl hA ?o13_3 ?k13_3
      case o13_3 => intro hg w hA; first | (refine ow_quo8 opr opr (by omega) ?_; exact ⟨pe, hA⟩) | (refine ow_remp opr opr (by omega) ?_; exact ⟨pe, hA⟩) | (refine oqg ?_; exact ⟨pe, hA⟩)
      clear hA; intro w hA; refine rn ?_
      first | refine' rl_T rfl hA ?o13_4 ?k13_4 | refine' rl_Tn rfl hA ?o13_4 ?k13_4
      case o13_4 => intro hg w hA; first | (refine ow_quo8 opr opr (by omega) ?_; exact ⟨pe, hA⟩) | (refine ow_remp opr opr (by omega) ?_; exact ⟨pe, hA⟩) | (refine oqg ?_; exact ⟨pe, hA⟩)
      clear hA; intro w hA; refine rn ?_
      first | refine' rl_T rfl hA ?o13_5 ?k13_5 | refine' rl_Tn rfl hA ?o13_5 ?k13_5
      case o13_5 => intro hg w hA; first | (refine ow_quo8 opr opr (by omega) ?_; exact ⟨pe, hA⟩) | (refine ow_remp opr opr (by omega) ?_; exact ⟨pe, hA⟩) | (refine oqg ?_; exact ⟨pe, hA⟩)
      clear hA; intro w hA; refine rn ?_
      first | refine' rl_T rfl hA ?o13_6 ?k13_6 | refine' rl_Tn rfl hA ?o13_6 ?k13_6
      case o13_6 => intro hg w hA; first | (refine ow_quo8 opr opr (by omega) ?_; exact ⟨pe, hA⟩) | (refine ow_remp opr opr (by omega) ?_; exact ⟨pe, hA⟩) | (refine oqg ?_; exact ⟨pe, hA⟩)
      clear hA; intro w hA; refine rn ?_
      first | refine' rl_T rfl hA ?o13_7 ?k13_7 | refine' rl_Tn rfl hA ?o13_7 ?k13_7
      case o13_7 => intro hg w hA; first | (refine ow_quo8 opr opr (by omega) ?_; exact ⟨pe, hA⟩) | (refine ow_remp opr opr (by omega) ?_; exact ⟨pe, hA⟩) | (refine oqg ?_; exact ⟨pe, hA⟩)
      clear hA; intro w hA; refine rn ?_
      first | refine' rl_T rfl hA ?o13_8 ?k13_8 | refine' rl_Tn rfl hA ?o13_8 ?k13_8
      case o13_8 => intro hg w hA; first | (refine ow_quo8 opr opr (by omega) ?_; exact ⟨pe, hA⟩) | (refine ow_remp opr opr (by omega) ?_; exact ⟨pe, hA⟩) | (refine oqg ?_; exact ⟨pe, hA⟩)
      clear hA; intro w hA; refine rn ?_
      refine' rl_v hA ?o13_9 ?k13_9
      case o13_9 => intro w hA; first | (refine ow_quo8 rfl rfl (by omega) ?_; exact ⟨pe, hA⟩) | (refine ow_remp rfl rfl (by omega) ?_; exact ⟨pe, hA⟩) | (refine oq ?_; exact ⟨pe, hA⟩)
      clear hA; intro w hA; refine rn ?_
      refine rl_nil ?_
      rw [hbq]
      have e6 : 4 * (i + 1) = 4 * i + 4 := by omega
      have hll := lumaL_len cat m.cbp (4 * i + j)
      obtain ⟨n, hn⟩ : ∃ n, (pre ++ lumaL cat m.cbp (4 * i + j)).length = n := ⟨_, rfl⟩
      have hnl : n ≤ 17 := by rw [← hn, List.length_append]; omega
      rw [hn] at hA
      cases hb : bitB m.cbp (4 * i) with
      | true =>
        rw [Bool.and_true]
        by_cases hj4 : j < 4
        · have hst := lumaL_run cat m.cbp i j hj4 hb
          have e5 : ((4 * i + j : Nat) : Int) = 4 * (i : Int) + (j : Int) := by omega
          repeat' (first | refine st ?_ | refine sr ?_ | refine sl hA ?_ | (refine s_w hA ?_; clear hA; (try clear w); intro w hA) | (refine s_v hA ?_; clear hA; (try clear w); intro v w hA hone hnil) | (refine s_b hA ?_; clear hA; (try clear w); intro b w hA) | refine sp (fun h => ?_) (fun h => ?_) | (refine wc_region ?_))
          refine lq_next (k2 - 1) (by omega) ⟨j + 1, _, cs ++ codedC ⟨cat, 0, ((4 * i + j : Nat) : Int)⟩, (ex_getD rfl), by omega, fun _ => by first | rfl | exact hb, by assumption, by rw [← Nat.add_assoc, hst, ← List.append_assoc]; exact hcs.snoc (x := ⟨cat, 0, ((4 * i + j : Nat) : Int)⟩) rfl ⟨rfl, by show I64 ((4 * i + j : Nat) : Int); omega⟩, ?_⟩
          rw [← Nat.add_assoc, hst, ← List.append_assoc, List.length_append, hn]
          simp only [codedC, e5]
          exact hA
        · obtain rfl : j = 4 := by omega
          repeat' (first | refine st ?_ | refine sr ?_ | refine sl hA ?_ | (refine s_w hA ?_; clear hA; (try clear w); intro w hA) | (refine s_v hA ?_; clear hA; (try clear w); intro v w hA hone hnil) | (refine s_b hA ?_; clear hA; (try clear w); intro b w hA) | refine sp (fun h => ?_) (fun h => ?_) | (refine wc_region ?_))
          exact lq_next (k - 1) (by omega) ⟨i + 1, 2 * p, u, cs, (ex_getD rfl), by omega, by rw [hp, Nat.pow_succ, Nat.mul_comm], hone, by rw [e6]; exact hcs, by rw [e6, hn]; exact hA⟩
      | false =>
        rw [Bool.and_false]
        have hj0 : j = 0 := by
          rcases Nat.eq_zero_or_pos j with h | h
          · exact h
          · rw [hjb h] at hb; cases hb
        subst hj0
        have hsk := lumaL_skip cat m.cbp i 4 (Nat.le_refl _) hb
        repeat' (first | refine st ?_ | refine sr ?_ | refine sl hA ?_ | (refine s_w hA ?_; clear hA; (try clear w); intro w hA) | (refine s_v hA ?_; clear hA; (try clear w); intro v w hA hone hnil) | (refine s_b hA ?_; clear hA; (try clear w); intro b w hA) | refine sp (fun h => ?_) (fun h => ?_) | (refine wc_region ?_))
        exact lq_next (k - 1) (by omega) ⟨i + 1, 2 * p, u, cs, (ex_getD rfl), by omega, by rw [hp, Nat.pow_succ, Nat.mul_comm], hone, by rw [e6, hsk]; exact hcs, by rw [e6, hsk]; rw [Nat.add_zero] at hn; rw [hn]; exact hA⟩
    · obtain rfl : i = 4 := by omega
      repeat' (first | refine st ?_ | refine sr ?_ | refine sl hA ?_ | (refine s_w hA ?_; clear hA; (try clear w); intro w hA) | (refine s_v hA ?_; clear hA; (try clear w); intro v w hA hone hnil) | (refine s_b hA ?_; clear hA; (try clear w); intro b w hA) | refine sp (fun h => ?_) (fun h => ?_) | (refine wc_regionS 17 rfl ?_; refine wc_region ?_))
      rw [show 4 * 4 = 16 from rfl] at hA hcs
      have hll := lumaL_len cat m.cbp 16
      obtain ⟨M1, hM1⟩ : ∃ M1, pre ++ lumaL cat m.cbp 16 = M1 := ⟨_, rfl⟩
      have hM1l : M1.length ≤ 17 := by rw [← hM1, List.length_append]; omega
      rw [hM1] at hA hcs ⊢
      clear hM1 hll
      refine wc_region ?_
      refine rv hA ?_; clear hA; intro w hA
      refine rv hA ?_; clear hA; intro w hA
      refine rv hA ?_; clear hA; intro w hA
      refine rv hA ?_; clear hA; intro w hA
      refine rl_nil ?_
      refine tq_normal ?_
      obtain ⟨ch, hch⟩ : ∃ ch : List Coded, (if 0 < m.cbp.toNat / 16 then [⟨3, 0, 0⟩, ⟨3, 1, 0⟩] else []) = ch := ⟨_, rfl⟩
      rw [hch]
      have hchl : ch.length ≤ 2 := by rw [← hch]; split <;> simp
      refine wc_mid (fun l w => ∃ (u : Value) (cs : List Value), (∃ jk : Nat → Value, l = [jk 0, .pointer (some ⟨b1, 0, none⟩), jk 2, u, jk 4, jk 5, jk 6, jk 7, jk 8, jk 9, jk 10, jk 11, jk 12, jk 13, jk 14, jk 15, jk 16, jk 17, jk 18, jk 19, jk 20, jk 21, jk 22, jk 23, jk 24, jk 25, jk 26, jk 27, jk 28, jk 29, jk 30, jk 31, jk 32, jk 33, jk 34, jk 35, jk 36, jk 37, jk 38, jk 39, jk 40, jk 41, jk 42, jk 43, jk 44, jk 45, jk 46, jk 47, jk 48, jk 49, jk 50, jk 51, jk 52, jk 53, jk 54, jk 55, jk 56, jk 57, jk 58, jk 59, jk 60, jk 61, jk 62, jk 63, jk 64, jk 65, jk 66, jk 67, jk 68, jk 69, jk 70, jk 71, jk 72, jk 73, jk 74, jk 75]) ∧ u.oneCell' = true ∧ CsE codedR 3 E cs (M1 ++ ch) ∧ Sat E (row 141 3 u (M1 ++ ch).length cs :: cells b1 (mbC m rr vv bb) 28 :: L) w) ?_ ?_
      · by_cases h2 : 0 < m.cbp.toNat / 16
        · rw [if_pos h2] at hch
          subst hch
          repeat' (first | refine st ?_ | refine sr ?_ | refine sl hA ?_ | (refine s_w hA ?_; clear hA; (try clear w); intro w hA) | (refine s_v hA ?_; clear hA; (try clear w); intro v w hA hone hnil) | (refine s_b hA ?_; clear hA; (try clear w); intro b w hA) | refine sp (fun h => ?_) (fun h => ?_) | (refine wc_region ?_))
          refine mq_normal ⟨_, cs ++ (codedC ⟨3, 0, 0⟩ ++ codedC ⟨3, 1, 0⟩), (ex_getD rfl), by assumption, hcs.app (((CsE.nil (R := codedR) (sz := 3) (E := E)).snoc (cs := codedC ⟨3, 0, 0⟩) (x := (⟨3, 0, 0⟩ : Coded)) rfl ⟨rfl, by decide⟩).snoc (cs := codedC ⟨3, 1, 0⟩) (x := (⟨3, 1, 0⟩ : Coded)) rfl ⟨rfl, by decide⟩), ?_⟩
          rw [List.length_append]
          exact hA
        · rw [if_neg h2] at hch
          subst hch
          rw [List.append_nil]
          repeat' (first | refine st ?_ | refine sr ?_ | refine sl hA ?_ | (refine s_w hA ?_; clear hA; (try clear w); intro w hA) | (refine s_v hA ?_; clear hA; (try clear w); intro v w hA hone hnil) | (refine s_b hA ?_; clear hA; (try clear w); intro b w hA) | refine sp (fun h => ?_) (fun h => ?_) | (refine wc_region ?_))
          exact mq_normal ⟨_, _, (ex_getD rfl), hone, hcs, hA⟩
      clear hA hcs hone
      rintro l w ⟨u, cs, ⟨jk, rfl⟩, hone, hcs, hA⟩
      obtain ⟨M2, hM2⟩ : ∃ M2, M1 ++ ch = M2 := ⟨_, rfl⟩
      have hM2l : M2.length ≤ 19 := by rw [← hM2, List.length_append]; omega
      rw [hM2] at hA hcs ⊢
      clear hM2
      repeat' (first | refine st ?_ | refine sr ?_ | refine sl hA ?_ | (refine s_w hA ?_; clear hA; (try clear w); intro w hA) | (refine s_v hA ?_; clear hA; (try clear w); intro v w hA hone hnil) | (refine s_b hA ?_; clear hA; (try clear w); intro b w hA) | refine sp (fun h => ?_) (fun h => ?_) | (refine wc_region ?_))
      by_cases h3 : m.cbp.toNat / 16 = 2
      · rw [if_pos h3]
        refine wc_loopn (fun k l w => ∃ (i : Nat) (u : Value) (cs : List Value), (∃ jk : Nat → Value, l = [jk 0, .pointer (some ⟨b1, 0, none⟩), jk 2, u, jk 4, jk 5, jk 6, jk 7, .int .i64 (i : Int), jk 9, jk 10, jk 11, jk 12, jk 13, jk 14, jk 15, jk 16, jk 17, jk 18, jk 19, jk 20, jk 21, jk 22, jk 23, jk 24, jk 25, jk 26, jk 27, jk 28, jk 29, jk 30, jk 31, jk 32, jk 33, jk 34, jk 35, jk 36, jk 37, jk 38, jk 39, jk 40, jk 41, jk 42, jk 43, jk 44, jk 45, jk 46, jk 47, jk 48, jk 49, jk 50, jk 51, jk 52, jk 53, jk 54, jk 55, jk 56, jk 57, jk 58, jk 59, jk 60, jk 61, jk 62, jk 63, jk 64, jk 65, jk 66, jk 67, jk 68, jk 69, jk 70, jk 71, jk 72, jk 73, jk 74, jk 75]) ∧ i + k = 8 ∧ u.oneCell' = true ∧ CsE codedR 3 E cs (M2 ++ chacL i) ∧ Sat E (row 141 3 u (M2 ++ chacL i).length cs :: cells b1 (mbC m rr vv bb) 28 :: L) w) 8 ⟨0, u, cs, (ex_getD rfl), by omega, hone, by rw [show chacL 0 = [] from rfl, List.append_nil]; exact hcs, by rw [show chacL 0 = [] from rfl, List.append_nil]; exact hA⟩ ?_
        clear hA hcs hone
        rintro k l w ⟨i, u, cs, ⟨jk, rfl⟩, hi, hone, hcs, hA⟩
        have hcl := chacL_len i
        by_cases hlt : i < 8
        · have hst := chacL_step i
          obtain ⟨n, hn⟩ : ∃ n, (M2 ++ chacL i).length = n := ⟨_, rfl⟩
          have hnl : n ≤ 27 := by rw [← hn, List.length_append]; omega
          rw [hn] at hA
          have e4 : (u8 (UInt8.ofNat (i / 4))) = .int .u8 ((i : Int) / 4) := by
            have : (UInt8.ofNat (i / 4)).toNat = i / 4 := by rw [UInt8.toNat_ofNat']; omega
            show Value.int .u8 ((UInt8.ofNat (i / 4)).toNat : Int) = _
            rw [this]; congr 1
          have e5 : (((i % 4 : Nat)) : Int) = (i : Int) % 4 := by omega
          repeat' (first | (refine g_ow ?_; refine t_conv8 rfl (by omega) ?_; refine rn ?_) | refine st ?_ | refine sr ?_ | refine sl hA ?_ | (refine s_w hA ?_; clear hA; (try clear w); intro w hA) | (refine s_v hA ?_; clear hA; (try clear w); intro v w hA hone hnil) | (refine s_b hA ?_; clear hA; (try clear w); intro b w hA) | refine sp (fun h => ?_) (fun h => ?_) | (refine wc_region ?_))
          refine lq_next (k - 1) (by omega) ⟨i + 1, _, cs ++ codedC ⟨4, UInt8.ofNat (i / 4), (i % 4 : Nat)⟩, (ex_getD rfl), by omega, by assumption, by rw [hst, ← List.append_assoc]; exact hcs.snoc (x := ⟨4, UInt8.ofNat (i / 4), (i % 4 : Nat)⟩) rfl ⟨rfl, by show I64 ((i % 4 : Nat) : Int); omega⟩, ?_⟩
          rw [hst, ← List.append_assoc, List.length_append, hn]
          simp only [codedC, e4, e5]
          exact hA
        · obtain rfl : i = 8 := by omega
          repeat' (first | refine st ?_ | refine sr ?_ | refine sl hA ?_ | (refine s_w hA ?_; clear hA; (try clear w); intro w hA) | (refine s_v hA ?_; clear hA; (try clear w); intro v w hA hone hnil) | (refine s_b hA ?_; clear hA; (try clear w); intro b w hA) | refine sp (fun h => ?_) (fun h => ?_) | (refine wc_region ?_))
          obtain ⟨E', h1, h2, h3⟩ := hA.freezeList hcs
          exact fp_ret (res1 rfl rfl) ⟨E', _, rfl, h1, h3, h2.tail⟩
      · rw [if_neg h3, List.append_nil]
        refine wc_loopn (fun k l w => (∃ jk : Nat → Value, l = [jk 0, .pointer (some ⟨b1, 0, none⟩), jk 2, u, jk 4, jk 5, jk 6, jk 7, .int .i64 0, jk 9, jk 10, jk 11, jk 12, jk 13, jk 14, jk 15, jk 16, jk 17, jk 18, jk 19, jk 20, jk 21, jk 22, jk 23, jk 24, jk 25, jk 26, jk 27, jk 28, jk 29, jk 30, jk 31, jk 32, jk 33, jk 34, jk 35, jk 36, jk 37, jk 38, jk 39, jk 40, jk 41, jk 42, jk 43, jk 44, jk 45, jk 46, jk 47, jk 48, jk 49, jk 50, jk 51, jk 52, jk 53, jk 54, jk 55, jk 56, jk 57, jk 58, jk 59, jk 60, jk 61, jk 62, jk 63, jk 64, jk 65, jk 66, jk 67, jk 68, jk 69, jk 70, jk 71, jk 72, jk 73, jk 74, jk 75]) ∧ Sat E (row 141 3 u M2.length cs :: cells b1 (mbC m rr vv bb) 28 :: L) w) 1 ⟨(ex_getD rfl), hA⟩ ?_
        clear hA
        rintro k l w ⟨⟨jk, rfl⟩, hA⟩
        repeat' (first | refine st ?_ | refine sr ?_ | refine sl hA ?_ | (refine s_w hA ?_; clear hA; (try clear w); intro w hA) | (refine s_v hA ?_; clear hA; (try clear w); intro v w hA hone hnil) | (refine s_b hA ?_; clear hA; (try clear w); intro b w hA) | refine sp (fun h => ?_) (fun h => ?_) | (refine wc_region ?_))
        obtain ⟨E', h1, h2, h3⟩ := hA.freezeList hcs
        exact fp_ret (res1 rfl rfl) ⟨E', _, rfl, h1, h3, h2.tail⟩
end Go.Proofs.YtomfoaaaeidpnaaDoor
