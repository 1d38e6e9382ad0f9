/-
  What a check of macroblocks says, as plain functions; the small functions of mb and kinds, walked.
-/
import Derived.Test.YtomfoaaaeidpnaaDoorSlM
import Derived.Test.YtomfoaaaeidpnaaDoorM0
import Derived.Test.YtomfoaaaeidpnaaDoorK4
set_option linter.unusedVariables false
set_option linter.unusedSimpArgs false
namespace Go.Proofs.YtomfoaaaeidpnaaDoor
open Go Go.RowKit
attribute [local irreducible] WC RL OW bodyPostM ThenQ BlockQ LoopQ ScopeQ
def codedB (k : UInt8) : Bool := decide (k.toNat < 7) && !decide (k.toNat = 2)
def partsN (k : UInt8) : Nat := if k.toNat = 3 then 1 else if k.toNat = 4 then 2 else if k.toNat = 5 then 2 else if k.toNat = 6 then 4 else 0
/-- The error of a list. -/
def rangedL (l : List Int) (n lo hi : Int) : Int := if (l.length : Int) ≠ n then 2 else if l.all (fun x => decide (lo ≤ x ∧ x ≤ hi)) then 0 else 3
def rangedU (l : List UInt8) (n : Int) (lo hi : Nat) : Int := if (l.length : Int) ≠ n then 2 else if l.all (fun x => decide (lo ≤ x.toNat ∧ x.toNat ≤ hi)) then 0 else 3
def sizeN (c : UInt8) : Nat := if c.toNat = 0 then 16 else if c.toNat = 1 then 15 else if c.toNat = 2 then 16 else if c.toNat = 3 then 4 else if c.toNat = 4 then 15 else 0
structure Rect where
  (x y w h p : Int)
abbrev rectC (r : Rect) : List Value := [vi r.x, vi r.y, vi r.w, vi r.h, vi r.p]
def rectR : Rd Rect := fun _ cs r => cs = rectC r ∧ (0 ≤ r.x ∧ r.x ≤ 1) ∧ (0 ≤ r.y ∧ r.y ≤ 1)
instance : RdMono rectR := ⟨fun _ h => h, fun h u hu => by rw [h.1] at hu; simp at hu; rcases hu with rfl | rfl | rfl | rfl | rfl <;> rfl⟩
def quart (s : Nat) : List Rect :=
  if s = 0 then [⟨0, 0, 2, 2, 0⟩] else if s = 1 then [⟨0, 0, 2, 1, 0⟩, ⟨0, 1, 2, 1, 0⟩] else if s = 2 then [⟨0, 0, 1, 2, 0⟩, ⟨1, 0, 1, 2, 0⟩] else [⟨0, 0, 1, 1, 0⟩, ⟨1, 0, 1, 1, 0⟩, ⟨0, 1, 1, 1, 0⟩, ⟨1, 1, 1, 1, 0⟩]
/-- What the variables of mb and kinds hold. -/
structure MbG (E : Env) : Prop where
  sizes : ∀ i n, ([16, 15, 16, 4, 15] : List Int)[i]? = some n → E.cell? ⟨0, i, none⟩ = some (vi n)
  quarters : ∀ s, s < 4 → ∃ q, E.cell? ⟨1, s, none⟩ = some q ∧ ListE rectR 5 E q (quart s)
theorem MbG.mono {E E' : Env} (h : MbG E) (hE : E.Le E') : MbG E' := ⟨fun i n hi => hE.cell (h.sizes i n hi), fun s hs => by obtain ⟨q, h1, h2⟩ := h.quarters s hs; exact ⟨q, hE.cell h1, h2.mono hE⟩⟩
theorem coded_calls (k : UInt8) (E : Env) (L : List Item) (w : World) (hA : Sat E L w) :
    Calls Tryd.prog 72 ⟨[u8 k]⟩ w (Ret E L (.bool (codedB k))) := by
  refine enter (fn := Tryd.f72) Tryd.func72 rfl 9 rfl [u8 k, undef, undef, undef, undef, undef, undef, undef, undef] rfl ?_
  have e : codedB k = (decide ((k.toNat : Int) < 7) && !decide ((k.toNat : Int) = 2)) := by
    unfold codedB; congr 1
    · exact decide_eq_decide.2 (by omega)
    · congr 1; exact decide_eq_decide.2 (by omega)
  repeat' (first | refine st ?_ | refine sr ?_ | refine sl hA ?_ | (refine s_w hA ?_; clear hA; (try clear w); intro w hA) | (refine s_v hA ?_; clear hA; (try clear w); intro v w hA hone hnil) | (refine s_b hA ?_; clear hA; (try clear w); intro b w hA) | refine sp (fun h => ?_) (fun h => ?_) | (refine wc_regionS 1 rfl ?_; refine wc_region ?_))
  refine wc_region ?_
  refine rv hA ?_; clear hA; intro w hA
  refine rv hA ?_; clear hA; intro w hA
  refine rv hA ?_; clear hA; intro w hA
  refine rt hA ?_; clear hA; intro w hA
  refine rt hA ?_; clear hA; intro w hA
  refine rv hA ?_; clear hA; intro w hA
  refine rv hA ?_; clear hA; intro w hA
  refine rl_nil ?_
  repeat' (first | refine st ?_ | refine sr ?_ | refine sl hA ?_ | (refine s_w hA ?_; clear hA; (try clear w); intro w hA) | (refine s_v hA ?_; clear hA; (try clear w); intro v w hA hone hnil) | (refine s_b hA ?_; clear hA; (try clear w); intro b w hA) | refine sp (fun h => ?_) (fun h => ?_) | (refine wc_region ?_))
  exact ret1 hA rfl (by rw [e]; rfl)
theorem intra_calls (k : UInt8) (E : Env) (L : List Item) (w : World) (hA : Sat E L w) :
    Calls Tryd.prog 62 ⟨[u8 k]⟩ w (Ret E L (.bool (decide (k.toNat ≤ 2)))) := by
  refine enter (fn := Tryd.f62) Tryd.func62 rfl 5 rfl [u8 k, undef, undef, undef, undef] rfl ?_
  repeat' (first | refine st ?_ | refine sr ?_ | refine sl hA ?_ | (refine s_w hA ?_; clear hA; (try clear w); intro w hA) | (refine s_v hA ?_; clear hA; (try clear w); intro v w hA hone hnil) | (refine s_b hA ?_; clear hA; (try clear w); intro b w hA) | refine sp (fun h => ?_) (fun h => ?_) | (refine wc_region ?_))
  exact ret1 hA rfl (by
    show Value.bool _ = _
    congr 1
    exact decide_eq_decide.2 (by omega))
theorem parts_calls (k : UInt8) (E : Env) (L : List Item) (w : World) (hA : Sat E L w) :
    Calls Tryd.prog 63 ⟨[u8 k]⟩ w (Ret E L (vi (partsN k))) := by
  have hk := k.toNat_lt
  refine enter (fn := Tryd.f63) Tryd.func63 rfl 13 rfl [u8 k, undef, undef, undef, undef, undef, undef, undef, undef, undef, undef, undef, undef] rfl ?_
  repeat' (first | refine st ?_ | refine sr ?_ | refine sl hA ?_ | (refine s_w hA ?_; clear hA; (try clear w); intro w hA) | (refine s_v hA ?_; clear hA; (try clear w); intro v w hA hone hnil) | (refine s_b hA ?_; clear hA; (try clear w); intro b w hA) | refine sp (fun h => ?_) (fun h => ?_) | (refine wc_regionS 1 rfl ?_; refine wc_region ?_))
  refine wc_region ?_
  refine rv hA ?_; clear hA; intro w hA
  refine rv hA ?_; clear hA; intro w hA
  refine rv hA ?_; clear hA; intro w hA
  refine rf hA ?_; clear hA; intro w hA
  refine rf hA ?_; clear hA; intro w hA
  refine rv hA ?_; clear hA; intro w hA
  refine rl_nil ?_
  by_cases h1 : k.toNat < 3 ∨ 6 < k.toNat
  · have e : partsN k = 0 := by unfold partsN; rw [if_neg (by omega), if_neg (by omega), if_neg (by omega), if_neg (by omega)]
    rw [e]
    repeat' (first | (refine wc_bb rfl (fun h => ?_) (fun h => ?_)) | refine st ?_ | refine sr ?_ | refine sl hA ?_ | (refine s_w hA ?_; clear hA; (try clear w); intro w hA) | (refine s_v hA ?_; clear hA; (try clear w); intro v w hA hone hnil) | (refine s_b hA ?_; clear hA; (try clear w); intro b w hA) | refine sp (fun h => ?_) (fun h => ?_) | (refine wc_region ?_))
    · exact ret1 hA rfl rfl
    · exfalso
      simp at h; omega
  · repeat' (first | (refine wc_bb rfl (fun h => ?_) (fun h => ?_)) | refine st ?_ | refine sr ?_ | refine sl hA ?_ | (refine s_w hA ?_; clear hA; (try clear w); intro w hA) | (refine s_v hA ?_; clear hA; (try clear w); intro v w hA hone hnil) | (refine s_b hA ?_; clear hA; (try clear w); intro b w hA) | refine sp (fun h => ?_) (fun h => ?_) | (refine wc_regionS 3 rfl ?_; refine wc_region ?_))
    · exfalso
      simp at h; omega
    have h3 : k = 3 ∨ k = 4 ∨ k = 5 ∨ k = 6 := by simp only [← UInt8.toNat_inj]; show k.toNat = 3 ∨ k.toNat = 4 ∨ k.toNat = 5 ∨ k.toNat = 6; omega
    have e3 : (3 : UInt8).toNat = 3 := rfl
    have e4 : (4 : UInt8).toNat = 4 := rfl
    have e5 : (5 : UInt8).toNat = 5 := rfl
    have e6 : (6 : UInt8).toNat = 6 := rfl
    rcases h3 with rfl | rfl | rfl | rfl
    · repeat' (first | (refine g_ow ?_; refine t_buildArr (by rfl) ?_; refine rn ?_) | (refine g_idx ?_; refine t_index_arr rfl rfl rfl (by omega) (by rfl) ?_; refine rn ?_) | refine st ?_ | refine sr ?_ | refine sl hA ?_ | (refine s_w hA ?_; clear hA; (try clear w); intro w hA) | (refine s_v hA ?_; clear hA; (try clear w); intro v w hA hone hnil) | (refine s_b hA ?_; clear hA; (try clear w); intro b w hA) | refine sp (fun h => ?_) (fun h => ?_) | (refine wc_region ?_))
      exact ret1 hA rfl rfl
    · repeat' (first | (refine g_ow ?_; refine t_buildArr (by rfl) ?_; refine rn ?_) | (refine g_idx ?_; refine t_index_arr rfl rfl rfl (by omega) (by rfl) ?_; refine rn ?_) | refine st ?_ | refine sr ?_ | refine sl hA ?_ | (refine s_w hA ?_; clear hA; (try clear w); intro w hA) | (refine s_v hA ?_; clear hA; (try clear w); intro v w hA hone hnil) | (refine s_b hA ?_; clear hA; (try clear w); intro b w hA) | refine sp (fun h => ?_) (fun h => ?_) | (refine wc_region ?_))
      exact ret1 hA rfl rfl
    · repeat' (first | (refine g_ow ?_; refine t_buildArr (by rfl) ?_; refine rn ?_) | (refine g_idx ?_; refine t_index_arr rfl rfl rfl (by omega) (by rfl) ?_; refine rn ?_) | refine st ?_ | refine sr ?_ | refine sl hA ?_ | (refine s_w hA ?_; clear hA; (try clear w); intro w hA) | (refine s_v hA ?_; clear hA; (try clear w); intro v w hA hone hnil) | (refine s_b hA ?_; clear hA; (try clear w); intro b w hA) | refine sp (fun h => ?_) (fun h => ?_) | (refine wc_region ?_))
      exact ret1 hA rfl rfl
    · repeat' (first | (refine g_ow ?_; refine t_buildArr (by rfl) ?_; refine rn ?_) | (refine g_idx ?_; refine t_index_arr rfl rfl rfl (by omega) (by rfl) ?_; refine rn ?_) | refine st ?_ | refine sr ?_ | refine sl hA ?_ | (refine s_w hA ?_; clear hA; (try clear w); intro w hA) | (refine s_v hA ?_; clear hA; (try clear w); intro v w hA hone hnil) | (refine s_b hA ?_; clear hA; (try clear w); intro b w hA) | refine sp (fun h => ?_) (fun h => ?_) | (refine wc_region ?_))
      exact ret1 hA rfl rfl
end Go.Proofs.YtomfoaaaeidpnaaDoor
