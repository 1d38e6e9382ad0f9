/-
  The reference's lists of errors, walked: rest.
-/
import Derived.Test.YtomfoaaaeidpnaaDoorM14
set_option linter.unusedVariables false
set_option linter.unusedSimpArgs false
namespace Go.Proofs.YtomfoaaaeidpnaaDoor
open Go Go.RowKit
attribute [local irreducible] WC RL OW bodyPostM ThenQ BlockQ LoopQ ScopeQ
def restA (m : Mb) : Int := if codedB m.kind = true then rngE (decide ((m.cbp.toNat : Int) ≤ 47) && ((!decide ((m.kind.toNat : Int) = 1) || decide ((m.cbp.toNat : Int) % 16 = 0)) || decide ((m.cbp.toNat : Int) % 16 = 15))) else absE (decide ((m.cbp.toNat : Int) = 0))
def qpB (m : Mb) : Bool := decide ((m.kind.toNat : Int) = 1) || (codedB m.kind && !decide ((m.cbp.toNat : Int) = 0))
def restB (m : Mb) : Int := if qpB m = true then rngE (decide (-26 ≤ m.qp) && decide (m.qp ≤ 25)) else absE (decide (m.qp = 0))
def restC (m : Mb) : Int := absE (decide ((m.blocks.length : Int) = ((blocksL m).length : Int)))
def blkG (x : Int) : Int := rngE (decide (-32768 ≤ x) && decide (x ≤ 32768))
def blkF (b : List Int) (c : Coded) : List Int := [absE (decide ((b.length : Int) = (sizeN c.cat : Int)))] ++ b.map blkG
def blkZ (m : Mb) : List (List Int) := List.zipWith blkF m.blocks (blocksL m)
def restP (m : Mb) : Int := if m.kind.toNat = 2 then absE (decide ((m.pcm.length : Int) = 384)) else absE (decide (m.pcm = []))
def restL (m : Mb) : List Int := [restA m, restB m, restC m] ++ (blkZ m).flatten ++ [restP m]
theorem restA_I (m : Mb) : I64 (restA m) := by unfold restA; split; exact rngE_I _; exact absE_I _
theorem restB_I (m : Mb) : I64 (restB m) := by unfold restB; split; exact rngE_I _; exact absE_I _
theorem restP_I (m : Mb) : I64 (restP m) := by unfold restP; split <;> exact absE_I _
theorem restL_I (m : Mb) : ∀ x ∈ restL m, I64 x := by
  intro x hx
  unfold restL at hx
  simp only [List.mem_append, List.mem_cons, List.not_mem_nil, or_false] at hx
  rcases hx with ((rfl | rfl | rfl) | hx) | rfl
  · exact restA_I m
  · exact restB_I m
  · exact absE_I _
  · obtain ⟨l, hl, hx⟩ := List.mem_flatten.1 hx
    obtain ⟨i, hi⟩ := List.getElem?_of_mem hl
    unfold blkZ at hi
    rw [List.getElem?_zipWith] at hi
    cases hb : m.blocks[i]? with
    | none => rw [hb] at hi; cases hi
    | some b =>
      cases hc : (blocksL m)[i]? with
      | none => rw [hb, hc] at hi; cases hi
      | some c =>
        rw [hb, hc] at hi
        cases hi
        unfold blkF at hx
        simp only [List.mem_append, List.mem_singleton, List.mem_map] at hx
        rcases hx with rfl | ⟨y, _, rfl⟩
        · exact absE_I _
        · exact rngE_I _
  · exact restP_I m
theorem blkZ_step (m : Mb) {i : Nat} {b : List Int} {c : Coded} (hb : m.blocks[i]? = some b) (hc : (blocksL m)[i]? = some c) : ((blkZ m).take (i + 1)).flatten = ((blkZ m).take i).flatten ++ blkF b c := by
  have : (blkZ m)[i]? = some (blkF b c) := by unfold blkZ; rw [List.getElem?_zipWith, hb, hc]
  rw [List.take_add_one, this, List.flatten_append]
  simp
theorem blkZ_all (m : Mb) {i : Nat} (h : ¬ (i < m.blocks.length ∧ i < (blocksL m).length)) : (blkZ m).take i = blkZ m := by
  apply List.take_of_length_le
  unfold blkZ
  rw [List.length_zipWith]
  omega
set_option maxRecDepth 16000 in
set_option maxHeartbeats 8000000 in
theorem rest_calls (m : Mb) (r vv u : Value) (E : Env) (L : List Item) (w : World) (hA : Sat E L w) (hm : MbL E m r vv u) (hf : Fits m) (hfb : ∀ b ∈ m.blocks, b.length ≤ 1000000) :
    Calls Tryd.prog 137 ⟨[.agg ⟨mbC m r vv u⟩]⟩ w (fun e w' => ∃ E' q, e = .returned q ∧ E.Le E' ∧ ListE intR 1 E' q (restL m) ∧ Sat E' L w') := by
  have hf3 := hf.blocks
  have hcb := m.cbp.toNat_lt
  refine enter (fn := Tryd.f137) Tryd.func137 rfl 157 rfl [.agg ⟨mbC m r vv u⟩, undef, undef, undef, undef, undef, undef, undef, undef, undef, undef, undef, undef, undef, undef, undef, undef, undef, undef, undef, undef, undef, undef, undef, undef, undef, undef, undef, undef, undef, undef, undef, undef, undef, undef, undef, undef, undef, undef, undef, undef, undef, undef, undef, undef, undef, undef, undef, undef, undef, undef, undef, undef, undef, undef, undef, undef, undef, undef, undef, undef, undef, undef, undef, undef, undef, undef, undef, undef, undef, undef, undef, undef, undef, undef, undef, undef, undef, undef, undef, undef, undef, undef, undef, undef, undef, undef, undef, undef, undef, undef, undef, undef, undef, undef, undef, undef, undef, undef, undef, undef, undef, undef, undef, undef, undef, undef, undef, undef, undef, undef, undef, undef, undef, undef, undef, undef, undef, undef, undef, undef, undef, undef, undef, undef, undef, undef, undef, undef, undef, undef, undef, undef, undef, undef, undef, undef, undef, undef, undef, undef, undef, undef, undef, undef, undef, undef, undef, undef, undef, undef, undef, undef, undef, undef, undef, undef] rfl ?_
  repeat' (first | refine st ?_ | refine sr ?_ | refine sl hA ?_ | (refine s_w hA ?_; clear hA; (try clear w); intro w hA) | (refine s_v hA ?_; clear hA; (try clear w); intro v w hA hone hnil) | (refine s_b hA ?_; clear hA; (try clear w); intro b w hA) | refine sp (fun h => ?_) (fun h => ?_) | (refine wc_regionS 2 rfl ?_; refine wc_region ?_))
  generalize hb0 : b = b0 at *
  clear hb0
  obtain ⟨E1, hE1, hA1, g1⟩ := hA.freezeCells
  have hmA : MbAt E1 b0 m r vv u := g1
  have hcl := mb_load m r vv u b0 E1 hmA
  replace hm := hm.mono hE1
  have c0 : E1.cell? ⟨b0, 0, none⟩ = some (u8 m.kind) := hmA 0 _ rfl
  have c7 : E1.cell? ⟨b0, 25, none⟩ = some (u8 m.cbp) := hmA 25 _ rfl
  have c8 : E1.cell? ⟨b0, 26, none⟩ = some (vi m.qp) := hmA 26 _ rfl
  have c9 : E1.cell? ⟨b0, 27, none⟩ = some u := hmA 27 _ rfl
  have c10 : E1.cell? ⟨b0, 28, none⟩ = some (vs m.pcm) := hmA 28 _ rfl
  clear hA
  have hA := hA1.nilRow 65 1
  clear hA1 g1 hmA
  refine wc_region ?_
  refine rv hA ?_; clear hA; intro w hA
  refine' rl_v hA ?o2_1 ?k2_1
  case o2_1 => intro w hA; first | (refine t_load_env rfl rfl hA c0 ?_; exact ⟨pe, hA⟩) | (refine oq ?_; exact ⟨pe, hA⟩)
  clear hA; intro w hA; refine rn ?_
  refine' rl_v hA ?o2_2 ?k2_2
  case o2_2 => intro w hA; first | (refine ow_call Tryd.call114 rfl ((refCoded_calls _ _ _ _ hA).mono ?_); clear hA; rintro e w ⟨rfl, hA⟩; refine ⟨_, rfl, ?_⟩; exact ⟨put_eq (by rfl), hA⟩)
  clear hA; intro w hA; refine rn ?_
  refine rl_nil ?_
  refine tq_normal ?_
  refine wc_mid (fun l w => ∃ q, (∃ jk : Nat → Value, l = [jk 0, .pointer (some ⟨b0, 0, none⟩), jk 2, q, jk 4, jk 5, jk 6, jk 7, jk 8, jk 9, jk 10, jk 11, jk 12, jk 13, jk 14, jk 15, jk 16, jk 17, jk 18, jk 19, jk 20, jk 21, jk 22, jk 23, jk 24, jk 25, jk 26, jk 27, jk 28, jk 29, jk 30, jk 31, jk 32, jk 33, jk 34, jk 35, jk 36, jk 37, jk 38, jk 39, jk 40, jk 41, jk 42, jk 43, jk 44, jk 45, jk 46, jk 47, jk 48, jk 49, jk 50, jk 51, jk 52, jk 53, jk 54, jk 55, jk 56, jk 57, jk 58, jk 59, jk 60, jk 61, jk 62, jk 63, jk 64, jk 65, jk 66, jk 67, jk 68, jk 69, jk 70, jk 71, jk 72, jk 73, jk 74, jk 75, jk 76, jk 77, jk 78, jk 79, jk 80, jk 81, jk 82, jk 83, jk 84, jk 85, jk 86, jk 87, jk 88, jk 89, jk 90, jk 91, jk 92, jk 93, jk 94, jk 95, jk 96, jk 97, jk 98, jk 99, jk 100, jk 101, jk 102, jk 103, jk 104, jk 105, jk 106, jk 107, jk 108, jk 109, jk 110, jk 111, jk 112, jk 113, jk 114, jk 115, jk 116, jk 117, jk 118, jk 119, jk 120, jk 121, jk 122, jk 123, jk 124, jk 125, jk 126, jk 127, jk 128, jk 129, jk 130, jk 131, jk 132, jk 133, jk 134, jk 135, jk 136, jk 137, jk 138, jk 139, jk 140, jk 141, jk 142, jk 143, jk 144, jk 145, jk 146, jk 147, jk 148, jk 149, jk 150, jk 151, jk 152, jk 153, jk 154, jk 155, jk 156]) ∧ q.oneCell' = true ∧ Sat E1 (row 65 1 q 1 [vi (restA m)] :: L) w) ?_ ?_
  · refine wc_bb rfl (fun h => ?_) (fun h => ?_)
    · rw [show restA m = _ from if_pos h]
      repeat' (first | refine st ?_ | refine sr ?_ | refine sl hA ?_ | (refine s_w hA ?_; clear hA; (try clear w); intro w hA) | (refine s_v hA ?_; clear hA; (try clear w); intro v w hA hone hnil) | (refine s_b hA ?_; clear hA; (try clear w); intro b w hA) | refine sp (fun h => ?_) (fun h => ?_) | (refine wc_regionS 3 rfl ?_; refine wc_region ?_))
      refine wc_region ?_
      refine' rl_v hA ?o3xto22_0 ?k3xto22_0
      case o3xto22_0 => intro w hA; first | (refine ow_remp rfl rfl (by omega) ?_; exact ⟨pe, hA⟩) | (refine oq ?_; exact ⟨pe, hA⟩)
      clear hA; intro w hA; refine rn ?_
      refine' rl_v hA ?o3xto22_1 ?k3xto22_1
      case o3xto22_1 => intro w hA; first | (refine ow_remp rfl rfl (by omega) ?_; exact ⟨pe, hA⟩) | (refine oq ?_; exact ⟨pe, hA⟩)
      clear hA; intro w hA; refine rn ?_
      refine' rl_v hA ?o3xto22_2 ?k3xto22_2
      case o3xto22_2 => intro w hA; first | (refine t_load_env rfl rfl hA c0 ?_; exact ⟨pe, hA⟩) | (refine t_load_env rfl rfl hA c7 ?_; exact ⟨pe, hA⟩) | (refine ow_remp rfl rfl (by omega) ?_; exact ⟨pe, hA⟩) | (refine oq ?_; exact ⟨pe, hA⟩)
      clear hA; intro w hA; refine rn ?_
      refine' rl_v hA ?o3xto22_3 ?k3xto22_3
      case o3xto22_3 => intro w hA; first | (refine ow_remp rfl rfl (by omega) ?_; exact ⟨pe, hA⟩) | (refine oq ?_; exact ⟨pe, hA⟩)
      clear hA; intro w hA; refine rn ?_
      refine' rl_v hA ?o3xto22_4 ?k3xto22_4
      case o3xto22_4 => intro w hA; first | (refine ow_remp rfl rfl (by omega) ?_; exact ⟨pe, hA⟩) | (refine oq ?_; exact ⟨pe, hA⟩)
      clear hA; intro w hA; refine rn ?_
      first | refine' rl_T rfl hA ?o3xto22_5 ?k3xto22_5 | refine' rl_Tn rfl hA ?o3xto22_5 ?k3xto22_5
      case o3xto22_5 => intro hg w hA; first | (refine ow_remp opr opr (by omega) ?_; exact ⟨pe, hA⟩) | (refine oqg ?_; exact ⟨pe, hA⟩)
      clear hA; intro w hA; refine rn ?_
      first | refine' rl_T rfl hA ?o3xto22_6 ?k3xto22_6 | refine' rl_Tn rfl hA ?o3xto22_6 ?k3xto22_6
      case o3xto22_6 => intro hg w hA; first | (refine t_load_env rfl opr hA c0 ?_; exact ⟨pe, hA⟩) | (refine t_load_env rfl opr hA c7 ?_; exact ⟨pe, hA⟩) | (refine ow_remp opr opr (by omega) ?_; exact ⟨pe, hA⟩) | (refine oqg ?_; exact ⟨pe, hA⟩)
      clear hA; intro w hA; refine rn ?_
      first | refine' rl_T rfl hA ?o3xto22_7 ?k3xto22_7 | refine' rl_Tn rfl hA ?o3xto22_7 ?k3xto22_7
      case o3xto22_7 => intro hg w hA; first | (refine ow_remp opr opr (by omega) ?_; exact ⟨pe, hA⟩) | (refine oqg ?_; exact ⟨pe, hA⟩)
      clear hA; intro w hA; refine rn ?_
      first | refine' rl_T rfl hA ?o3xto22_8 ?k3xto22_8 | refine' rl_Tn rfl hA ?o3xto22_8 ?k3xto22_8
      case o3xto22_8 => intro hg w hA; first | (refine ow_remp opr opr (by omega) ?_; exact ⟨pe, hA⟩) | (refine oqg ?_; exact ⟨pe, hA⟩)
      clear hA; intro w hA; refine rn ?_
      first | refine' rl_F rfl hA ?o3xto22_9 ?k3xto22_9 | refine' rl_Fn rfl hA ?o3xto22_9 ?k3xto22_9
      case o3xto22_9 => intro hg w hA; first | (refine ow_remp opr opr (by omega) ?_; exact ⟨pe, hA⟩) | (refine oqg ?_; exact ⟨pe, hA⟩)
      clear hA; intro w hA; refine rn ?_
      first | refine' rl_F rfl hA ?o3xto22_10 ?k3xto22_10 | refine' rl_Fn rfl hA ?o3xto22_10 ?k3xto22_10
      case o3xto22_10 => intro hg w hA; first | (refine t_load_env rfl opr hA c0 ?_; exact ⟨pe, hA⟩) | (refine t_load_env rfl opr hA c7 ?_; exact ⟨pe, hA⟩) | (refine ow_remp opr opr (by omega) ?_; exact ⟨pe, hA⟩) | (refine oqg ?_; exact ⟨pe, hA⟩)
      clear hA; intro w hA; refine rn ?_
      first | refine' rl_F rfl hA ?o3xto22_11 ?k3xto22_11 | refine' rl_Fn rfl hA ?o3xto22_11 ?k3xto22_11
      case o3xto22_11 => intro hg w hA; first | (refine ow_remp opr opr (by omega) ?_; exact ⟨pe, hA⟩) | (refine oqg ?_; exact ⟨pe, hA⟩)
      clear hA; intro w hA; refine rn ?_
      first | refine' rl_F rfl hA ?o3xto22_12 ?k3xto22_12 | refine' rl_Fn rfl hA ?o3xto22_12 ?k3xto22_12
      case o3xto22_12 => intro hg w hA; first | (refine ow_remp opr opr (by omega) ?_; exact ⟨pe, hA⟩) | (refine oqg ?_; exact ⟨pe, hA⟩)
      clear hA; intro w hA; refine rn ?_
      first | refine' rl_T rfl hA ?o3xto22_13 ?k3xto22_13 | refine' rl_Tn rfl hA ?o3xto22_13 ?k3xto22_13
      case o3xto22_13 => intro hg w hA; first | (refine ow_remp opr opr (by omega) ?_; exact ⟨pe, hA⟩) | (refine oqg ?_; exact ⟨pe, hA⟩)
      clear hA; intro w hA; refine rn ?_
      first | refine' rl_T rfl hA ?o3xto22_14 ?k3xto22_14 | refine' rl_Tn rfl hA ?o3xto22_14 ?k3xto22_14
      case o3xto22_14 => intro hg w hA; first | (refine ow_remp opr opr (by omega) ?_; exact ⟨pe, hA⟩) | (refine oqg ?_; exact ⟨pe, hA⟩)
      clear hA; intro w hA; refine rn ?_
      first | refine' rl_F rfl hA ?o3xto22_15 ?k3xto22_15 | refine' rl_Fn rfl hA ?o3xto22_15 ?k3xto22_15
      case o3xto22_15 => intro hg w hA; first | (refine ow_remp opr opr (by omega) ?_; exact ⟨pe, hA⟩) | (refine oqg ?_; exact ⟨pe, hA⟩)
      clear hA; intro w hA; refine rn ?_
      first | refine' rl_F rfl hA ?o3xto22_16 ?k3xto22_16 | refine' rl_Fn rfl hA ?o3xto22_16 ?k3xto22_16
      case o3xto22_16 => intro hg w hA; first | (refine t_load_env rfl opr hA c0 ?_; exact ⟨pe, hA⟩) | (refine t_load_env rfl opr hA c7 ?_; exact ⟨pe, hA⟩) | (refine ow_remp opr opr (by omega) ?_; exact ⟨pe, hA⟩) | (refine oqg ?_; exact ⟨pe, hA⟩)
      clear hA; intro w hA; refine rn ?_
      first | refine' rl_F rfl hA ?o3xto22_17 ?k3xto22_17 | refine' rl_Fn rfl hA ?o3xto22_17 ?k3xto22_17
      case o3xto22_17 => intro hg w hA; first | (refine ow_remp opr opr (by omega) ?_; exact ⟨pe, hA⟩) | (refine oqg ?_; exact ⟨pe, hA⟩)
      clear hA; intro w hA; refine rn ?_
      first | refine' rl_F rfl hA ?o3xto22_18 ?k3xto22_18 | refine' rl_Fn rfl hA ?o3xto22_18 ?k3xto22_18
      case o3xto22_18 => intro hg w hA; first | (refine ow_remp opr opr (by omega) ?_; exact ⟨pe, hA⟩) | (refine oqg ?_; exact ⟨pe, hA⟩)
      clear hA; intro w hA; refine rn ?_
      first | refine' rl_T rfl hA ?o3xto22_19 ?k3xto22_19 | refine' rl_Tn rfl hA ?o3xto22_19 ?k3xto22_19
      case o3xto22_19 => intro hg w hA; first | (refine ow_remp opr opr (by omega) ?_; exact ⟨pe, hA⟩) | (refine oqg ?_; exact ⟨pe, hA⟩)
      clear hA; intro w hA; refine rn ?_
      refine' rl_v hA ?o3xto22_20 ?k3xto22_20
      case o3xto22_20 => intro w hA; first | (refine ow_remp rfl rfl (by omega) ?_; exact ⟨pe, hA⟩) | (refine oq ?_; exact ⟨pe, hA⟩)
      clear hA; intro w hA; refine rn ?_
      refine' rl_v hA ?o3xto22_21 ?k3xto22_21
      case o3xto22_21 => intro w hA; first | (refine ow_remp rfl rfl (by omega) ?_; exact ⟨pe, hA⟩) | (refine ow_call Tryd.call152 rfl ((rng_calls _ _ _ _ hA).mono ?_); clear hA; rintro e w ⟨rfl, hA⟩; refine ⟨_, rfl, ?_⟩; exact ⟨put_eq (by rfl), hA⟩)
      clear hA; intro w hA; refine rn ?_
      repeat' (first | refine st ?_ | refine sr ?_ | refine sl hA ?_ | (refine s_w hA ?_; clear hA; (try clear w); intro w hA) | (refine s_v hA ?_; clear hA; (try clear w); intro v w hA hone hnil) | (refine s_b hA ?_; clear hA; (try clear w); intro b w hA) | refine sp (fun h => ?_) (fun h => ?_) | (refine wc_region ?_))
      exact mq_normal ⟨_, (ex_getD rfl), by assumption, hA⟩
    · rw [show restA m = _ from if_neg (by rw [h]; decide)]
      repeat' (first | (refine g_ow ?_; refine t_load_env rfl rfl hA c7 ?_; refine rn ?_) | (refine g_callf 153 ?_; refine ow_call Tryd.call153 rfl ((abs_calls _ _ _ _ hA).mono ?_); clear hA; (try clear w); rintro e w ⟨rfl, hA⟩; refine ⟨_, rfl, ?_⟩; refine rn ?_) | refine st ?_ | refine sr ?_ | refine sl hA ?_ | (refine s_w hA ?_; clear hA; (try clear w); intro w hA) | (refine s_v hA ?_; clear hA; (try clear w); intro v w hA hone hnil) | (refine s_b hA ?_; clear hA; (try clear w); intro b w hA) | refine sp (fun h => ?_) (fun h => ?_) | (refine wc_region ?_))
      exact mq_normal ⟨_, (ex_getD rfl), by assumption, hA⟩
  clear hA
  rintro l w ⟨q, ⟨jk, rfl⟩, hone, hA⟩
  repeat' (first | refine st ?_ | refine sr ?_ | refine sl hA ?_ | (refine s_w hA ?_; clear hA; (try clear w); intro w hA) | (refine s_v hA ?_; clear hA; (try clear w); intro v w hA hone hnil) | (refine s_b hA ?_; clear hA; (try clear w); intro b w hA) | refine sp (fun h => ?_) (fun h => ?_) | (refine wc_regionS 5 rfl ?_; refine wc_region ?_))
  refine wc_region ?_
  refine rv hA ?_; clear hA; intro w hA
  refine' rl_v hA ?o5_1 ?k5_1
  case o5_1 => intro w hA; first | (refine t_load_env rfl rfl hA c0 ?_; exact ⟨pe, hA⟩) | (refine t_load_env rfl rfl hA c7 ?_; exact ⟨pe, hA⟩) | (refine oq ?_; exact ⟨pe, hA⟩)
  clear hA; intro w hA; refine rn ?_
  refine rv hA ?_; clear hA; intro w hA
  refine rv hA ?_; clear hA; intro w hA
  refine rf hA ?_; clear hA; intro w hA
  first | refine' rl_F rfl hA ?o5_5 ?k5_5 | refine' rl_Fn rfl hA ?o5_5 ?k5_5
  case o5_5 => intro hg w hA; first | (refine t_load_env rfl opr hA c0 ?_; exact ⟨pe, hA⟩) | (refine t_load_env rfl opr hA c7 ?_; exact ⟨pe, hA⟩) | (refine oqg ?_; exact ⟨pe, hA⟩)
  clear hA; intro w hA; refine rn ?_
  first | refine' rl_F rfl hA ?o5_6 ?k5_6 | refine' rl_Fn rfl hA ?o5_6 ?k5_6
  case o5_6 => intro hg w hA; first | (refine ow_call Tryd.call114 (evs1 opr) ((refCoded_calls _ _ _ _ hA).mono ?_); clear hA; rintro e w ⟨rfl, hA⟩; refine ⟨_, rfl, ?_⟩; exact ⟨put_eq (by rfl), hA⟩)
  clear hA; intro w hA; refine rn ?_
  refine rf hA ?_; clear hA; intro w hA
  refine rt hA ?_; clear hA; intro w hA
  first | refine' rl_T rfl hA ?o5_9 ?k5_9 | refine' rl_Tn rfl hA ?o5_9 ?k5_9
  case o5_9 => intro hg w hA; first | (refine t_load_env rfl opr hA c0 ?_; exact ⟨pe, hA⟩) | (refine t_load_env rfl opr hA c7 ?_; exact ⟨pe, hA⟩) | (refine oqg ?_; exact ⟨pe, hA⟩)
  clear hA; intro w hA; refine rn ?_
  refine rt hA ?_; clear hA; intro w hA
  refine rf hA ?_; clear hA; intro w hA
  refine rv hA ?_; clear hA; intro w hA
  refine rl_nil ?_
  refine tq_normal ?_
  refine wc_mid (fun l w => ∃ q, (∃ jk : Nat → Value, l = [jk 0, .pointer (some ⟨b0, 0, none⟩), jk 2, q, jk 4, jk 5, jk 6, jk 7, jk 8, jk 9, jk 10, jk 11, jk 12, jk 13, jk 14, jk 15, jk 16, jk 17, jk 18, jk 19, jk 20, jk 21, jk 22, jk 23, jk 24, jk 25, jk 26, jk 27, jk 28, jk 29, jk 30, jk 31, jk 32, jk 33, jk 34, jk 35, jk 36, jk 37, jk 38, jk 39, jk 40, jk 41, jk 42, jk 43, jk 44, jk 45, jk 46, jk 47, jk 48, jk 49, jk 50, jk 51, jk 52, jk 53, jk 54, jk 55, jk 56, jk 57, jk 58, jk 59, jk 60, jk 61, jk 62, jk 63, jk 64, jk 65, jk 66, jk 67, jk 68, jk 69, jk 70, jk 71, jk 72, jk 73, jk 74, jk 75, jk 76, jk 77, jk 78, jk 79, jk 80, jk 81, jk 82, jk 83, jk 84, jk 85, jk 86, jk 87, jk 88, jk 89, jk 90, jk 91, jk 92, jk 93, jk 94, jk 95, jk 96, jk 97, jk 98, jk 99, jk 100, jk 101, jk 102, jk 103, jk 104, jk 105, jk 106, jk 107, jk 108, jk 109, jk 110, jk 111, jk 112, jk 113, jk 114, jk 115, jk 116, jk 117, jk 118, jk 119, jk 120, jk 121, jk 122, jk 123, jk 124, jk 125, jk 126, jk 127, jk 128, jk 129, jk 130, jk 131, jk 132, jk 133, jk 134, jk 135, jk 136, jk 137, jk 138, jk 139, jk 140, jk 141, jk 142, jk 143, jk 144, jk 145, jk 146, jk 147, jk 148, jk 149, jk 150, jk 151, jk 152, jk 153, jk 154, jk 155, jk 156]) ∧ q.oneCell' = true ∧ Sat E1 (row 65 1 q 2 [vi (restA m), vi (restB m)] :: L) w) ?_ ?_
  · refine wc_bb rfl (fun h => ?_) (fun h => ?_)
    · rw [show restB m = _ from if_pos h]
      repeat' (first | (refine g_ow ?_; refine t_load_env rfl rfl hA c8 ?_; refine rn ?_) | (refine g_callf 133 ?_; refine ow_call Tryd.call133 rfl ((within_calls _ _ _ _ _ _ hA).mono ?_); clear hA; (try clear w); rintro e w ⟨rfl, hA⟩; refine ⟨_, rfl, ?_⟩; refine rn ?_) | (refine g_callf 152 ?_; refine ow_call Tryd.call152 rfl ((rng_calls _ _ _ _ hA).mono ?_); clear hA; (try clear w); rintro e w ⟨rfl, hA⟩; refine ⟨_, rfl, ?_⟩; refine rn ?_) | refine st ?_ | refine sr ?_ | refine sl hA ?_ | (refine s_w hA ?_; clear hA; (try clear w); intro w hA) | (refine s_v hA ?_; clear hA; (try clear w); intro v w hA hone hnil) | (refine s_b hA ?_; clear hA; (try clear w); intro b w hA) | refine sp (fun h => ?_) (fun h => ?_) | (refine wc_region ?_))
      exact mq_normal ⟨_, (ex_getD rfl), by assumption, hA⟩
    · rw [show restB m = _ from if_neg (by unfold qpB; rw [h]; decide)]
      repeat' (first | (refine g_ow ?_; refine t_load_env rfl rfl hA c8 ?_; refine rn ?_) | (refine g_callf 153 ?_; refine ow_call Tryd.call153 rfl ((abs_calls _ _ _ _ hA).mono ?_); clear hA; (try clear w); rintro e w ⟨rfl, hA⟩; refine ⟨_, rfl, ?_⟩; refine rn ?_) | refine st ?_ | refine sr ?_ | refine sl hA ?_ | (refine s_w hA ?_; clear hA; (try clear w); intro w hA) | (refine s_v hA ?_; clear hA; (try clear w); intro v w hA hone hnil) | (refine s_b hA ?_; clear hA; (try clear w); intro b w hA) | refine sp (fun h => ?_) (fun h => ?_) | (refine wc_region ?_))
      exact mq_normal ⟨_, (ex_getD rfl), by assumption, hA⟩
  clear hA hone
  rintro l w ⟨q, ⟨jk, rfl⟩, hone, hA⟩
  obtain ⟨x9, hs9⟩ := hm.blocks.sl
  repeat' (first | (refine g_ow ?_; refine t_load_agg_env rfl rfl hA hcl rfl ?_; refine rn ?_) | (refine g_callf 141 ?_; refine ow_call Tryd.call141 rfl ((refBlocks_calls m r vv u _ _ _ hA).mono ?_); clear hA; (try clear w); rintro e w ⟨E2, wq, rfl, hE2, hwq, hA⟩; refine ⟨_, rfl, ?_⟩; (try obtain ⟨xw, hsw⟩ := hwq.sl); refine rn ?_) | (refine g_ow ?_; refine t_load_env rfl rfl hA (hE2.cell c9) ?_; refine rn ?_) | (refine g_call ?_; refine t_lenS rfl (hs9.mono hE2) ?_; refine rn ?_) | (refine g_call ?_; refine t_lenS rfl hsw ?_; refine rn ?_) | (refine g_callf 153 ?_; refine ow_call Tryd.call153 rfl ((abs_calls _ _ _ _ hA).mono ?_); clear hA; (try clear w); rintro e w ⟨rfl, hA⟩; refine ⟨_, rfl, ?_⟩; refine rn ?_) | refine st ?_ | refine sr ?_ | refine sl hA ?_ | (refine s_w hA ?_; clear hA; (try clear w); intro w hA) | (refine s_v hA ?_; clear hA; (try clear w); intro v w hA hone hnil) | (refine s_b hA ?_; clear hA; (try clear w); intro b w hA) | refine sp (fun h => ?_) (fun h => ?_) | (refine wc_regionS 10 rfl ?_; refine wc_region ?_))
  have hbl27 := blocksL_len m
  have hbcat := blocksL_cat m
  replace hm := hm.mono hE2
  replace hs9 := hs9.mono hE2
  replace c0 := hE2.cell c0
  replace c9 := hE2.cell c9
  replace c10 := hE2.cell c10
  have ow := hwq.one
  have hI := restL_I m
  rw [show restL m = [restA m, restB m, restC m] ++ (blkZ m).flatten ++ [restP m] from rfl] at hI ⊢
  obtain ⟨pl, hpl⟩ : ∃ pl, [restA m, restB m, restC m] = pl := ⟨_, rfl⟩
  have hA : Sat E2 (row 65 1 v 3 (pl.map vi) :: L) w := by rw [← hpl]; exact hA
  rw [hpl] at hI ⊢
  clear hpl
  repeat' (first | refine st ?_ | refine sr ?_ | refine sl hA ?_ | (refine s_w hA ?_; clear hA; (try clear w); intro w hA) | (refine s_v hA ?_; clear hA; (try clear w); intro v w hA hone hnil) | (refine s_b hA ?_; clear hA; (try clear w); intro b w hA) | refine sp (fun h => ?_) (fun h => ?_) | (refine wc_region ?_))
  refine wc_loopn (fun k l w => ∃ (i n : Nat) (q : Value), (∃ jk : Nat → Value, l = [jk 0, .pointer (some ⟨b0, 0, none⟩), jk 2, q, wq, .int .i64 (i : Int), jk 6, jk 7, jk 8, jk 9, jk 10, jk 11, jk 12, jk 13, jk 14, jk 15, jk 16, jk 17, jk 18, jk 19, jk 20, jk 21, jk 22, jk 23, jk 24, jk 25, jk 26, jk 27, jk 28, jk 29, jk 30, jk 31, jk 32, jk 33, jk 34, jk 35, jk 36, jk 37, jk 38, jk 39, jk 40, jk 41, jk 42, jk 43, jk 44, jk 45, jk 46, jk 47, jk 48, jk 49, jk 50, jk 51, jk 52, jk 53, jk 54, jk 55, jk 56, jk 57, jk 58, jk 59, jk 60, jk 61, jk 62, jk 63, jk 64, jk 65, jk 66, jk 67, jk 68, jk 69, jk 70, jk 71, jk 72, jk 73, jk 74, jk 75, jk 76, jk 77, jk 78, jk 79, jk 80, jk 81, jk 82, jk 83, jk 84, jk 85, jk 86, jk 87, jk 88, jk 89, jk 90, jk 91, jk 92, jk 93, jk 94, jk 95, jk 96, jk 97, jk 98, jk 99, jk 100, jk 101, jk 102, jk 103, jk 104, jk 105, jk 106, jk 107, jk 108, jk 109, jk 110, jk 111, jk 112, jk 113, jk 114, jk 115, jk 116, jk 117, jk 118, jk 119, jk 120, jk 121, jk 122, jk 123, jk 124, jk 125, jk 126, jk 127, jk 128, jk 129, jk 130, jk 131, jk 132, jk 133, jk 134, jk 135, jk 136, jk 137, jk 138, jk 139, jk 140, jk 141, jk 142, jk 143, jk 144, jk 145, jk 146, jk 147, jk 148, jk 149, jk 150, jk 151, jk 152, jk 153, jk 154, jk 155, jk 156]) ∧ i + k = 27 ∧ n ≤ 3 + 1000001 * i ∧ q.oneCell' = true ∧ i ≤ m.blocks.length ∧ i ≤ (blocksL m).length ∧ Sat E2 (row 65 1 q n ((pl ++ ((blkZ m).take i).flatten).map vi) :: L) w) 27 ⟨0, 3, v, (ex_getD rfl), by omega, by omega, hone, by omega, by omega, by rw [show ((blkZ m).take 0).flatten = [] from rfl, List.append_nil]; exact hA⟩ ?_
  clear hA hone
  rintro k l w ⟨i, n, q, ⟨jk, rfl⟩, hi, hn, hone, hib, hiw, hA⟩
  repeat' (first | refine st ?_ | refine sr ?_ | refine sl hA ?_ | (refine s_w hA ?_; clear hA; (try clear w); intro w hA) | (refine s_v hA ?_; clear hA; (try clear w); intro v w hA hone hnil) | (refine s_b hA ?_; clear hA; (try clear w); intro b w hA) | refine sp (fun h => ?_) (fun h => ?_) | (refine wc_regionS 11 rfl ?_; refine wc_region ?_))
  refine wc_region ?_
  refine rv hA ?_; clear hA; intro w hA
  refine rv hA ?_; clear hA; intro w hA
  refine' rl_v hA ?o11_2 ?k11_2
  case o11_2 => intro w hA; first | (refine t_load_env rfl rfl hA c9 ?_; exact ⟨pe, hA⟩) | (refine oq ?_; exact ⟨pe, hA⟩)
  clear hA; intro w hA; refine rn ?_
  refine' rl_v hA ?o11_3 ?k11_3
  case o11_3 => intro w hA; first | (refine t_lenS rfl hs9 ?_; exact ⟨pe, hA⟩) | (refine oq ?_; exact ⟨pe, hA⟩) | (refine t_lenS rfl (by assumption) ?_; exact ⟨pe, hA⟩)
  clear hA; intro w hA; refine rn ?_
  refine rv hA ?_; clear hA; intro w hA
  refine rv hA ?_; clear hA; intro w hA
  refine rt hA ?_; clear hA; intro w hA
  refine rt hA ?_; clear hA; intro w hA
  first | refine' rl_T rfl hA ?o11_8 ?k11_8 | refine' rl_Tn rfl hA ?o11_8 ?k11_8
  case o11_8 => intro hg w hA; first | (refine t_lenS opr hsw ?_; exact ⟨pe, hA⟩) | (refine oqg ?_; exact ⟨pe, hA⟩) | (refine t_lenS opr (by assumption) ?_; exact ⟨pe, hA⟩)
  clear hA; intro w hA; refine rn ?_
  refine rt hA ?_; clear hA; intro w hA
  refine rv hA ?_; clear hA; intro w hA
  refine rl_nil ?_
  by_cases hlt : i < m.blocks.length ∧ i < (blocksL m).length
  · obtain ⟨h1, h2⟩ := hlt
    obtain ⟨y, hy⟩ : ∃ y, m.blocks[i]? = some y := ⟨_, List.getElem?_eq_getElem h1⟩
    obtain ⟨c, hc⟩ : ∃ c, (blocksL m)[i]? = some c := ⟨_, List.getElem?_eq_getElem h2⟩
    have hyl := hfb y (List.mem_of_getElem? hy)
    have hc5 := hbcat c (List.mem_of_getElem? hc)
    obtain ⟨cs, hcsl, ⟨qv, rfl, hq⟩, hg⟩ := hm.blocks.get hy
    have px : E2.cell? ⟨sB u, sO u + (i : Int).toNat * 1, none⟩ = some qv := by rw [Int.toNat_natCast]; exact hg 0 _ rfl
    obtain ⟨cs2, hcsl2, ⟨rfl, hcI⟩, hg2⟩ := hwq.get hc
    have pc : E2.cell? ⟨sB wq, sO wq + (i : Int).toNat * 3, none⟩ = some (u8 c.cat) := by rw [Int.toNat_natCast]; exact hg2 0 _ rfl
    obtain ⟨xq, hsq⟩ := hq.sl
    have oq := hq.one
    have hst := blkZ_step m hy hc
    clear hg hg2
    refine tq_normal ?_
    refine wc_bb rfl (fun h => ?_) (fun h => by simp at h; omega)
    repeat' (first | (refine g_ow ?_; refine t_indexAddrS rfl hsw rfl (by omega) ?_; refine rn ?_) | (refine g_ow ?_; refine t_load_env rfl rfl hA pc ?_; refine rn ?_) | (refine g_callf 142 ?_; refine ow_call Tryd.call142 rfl ((refSize_calls _ _ _ _ hA).mono ?_); clear hA; (try clear w); rintro e w ⟨rfl, hA⟩; refine ⟨_, rfl, ?_⟩; refine rn ?_) | (refine g_ow ?_; refine t_load_env rfl rfl hA c9 ?_; refine rn ?_) | (refine g_ow ?_; refine t_indexAddrS rfl hs9 rfl (by omega) ?_; refine rn ?_) | (refine g_ow ?_; refine t_load_env rfl rfl hA px ?_; refine rn ?_) | (refine g_call ?_; refine t_lenS rfl hsq ?_; refine rn ?_) | (refine g_callf 153 ?_; refine ow_call Tryd.call153 rfl ((abs_calls _ _ _ _ hA).mono ?_); clear hA; (try clear w); rintro e w ⟨rfl, hA⟩; refine ⟨_, rfl, ?_⟩; refine rn ?_) | refine st ?_ | refine sr ?_ | refine sl hA ?_ | (refine s_w hA ?_; clear hA; (try clear w); intro w hA) | (refine s_v hA ?_; clear hA; (try clear w); intro v w hA hone hnil) | (refine s_b hA ?_; clear hA; (try clear w); intro b w hA) | refine sp (fun h => ?_) (fun h => ?_) | (refine wc_region ?_))
    obtain ⟨p2, hp2⟩ : ∃ p2, pl ++ ((blkZ m).take i).flatten ++ [absE (decide ((y.length : Int) = (sizeN c.cat : Int)))] = p2 := ⟨_, rfl⟩
    have hA : Sat E2 (row 65 1 v (n + 1) (p2.map vi) :: L) w := by rw [← hp2, List.map_append]; exact hA
    have hst2 : pl ++ ((blkZ m).take (i + 1)).flatten = p2 ++ y.map blkG := by rw [hst, ← hp2]; simp only [blkF, List.append_assoc]
    clear hp2
    refine wc_loopn (fun k l w => ∃ (j n2 : Nat) (q : Value), (∃ jk : Nat → Value, l = [jk 0, .pointer (some ⟨b0, 0, none⟩), jk 2, q, wq, .int .i64 (i : Int), jk 6, jk 7, .int .i64 (j : Int), jk 9, jk 10, jk 11, jk 12, jk 13, jk 14, jk 15, jk 16, jk 17, jk 18, jk 19, jk 20, jk 21, jk 22, jk 23, jk 24, jk 25, jk 26, jk 27, jk 28, jk 29, jk 30, jk 31, jk 32, jk 33, jk 34, jk 35, jk 36, jk 37, jk 38, jk 39, jk 40, jk 41, jk 42, jk 43, jk 44, jk 45, jk 46, jk 47, jk 48, jk 49, jk 50, jk 51, jk 52, jk 53, jk 54, jk 55, jk 56, jk 57, jk 58, jk 59, jk 60, jk 61, jk 62, jk 63, jk 64, jk 65, jk 66, jk 67, jk 68, jk 69, jk 70, jk 71, jk 72, jk 73, jk 74, jk 75, jk 76, jk 77, jk 78, jk 79, jk 80, jk 81, jk 82, jk 83, jk 84, jk 85, jk 86, jk 87, jk 88, jk 89, jk 90, jk 91, jk 92, jk 93, jk 94, jk 95, jk 96, jk 97, jk 98, jk 99, jk 100, jk 101, jk 102, jk 103, jk 104, jk 105, jk 106, jk 107, jk 108, jk 109, jk 110, jk 111, jk 112, jk 113, jk 114, jk 115, jk 116, jk 117, jk 118, jk 119, jk 120, jk 121, jk 122, jk 123, jk 124, jk 125, jk 126, jk 127, jk 128, jk 129, jk 130, jk 131, jk 132, jk 133, jk 134, jk 135, jk 136, jk 137, jk 138, jk 139, jk 140, jk 141, jk 142, jk 143, jk 144, jk 145, jk 146, jk 147, jk 148, jk 149, jk 150, jk 151, jk 152, jk 153, jk 154, jk 155, jk 156]) ∧ j + k = y.length ∧ n2 = n + 1 + j ∧ q.oneCell' = true ∧ Sat E2 (row 65 1 q n2 ((p2 ++ (y.take j).map blkG).map vi) :: L) w) y.length ⟨0, n + 1, v, (ex_getD rfl), by omega, by omega, by assumption, by rw [show (y.take 0).map blkG = [] from rfl, List.append_nil]; exact hA⟩ ?_
    clear hA hone
    rintro k2 l w ⟨j, n2, q, ⟨jk, rfl⟩, hj, hn2, hone, hA⟩
    by_cases hlj : j < y.length
    · obtain ⟨x, hx⟩ : ∃ x, y[j]? = some x := ⟨_, List.getElem?_eq_getElem hlj⟩
      obtain ⟨cs3, hcsl3, ⟨rfl, hxI⟩, hg3⟩ := hq.get hx
      have pz : E2.cell? ⟨sB qv, sO qv + (j : Int).toNat * 1, none⟩ = some (vi x) := by rw [Int.toNat_natCast]; exact hg3 0 _ rfl
      have hts : y.take (j + 1) = y.take j ++ [x] := by rw [List.take_add_one, hx]; rfl
      repeat' (first | (refine g_ow ?_; refine t_load_env rfl rfl hA c9 ?_; refine rn ?_) | (refine g_ow ?_; refine t_indexAddrS rfl hs9 rfl (by omega) ?_; refine rn ?_) | (refine g_ow ?_; refine t_load_env rfl rfl hA px ?_; refine rn ?_) | (refine g_call ?_; refine t_lenS rfl hsq ?_; refine rn ?_) | (refine g_ow ?_; refine t_indexAddrS rfl hsq rfl (by omega) ?_; refine rn ?_) | (refine g_ow ?_; refine t_load_env rfl rfl hA pz ?_; refine rn ?_) | (refine g_callf 133 ?_; refine ow_call Tryd.call133 rfl ((within_calls _ _ _ _ _ _ hA).mono ?_); clear hA; (try clear w); rintro e w ⟨rfl, hA⟩; refine ⟨_, rfl, ?_⟩; refine rn ?_) | (refine g_callf 152 ?_; refine ow_call Tryd.call152 rfl ((rng_calls _ _ _ _ hA).mono ?_); clear hA; (try clear w); rintro e w ⟨rfl, hA⟩; refine ⟨_, rfl, ?_⟩; refine rn ?_) | refine st ?_ | refine sr ?_ | refine sl hA ?_ | (refine s_w hA ?_; clear hA; (try clear w); intro w hA) | (refine s_v hA ?_; clear hA; (try clear w); intro v w hA hone hnil) | (refine s_b hA ?_; clear hA; (try clear w); intro b w hA) | refine sp (fun h => ?_) (fun h => ?_) | (refine wc_region ?_))
      refine lq_next (k2 - 1) (by omega) ⟨j + 1, n2 + 1, _, (ex_getD rfl), by omega, by omega, by assumption, ?_⟩
      simp only [hts, List.map_append, List.map_cons, List.map_nil, blkG, List.cons_append, List.nil_append, List.append_assoc] at hA ⊢
      exact hA
    · rw [List.take_of_length_le (by omega), ← hst2] at hA
      repeat' (first | (refine g_ow ?_; refine t_load_env rfl rfl hA c9 ?_; refine rn ?_) | (refine g_ow ?_; refine t_indexAddrS rfl hs9 rfl (by omega) ?_; refine rn ?_) | (refine g_ow ?_; refine t_load_env rfl rfl hA px ?_; refine rn ?_) | (refine g_call ?_; refine t_lenS rfl hsq ?_; refine rn ?_) | refine st ?_ | refine sr ?_ | refine sl hA ?_ | (refine s_w hA ?_; clear hA; (try clear w); intro w hA) | (refine s_v hA ?_; clear hA; (try clear w); intro v w hA hone hnil) | (refine s_b hA ?_; clear hA; (try clear w); intro b w hA) | refine sp (fun h => ?_) (fun h => ?_) | (refine wc_region ?_))
      exact lq_next (k - 1) (by omega) ⟨i + 1, n2, q, (ex_getD rfl), by omega, by omega, hone, by omega, by omega, hA⟩
  · rw [blkZ_all m hlt] at hA
    obtain ⟨p2, hp2⟩ : ∃ p2, pl ++ (blkZ m).flatten = p2 := ⟨_, rfl⟩
    rw [hp2] at hA hI ⊢
    refine tq_normal ?_
    refine wc_bb rfl (fun h => by simp at h; omega) (fun h => ?_)
    have ht : ∀ {E3 : Env} {w : World} {q : Value} {n : Nat}, Sat E3 (row 65 1 q n (p2.map vi ++ [vi (restP m)]) :: L) w → ∃ E4, E3.Le E4 ∧ Sat E4 L w ∧ ListE intR 1 E4 q (p2 ++ [restP m]) := by
      intro E3 w q n hA
      have hA : Sat E3 (row 65 1 q n ((p2 ++ [restP m]).map vi) :: L) w := by rw [List.map_append]; exact hA
      have := hA.row_n
      subst this
      exact hA.freezeList (cse_vi hI)
    by_cases hk2 : m.kind.toNat = 2
    · rw [show restP m = absE (decide ((m.pcm.length : Int) = 384)) from if_pos hk2] at ht ⊢
      repeat' (first | (refine g_ow ?_; refine t_load_env rfl rfl hA c0 ?_; refine rn ?_) | (refine g_ow ?_; refine t_load_env rfl rfl hA c10 ?_; refine rn ?_) | (refine g_callf 153 ?_; refine ow_call Tryd.call153 rfl ((abs_calls _ _ _ _ hA).mono ?_); clear hA; (try clear w); rintro e w ⟨rfl, hA⟩; refine ⟨_, rfl, ?_⟩; refine rn ?_) | refine st ?_ | refine sr ?_ | refine sl hA ?_ | (refine s_w hA ?_; clear hA; (try clear w); intro w hA) | (refine s_v hA ?_; clear hA; (try clear w); intro v w hA hone hnil) | (refine s_b hA ?_; clear hA; (try clear w); intro b w hA) | refine sp (fun h => ?_) (fun h => ?_) | (refine wc_region ?_))
      obtain ⟨E4, hE4, hA, hl⟩ := ht hA
      exact fp_ret (res1 rfl rfl) ⟨E4, _, rfl, hE1.trans (hE2.trans hE4), hl, hA⟩
    · rw [show restP m = absE (decide (m.pcm = [])) from if_neg hk2] at ht ⊢
      repeat' (first | (refine g_ow ?_; refine t_load_env rfl rfl hA c0 ?_; refine rn ?_) | (refine g_ow ?_; refine t_load_env rfl rfl hA c10 ?_; refine rn ?_) | (refine g_callf 153 ?_; refine ow_call Tryd.call153 rfl ((abs_calls _ _ _ _ hA).mono ?_); clear hA; (try clear w); rintro e w ⟨rfl, hA⟩; refine ⟨_, rfl, ?_⟩; refine rn ?_) | refine st ?_ | refine sr ?_ | refine sl hA ?_ | (refine s_w hA ?_; clear hA; (try clear w); intro w hA) | (refine s_v hA ?_; clear hA; (try clear w); intro v w hA hone hnil) | (refine s_b hA ?_; clear hA; (try clear w); intro b w hA) | refine sp (fun h => ?_) (fun h => ?_) | (refine wc_region ?_))
      obtain ⟨E4, hE4, hA, hl⟩ := ht hA
      exact fp_ret (res1 rfl rfl) ⟨E4, _, rfl, hE1.trans (hE2.trans hE4), hl, hA⟩
end Go.Proofs.YtomfoaaaeidpnaaDoor
