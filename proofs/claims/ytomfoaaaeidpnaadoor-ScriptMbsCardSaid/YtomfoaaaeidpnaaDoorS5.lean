/-
  script's source: pcm, walked.
-/
import Derived.Test.YtomfoaaaeidpnaaDoorS3
set_option linter.unusedVariables false
set_option linter.unusedSimpArgs false
namespace Go.Proofs.YtomfoaaaeidpnaaDoor
open Go Go.RowKit
attribute [local irreducible] WC RL OW bodyPostM ThenQ BlockQ LoopQ ScopeQ
theorem u8_of (n : Nat) : Value.int .u8 (IntKind.u8.wrap (n : Int)) = u8 (UInt8.ofNat n) := by
  have h : IntKind.u8.wrap (n : Int) = (n : Int) % 256 := rfl
  show Value.int .u8 _ = Value.int .u8 ((UInt8.ofNat n).toNat : Int)
  rw [h, UInt8.toNat_ofNat']
  congr 1
theorem fill_setG {α : Type} (l : List α) (n : Nat) (z x : α) : (l ++ List.replicate (n + 1) z).set l.length x = (l ++ [x]) ++ List.replicate n z := by
  rw [List.set_append_right _ _ (Nat.le_refl _), Nat.sub_self, List.replicate_succ, List.set_cons_zero, List.append_assoc]
  rfl
abbrev nilV : Value := .slice none 0 0
/-- A macroblock of samples. -/
def pcmM (l : List UInt8) : Mb := ⟨2, 0, 0, Vector.replicate 16 0, Vector.replicate 4 0, [], [], 0, 0, [], l⟩
set_option maxRecDepth 16000 in
set_option maxHeartbeats 8000000 in
theorem pcm_calls (bx : Nat) (s : List UInt8) (p : Nat) (E : Env) (L : List Item) (w : World) (hs : s.length ≤ 1000000) (hA : Sat E (src bx s p :: L) w) :
    Calls Tryd.prog 105 ⟨[.pointer (some ⟨bx, 0, none⟩)]⟩ w (fun e w' => e = .returned (.agg ⟨mbC (pcmM (pcmP (strm s) p).1) nilV nilV nilV⟩) ∧ Sat E (src bx s (pcmP (strm s) p).2 :: L) w') := by
  have ha8 : (tk 256 (strm s) p).1 < 256 := Nat.mod_lt _ (by decide)
  have hd8 : (tk 256 (strm s) (p + 1)).1 < 256 := Nat.mod_lt _ (by decide)
  have hpc : pcmP (strm s) p = ((List.range 384).map fun i => UInt8.ofNat ((tk 256 (strm s) p).1 + (tk 256 (strm s) (p + 1)).1 * i), p + 1 + 1) := rfl
  have ez : zeroRow [Value.int .u8 0] 384 = (List.replicate 384 (0 : UInt8)).map u8 := by kernel_rfl
  refine enter (fn := Tryd.f105) Tryd.func105 rfl 30 rfl [.pointer (some ⟨bx, 0, none⟩), undef, undef, undef, undef, undef, undef, undef, undef, undef, undef, undef, undef, undef, undef, undef, undef, undef, undef, undef, undef, undef, undef, undef, undef, undef, undef, undef, undef, undef] rfl ?_
  repeat' (first | refine st ?_ | (refine wc_regionS 1 rfl ?_; refine wc_region ?_) | (refine su ?_; refine rn ?_) | (refine g_conv ?_; refine p_c hA ?_; refine rn ?_) | (refine g_load ?_; (first | refine t_loadx rfl hA ?_ | refine t_loada rfl hA ?_); refine rn ?_) | (refine g_call ?_; refine t_appx rfl rfl hA rfl ?_; clear hA; (try clear w); intro v w hA hone hnil; refine h_n hA ?_; clear hA; intro hA; refine rn ?_) | (refine g_store ?_; (first | refine t_storex rfl rfl hA ?_ | refine t_storea rfl rfl hA ?_); clear hA; (try clear w); intro w hA; refine h_m hA ?_; clear hA; intro hA; refine rn ?_) | (refine g_ow ?_; (first | refine t_alloc hA ?_ | refine ow_box rfl rfl hA ?_ | refine t_buildSlice rfl (by decide) rfl hA ?_); clear hA; (try clear w); intro b w hA; refine h_n hA ?_; clear hA; intro hA; refine rn ?_) | (refine g_ow ?_; refine t_make rfl rfl (by omega) (by omega) hA ?_; clear hA; (try clear w); intro v w hA hone hnil; refine rn ?_) | refine wc_pp rfl (fun h => ?_) (fun h => ?_) | refine wc_nn rfl (fun h => ?_) (fun h => ?_) | refine rl_pp rfl (fun h => o_n ?_) (fun h => rn ?_) | refine rl_qq rfl (fun h => o_n ?_) (fun h => rn ?_) | refine rl_nn rfl (fun h => o_n ?_) (fun h => rn ?_) | refine rl_mm rfl (fun h => o_n ?_) (fun h => rn ?_))
  generalize hb2 : b = b2 at *
  clear hb2
  have hA := hA.perm (List.Perm.swap _ _ _)
  generalize hz : ([Go.Value.int Go.IntKind.u8 0, Go.Value.int Go.IntKind.u8 0, Go.Value.int Go.IntKind.u8 0, Go.Value.int Go.IntKind.u8 0, Go.Value.int Go.IntKind.u8 0, Go.Value.int Go.IntKind.u8 0, Go.Value.int Go.IntKind.u8 0, Go.Value.int Go.IntKind.u8 0, Go.Value.int Go.IntKind.u8 0, Go.Value.int Go.IntKind.u8 0, Go.Value.int Go.IntKind.u8 0, Go.Value.int Go.IntKind.u8 0, Go.Value.int Go.IntKind.u8 0, Go.Value.int Go.IntKind.u8 0, Go.Value.int Go.IntKind.u8 0, Go.Value.int Go.IntKind.u8 0, Go.Value.int Go.IntKind.u8 0, Go.Value.int Go.IntKind.u8 0, Go.Value.int Go.IntKind.u8 0, Go.Value.int Go.IntKind.u8 0, Go.Value.int Go.IntKind.u8 0, Go.Value.int Go.IntKind.u8 0, Go.Value.int Go.IntKind.u8 0, Go.Value.slice none 0 0, Go.Value.slice none 0 0, Go.Value.int Go.IntKind.u8 0, Go.Value.int Go.IntKind.i64 0, Go.Value.slice none 0 0, Go.Value.string { data := #[] }] : List Value) = zm at hA
  repeat' (first | (refine g_callf 84 ?_; refine ow_call Tryd.call84 rfl ((take_calls _ _ _ _ _ _ 256 256 rfl (by omega) hs hA).mono ?_); clear hA; (try clear w); rintro e w ⟨rfl, hA⟩; refine ⟨_, rfl, ?_⟩; refine rn ?_) | refine st ?_ | (refine wc_regionS 2 rfl ?_; refine wc_region ?_) | (refine su ?_; refine rn ?_) | (refine g_conv ?_; refine p_c hA ?_; refine rn ?_) | (refine g_load ?_; (first | refine t_loadx rfl hA ?_ | refine t_loada rfl hA ?_); refine rn ?_) | (refine g_call ?_; refine t_appx rfl rfl hA rfl ?_; clear hA; (try clear w); intro v w hA hone hnil; refine h_n hA ?_; clear hA; intro hA; refine rn ?_) | (refine g_store ?_; (first | refine t_storex rfl rfl hA ?_ | refine t_storea rfl rfl hA ?_); clear hA; (try clear w); intro w hA; refine h_m hA ?_; clear hA; intro hA; refine rn ?_) | (refine g_ow ?_; (first | refine t_alloc hA ?_ | refine ow_box rfl rfl hA ?_ | refine t_buildSlice rfl (by decide) rfl hA ?_); clear hA; (try clear w); intro b w hA; refine h_n hA ?_; clear hA; intro hA; refine rn ?_) | (refine g_ow ?_; refine t_make rfl rfl (by omega) (by omega) hA ?_; clear hA; (try clear w); intro v w hA hone hnil; refine rn ?_) | refine wc_pp rfl (fun h => ?_) (fun h => ?_) | refine wc_nn rfl (fun h => ?_) (fun h => ?_) | refine rl_pp rfl (fun h => o_n ?_) (fun h => rn ?_) | refine rl_qq rfl (fun h => o_n ?_) (fun h => rn ?_) | refine rl_nn rfl (fun h => o_n ?_) (fun h => rn ?_) | refine rl_mm rfl (fun h => o_n ?_) (fun h => rn ?_))
  rw [hpc]
  generalize (tk 256 (strm s) p).1 = a at *
  generalize (tk 256 (strm s) (p + 1)).1 = d at *
  clear hpc
  have hf : ∀ i, (List.range (i + 1)).map (fun i => UInt8.ofNat (a + d * i)) = (List.range i).map (fun i => UInt8.ofNat (a + d * i)) ++ [UInt8.ofNat (a + d * i)] := fun i => by rw [List.range_succ, List.map_append]; rfl
  have hfl : ∀ i, ((List.range i).map (fun i => UInt8.ofNat (a + d * i))).length = i := fun i => by simp
  generalize hF : (fun i => (List.range i).map (fun i => UInt8.ofNat (a + d * i))) = F at *
  have hF' : ∀ i, (List.range i).map (fun i => UInt8.ofNat (a + d * i)) = F i := fun i => by rw [← hF]
  simp only [hF'] at hf hfl
  rw [hF']
  repeat' (first | (refine g_ow ?_; refine t_makeN (n := 384) (by rfl) rfl rfl (by omega) (by omega) hA ?_; clear hA; intro v w hA hv1 hv2; rw [ez] at hA; refine rn ?_) | (refine g_call ?_; refine t_lenR 0 rfl hA rfl ?_; refine rn ?_) | refine st ?_ | (refine wc_regionS 4 rfl ?_; refine wc_region ?_) | (refine su ?_; refine rn ?_) | (refine g_conv ?_; refine p_c hA ?_; refine rn ?_) | (refine g_load ?_; (first | refine t_loadx rfl hA ?_ | refine t_loada rfl hA ?_); refine rn ?_) | (refine g_call ?_; refine t_appx rfl rfl hA rfl ?_; clear hA; (try clear w); intro v w hA hone hnil; refine h_n hA ?_; clear hA; intro hA; refine rn ?_) | (refine g_store ?_; (first | refine t_storex rfl rfl hA ?_ | refine t_storea rfl rfl hA ?_); clear hA; (try clear w); intro w hA; refine h_m hA ?_; clear hA; intro hA; refine rn ?_) | (refine g_ow ?_; (first | refine t_alloc hA ?_ | refine ow_box rfl rfl hA ?_ | refine t_buildSlice rfl (by decide) rfl hA ?_); clear hA; (try clear w); intro b w hA; refine h_n hA ?_; clear hA; intro hA; refine rn ?_) | (refine g_ow ?_; refine t_make rfl rfl (by omega) (by omega) hA ?_; clear hA; (try clear w); intro v w hA hone hnil; refine rn ?_) | refine wc_pp rfl (fun h => ?_) (fun h => ?_) | refine wc_nn rfl (fun h => ?_) (fun h => ?_) | refine rl_pp rfl (fun h => o_n ?_) (fun h => rn ?_) | refine rl_qq rfl (fun h => o_n ?_) (fun h => rn ?_) | refine rl_nn rfl (fun h => o_n ?_) (fun h => rn ?_) | refine rl_mm rfl (fun h => o_n ?_) (fun h => rn ?_))
  have h0 : F 0 = [] := by rw [← hF]; rfl
  have hl0 : Sat E (row 5 1 v 384 ((F 0 ++ List.replicate (384 - 0) 0).map u8) :: src bx s (p + 1 + 1) :: cells b2 zm 28 :: L) w := by rw [h0]; exact hA
  clear hA
  refine wc_loopn (fun q l w => ∃ (i : Nat), (∃ jk : Nat → Value, l = [.pointer (some ⟨bx, 0, none⟩), jk 1, .pointer (some ⟨b2, 0, none⟩), vi a, vi d, v, jk 6, jk 7, jk 8, jk 9, jk 10, jk 11, jk 12, .int .i64 384, .int .i64 (i : Int), jk 15, jk 16, jk 17, jk 18, jk 19, jk 20, jk 21, jk 22, jk 23, jk 24, jk 25, jk 26, jk 27, jk 28, jk 29]) ∧ i + q = 384 ∧ Sat E (row 5 1 v 384 ((F i ++ List.replicate (384 - i) 0).map u8) :: src bx s (p + 1 + 1) :: cells b2 zm 28 :: L) w) 384 ⟨0, (ex_getD rfl), by omega, hl0⟩ ?_
  clear hl0
  rintro q l w ⟨i, ⟨jk, rfl⟩, hi, hA⟩
  by_cases hlt : i < 384
  · have hdi : d * i ≤ 255 * 384 := Nat.mul_le_mul (by omega) (by omega)
    have hdi2 : (d : Int) * (i : Int) = ((d * i : Nat) : Int) := by push_cast; rfl
    have e8 : Value.int .u8 (IntKind.u8.wrap ((a : Int) + (d : Int) * (i : Int))) = u8 (UInt8.ofNat (a + d * i)) := by
      rw [← u8_of, hdi2]
      congr 2
    repeat' (first | (refine g_bin ?_; refine ow_mul64 rfl rfl (by rw [hdi2]; omega) ?_; refine rn ?_) | (refine g_bin ?_; refine ow_add64 rfl rfl (by rw [hdi2]; omega) ?_; refine rn ?_) | (refine g_ow ?_; refine t_conv rfl ?_; rw [e8]; refine rn ?_) | (refine g_ow ?_; refine t_indexAddrR 0 rfl hA rfl rfl (by omega) ?_; refine rn ?_) | (refine g_ow ?_; refine t_store_row 0 rfl rfl rfl hA rfl (by simp [hfl]; omega) ?_; clear hA; intro w hA; refine rn ?_) | refine st ?_ | (refine wc_region ?_) | (refine su ?_; refine rn ?_) | (refine g_conv ?_; refine p_c hA ?_; refine rn ?_) | (refine g_load ?_; (first | refine t_loadx rfl hA ?_ | refine t_loada rfl hA ?_); refine rn ?_) | (refine g_call ?_; refine t_appx rfl rfl hA rfl ?_; clear hA; (try clear w); intro v w hA hone hnil; refine h_n hA ?_; clear hA; intro hA; refine rn ?_) | (refine g_store ?_; (first | refine t_storex rfl rfl hA ?_ | refine t_storea rfl rfl hA ?_); clear hA; (try clear w); intro w hA; refine h_m hA ?_; clear hA; intro hA; refine rn ?_) | (refine g_ow ?_; (first | refine t_alloc hA ?_ | refine ow_box rfl rfl hA ?_ | refine t_buildSlice rfl (by decide) rfl hA ?_); clear hA; (try clear w); intro b w hA; refine h_n hA ?_; clear hA; intro hA; refine rn ?_) | (refine g_ow ?_; refine t_make rfl rfl (by omega) (by omega) hA ?_; clear hA; (try clear w); intro v w hA hone hnil; refine rn ?_) | refine wc_pp rfl (fun h => ?_) (fun h => ?_) | refine wc_nn rfl (fun h => ?_) (fun h => ?_) | refine rl_pp rfl (fun h => o_n ?_) (fun h => rn ?_) | refine rl_qq rfl (fun h => o_n ?_) (fun h => rn ?_) | refine rl_nn rfl (fun h => o_n ?_) (fun h => rn ?_) | refine rl_mm rfl (fun h => o_n ?_) (fun h => rn ?_))
    refine lq_next (q - 1) (by omega) ⟨i + 1, (ex_getD rfl), by omega, ?_⟩
    have hA : Sat E (row 5 1 v 384 (((F i ++ List.replicate (384 - i) 0).map u8).set ((i : Int).toNat * 1) (u8 (UInt8.ofNat (a + d * i)))) :: src bx s (p + 1 + 1) :: cells b2 zm 28 :: L) w := hA
    have hg := fill_setG (F i) (384 - (i + 1)) 0 (UInt8.ofNat (a + d * i))
    rw [hfl] at hg
    rw [Int.toNat_natCast, Nat.mul_one, ← List.map_set, show 384 - i = (384 - (i + 1)) + 1 by omega, hg, ← hf] at hA
    exact hA
  · obtain rfl : i = 384 := by omega
    rw [Nat.sub_self, List.replicate_zero, List.append_nil] at hA
    subst hz
    repeat' (first | (refine g_ow ?_; refine t_bytes_str 0 rfl hA rfl ?_; refine rn ?_) | refine st ?_ | (refine wc_region ?_) | (refine su ?_; refine rn ?_) | (refine g_conv ?_; refine p_c hA ?_; refine rn ?_) | (refine g_load ?_; (first | refine t_loadx rfl hA ?_ | refine t_loada rfl hA ?_); refine rn ?_) | (refine g_call ?_; refine t_appx rfl rfl hA rfl ?_; clear hA; (try clear w); intro v w hA hone hnil; refine h_n hA ?_; clear hA; intro hA; refine rn ?_) | (refine g_store ?_; (first | refine t_storex rfl rfl hA ?_ | refine t_storea rfl rfl hA ?_); clear hA; (try clear w); intro w hA; refine h_m hA ?_; clear hA; intro hA; refine rn ?_) | (refine g_ow ?_; (first | refine t_alloc hA ?_ | refine ow_box rfl rfl hA ?_ | refine t_buildSlice rfl (by decide) rfl hA ?_); clear hA; (try clear w); intro b w hA; refine h_n hA ?_; clear hA; intro hA; refine rn ?_) | (refine g_ow ?_; refine t_make rfl rfl (by omega) (by omega) hA ?_; clear hA; (try clear w); intro v w hA hone hnil; refine rn ?_) | refine wc_pp rfl (fun h => ?_) (fun h => ?_) | refine wc_nn rfl (fun h => ?_) (fun h => ?_) | refine rl_pp rfl (fun h => o_n ?_) (fun h => rn ?_) | refine rl_qq rfl (fun h => o_n ?_) (fun h => rn ?_) | refine rl_nn rfl (fun h => o_n ?_) (fun h => rn ?_) | refine rl_mm rfl (fun h => o_n ?_) (fun h => rn ?_))
    exact fp_ret (resSole rfl (one_cell 2 rfl rfl hA rfl rfl)) ⟨rfl, (hA.tail.perm (List.Perm.swap _ _ _)).tail⟩
end Go.Proofs.YtomfoaaaeidpnaaDoor
