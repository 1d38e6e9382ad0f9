/-
  spindlelaw38.BoundGrows, walked.
-/
import Derived.Test.YtomfoaaaeidpnaaDoorD3
import Derived.Test.YtomfoaaaeidpnaaDoorD5
import Derived.Test.YtomfoaaaeidpnaaDoorDF
import Derived.Test.YtomfoaaaeidpnaaDoorDG
import Derived.Test.YtomfoaaaeidpnaaDoorSlK
set_option linter.unusedVariables false
set_option linter.unusedSimpArgs false
namespace Go.Proofs.YtomfoaaaeidpnaaDoor
open Go Go.RowKit
attribute [local irreducible] WC RL OW bodyPostM ThenQ BlockQ LoopQ ScopeQ
theorem mb1 {E : Env} {m : Mb} {r v u : Value} (hm : MbL E m r v u) : CsE mbR 29 E (mbC m r v u) [m] := by
  have h := CsE.cons1 (R := mbR) (sz := 29) (cs := mbC m r v u) (x := m) rfl ⟨r, v, u, rfl, hm⟩ (CsE.nil (R := mbR) (sz := 29) (E := E))
  rwa [List.append_nil] at h
def mbOf (y : Value) : List Value := match y with | .agg ⟨cs⟩ => cs | _ => []
section
variable {ro : Option Nat} {P : Program} {l : List Value} {ds : List Deferred} {w : World} {next : List Value → World → Prop} {Q : Exit → Act → World → Prop}
variable {d : Option Tmp} {ty : TypeId} {pos : String} {aft : Array Edge} {g : Option (Nat × Bool)} {T T' : TypeId} {X Y : Operand}
theorem t_minI {k k' : IntKind} {x y : Int} (hx : ev l X = .int k x) (hy : ev l Y = .int k' y) (h : next (put l d (.int k (min x y))) w) :
    OW ro P ⟨d, .call { callee := .builtin .min, args := #[X, Y], argTypes := #[T, T'] }, ty, pos, aft, g⟩ l ds w next Q := by
  refine ow_run (v := .int k (min x y)) ?_ rfl h
  simp [execOp, resolve, invoke, builtin, hx, hy, Lib.run_min_ints]
theorem t_remN {k : IntKind} {x y z : Nat} (hx : ev l X = .int k (x : Int)) (hy : ev l Y = .int k (y : Int)) (h1 : 1 ≤ y) (hz : x % y = z) (h : next (put l d (.int k (z : Int))) w) : OW ro P ⟨d, .binOp .rem T X Y T', ty, pos, aft, g⟩ l ds w next Q :=
  ow_remp hx hy ⟨by omega, by omega⟩ (by rw [← hz] at h; exact_mod_cast h)
end
theorem binsV_abs {m : Mb} {V : List Vec} {B : List (List Int)} (h : validB m = true) (hv : AbsV m.mvds V) (hb : AbsLL m.blocks B) : binsV { m with mvds := V, blocks := B } = binsV m := by
  have hs := valid_sm h
  have hlen : B.map (·.length) = m.blocks.map (·.length) := by
    refine List.ext_getElem? fun i => ?_
    rw [List.getElem?_map, List.getElem?_map]
    have hl := hb.1
    by_cases hi : i < B.length
    · have h1 : B[i]? = some B[i] := List.getElem?_eq_getElem hi
      have h2 : m.blocks[i]? = some (m.blocks[i]'(by omega)) := List.getElem?_eq_getElem (by omega)
      rw [h1, h2]
      exact congrArg some (hb.2 i _ _ h2 h1).1
    · rw [List.getElem?_eq_none (by omega), List.getElem?_eq_none (by omega)]
  have hV : validB { m with mvds := V, blocks := B } = true := by
    refine valid_same hv.1 (fun v hv' => ?_) hlen (fun b hb' x hx => ?_) h
    · obtain ⟨i, hi⟩ := List.getElem?_of_mem hv'
      have hil := (List.getElem?_eq_some_iff.1 hi).1
      have hl := hv.1
      have h2 : m.mvds[i]? = some (m.mvds[i]'(by omega)) := List.getElem?_eq_getElem (by omega)
      have h3 := hv.2 i _ v h2 hi
      have h4 := hs.mvds _ (List.mem_of_getElem? h2)
      omega
    · obtain ⟨i, hi⟩ := List.getElem?_of_mem hb'
      have hil := (List.getElem?_eq_some_iff.1 hi).1
      have hl := hb.1
      have h2 : m.blocks[i]? = some (m.blocks[i]'(by omega)) := List.getElem?_eq_getElem (by omega)
      obtain ⟨h3, h4⟩ := hb.2 i _ b h2 hi
      obtain ⟨j, hj⟩ := List.getElem?_of_mem hx
      have hjl := (List.getElem?_eq_some_iff.1 hj).1
      obtain ⟨u, hu⟩ := get_mid (ys := m.blocks[i]'(by omega)) (n := b.length) h3.symm hjl
      have h5 := h4 j u x hu hj
      have h6 := (hs.blocks _ (List.mem_of_getElem? h2)).2 u (List.mem_of_getElem? hu)
      omega
  have e1 := bins_le (m := m) (V := V) (B := B) hv.1 (fun i x y hx hy => by have := hv.2 i x y hx hy; omega) hb.1 (fun i x y hx hy => ⟨(hb.2 i x y hx hy).1.symm, fun j u w hu hw => by have := (hb.2 i x y hx hy).2 j u w hu hw; omega⟩)
  have e2 : binsN { m with mvds := V, blocks := B } ≤ binsN m := bins_le (m := { m with mvds := V, blocks := B }) (V := m.mvds) (B := m.blocks) hv.1.symm (fun i x y hx hy => by have := hv.2 i y x hy hx; omega) hb.1.symm (fun i x y hx hy => ⟨(hb.2 i y x hy hx).1, fun j u w hu hw => by have := (hb.2 i y x hy hx).2 j w u hw hu; omega⟩)
  unfold binsV
  rw [if_pos h, if_pos hV]
  omega
section
variable (E : Env) (L : List Item) (w : World)
theorem grow_calls (v more most : Int) (h0 : 0 ≤ more ∧ more ≤ 255) (h1 : 0 ≤ most ∧ most ≤ 100000) (hv : v.natAbs ≤ 100000) (hA : Sat E L w) : Calls Tryd.prog 25 ⟨[vi v, vi more, vi most]⟩ w (Ret E L (vi (growI v more most))) := by
  unfold growI
  refine enter (fn := Tryd.f25) Tryd.func25 rfl 20 rfl [vi v, vi more, vi most, undef, undef, undef, undef, undef, undef, undef, undef, undef, undef, undef, undef, undef, undef, undef, undef, undef] rfl ?_
  by_cases h : v < 0
  · rw [if_pos h]
    repeat' (first | (refine g_ow ?_; refine t_unI rfl (by omega) ?_; refine rn ?_) | (refine g_ow ?_; refine t_maxI rfl rfl ?_; refine rn ?_) | refine st ?_ | refine sr ?_ | refine sl hA ?_ | (refine s_w hA ?_; clear hA; (try clear w); intro w hA) | (refine s_v hA ?_; clear hA; (try clear w); intro v w hA hone hnil) | (refine s_b hA ?_; clear hA; (try clear w); intro b w hA) | refine sp (fun h => ?_) (fun h => ?_) | (refine wc_region ?_))
    exact ret1 hA rfl rfl
  · rw [if_neg h]
    repeat' (first | (refine g_ow ?_; refine t_minI rfl rfl ?_; refine rn ?_) | refine st ?_ | refine sr ?_ | refine sl hA ?_ | (refine s_w hA ?_; clear hA; (try clear w); intro w hA) | (refine s_v hA ?_; clear hA; (try clear w); intro v w hA hone hnil) | (refine s_b hA ?_; clear hA; (try clear w); intro b w hA) | refine sp (fun h => ?_) (fun h => ?_) | (refine wc_region ?_))
    exact ret1 hA rfl rfl
end
set_option maxRecDepth 16000 in
set_option maxHeartbeats 8000000 in
theorem boundGrows_calls (m : Mb) (r v u : Value) (i k more : UInt8) (E : Env) (L : List Item) (w : World) (hA : Sat E L w) (hG : MbG E) (hm : MbL E m r v u) (hsh : Short m.blocks) :
    Calls Tryd.prog 4 ⟨[.agg ⟨mbC m r v u⟩, u8 i, u8 k, u8 more]⟩ w (Ret E L (.bool true)) := by
  have o1 := hm.refs.one
  have o2 := hm.mvds.one
  have o3 := hm.blocks.one
  have hfc : ∀ (E : Env) (L : List Item) (w : World) (z : Value), Sat E L w → ListE mbR 29 E z [m] → Calls Tryd.prog 17 ⟨[z, vi 1]⟩ w (Ret E L (.bool (fewM m))) := fun E L w z hA hl => by
    have := few14_calls z [m] 1 E L w hA hl
    rwa [fewB_one] at this
  refine enter (fn := Tryd.f4) Tryd.func4 rfl 162 rfl [.agg ⟨mbC m r v u⟩, u8 i, u8 k, u8 more, undef, undef, undef, undef, undef, undef, undef, undef, undef, undef, undef, undef, undef, undef, undef, undef, undef, undef, undef, undef, undef, undef, undef, undef, undef, undef, undef, undef, undef, undef, undef, undef, undef, undef, undef, undef, undef, undef, undef, undef, undef, undef, undef, undef, undef, undef, undef, undef, undef, undef, undef, undef, undef, undef, undef, undef, undef, undef, undef, undef, undef, undef, undef, undef, undef, undef, undef, undef, undef, undef, undef, undef, undef, undef, undef, undef, undef, undef, undef, undef, undef, undef, undef, undef, undef, undef, undef, undef, undef, undef, undef, undef, undef, undef, undef, undef, undef, undef, undef, undef, undef, undef, undef, undef, undef, undef, undef, undef, undef, undef, undef, undef, undef, undef, undef, undef, undef, undef, undef, undef, undef, undef, undef, undef, undef, undef, undef, undef, undef, undef, undef, undef, undef, undef, undef, undef, undef, undef, undef, undef, undef, undef, undef, undef, undef, undef, undef, undef, undef, undef, undef, undef, undef, undef, undef, undef, undef, undef] rfl ?_
  repeat' (first | refine st ?_ | refine sr ?_ | refine sl hA ?_ | (refine s_w hA ?_; clear hA; (try clear w); intro w hA) | (refine s_v hA ?_; clear hA; (try clear w); intro v w hA hone hnil) | (refine s_b hA ?_; clear hA; (try clear w); intro b w hA) | refine sp (fun h => ?_) (fun h => ?_) | (refine wc_regionS 1 rfl ?_; refine wc_region ?_))
  generalize hb0 : b = b0 at *
  clear hb0
  repeat' (first | refine st ?_ | refine sr ?_ | refine sl hA ?_ | (refine s_w hA ?_; clear hA; (try clear w); intro w hA) | (refine s_v hA ?_; clear hA; (try clear w); intro v w hA hone hnil) | (refine s_b hA ?_; clear hA; (try clear w); intro b w hA) | refine sp (fun h => ?_) (fun h => ?_) | (refine wc_region ?_))
  generalize hb2 : b = b2 at *
  clear hb2
  obtain ⟨E1, hE1, hA, hl⟩ := hA.freezeLitE (R := mbR) (xs := [m]) 0 rfl (mb1 hm) (Nat.le_of_ble_eq_true rfl)
  cases hfw : fewM m with
  | false =>
    rw [hfw] at hfc
    repeat' (first | (refine g_callf 17 ?_; refine ow_call Tryd.call17 rfl ((hfc _ _ _ _ hA hl).mono ?_); clear hA; (try clear w); rintro e w ⟨rfl, hA⟩; refine ⟨_, rfl, ?_⟩; refine rn ?_) | refine st ?_ | refine sr ?_ | refine sl hA ?_ | (refine s_w hA ?_; clear hA; (try clear w); intro w hA) | (refine s_v hA ?_; clear hA; (try clear w); intro v w hA hone hnil) | (refine s_b hA ?_; clear hA; (try clear w); intro b w hA) | refine sp (fun h => ?_) (fun h => ?_) | (refine wc_region ?_))
    exact ret1 (hA.le hE1).tail rfl rfl
  | true =>
  rw [hfw] at hfc
  have hfit := fewM_fits hfw
  have hshort := fewM_short hfw
  have hm1 := hm.mono hE1
  have hG1 := hG.mono hE1
  have hbc := bBins_calls m r v u E1
  cases hvb : validB m with
  | false =>
    have e0 : binsV m = 0 := by unfold binsV; rw [hvb]; rfl
    rw [e0] at hbc
    repeat' (first | (refine g_callf 17 ?_; refine ow_call Tryd.call17 rfl ((hfc _ _ _ _ hA hl).mono ?_); clear hA; (try clear w); rintro e w ⟨rfl, hA⟩; refine ⟨_, rfl, ?_⟩; refine rn ?_) | (refine g_callf 19 ?_; refine ow_call Tryd.call19 rfl ((hbc _ _ hA hm1 hG1).mono ?_); clear hA; (try clear w); rintro e w ⟨rfl, hA⟩; refine ⟨_, rfl, ?_⟩; refine rn ?_) | (refine g_callf 24 ?_; refine ow_call Tryd.call24 rfl ((awake38_calls _ _ _ hA hG1).mono ?_); clear hA; (try clear w); rintro e w ⟨rfl, hA⟩; refine ⟨_, rfl, ?_⟩; refine rn ?_) | refine st ?_ | refine sr ?_ | refine sl hA ?_ | (refine s_w hA ?_; clear hA; (try clear w); intro w hA) | (refine s_v hA ?_; clear hA; (try clear w); intro v w hA hone hnil) | (refine s_b hA ?_; clear hA; (try clear w); intro b w hA) | refine sp (fun h => ?_) (fun h => ?_) | (refine wc_region ?_))
    exact ret1 (hA.le hE1).tail rfl rfl
  | true =>
  have hn2 : 2 ≤ binsV m := by unfold binsV; rw [if_pos hvb]; exact binsN_ge m
  repeat' (first | (refine g_callf 17 ?_; refine ow_call Tryd.call17 rfl ((hfc _ _ _ _ hA hl).mono ?_); clear hA; (try clear w); rintro e w ⟨rfl, hA⟩; refine ⟨_, rfl, ?_⟩; refine rn ?_) | (refine g_callf 19 ?_; refine ow_call Tryd.call19 rfl ((hbc _ _ hA hm1 hG1).mono ?_); clear hA; (try clear w); rintro e w ⟨rfl, hA⟩; refine ⟨_, rfl, ?_⟩; refine rn ?_) | refine st ?_ | refine sr ?_ | refine sl hA ?_ | (refine s_w hA ?_; clear hA; (try clear w); intro w hA) | (refine s_v hA ?_; clear hA; (try clear w); intro v w hA hone hnil) | (refine s_b hA ?_; clear hA; (try clear w); intro b w hA) | refine sp (fun h => ?_) (fun h => ?_) | (refine wc_regionS 6 rfl ?_; refine wc_region ?_))
  have hA : Sat E1 (cells b0 (mbC m r v u) 28 :: L) w := hA
  refine' wc_flowY' 0 (fun _ => undef) (fun ix => match ix with | 6 => [4] | 7 => [5] | _ => []) (fun ix => match ix with | 6 => [4] | 7 => [5] | _ => []) (fun ix => match ix with | 1 => [1] | 3 => [3] | 4 => [4] | 5 => [5] | 6 => [1, 4] | 7 => [3, 5] | _ => []) (fun ix => match ix with | 3 => [1] | _ => []) (mixPhiY [_, undef, _, undef, undef, undef, undef, undef] (fun yy ix => match ix with | 1 => some (cp1 E1 m) | 3 => some (cp2 E1 m (yy 1)) | 4 => some (ptrV) | 5 => some (ptrV) | 6 => some (trueV) | 7 => some (trueV) | _ => none)) (fun ix yy => match ix with | 1 => [row 37 2 (mvOf (yy 1)) m.mvds.length (m.mvds.flatMap vecC)] | 3 => [row 37 2 (mvOf (yy 3)) m.mvds.length (m.mvds.flatMap vecC)] | 4 => [cells (pB (yy 4)) [Go.Value.int Go.IntKind.u8 0, Go.Value.int Go.IntKind.u8 0, Go.Value.int Go.IntKind.u8 0, Go.Value.int Go.IntKind.u8 0, Go.Value.int Go.IntKind.u8 0, Go.Value.int Go.IntKind.u8 0, Go.Value.int Go.IntKind.u8 0, Go.Value.int Go.IntKind.u8 0, Go.Value.int Go.IntKind.u8 0, Go.Value.int Go.IntKind.u8 0, Go.Value.int Go.IntKind.u8 0, Go.Value.int Go.IntKind.u8 0, Go.Value.int Go.IntKind.u8 0, Go.Value.int Go.IntKind.u8 0, Go.Value.int Go.IntKind.u8 0, Go.Value.int Go.IntKind.u8 0, Go.Value.int Go.IntKind.u8 0, Go.Value.int Go.IntKind.u8 0, Go.Value.int Go.IntKind.u8 0, Go.Value.int Go.IntKind.u8 0, Go.Value.int Go.IntKind.u8 0, Go.Value.int Go.IntKind.u8 0, Go.Value.int Go.IntKind.u8 0, Go.Value.slice none 0 0, Go.Value.slice none 0 0, Go.Value.int Go.IntKind.u8 0, Go.Value.int Go.IntKind.i64 0, Go.Value.slice none 0 0, Go.Value.string { data := #[] }] 28] | 5 => [cells (pB (yy 5)) [Go.Value.int Go.IntKind.u8 0, Go.Value.int Go.IntKind.u8 0, Go.Value.int Go.IntKind.u8 0, Go.Value.int Go.IntKind.u8 0, Go.Value.int Go.IntKind.u8 0, Go.Value.int Go.IntKind.u8 0, Go.Value.int Go.IntKind.u8 0, Go.Value.int Go.IntKind.u8 0, Go.Value.int Go.IntKind.u8 0, Go.Value.int Go.IntKind.u8 0, Go.Value.int Go.IntKind.u8 0, Go.Value.int Go.IntKind.u8 0, Go.Value.int Go.IntKind.u8 0, Go.Value.int Go.IntKind.u8 0, Go.Value.int Go.IntKind.u8 0, Go.Value.int Go.IntKind.u8 0, Go.Value.int Go.IntKind.u8 0, Go.Value.int Go.IntKind.u8 0, Go.Value.int Go.IntKind.u8 0, Go.Value.int Go.IntKind.u8 0, Go.Value.int Go.IntKind.u8 0, Go.Value.int Go.IntKind.u8 0, Go.Value.int Go.IntKind.u8 0, Go.Value.slice none 0 0, Go.Value.slice none 0 0, Go.Value.int Go.IntKind.u8 0, Go.Value.int Go.IntKind.i64 0, Go.Value.slice none 0 0, Go.Value.string { data := #[] }] 28] | 6 => [cells (pB (yy 4)) (mbOf (yy 1)) 28] | 7 => [cells (pB (yy 5)) (mbOf (yy 3)) 28] | _ => []) (cells b0 (mbC m r v u) 28 :: L) 8 (by kernel_rfl) rfl (by kernel_rfl) (by kernel_rfl) ?pd6 [(0, 27), (1, 28), (2, 29), (3, 30), (4, 10), (5, 11)] (by kernel_rfl) [0, 1, 2, 3, 6, 7] (by kernel_rfl) [] (by kernel_rfl) hA ?itd6 ?phi6 ?ops6 ?k6
  case pd6 => (intro i y y' h; refine mixPhi_congr ?_; (try dsimp only at h ⊢); split <;> first | rfl | (simp only [List.mem_cons, List.not_mem_nil, or_false, forall_eq_or_imp, forall_eq] at h; simp only [h]; done))
  case itd6 => (intro i y y' h; first | rfl | ((try dsimp only at h ⊢); split <;> first | rfl | (simp only [List.mem_cons, List.not_mem_nil, or_false, forall_eq_or_imp, forall_eq] at h; simp only [h]; done)))
  case phi6 => (intro iy yy; refine mix_mono (fun i p hp E1 E2 v hE h => ?_) iy; (try dsimp only at hp); split at hp <;> first | (cases hp; done) | (obtain rfl := Option.some.inj hp; first | exact ListE.mono h hE | exact ListE.mono h (Env.sub_left _ hE) | exact PMono.mono hE h | exact PMono.mono (Env.sub_left _ hE) h | exact h))
  case ops6 =>
    refine' FlowOpsY.c rfl [] (by decide) [] (by decide) [] rfl [] rfl ?o6_0 ?r6_0
    case o6_0 => intro yy E' Lx w lf hE hph hyp hl hA; (try unfold mixPhiY at hph); replace hl := hz hl; subst hl; (try simp only [List.flatMap_cons, List.flatMap_nil, List.nil_append, List.append_nil, List.cons_append] at hA ⊢); (try clear hph hyp); first | (refine oq ?_; exact ⟨_, E', pe, Env.Le.refl _, mix_mk rfl rfl, hA⟩)
    refine' FlowOpsY.c rfl [(0, 27)] (by decide) [0] (by decide) [] rfl [] rfl ?o6_1 ?r6_1
    case o6_1 => intro yy E' Lx w lf hE hph hyp hl hA; (try unfold mixPhiY at hph); have e0 := mn hph 0; simp only [List.map_cons, List.map_nil, ← e0] at hl; replace hl := hz hl; subst hl; (try simp only [← e0] at hA ⊢); (try simp only [List.flatMap_cons, List.flatMap_nil, List.nil_append, List.append_nil, List.cons_append] at hA ⊢); (try clear hph hyp); refine ow_call Tryd.call18 rfl ((copyMb_apart m r v u _ _ _ hA (hm1.mono hE) hfit).mono ?_); clear hA; rintro e w ⟨D, D1, rA, vA, uA, rfl, h1, h2, h3, h4, h5, hA⟩; exact ⟨_, rfl, _, D1, rfl, h1.trans h2, mix_mkP rfl ⟨E', D, D1, rA, vA, uA, ⟨rfl, hE, h1, h2, h3, h4, h5⟩, Env.Le.refl _⟩, hA⟩
    refine' FlowOpsY.c rfl [] (by decide) [] (by decide) [] rfl [] rfl ?o6_2 ?r6_2
    case o6_2 => intro yy E' Lx w lf hE hph hyp hl hA; (try unfold mixPhiY at hph); replace hl := hz hl; subst hl; (try simp only [List.flatMap_cons, List.flatMap_nil, List.nil_append, List.append_nil, List.cons_append] at hA ⊢); (try clear hph hyp); first | (refine oq ?_; exact ⟨_, E', pe, Env.Le.refl _, mix_mk rfl rfl, hA⟩)
    refine' FlowOpsY.c rfl [(2, 29), (1, 28)] (by decide) [0, 2, 1] (by decide) [] rfl [] rfl ?o6_3 ?r6_3
    case o6_3 => intro yy E' Lx w lf hE hph hyp hl hA; (try unfold mixPhiY at hph); have e0 := mn hph 0; have e2 := mn hph 2; simp only [List.map_cons, List.map_nil, ← e0, ← e2] at hl; replace hl := hz hl; subst hl; have p1 := mp hph 1; (try simp only [← e0, ← e2] at hA ⊢); generalize gy1 : yy 1 = y1 at *; (try simp only [List.flatMap_cons, List.flatMap_nil, List.nil_append, List.append_nil, List.cons_append] at hA ⊢); (try clear hph hyp); subst gy1; obtain ⟨A, D0, D10, r0, q0, u0, hc0, hc1⟩ := p1; refine ow_call Tryd.call18 rfl ((copyMb_apart m r v u _ _ _ hA (hm1.mono hE) hfit).mono ?_); clear hA; rintro e w ⟨D, D1, rA, vA, uA, rfl, h1, h2, h3, h4, h5, hA⟩; exact ⟨_, rfl, _, D1, rfl, h1.trans h2, mix_mkP rfl ⟨A, D0, D10, r0, q0, u0, E', D, D1, rA, vA, uA, hc0, hc1, ⟨rfl, hE, h1, h2, h3, h4, h5⟩, Env.Le.refl _⟩, hA⟩
    refine' FlowOpsY.c rfl [] (by decide) [] (by decide) [] rfl [] rfl ?o6_4 ?r6_4
    case o6_4 => intro yy E' Lx w lf hE hph hyp hl hA; (try unfold mixPhiY at hph); replace hl := hz hl; subst hl; (try simp only [List.flatMap_cons, List.flatMap_nil, List.nil_append, List.append_nil, List.cons_append] at hA ⊢); (try clear hph hyp); refine t_alloc hA ?_; clear hA; intro bb w hA; exact ⟨_, E', rfl, Env.Le.refl _, mix_mkP rfl ⟨bb, rfl⟩, hA⟩
    refine' FlowOpsY.c rfl [] (by decide) [] (by decide) [] rfl [] rfl ?o6_5 ?r6_5
    case o6_5 => intro yy E' Lx w lf hE hph hyp hl hA; (try unfold mixPhiY at hph); replace hl := hz hl; subst hl; (try simp only [List.flatMap_cons, List.flatMap_nil, List.nil_append, List.append_nil, List.cons_append] at hA ⊢); (try clear hph hyp); refine t_alloc hA ?_; clear hA; intro bb w hA; exact ⟨_, E', rfl, Env.Le.refl _, mix_mkP rfl ⟨bb, rfl⟩, hA⟩
    refine' FlowOpsY.c rfl [(4, 10), (1, 28), (3, 30), (0, 27), (5, 11)] (by decide) [2, 4, 1, 3, 0, 5] (by decide) [4] rfl [] rfl ?o6_6 ?r6_6
    case o6_6 => intro yy E' Lx w lf hE hph hyp hl hA; (try unfold mixPhiY at hph); have hu1 : ∀ v, upd yy 6 v 1 = yy 1 := fun _ => rfl; have hu4 : ∀ v, upd yy 6 v 4 = yy 4 := fun _ => rfl; simp only [Nat.reduceAdd, hu1, hu4]; clear hu1 hu4; have e2 := mn hph 2; have e0 := mn hph 0; simp only [List.map_cons, List.map_nil, ← e2, ← e0] at hl; replace hl := hz hl; subst hl; have p4 := mp hph 4; have p1 := mp hph 1; have p3 := mp hph 3; have p5 := mp hph 5; (try simp only [← e2, ← e0] at hA ⊢); generalize gy4 : yy 4 = y4 at *; generalize gy1 : yy 1 = y1 at *; generalize gy3 : yy 3 = y3 at *; generalize gy5 : yy 5 = y5 at *; (try simp only [List.flatMap_cons, List.flatMap_nil, List.nil_append, List.append_nil, List.cons_append] at hA ⊢); (try clear hph hyp); obtain ⟨b4, rfl⟩ := p4; obtain ⟨A, D0, D10, r0, q0, u0, hc0, hc1⟩ := p1; have he := hc0.eq; subst he; have z1 := hc0.refs.one; have z2 := hc0.mvds; have z3 := hc0.blocks.one; refine t_store_agg 0 rfl rfl (by simp only [List.mem_cons, List.not_mem_nil, or_false, forall_eq_or_imp, forall_eq]; (repeat' apply And.intro) <;> first | rfl | assumption) rfl hA rfl (Nat.le_of_ble_eq_true rfl) ?_; clear hA; intro w hA; (try simp only [List.drop_zero, List.drop_nil, List.drop_succ_cons, List.take_succ_cons, List.take_zero, List.length_cons, List.length_nil, Nat.zero_add, Nat.reduceAdd] at hA); refine h_n hA ?_; clear hA; intro hA; exact ⟨undef, E', rfl, Env.Le.refl _, mix_mkP rfl trivial, hA⟩
    refine' FlowOpsY.c rfl [(5, 11), (3, 30), (0, 27), (1, 28), (2, 29), (4, 10)] (by decide) [5, 3, 6, 0, 1, 2, 4] (by decide) [5] rfl [] rfl ?o6_7 ?r6_7
    case o6_7 => intro yy E' Lx w lf hE hph hyp hl hA; (try unfold mixPhiY at hph); have hu3 : ∀ v, upd yy 7 v 3 = yy 3 := fun _ => rfl; have hu5 : ∀ v, upd yy 7 v 5 = yy 5 := fun _ => rfl; simp only [Nat.reduceAdd, hu3, hu5]; clear hu3 hu5; have e0 := mn hph 0; have e2 := mn hph 2; simp only [List.map_cons, List.map_nil, ← e0, ← e2] at hl; replace hl := hz hl; subst hl; have p5 := mp hph 5; have p3 := mp hph 3; have p6 := mp hph 6; have p1 := mp hph 1; have p4 := mp hph 4; (try simp only [← e0, ← e2] at hA ⊢); generalize gy5 : yy 5 = y5 at *; generalize gy3 : yy 3 = y3 at *; generalize gy6 : yy 6 = y6 at *; generalize gy1 : yy 1 = y1 at *; generalize gy4 : yy 4 = y4 at *; (try simp only [List.flatMap_cons, List.flatMap_nil, List.nil_append, List.append_nil, List.cons_append] at hA ⊢); (try clear hph hyp); obtain ⟨b5, rfl⟩ := p5; obtain ⟨A, D0, D10, r0, q0, u0, A', D', D1', r', q', u', hc0, hc1, hc2, hc3⟩ := p3; have he := hc2.eq; subst he; have z1 := hc2.refs.one; have z2 := hc2.mvds; have z3 := hc2.blocks.one; refine t_store_agg 0 rfl rfl (by simp only [List.mem_cons, List.not_mem_nil, or_false, forall_eq_or_imp, forall_eq]; (repeat' apply And.intro) <;> first | rfl | assumption) rfl hA rfl (Nat.le_of_ble_eq_true rfl) ?_; clear hA; intro w hA; (try simp only [List.drop_zero, List.drop_nil, List.drop_succ_cons, List.take_succ_cons, List.take_zero, List.length_cons, List.length_nil, Nat.zero_add, Nat.reduceAdd] at hA); refine h_n hA ?_; clear hA; intro hA; exact ⟨undef, E', rfl, Env.Le.refl _, mix_mkP rfl trivial, hA⟩
    exact FlowOpsY.nil
  case' k6 => (try clear hA); intro yy E' w lf hE hph hyp hl hA; (try unfold mixPhiY at hph); have e0 := mn hph 0; have e2 := mn hph 2; simp only [List.map_cons, List.map_nil, ← e0, ← e2] at hl; replace hl := hz hl; subst hl; have p1 := mp hph 1; have p3 := mp hph 3; have p4 := mp hph 4; have p5 := mp hph 5; have p6 := mp hph 6; have p7 := mp hph 7; (try simp only [← e0, ← e2] at hA); generalize gy1 : yy 1 = y1 at *; generalize gy3 : yy 3 = y3 at *; generalize gy4 : yy 4 = y4 at *; generalize gy5 : yy 5 = y5 at *; generalize gy6 : yy 6 = y6 at *; generalize gy7 : yy 7 = y7 at *; (try simp only [List.flatMap_cons, List.flatMap_nil, List.nil_append, List.append_nil, List.cons_append] at hA); clear hph hyp
  obtain ⟨A, D, D1, r1, q1, u1, A', D', D1', r3, q3, u3, hc1, hle1, hc3, hle3⟩ := p3
  have hy1 := hc1.eq
  have hy3 := hc3.eq
  obtain ⟨b4, rfl⟩ := p4
  obtain ⟨b5, rfl⟩ := p5
  clear gy1 gy3 gy4 gy5 gy6 gy7 p1 p6 p7 y6 y7
  subst hy1 hy3
  have hA : Sat E' (row 37 2 q1 m.mvds.length (m.mvds.flatMap vecC) :: row 37 2 q3 m.mvds.length (m.mvds.flatMap vecC) :: cells b4 (mbC m r1 q1 u1) 28 :: cells b5 (mbC m r3 q3 u3) 28 :: cells b0 (mbC m r v u) 28 :: L) w := hA
  have oq1 := hc1.mvds
  have oq3 := hc3.mvds
  have ou1 := hc1.blocks.one
  have ou3 := hc3.blocks.one
  have or1 := hc1.refs.one
  have or3 := hc3.refs.one
  have hsm := valid_sm hvb
  obtain ⟨cls, hcls⟩ : ∃ cls : Nat → Nat, cls = fun b => if (D.H b).isSome then 1 else if (D1.H b).isSome then 2 else if (D'.H b).isSome then 3 else 4 := ⟨_, rfl⟩
  have hDE' : D1.Le A' := hle1
  have hI0 : Inv E1 E' cls m r1 u1 r3 u3 m.blocks m.blocks := by
    refine ⟨hE, hc1.blocks.mono (sub_on hc1.le0 (hc1.le2.trans (hle1.trans (hc3.le1.trans (hc3.le2.trans hle3)))) fun b o h1 h2 => ?_), hc1.refs.mono (sub_on (hc1.le0.trans hc1.le1) (hle1.trans (hc3.le1.trans (hc3.le2.trans hle3))) fun b o h1 h2 => ?_), hc3.blocks.mono (sub_on hc3.le0 (hc3.le2.trans hle3) fun b o h1 h2 => ?_), hc3.refs.mono (sub_on (hc3.le0.trans hc3.le1) hle3 fun b o h1 h2 => ?_)⟩
    · rw [hcls]; dsimp only; rw [h2]; rfl
    · rw [hcls]; dsimp only; rw [h1, h2]; rfl
    · have k1 : D1.H b = none := by
        cases hb : D1.H b with
        | none => rfl
        | some o' => rw [hle1.H b o' hb] at h1; cases h1
      have k0 : D.H b = none := by
        cases hb : D.H b with
        | none => rfl
        | some o' => rw [hc1.le2.H b o' hb] at k1; cases k1
      rw [hcls]; dsimp only; rw [k0, k1, h2]; rfl
    · have k1 : D1.H b = none := by
        cases hb : D1.H b with
        | none => rfl
        | some o' => rw [hc3.le1.H b o' (hle1.H b o' hb)] at h1; cases h1
      have k0 : D.H b = none := by
        cases hb : D.H b with
        | none => rfl
        | some o' => rw [hc1.le2.H b o' hb] at k1; cases k1
      rw [hcls]; dsimp only; rw [k0, k1, h1]; rfl
  clear hc1 hc3 hle1 hle3 hcls hDE'
  repeat' (first | refine st ?_ | refine sr ?_ | refine sl hA ?_ | (refine s_w hA ?_; clear hA; (try clear w); intro w hA) | (refine s_v hA ?_; clear hA; (try clear w); intro v w hA hone hnil) | (refine s_b hA ?_; clear hA; (try clear w); intro b w hA) | refine sp (fun h => ?_) (fun h => ?_) | (refine wc_region ?_))
  refine wc_loopn (fun t l w => ∃ (a : Nat) (X : Env) (B1 : List (List Int)), (∃ jk : Nat → Value, l = [jk 0, u8 i, u8 k, u8 more, .pointer (some ⟨b0, 0, none⟩), jk 5, jk 6, jk 7, .bool false, vi ((binsV m : Nat) : Int), .pointer (some ⟨b4, 0, none⟩), .pointer (some ⟨b5, 0, none⟩), vi (a : Int), jk 13, jk 14, jk 15, jk 16, jk 17, jk 18, jk 19, jk 20, jk 21, jk 22, jk 23, jk 24, jk 25, jk 26, jk 27, jk 28, jk 29, jk 30, jk 31, jk 32, jk 33, jk 34, jk 35, jk 36, jk 37, jk 38, jk 39, jk 40, jk 41, jk 42, jk 43, jk 44, jk 45, jk 46, jk 47, jk 48, jk 49, jk 50, jk 51, jk 52, jk 53, jk 54, jk 55, jk 56, jk 57, jk 58, jk 59, jk 60, jk 61, jk 62, jk 63, jk 64, jk 65, jk 66, jk 67, jk 68, jk 69, jk 70, jk 71, jk 72, jk 73, jk 74, jk 75, jk 76, jk 77, jk 78, jk 79, jk 80, jk 81, jk 82, jk 83, jk 84, jk 85, jk 86, jk 87, jk 88, jk 89, jk 90, jk 91, jk 92, jk 93, jk 94, jk 95, jk 96, jk 97, jk 98, jk 99, jk 100, jk 101, jk 102, jk 103, jk 104, jk 105, jk 106, jk 107, jk 108, jk 109, jk 110, jk 111, jk 112, jk 113, jk 114, jk 115, jk 116, jk 117, jk 118, jk 119, jk 120, jk 121, jk 122, jk 123, jk 124, jk 125, jk 126, jk 127, jk 128, jk 129, jk 130, jk 131, jk 132, jk 133, jk 134, jk 135, jk 136, jk 137, jk 138, jk 139, jk 140, jk 141, jk 142, jk 143, jk 144, jk 145, jk 146, jk 147, jk 148, jk 149, jk 150, jk 151, jk 152, jk 153, jk 154, jk 155, jk 156, jk 157, jk 158, jk 159, jk 160, jk 161]) ∧ a + t = m.blocks.length ∧ Inv E1 X cls m r1 u1 r3 u3 B1 m.blocks ∧ AbsLL m.blocks B1 ∧ Sat X (row 37 2 q1 m.mvds.length (m.mvds.flatMap vecC) :: row 37 2 q3 m.mvds.length (m.mvds.flatMap vecC) :: cells b4 (mbC m r1 q1 u1) 28 :: cells b5 (mbC m r3 q3 u3) 28 :: cells b0 (mbC m r v u) 28 :: L) w) m.blocks.length ⟨0, E', m.blocks, (ex_getD rfl), by omega, hI0, AbsLL.refl _, hA⟩ ?_
  clear hA hI0
  rintro t l w ⟨a, X, B1, ⟨jk, rfl⟩, ht, hI, hAb, hA⟩
  have hu1 := hI.f1.mono on_sub
  obtain ⟨cu1, hsu1⟩ := hu1.sl
  have hBl := hAb.1
  have hbl27 := hsm.nblocks
  by_cases hlt : a < m.blocks.length
  · obtain ⟨x, hxa⟩ : ∃ x, m.blocks[a]? = some x := ⟨_, List.getElem?_eq_getElem (by omega)⟩
    have hx16 := hsm.blocks x (List.mem_of_getElem? hxa)
    repeat' (first | (refine g_call ?_; refine t_lenS rfl hsu1 ?_; refine rn ?_) | refine st ?_ | refine sr ?_ | refine sl hA ?_ | (refine s_w hA ?_; clear hA; (try clear w); intro w hA) | (refine s_v hA ?_; clear hA; (try clear w); intro v w hA hone hnil) | (refine s_b hA ?_; clear hA; (try clear w); intro b w hA) | refine sp (fun h => ?_) (fun h => ?_) | (refine wc_region ?_))
    clear hsu1 hu1
    refine wc_loopn (fun t l w => ∃ (c : Nat) (X : Env) (B1 : List (List Int)), (∃ jk : Nat → Value, l = [jk 0, u8 i, u8 k, u8 more, .pointer (some ⟨b0, 0, none⟩), jk 5, jk 6, jk 7, .bool false, vi ((binsV m : Nat) : Int), .pointer (some ⟨b4, 0, none⟩), .pointer (some ⟨b5, 0, none⟩), vi (a : Int), vi (c : Int), jk 14, jk 15, jk 16, jk 17, jk 18, jk 19, jk 20, jk 21, jk 22, jk 23, jk 24, jk 25, jk 26, jk 27, jk 28, jk 29, jk 30, jk 31, jk 32, jk 33, jk 34, jk 35, jk 36, jk 37, jk 38, jk 39, jk 40, jk 41, jk 42, jk 43, jk 44, jk 45, jk 46, jk 47, jk 48, jk 49, jk 50, jk 51, jk 52, jk 53, jk 54, jk 55, jk 56, jk 57, jk 58, jk 59, jk 60, jk 61, jk 62, jk 63, jk 64, jk 65, jk 66, jk 67, jk 68, jk 69, jk 70, jk 71, jk 72, jk 73, jk 74, jk 75, jk 76, jk 77, jk 78, jk 79, jk 80, jk 81, jk 82, jk 83, jk 84, jk 85, jk 86, jk 87, jk 88, jk 89, jk 90, jk 91, jk 92, jk 93, jk 94, jk 95, jk 96, jk 97, jk 98, jk 99, jk 100, jk 101, jk 102, jk 103, jk 104, jk 105, jk 106, jk 107, jk 108, jk 109, jk 110, jk 111, jk 112, jk 113, jk 114, jk 115, jk 116, jk 117, jk 118, jk 119, jk 120, jk 121, jk 122, jk 123, jk 124, jk 125, jk 126, jk 127, jk 128, jk 129, jk 130, jk 131, jk 132, jk 133, jk 134, jk 135, jk 136, jk 137, jk 138, jk 139, jk 140, jk 141, jk 142, jk 143, jk 144, jk 145, jk 146, jk 147, jk 148, jk 149, jk 150, jk 151, jk 152, jk 153, jk 154, jk 155, jk 156, jk 157, jk 158, jk 159, jk 160, jk 161]) ∧ c + t = x.length ∧ Inv E1 X cls m r1 u1 r3 u3 B1 m.blocks ∧ AbsLL m.blocks B1 ∧ Sat X (row 37 2 q1 m.mvds.length (m.mvds.flatMap vecC) :: row 37 2 q3 m.mvds.length (m.mvds.flatMap vecC) :: cells b4 (mbC m r1 q1 u1) 28 :: cells b5 (mbC m r3 q3 u3) 28 :: cells b0 (mbC m r v u) 28 :: L) w) x.length ⟨0, X, B1, (ex_getD rfl), by omega, hI, hAb, hA⟩ ?_
    clear hA hI hAb hBl
    rintro t' l w ⟨c, X, B1, ⟨jk, rfl⟩, ht', hI, hAb, hA⟩
    have hBl := hAb.1
    have hu1 := hI.f1.mono on_sub
    obtain ⟨cu1, hsu1⟩ := hu1.sl
    obtain ⟨y, hya⟩ : ∃ y, B1[a]? = some y := ⟨_, List.getElem?_eq_getElem (by omega)⟩
    obtain ⟨hyl, hyx⟩ := hAb.2 a x y hxa hya
    obtain ⟨cs, hcsl, ⟨q, rfl, hq0⟩, hg0⟩ := hI.f1.get hya
    have d0 : X.cell? ⟨sB u1, sO u1 + (a : Int).toNat * 1, none⟩ = some q := on_sub.cell (hg0 0 _ rfl)
    have hq := hq0.mono on_sub
    obtain ⟨cq, hsq⟩ := hq.sl
    have oqz := hq.one
    by_cases hlc : c < x.length
    · obtain ⟨x0, hx0⟩ : ∃ x0, x[c]? = some x0 := ⟨_, List.getElem?_eq_getElem (by omega)⟩
      obtain ⟨z0, hz0⟩ : ∃ z0, y[c]? = some z0 := ⟨_, List.getElem?_eq_getElem (by omega)⟩
      have hza := hyx c x0 z0 hx0 hz0
      have hx32 := hx16.2 x0 (List.mem_of_getElem? hx0)
      obtain ⟨cs', hcsl', ⟨rfl, h64⟩, hg1⟩ := hq0.get hz0
      have v0 : (Env.on (X.sub E1) cls 1).cell? ⟨sB q, sO q + (c : Int).toNat * 1, none⟩ = some (vi z0) := hg1 0 _ rfl
      have d1 : X.cell? ⟨sB q, sO q + (c : Int).toNat * 1, none⟩ = some (vi z0) := on_sub.cell v0
      repeat' (first | (refine g_ow ?_; refine t_indexAddrS rfl hsu1 rfl (by omega) ?_; refine rn ?_) | (refine g_ow ?_; refine t_load_env rfl rfl hA d0 ?_; refine rn ?_) | (refine g_call ?_; refine t_lenS rfl hsq ?_; refine rn ?_) | refine st ?_ | refine sr ?_ | refine sl hA ?_ | (refine s_w hA ?_; clear hA; (try clear w); intro w hA) | (refine s_v hA ?_; clear hA; (try clear w); intro v w hA hone hnil) | (refine s_b hA ?_; clear hA; (try clear w); intro b w hA) | refine sp (fun h => ?_) (fun h => ?_) | (refine wc_regionS 13 rfl ?_; refine wc_region ?_))
      refine' wc_vals 16 [48, 49, 50, 51, 52, 53, 54, 55, 56, 57, 58, 59, 60, 61, 62, 63] [_, _, _, _, _, _, _, _, _, _, _, _, _, _, _, _] rfl (by kernel_rfl) (by kernel_rfl) (by kernel_rfl) hA ?ops13 ?k13
      case ops13 =>
        refine' VOps.c0 rfl [] (by decide) [] (by decide) rfl ?o13_0 ?r13_0
        case o13_0 => intro E' Lx w lf hE hl hA; replace hl := hz hl; subst hl; first | (refine oq ?_; exact ⟨pe, hA⟩)
        refine' VOps.c0 rfl [0] (by decide) [48] (by decide) rfl ?o13_1 ?r13_1
        case o13_1 => intro E' Lx w lf hE hl hA; replace hl := hz hl; subst hl; first | (refine oq ?_; exact ⟨pe, hA⟩)
        refine' VOps.c0 rfl [] (by decide) [] (by decide) rfl ?o13_2 ?r13_2
        case o13_2 => intro E' Lx w lf hE hl hA; replace hl := hz hl; subst hl; first | (refine oq ?_; exact ⟨pe, hA⟩)
        refine' VOps.c0 rfl [1, 2] (by decide) [49, 50] (by decide) rfl ?o13_3 ?r13_3
        case o13_3 => intro E' Lx w lf hE hl hA; replace hl := hz hl; subst hl; first | (refine t_indexAddrS rfl (hsu1.mono hE) rfl (by omega) ?_; exact ⟨pe, hA⟩) | (refine oq ?_; exact ⟨pe, hA⟩) | (refine t_indexAddrS rfl rfl (by omega) ?_; exact ⟨pe, hA⟩)
        refine' VOps.c0 rfl [3] (by decide) [51] (by decide) rfl ?o13_4 ?r13_4
        case o13_4 => intro E' Lx w lf hE hl hA; replace hl := hz hl; subst hl; first | (refine t_load_env rfl rfl hA (hE.cell d0) ?_; exact ⟨pe, hA⟩) | (refine oq ?_; exact ⟨pe, hA⟩)
        refine' VOps.c0 rfl [] (by decide) [] (by decide) rfl ?o13_5 ?r13_5
        case o13_5 => intro E' Lx w lf hE hl hA; replace hl := hz hl; subst hl; first | (refine oq ?_; exact ⟨pe, hA⟩)
        refine' VOps.c0 rfl [] (by decide) [] (by decide) rfl ?o13_6 ?r13_6
        case o13_6 => intro E' Lx w lf hE hl hA; replace hl := hz hl; subst hl; first | (refine oq ?_; exact ⟨pe, hA⟩)
        refine' VOps.c0 rfl [6] (by decide) [54] (by decide) rfl ?o13_7 ?r13_7
        case o13_7 => intro E' Lx w lf hE hl hA; replace hl := hz hl; subst hl; first | (refine oq ?_; exact ⟨pe, hA⟩)
        refine' VOps.c0 rfl [] (by decide) [] (by decide) rfl ?o13_8 ?r13_8
        case o13_8 => intro E' Lx w lf hE hl hA; replace hl := hz hl; subst hl; first | (refine oq ?_; exact ⟨pe, hA⟩)
        refine' VOps.c0 rfl [7, 8] (by decide) [55, 56] (by decide) rfl ?o13_9 ?r13_9
        case o13_9 => intro E' Lx w lf hE hl hA; replace hl := hz hl; subst hl; first | (refine t_indexAddrS rfl (hsu1.mono hE) rfl (by omega) ?_; exact ⟨pe, hA⟩) | (refine oq ?_; exact ⟨pe, hA⟩) | (refine t_indexAddrS rfl rfl (by omega) ?_; exact ⟨pe, hA⟩)
        refine' VOps.c0 rfl [9] (by decide) [57] (by decide) rfl ?o13_10 ?r13_10
        case o13_10 => intro E' Lx w lf hE hl hA; replace hl := hz hl; subst hl; first | (refine t_load_env rfl rfl hA (hE.cell d0) ?_; exact ⟨pe, hA⟩) | (refine oq ?_; exact ⟨pe, hA⟩)
        refine' VOps.c0 rfl [] (by decide) [] (by decide) rfl ?o13_11 ?r13_11
        case o13_11 => intro E' Lx w lf hE hl hA; replace hl := hz hl; subst hl; first | (refine oq ?_; exact ⟨pe, hA⟩)
        refine' VOps.c0 rfl [10, 11] (by decide) [58, 59] (by decide) rfl ?o13_12 ?r13_12
        case o13_12 => intro E' Lx w lf hE hl hA; replace hl := hz hl; subst hl; first | (refine t_indexAddrS rfl (hsq.mono hE) rfl (by omega) ?_; exact ⟨pe, hA⟩) | (refine oq ?_; exact ⟨pe, hA⟩) | (refine t_indexAddrS rfl rfl (by omega) ?_; exact ⟨pe, hA⟩)
        refine' VOps.c0 rfl [12] (by decide) [60] (by decide) rfl ?o13_13 ?r13_13
        case o13_13 => intro E' Lx w lf hE hl hA; replace hl := hz hl; subst hl; first | (refine t_load_env rfl rfl hA (hE.cell d1) ?_; exact ⟨pe, hA⟩) | (refine oq ?_; exact ⟨pe, hA⟩)
        refine' VOps.c0 rfl [13] (by decide) [61] (by decide) rfl ?o13_14 ?r13_14
        case o13_14 => intro E' Lx w lf hE hl hA; replace hl := hz hl; subst hl; first | (refine t_unI rfl (by omega) ?_; exact ⟨pe, hA⟩) | (refine oq ?_; exact ⟨pe, hA⟩)
        refine' VOps.c0 rfl [4, 5, 0, 1, 2, 3, 6, 7, 8, 9, 10, 11, 12, 13, 14] (by decide) [52, 53, 48, 49, 50, 51, 54, 55, 56, 57, 58, 59, 60, 61, 62] (by decide) rfl ?o13_15 ?r13_15
        case o13_15 => intro E' Lx w lf hE hl hA; replace hl := hz hl; subst hl; first | (refine t_indexAddrS rfl (hsq.mono hE) rfl (by omega) ?_; exact ⟨pe, hA⟩) | (refine oq ?_; exact ⟨pe, hA⟩) | (refine t_indexAddrS rfl rfl (by omega) ?_; exact ⟨pe, hA⟩)
        exact TameOps.nil
      case' k13 => (try clear hA); intro w hA; refine rn ?_
      repeat' (first | (refine g_ow ?_; refine t_store_new E1 (sO q + (c : Int).toNat * 1) rfl rfl rfl rfl hA hI.le (on_le.cell v0) ?_; clear hA; intro X2 w hp1 hp2 hle2 hA; refine rn ?_) | refine st ?_ | refine sr ?_ | refine sl hA ?_ | (refine s_w hA ?_; clear hA; (try clear w); intro w hA) | (refine s_v hA ?_; clear hA; (try clear w); intro v w hA hone hnil) | (refine s_b hA ?_; clear hA; (try clear w); intro b w hA) | refine sp (fun h => ?_) (fun h => ?_) | (refine wc_region ?_))
      obtain ⟨B2, hI2, hl2, hch⟩ := hI.put1 hp2 hle2 v0 ⟨by omega, by omega⟩
      exact lq_next (t' - 1) (by omega) ⟨c + 1, X2, B2, (ex_getD rfl), by omega, hI2, hAb.chg hl2 hch (by omega), hA⟩
    · repeat' (first | (refine g_ow ?_; refine t_indexAddrS rfl hsu1 rfl (by omega) ?_; refine rn ?_) | (refine g_ow ?_; refine t_load_env rfl rfl hA d0 ?_; refine rn ?_) | (refine g_call ?_; refine t_lenS rfl hsq ?_; refine rn ?_) | refine st ?_ | refine sr ?_ | refine sl hA ?_ | (refine s_w hA ?_; clear hA; (try clear w); intro w hA) | (refine s_v hA ?_; clear hA; (try clear w); intro v w hA hone hnil) | (refine s_b hA ?_; clear hA; (try clear w); intro b w hA) | refine sp (fun h => ?_) (fun h => ?_) | (refine wc_region ?_))
      exact lq_next (t - 1) (by omega) ⟨a + 1, X, B1, (ex_getD rfl), by omega, hI, hAb, hA⟩
  repeat' (first | (refine g_call ?_; refine t_lenS rfl hsu1 ?_; refine rn ?_) | refine st ?_ | refine sr ?_ | refine sl hA ?_ | (refine s_w hA ?_; clear hA; (try clear w); intro w hA) | (refine s_v hA ?_; clear hA; (try clear w); intro v w hA hone hnil) | (refine s_b hA ?_; clear hA; (try clear w); intro b w hA) | refine sp (fun h => ?_) (fun h => ?_) | (refine wc_region ?_))
  clear hsu1 hu1 hBl hlt ht
  have hmv := hsm.nmvds
  refine wc_loopn (fun t l w => ∃ (j : Nat) (V : List Vec), (∃ jk : Nat → Value, l = [jk 0, u8 i, u8 k, u8 more, .pointer (some ⟨b0, 0, none⟩), jk 5, jk 6, jk 7, .bool false, vi ((binsV m : Nat) : Int), .pointer (some ⟨b4, 0, none⟩), .pointer (some ⟨b5, 0, none⟩), jk 12, jk 13, vi (j : Int), jk 15, jk 16, jk 17, jk 18, jk 19, jk 20, jk 21, jk 22, jk 23, jk 24, jk 25, jk 26, jk 27, jk 28, jk 29, jk 30, jk 31, jk 32, jk 33, jk 34, jk 35, jk 36, jk 37, jk 38, jk 39, jk 40, jk 41, jk 42, jk 43, jk 44, jk 45, jk 46, jk 47, jk 48, jk 49, jk 50, jk 51, jk 52, jk 53, jk 54, jk 55, jk 56, jk 57, jk 58, jk 59, jk 60, jk 61, jk 62, jk 63, jk 64, jk 65, jk 66, jk 67, jk 68, jk 69, jk 70, jk 71, jk 72, jk 73, jk 74, jk 75, jk 76, jk 77, jk 78, jk 79, jk 80, jk 81, jk 82, jk 83, jk 84, jk 85, jk 86, jk 87, jk 88, jk 89, jk 90, jk 91, jk 92, jk 93, jk 94, jk 95, jk 96, jk 97, jk 98, jk 99, jk 100, jk 101, jk 102, jk 103, jk 104, jk 105, jk 106, jk 107, jk 108, jk 109, jk 110, jk 111, jk 112, jk 113, jk 114, jk 115, jk 116, jk 117, jk 118, jk 119, jk 120, jk 121, jk 122, jk 123, jk 124, jk 125, jk 126, jk 127, jk 128, jk 129, jk 130, jk 131, jk 132, jk 133, jk 134, jk 135, jk 136, jk 137, jk 138, jk 139, jk 140, jk 141, jk 142, jk 143, jk 144, jk 145, jk 146, jk 147, jk 148, jk 149, jk 150, jk 151, jk 152, jk 153, jk 154, jk 155, jk 156, jk 157, jk 158, jk 159, jk 160, jk 161]) ∧ j + t = m.mvds.length ∧ AbsV m.mvds V ∧ Sat X (row 37 2 q1 m.mvds.length (V.flatMap vecC) :: row 37 2 q3 m.mvds.length (m.mvds.flatMap vecC) :: cells b4 (mbC m r1 q1 u1) 28 :: cells b5 (mbC m r3 q3 u3) 28 :: cells b0 (mbC m r v u) 28 :: L) w) m.mvds.length ⟨0, m.mvds, (ex_getD rfl), by omega, AbsV.refl _, hA⟩ ?_
  clear hA
  rintro t l w ⟨j, V, ⟨jk, rfl⟩, ht, hAv, hA⟩
  have hVl := hAv.1
  have hVc := vec_len V
  by_cases hlt : j < m.mvds.length
  · obtain ⟨x, hxj⟩ : ∃ x, V[j]? = some x := ⟨_, List.getElem?_eq_getElem (by omega)⟩
    obtain ⟨x', hxj'⟩ : ∃ x, m.mvds[j]? = some x := ⟨_, List.getElem?_eq_getElem (by omega)⟩
    have hab := hAv.2 j x' x hxj' hxj
    have hsv := hsm.mvds x' (List.mem_of_getElem? hxj')
    obtain ⟨k0, k1⟩ := vec_at V j x hxj
    have k0' : (V.flatMap vecC)[(j : Int).toNat * 2]? = some (vi x.x) := by rw [Int.toNat_natCast]; exact k0
    have k1' : (V.flatMap vecC)[(j : Int).toNat * 2 + 1]? = some (vi x.y) := by rw [Int.toNat_natCast]; exact k1
    repeat' (first | (refine g_call ?_; refine t_lenR 0 rfl hA rfl ?_; refine rn ?_) | refine st ?_ | refine sr ?_ | refine sl hA ?_ | (refine s_w hA ?_; clear hA; (try clear w); intro w hA) | (refine s_v hA ?_; clear hA; (try clear w); intro v w hA hone hnil) | (refine s_b hA ?_; clear hA; (try clear w); intro b w hA) | refine sp (fun h => ?_) (fun h => ?_) | (refine wc_regionS 17 rfl ?_; refine wc_region ?_))
    refine' wc_vals 19 [71, 72, 73, 74, 75, 76, 77, 78, 79, 80, 81, 82, 83, 84, 85, 86, 87, 88, 89] [_, _, _, _, _, _, _, _, _, _, _, _, _, _, _, _, _, _, _] rfl (by kernel_rfl) (by kernel_rfl) (by kernel_rfl) hA ?ops17 ?k17
    case ops17 =>
      refine' VOps.c0 rfl [] (by decide) [] (by decide) rfl ?o17_0 ?r17_0
      case o17_0 => intro E' Lx w lf hE hl hA; replace hl := hz hl; subst hl; first | (refine oq ?_; exact ⟨pe, hA⟩)
      refine' VOps.c0 rfl [0] (by decide) [71] (by decide) rfl ?o17_1 ?r17_1
      case o17_1 => intro E' Lx w lf hE hl hA; replace hl := hz hl; subst hl; first | (refine oq ?_; exact ⟨pe, hA⟩)
      refine' VOps.c0 rfl [] (by decide) [] (by decide) rfl ?o17_2 ?r17_2
      case o17_2 => intro E' Lx w lf hE hl hA; replace hl := hz hl; subst hl; first | (refine oq ?_; exact ⟨pe, hA⟩)
      refine' VOps.c0 rfl [] (by decide) [] (by decide) rfl ?o17_3 ?r17_3
      case o17_3 => intro E' Lx w lf hE hl hA; replace hl := hz hl; subst hl; first | (refine oq ?_; exact ⟨pe, hA⟩)
      refine' VOps.c0 rfl [3] (by decide) [74] (by decide) rfl ?o17_4 ?r17_4
      case o17_4 => intro E' Lx w lf hE hl hA; replace hl := hz hl; subst hl; first | (refine oq ?_; exact ⟨pe, hA⟩)
      refine' VOps.c0 rfl [] (by decide) [] (by decide) rfl ?o17_5 ?r17_5
      case o17_5 => intro E' Lx w lf hE hl hA; replace hl := hz hl; subst hl; first | (refine oq ?_; exact ⟨pe, hA⟩)
      refine' VOps.c0 rfl [4, 5] (by decide) [75, 76] (by decide) rfl ?o17_6 ?r17_6
      case o17_6 => intro E' Lx w lf hE hl hA; replace hl := hz hl; subst hl; first | (refine t_indexAddrR 0 rfl hA rfl rfl (by omega) ?_; exact ⟨pe, hA⟩) | (refine oq ?_; exact ⟨pe, hA⟩) | (refine t_indexAddrS rfl rfl (by omega) ?_; exact ⟨pe, hA⟩)
      refine' VOps.c0 rfl [6] (by decide) [77] (by decide) rfl ?o17_7 ?r17_7
      case o17_7 => intro E' Lx w lf hE hl hA; replace hl := hz hl; subst hl; first | (refine oq ?_; exact ⟨pe, hA⟩)
      refine' VOps.c0 rfl [7] (by decide) [78] (by decide) rfl ?o17_8 ?r17_8
      case o17_8 => intro E' Lx w lf hE hl hA; replace hl := hz hl; subst hl; first | (refine t_load_row' 0 ((j : Int).toNat * 2) rfl rfl rfl hA rfl k0' ?_; exact ⟨pe, hA⟩) | (refine oq ?_; exact ⟨pe, hA⟩)
      refine' VOps.c0 rfl [8] (by decide) [79] (by decide) rfl ?o17_9 ?r17_9
      case o17_9 => intro E' Lx w lf hE hl hA; replace hl := hz hl; subst hl; first | (refine t_unI rfl (by omega) ?_; exact ⟨pe, hA⟩) | (refine oq ?_; exact ⟨pe, hA⟩)
      refine' VOps.c0 rfl [] (by decide) [] (by decide) rfl ?o17_10 ?r17_10
      case o17_10 => intro E' Lx w lf hE hl hA; replace hl := hz hl; subst hl; first | (refine oq ?_; exact ⟨pe, hA⟩)
      refine' VOps.c0 rfl [10] (by decide) [81] (by decide) rfl ?o17_11 ?r17_11
      case o17_11 => intro E' Lx w lf hE hl hA; replace hl := hz hl; subst hl; first | (refine oq ?_; exact ⟨pe, hA⟩)
      refine' VOps.c0 rfl [] (by decide) [] (by decide) rfl ?o17_12 ?r17_12
      case o17_12 => intro E' Lx w lf hE hl hA; replace hl := hz hl; subst hl; first | (refine oq ?_; exact ⟨pe, hA⟩)
      refine' VOps.c0 rfl [11, 12] (by decide) [82, 83] (by decide) rfl ?o17_13 ?r17_13
      case o17_13 => intro E' Lx w lf hE hl hA; replace hl := hz hl; subst hl; first | (refine t_indexAddrR 0 rfl hA rfl rfl (by omega) ?_; exact ⟨pe, hA⟩) | (refine oq ?_; exact ⟨pe, hA⟩) | (refine t_indexAddrS rfl rfl (by omega) ?_; exact ⟨pe, hA⟩)
      refine' VOps.c0 rfl [13] (by decide) [84] (by decide) rfl ?o17_14 ?r17_14
      case o17_14 => intro E' Lx w lf hE hl hA; replace hl := hz hl; subst hl; first | (refine oq ?_; exact ⟨pe, hA⟩)
      refine' VOps.c0 rfl [14] (by decide) [85] (by decide) rfl ?o17_15 ?r17_15
      case o17_15 => intro E' Lx w lf hE hl hA; replace hl := hz hl; subst hl; first | (refine t_load_row' 0 ((j : Int).toNat * 2 + 1) rfl rfl (by omega) hA rfl k1' ?_; exact ⟨pe, hA⟩) | (refine oq ?_; exact ⟨pe, hA⟩)
      refine' VOps.c0 rfl [15] (by decide) [86] (by decide) rfl ?o17_16 ?r17_16
      case o17_16 => intro E' Lx w lf hE hl hA; replace hl := hz hl; subst hl; first | (refine t_unI rfl (by omega) ?_; exact ⟨pe, hA⟩) | (refine oq ?_; exact ⟨pe, hA⟩)
      refine' VOps.c0 rfl [9, 16] (by decide) [80, 87] (by decide) rfl ?o17_17 ?r17_17
      case o17_17 => intro E' Lx w lf hE hl hA; replace hl := hz hl; subst hl; first | (refine oq ?_; exact ⟨pe, hA⟩)
      refine' VOps.c0 rfl [1, 2, 0, 3, 4, 5, 6, 7, 8, 9, 10, 11, 12, 13, 14, 15, 16, 17] (by decide) [72, 73, 71, 74, 75, 76, 77, 78, 79, 80, 81, 82, 83, 84, 85, 86, 87, 88] (by decide) rfl ?o17_18 ?r17_18
      case o17_18 => intro E' Lx w lf hE hl hA; replace hl := hz hl; subst hl; first | (refine t_indexAddrR 0 rfl hA rfl rfl (by omega) ?_; exact ⟨pe, hA⟩) | (refine oq ?_; exact ⟨pe, hA⟩) | (refine t_indexAddrS rfl rfl (by omega) ?_; exact ⟨pe, hA⟩)
      exact TameOps.nil
    case' k17 => (try clear hA); intro w hA; refine rn ?_
    have hk9 : (j : Int).toNat * 2 + [vi (-x.x), vi (-x.y)].length ≤ (V.flatMap vecC).length := by rw [hVc]; show (j : Int).toNat * 2 + 2 ≤ _; omega
    have hk8' : ∀ r ∈ [vi (-x.x), vi (-x.y)], r.oneCell' = true := by intro r hr; simp at hr; rcases hr with rfl | rfl <;> rfl
    repeat' (first | (refine g_ow ?_; refine t_store_agg_row 0 ((j : Int).toNat * 2) (vs := [vi (-x.x), vi (-x.y)]) rfl rfl rfl hk8' rfl hA rfl hk9 (Nat.succ_pos _) ?_; clear hA; intro w hA; refine rn ?_) | refine st ?_ | refine sr ?_ | refine sl hA ?_ | (refine s_w hA ?_; clear hA; (try clear w); intro w hA) | (refine s_v hA ?_; clear hA; (try clear w); intro v w hA hone hnil) | (refine s_b hA ?_; clear hA; (try clear w); intro b w hA) | refine sp (fun h => ?_) (fun h => ?_) | (refine wc_region ?_))
    have hA : Sat X (row 37 2 q1 m.mvds.length ((V.flatMap vecC).take ((j : Int).toNat * 2) ++ vecC ⟨-x.x, -x.y⟩ ++ (V.flatMap vecC).drop ((j : Int).toNat * 2 + 2)) :: row 37 2 q3 m.mvds.length (m.mvds.flatMap vecC) :: cells b4 (mbC m r1 q1 u1) 28 :: cells b5 (mbC m r3 q3 u3) 28 :: cells b0 (mbC m r v u) 28 :: L) w := hA
    rw [Int.toNat_natCast, vec_set V j x _ hxj] at hA
    exact lq_next (t - 1) (by omega) ⟨j + 1, V.set j ⟨-x.x, -x.y⟩, (ex_getD rfl), by omega, hAv.neg hxj, hA⟩
  repeat' (first | (refine g_call ?_; refine t_lenR 0 rfl hA rfl ?_; refine rn ?_) | refine st ?_ | refine sr ?_ | refine sl hA ?_ | (refine s_w hA ?_; clear hA; (try clear w); intro w hA) | (refine s_v hA ?_; clear hA; (try clear w); intro v w hA hone hnil) | (refine s_b hA ?_; clear hA; (try clear w); intro b w hA) | refine sp (fun h => ?_) (fun h => ?_) | (refine wc_regionS 18 rfl ?_; refine wc_region ?_))
  clear hlt ht hVc
  have hu3 := hI.f3.mono on_sub
  obtain ⟨cu3, hsu3⟩ := hu3.sl
  have hi8 := i.toNat_lt
  have hk8 := k.toNat_lt
  have hm8 := more.toNat_lt
  have hbb : ∀ b ∈ m.blocks, ∀ x ∈ b, x.natAbs ≤ 32768 := fun b hb => (hsm.blocks b hb).2
  refine wc_region ?_
  refine rv hA ?_; clear hA; intro w hA
  refine rv hA ?_; clear hA; intro w hA
  refine' rl_v hA ?o18_2 ?k18_2
  case o18_2 => intro w hA; first | (refine t_lenS rfl hsu3 ?_; exact ⟨pe, hA⟩) | (refine oq ?_; exact ⟨pe, hA⟩) | (refine t_lenS rfl (by assumption) ?_; exact ⟨pe, hA⟩)
  clear hA; intro w hA; refine rn ?_
  refine rv hA ?_; clear hA; intro w hA
  refine rl_nil ?_
  refine tq_normal ?_
  refine wc_mid (fun l w => ∃ (X : Env) (B3 : List (List Int)), (∃ jk : Nat → Value, l = [jk 0, u8 i, u8 k, u8 more, .pointer (some ⟨b0, 0, none⟩), jk 5, jk 6, jk 7, .bool false, vi ((binsV m : Nat) : Int), .pointer (some ⟨b4, 0, none⟩), .pointer (some ⟨b5, 0, none⟩), jk 12, jk 13, jk 14, jk 15, jk 16, jk 17, jk 18, jk 19, jk 20, jk 21, jk 22, jk 23, jk 24, jk 25, jk 26, jk 27, jk 28, jk 29, jk 30, jk 31, jk 32, jk 33, jk 34, jk 35, jk 36, jk 37, jk 38, jk 39, jk 40, jk 41, jk 42, jk 43, jk 44, jk 45, jk 46, jk 47, jk 48, jk 49, jk 50, jk 51, jk 52, jk 53, jk 54, jk 55, jk 56, jk 57, jk 58, jk 59, jk 60, jk 61, jk 62, jk 63, jk 64, jk 65, jk 66, jk 67, jk 68, jk 69, jk 70, jk 71, jk 72, jk 73, jk 74, jk 75, jk 76, jk 77, jk 78, jk 79, jk 80, jk 81, jk 82, jk 83, jk 84, jk 85, jk 86, jk 87, jk 88, jk 89, jk 90, jk 91, jk 92, jk 93, jk 94, jk 95, jk 96, jk 97, jk 98, jk 99, jk 100, jk 101, jk 102, jk 103, jk 104, jk 105, jk 106, jk 107, jk 108, jk 109, jk 110, jk 111, jk 112, jk 113, jk 114, jk 115, jk 116, jk 117, jk 118, jk 119, jk 120, jk 121, jk 122, jk 123, jk 124, jk 125, jk 126, jk 127, jk 128, jk 129, jk 130, jk 131, jk 132, jk 133, jk 134, jk 135, jk 136, jk 137, jk 138, jk 139, jk 140, jk 141, jk 142, jk 143, jk 144, jk 145, jk 146, jk 147, jk 148, jk 149, jk 150, jk 151, jk 152, jk 153, jk 154, jk 155, jk 156, jk 157, jk 158, jk 159, jk 160, jk 161]) ∧ Inv E1 X cls m r1 u1 r3 u3 B1 B3 ∧ GrLL m.blocks B3 ∧ Sat X (row 37 2 q1 m.mvds.length (V.flatMap vecC) :: row 37 2 q3 m.mvds.length (m.mvds.flatMap vecC) :: cells b4 (mbC m r1 q1 u1) 28 :: cells b5 (mbC m r3 q3 u3) 28 :: cells b0 (mbC m r v u) 28 :: L) w) ?_ ?_
  · by_cases hB : m.blocks.length = 0
    · refine wc_false (by show Value.bool (decide _) = _; rw [decide_eq_false (by omega)]) ?_
      repeat' (first | refine st ?_ | refine sr ?_ | refine sl hA ?_ | (refine s_w hA ?_; clear hA; (try clear w); intro w hA) | (refine s_v hA ?_; clear hA; (try clear w); intro v w hA hone hnil) | (refine s_b hA ?_; clear hA; (try clear w); intro b w hA) | refine sp (fun h => ?_) (fun h => ?_) | (refine wc_region ?_))
      exact mq_normal ⟨X, m.blocks, (ex_getD rfl), hI, GrLL.refl hbb, hA⟩
    · refine wc_true (by show Value.bool (decide _) = _; rw [decide_eq_true (by omega)]) ?_
      have ha0 : i.toNat % m.blocks.length < m.blocks.length := Nat.mod_lt _ (by omega)
      generalize hai : i.toNat % m.blocks.length = a0 at ha0
      obtain ⟨x, hxa⟩ : ∃ x, m.blocks[a0]? = some x := ⟨_, List.getElem?_eq_getElem ha0⟩
      have hxm := List.mem_of_getElem? hxa
      obtain ⟨cs, hcsl, ⟨q, rfl, hq0⟩, hg0⟩ := hI.f3.get hxa
      have d0 : X.cell? ⟨sB u3, sO u3 + (a0 : Int).toNat * 1, none⟩ = some q := on_sub.cell (hg0 0 _ rfl)
      have hq := hq0.mono on_sub
      obtain ⟨cq, hsq⟩ := hq.sl
      have oqz := hq.one
      have hxl : 0 < x.length := List.length_pos_iff.2 (valid_block hvb x hxm)
      have hx16 := (hsm.blocks x hxm).1
      have hc0 : k.toNat % x.length < x.length := Nat.mod_lt _ hxl
      generalize hkc : k.toNat % x.length = c0 at hc0
      obtain ⟨z0, hz0⟩ : ∃ z0, x[c0]? = some z0 := ⟨_, List.getElem?_eq_getElem hc0⟩
      have hz32 := hbb x hxm z0 (List.mem_of_getElem? hz0)
      obtain ⟨cs', hcsl', ⟨rfl, h64⟩, hg1⟩ := hq0.get hz0
      have v0 : (Env.on (X.sub E1) cls 3).cell? ⟨sB q, sO q + (c0 : Int).toNat * 1, none⟩ = some (vi z0) := hg1 0 _ rfl
      have d1 : X.cell? ⟨sB q, sO q + (c0 : Int).toNat * 1, none⟩ = some (vi z0) := on_sub.cell v0
      have hgr := growI_le (v := z0) (more := (more.toNat : Int)) (most := 32768) (by omega) (by omega)
      have hgc := grow_calls X
      repeat' (first | refine st ?_ | refine sr ?_ | refine sl hA ?_ | (refine s_w hA ?_; clear hA; (try clear w); intro w hA) | (refine s_v hA ?_; clear hA; (try clear w); intro v w hA hone hnil) | (refine s_b hA ?_; clear hA; (try clear w); intro b w hA) | refine sp (fun h => ?_) (fun h => ?_) | (refine wc_regionS 19 rfl ?_; refine wc_region ?_))
      refine' wc_vals 10 [94, 95, 96, 97, 98, 99, 100, 101, 102, 103] [_, _, _, _, _, _, _, _, _, _] rfl (by kernel_rfl) (by kernel_rfl) (by kernel_rfl) hA ?ops19 ?k19
      case ops19 =>
        refine' VOps.c0 rfl [] (by decide) [] (by decide) rfl ?o19_0 ?r19_0
        case o19_0 => intro E' Lx w lf hE hl hA; replace hl := hz hl; subst hl; first | (refine oq ?_; exact ⟨pe, hA⟩)
        refine' VOps.c0 rfl [0] (by decide) [94] (by decide) rfl ?o19_1 ?r19_1
        case o19_1 => intro E' Lx w lf hE hl hA; replace hl := hz hl; subst hl; first | (refine oq ?_; exact ⟨pe, hA⟩)
        refine' VOps.c0 rfl [] (by decide) [] (by decide) rfl ?o19_2 ?r19_2
        case o19_2 => intro E' Lx w lf hE hl hA; replace hl := hz hl; subst hl; first | (refine oq ?_; exact ⟨pe, hA⟩)
        refine' VOps.c0 rfl [2] (by decide) [96] (by decide) rfl ?o19_3 ?r19_3
        case o19_3 => intro E' Lx w lf hE hl hA; replace hl := hz hl; subst hl; first | (refine t_conv64 rfl (by omega) ?_; exact ⟨pe, hA⟩) | (refine oq ?_; exact ⟨pe, hA⟩)
        refine' VOps.c0 rfl [] (by decide) [] (by decide) rfl ?o19_4 ?r19_4
        case o19_4 => intro E' Lx w lf hE hl hA; replace hl := hz hl; subst hl; first | (refine oq ?_; exact ⟨pe, hA⟩)
        refine' VOps.c0 rfl [4] (by decide) [98] (by decide) rfl ?o19_5 ?r19_5
        case o19_5 => intro E' Lx w lf hE hl hA; replace hl := hz hl; subst hl; first | (refine oq ?_; exact ⟨pe, hA⟩)
        refine' VOps.c0 rfl [5] (by decide) [99] (by decide) rfl ?o19_6 ?r19_6
        case o19_6 => intro E' Lx w lf hE hl hA; replace hl := hz hl; subst hl; first | (refine t_lenS rfl (hsu3.mono hE) ?_; exact ⟨pe, hA⟩) | (refine oq ?_; exact ⟨pe, hA⟩) | (refine t_lenS rfl (by assumption) ?_; exact ⟨pe, hA⟩)
        refine' VOps.c0 rfl [3, 6] (by decide) [97, 100] (by decide) rfl ?o19_7 ?r19_7
        case o19_7 => intro E' Lx w lf hE hl hA; replace hl := hz hl; subst hl; first | (refine t_remN rfl rfl (by omega) hai ?_; exact ⟨pe, hA⟩) | (refine oq ?_; exact ⟨pe, hA⟩)
        refine' VOps.c0 rfl [1, 7] (by decide) [95, 101] (by decide) rfl ?o19_8 ?r19_8
        case o19_8 => intro E' Lx w lf hE hl hA; replace hl := hz hl; subst hl; first | (refine t_indexAddrS rfl (hsu3.mono hE) rfl (by omega) ?_; exact ⟨pe, hA⟩) | (refine oq ?_; exact ⟨pe, hA⟩) | (refine t_indexAddrS rfl rfl (by omega) ?_; exact ⟨pe, hA⟩)
        refine' VOps.c0 rfl [8] (by decide) [102] (by decide) rfl ?o19_9 ?r19_9
        case o19_9 => intro E' Lx w lf hE hl hA; replace hl := hz hl; subst hl; first | (refine t_load_env rfl rfl hA (hE.cell d0) ?_; exact ⟨pe, hA⟩) | (refine oq ?_; exact ⟨pe, hA⟩)
        exact TameOps.nil
      case' k19 => (try clear hA); intro w hA; refine rn ?_
      repeat' (first | (refine g_call ?_; refine t_lenS rfl hsq ?_; refine rn ?_) | (refine g_bin ?_; refine t_remN rfl rfl (by omega) hkc ?_; refine rn ?_) | (refine g_ow ?_; refine t_indexAddrS rfl hsq rfl (by omega) ?_; refine rn ?_) | (refine g_ow ?_; refine t_load_env rfl rfl hA d1 ?_; refine rn ?_) | (refine g_callf 25 ?_; refine ow_call Tryd.call25 rfl ((hgc _ _ z0 (more.toNat : Int) 32768 (by omega) (by omega) (by omega) hA).mono ?_); clear hA; (try clear w); rintro e w ⟨rfl, hA⟩; refine ⟨_, rfl, ?_⟩; refine rn ?_) | (refine g_ow ?_; refine t_store_new E1 (sO q + (c0 : Int).toNat * 1) rfl rfl rfl rfl hA hI.le (on_le.cell v0) ?_; clear hA; intro X2 w hp1 hp2 hle2 hA; refine rn ?_) | refine st ?_ | refine sr ?_ | refine sl hA ?_ | (refine s_w hA ?_; clear hA; (try clear w); intro w hA) | (refine s_v hA ?_; clear hA; (try clear w); intro v w hA hone hnil) | (refine s_b hA ?_; clear hA; (try clear w); intro b w hA) | refine sp (fun h => ?_) (fun h => ?_) | (refine wc_region ?_))
      obtain ⟨B2, hI2, hl2, hch⟩ := hI.put3 hp2 hle2 v0 ⟨by omega, by omega⟩
      exact mq_normal ⟨X2, B2, (ex_getD rfl), hI2, GrLL.chg hbb hl2 hch (by omega), hA⟩
  clear hA hI hu3 hsu3
  rintro l w ⟨X, B3, ⟨jk, rfl⟩, hI, hGr, hA⟩
  repeat' (first | refine st ?_ | refine sr ?_ | refine sl hA ?_ | (refine s_w hA ?_; clear hA; (try clear w); intro w hA) | (refine s_v hA ?_; clear hA; (try clear w); intro v w hA hone hnil) | (refine s_b hA ?_; clear hA; (try clear w); intro b w hA) | refine sp (fun h => ?_) (fun h => ?_) | (refine wc_regionS 24 rfl ?_; refine wc_region ?_))
  refine wc_region ?_
  refine rv hA ?_; clear hA; intro w hA
  refine rv hA ?_; clear hA; intro w hA
  refine' rl_v hA ?o24_2 ?k24_2
  case o24_2 => intro w hA; first | (refine t_lenR 1 rfl hA rfl ?_; exact ⟨pe, hA⟩) | (refine oq ?_; exact ⟨pe, hA⟩) | (refine t_lenS rfl (by assumption) ?_; exact ⟨pe, hA⟩)
  clear hA; intro w hA; refine rn ?_
  refine rv hA ?_; clear hA; intro w hA
  refine rl_nil ?_
  refine tq_normal ?_
  refine wc_mid (fun l w => ∃ (V3 : List Vec), (∃ jk : Nat → Value, l = [jk 0, u8 i, u8 k, u8 more, .pointer (some ⟨b0, 0, none⟩), jk 5, jk 6, jk 7, .bool false, vi ((binsV m : Nat) : Int), .pointer (some ⟨b4, 0, none⟩), .pointer (some ⟨b5, 0, none⟩), jk 12, jk 13, jk 14, jk 15, jk 16, jk 17, jk 18, jk 19, jk 20, jk 21, jk 22, jk 23, jk 24, jk 25, jk 26, jk 27, jk 28, jk 29, jk 30, jk 31, jk 32, jk 33, jk 34, jk 35, jk 36, jk 37, jk 38, jk 39, jk 40, jk 41, jk 42, jk 43, jk 44, jk 45, jk 46, jk 47, jk 48, jk 49, jk 50, jk 51, jk 52, jk 53, jk 54, jk 55, jk 56, jk 57, jk 58, jk 59, jk 60, jk 61, jk 62, jk 63, jk 64, jk 65, jk 66, jk 67, jk 68, jk 69, jk 70, jk 71, jk 72, jk 73, jk 74, jk 75, jk 76, jk 77, jk 78, jk 79, jk 80, jk 81, jk 82, jk 83, jk 84, jk 85, jk 86, jk 87, jk 88, jk 89, jk 90, jk 91, jk 92, jk 93, jk 94, jk 95, jk 96, jk 97, jk 98, jk 99, jk 100, jk 101, jk 102, jk 103, jk 104, jk 105, jk 106, jk 107, jk 108, jk 109, jk 110, jk 111, jk 112, jk 113, jk 114, jk 115, jk 116, jk 117, jk 118, jk 119, jk 120, jk 121, jk 122, jk 123, jk 124, jk 125, jk 126, jk 127, jk 128, jk 129, jk 130, jk 131, jk 132, jk 133, jk 134, jk 135, jk 136, jk 137, jk 138, jk 139, jk 140, jk 141, jk 142, jk 143, jk 144, jk 145, jk 146, jk 147, jk 148, jk 149, jk 150, jk 151, jk 152, jk 153, jk 154, jk 155, jk 156, jk 157, jk 158, jk 159, jk 160, jk 161]) ∧ GrV m.mvds V3 ∧ Sat X (row 37 2 q1 m.mvds.length (V.flatMap vecC) :: row 37 2 q3 m.mvds.length (V3.flatMap vecC) :: cells b4 (mbC m r1 q1 u1) 28 :: cells b5 (mbC m r3 q3 u3) 28 :: cells b0 (mbC m r v u) 28 :: L) w) ?_ ?_
  · by_cases hB : m.mvds.length = 0
    · refine wc_false (by show Value.bool (decide _) = _; rw [decide_eq_false (by omega)]) ?_
      repeat' (first | refine st ?_ | refine sr ?_ | refine sl hA ?_ | (refine s_w hA ?_; clear hA; (try clear w); intro w hA) | (refine s_v hA ?_; clear hA; (try clear w); intro v w hA hone hnil) | (refine s_b hA ?_; clear hA; (try clear w); intro b w hA) | refine sp (fun h => ?_) (fun h => ?_) | (refine wc_region ?_))
      exact mq_normal ⟨m.mvds, (ex_getD rfl), GrV.refl hsm.mvds, hA⟩
    · refine wc_true (by show Value.bool (decide _) = _; rw [decide_eq_true (by omega)]) ?_
      have ha0 : i.toNat % m.mvds.length < m.mvds.length := Nat.mod_lt _ (by omega)
      generalize hai : i.toNat % m.mvds.length = a0 at ha0
      obtain ⟨x, hxa⟩ : ∃ x, m.mvds[a0]? = some x := ⟨_, List.getElem?_eq_getElem ha0⟩
      have hxv := hsm.mvds x (List.mem_of_getElem? hxa)
      obtain ⟨k0, k1⟩ := vec_at m.mvds a0 x hxa
      have k0' : (m.mvds.flatMap vecC)[(a0 : Int).toNat * 2]? = some (vi x.x) := by rw [Int.toNat_natCast]; exact k0
      have hVc := vec_len m.mvds
      have hk9 : (a0 : Int).toNat * 2 < (m.mvds.flatMap vecC).length := by rw [hVc]; omega
      have hgr := growI_le (v := x.x) (more := (more.toNat : Int)) (most := 8192) (by omega) (by omega)
      have hgc := grow_calls X
      repeat' (first | refine st ?_ | refine sr ?_ | refine sl hA ?_ | (refine s_w hA ?_; clear hA; (try clear w); intro w hA) | (refine s_v hA ?_; clear hA; (try clear w); intro v w hA hone hnil) | (refine s_b hA ?_; clear hA; (try clear w); intro b w hA) | refine sp (fun h => ?_) (fun h => ?_) | (refine wc_regionS 25 rfl ?_; refine wc_region ?_))
      refine' wc_vals 9 [126, 127, 128, 129, 130, 131, 132, 133, 134] [_, _, _, _, _, _, _, _, _] rfl (by kernel_rfl) (by kernel_rfl) (by kernel_rfl) hA ?ops25 ?k25
      case ops25 =>
        refine' VOps.c0 rfl [] (by decide) [] (by decide) rfl ?o25_0 ?r25_0
        case o25_0 => intro E' Lx w lf hE hl hA; replace hl := hz hl; subst hl; first | (refine oq ?_; exact ⟨pe, hA⟩)
        refine' VOps.c0 rfl [0] (by decide) [126] (by decide) rfl ?o25_1 ?r25_1
        case o25_1 => intro E' Lx w lf hE hl hA; replace hl := hz hl; subst hl; first | (refine oq ?_; exact ⟨pe, hA⟩)
        refine' VOps.c0 rfl [] (by decide) [] (by decide) rfl ?o25_2 ?r25_2
        case o25_2 => intro E' Lx w lf hE hl hA; replace hl := hz hl; subst hl; first | (refine oq ?_; exact ⟨pe, hA⟩)
        refine' VOps.c0 rfl [2] (by decide) [128] (by decide) rfl ?o25_3 ?r25_3
        case o25_3 => intro E' Lx w lf hE hl hA; replace hl := hz hl; subst hl; first | (refine t_conv64 rfl (by omega) ?_; exact ⟨pe, hA⟩) | (refine oq ?_; exact ⟨pe, hA⟩)
        refine' VOps.c0 rfl [] (by decide) [] (by decide) rfl ?o25_4 ?r25_4
        case o25_4 => intro E' Lx w lf hE hl hA; replace hl := hz hl; subst hl; first | (refine oq ?_; exact ⟨pe, hA⟩)
        refine' VOps.c0 rfl [4] (by decide) [130] (by decide) rfl ?o25_5 ?r25_5
        case o25_5 => intro E' Lx w lf hE hl hA; replace hl := hz hl; subst hl; first | (refine oq ?_; exact ⟨pe, hA⟩)
        refine' VOps.c0 rfl [5] (by decide) [131] (by decide) rfl ?o25_6 ?r25_6
        case o25_6 => intro E' Lx w lf hE hl hA; replace hl := hz hl; subst hl; first | (refine t_lenR 1 rfl hA rfl ?_; exact ⟨pe, hA⟩) | (refine oq ?_; exact ⟨pe, hA⟩) | (refine t_lenS rfl (by assumption) ?_; exact ⟨pe, hA⟩)
        refine' VOps.c0 rfl [3, 6] (by decide) [129, 132] (by decide) rfl ?o25_7 ?r25_7
        case o25_7 => intro E' Lx w lf hE hl hA; replace hl := hz hl; subst hl; first | (refine t_remN rfl rfl (by omega) hai ?_; exact ⟨pe, hA⟩) | (refine oq ?_; exact ⟨pe, hA⟩)
        refine' VOps.c0 rfl [1, 7] (by decide) [127, 133] (by decide) rfl ?o25_8 ?r25_8
        case o25_8 => intro E' Lx w lf hE hl hA; replace hl := hz hl; subst hl; first | (refine t_indexAddrR 1 rfl hA rfl rfl (by omega) ?_; exact ⟨pe, hA⟩) | (refine oq ?_; exact ⟨pe, hA⟩) | (refine t_indexAddrS rfl rfl (by omega) ?_; exact ⟨pe, hA⟩)
        exact TameOps.nil
      case' k25 => (try clear hA); intro w hA; refine rn ?_
      repeat' (first | (refine g_ow ?_; refine t_load_row' 1 ((a0 : Int).toNat * 2) rfl rfl rfl hA rfl k0' ?_; refine rn ?_) | (refine g_callf 25 ?_; refine ow_call Tryd.call25 rfl ((hgc _ _ x.x (more.toNat : Int) 8192 (by omega) (by omega) (by omega) hA).mono ?_); clear hA; (try clear w); rintro e w ⟨rfl, hA⟩; refine ⟨_, rfl, ?_⟩; refine rn ?_) | (refine g_ow ?_; refine t_store_row' 1 ((a0 : Int).toNat * 2) rfl rfl rfl rfl hA rfl hk9 ?_; clear hA; intro w hA; refine rn ?_) | refine st ?_ | refine sr ?_ | refine sl hA ?_ | (refine s_w hA ?_; clear hA; (try clear w); intro w hA) | (refine s_v hA ?_; clear hA; (try clear w); intro v w hA hone hnil) | (refine s_b hA ?_; clear hA; (try clear w); intro b w hA) | refine sp (fun h => ?_) (fun h => ?_) | (refine wc_region ?_))
      have hA : Sat X (row 37 2 q1 m.mvds.length (V.flatMap vecC) :: row 37 2 q3 m.mvds.length ((m.mvds.flatMap vecC).set ((a0 : Int).toNat * 2) (vi (growI x.x (more.toNat : Int) 8192))) :: cells b4 (mbC m r1 q1 u1) 28 :: cells b5 (mbC m r3 q3 u3) 28 :: cells b0 (mbC m r v u) 28 :: L) w := hA
      rw [Int.toNat_natCast, vec_set1 m.mvds a0 x _ hxa] at hA
      exact mq_normal ⟨_, (ex_getD rfl), GrV.set hsm.mvds hxa (by omega), hA⟩
  clear hA
  rintro l w ⟨V3, ⟨jk, rfl⟩, hGv, hA⟩
  have hV3l := hGv.1
  have n1 : ∀ w ∈ V, I64 w.x ∧ I64 w.y := fun w hw => by
    obtain ⟨j, hj⟩ := List.getElem?_of_mem hw
    have hjl := (List.getElem?_eq_some_iff.1 hj).1
    have h2 : m.mvds[j]? = some (m.mvds[j]'(by omega)) := List.getElem?_eq_getElem (by omega)
    have h3 := hAv.2 j _ w h2 hj
    have h4 := hsm.mvds _ (List.mem_of_getElem? h2)
    exact ⟨⟨by omega, by omega⟩, ⟨by omega, by omega⟩⟩
  have n3 : ∀ w ∈ V3, I64 w.x ∧ I64 w.y := fun w hw => by
    obtain ⟨j, hj⟩ := List.getElem?_of_mem hw
    have hjl := (List.getElem?_eq_some_iff.1 hj).1
    have h2 : m.mvds[j]? = some (m.mvds[j]'(by omega)) := List.getElem?_eq_getElem (by omega)
    have h3 := hGv.2 j _ w h2 hj
    exact ⟨⟨by omega, by omega⟩, ⟨by omega, by omega⟩⟩
  rw [← hVl] at hA
  obtain ⟨X2, hX2, hA2, lv1⟩ := hA.freezeList (vec_cs V n1)
  rw [hVl, ← hV3l] at hA2
  obtain ⟨X3, hX3, hA3, lv3⟩ := hA2.freezeList (vec_cs V3 n3)
  clear hA hA2
  have hA := hA3
  clear hA3
  have hX := hX2.trans hX3
  have hmT : MbL X3 { m with mvds := V, blocks := B1 } r1 q1 u1 := ⟨(hI.f2.mono on_sub).mono hX, lv1.mono hX3, (hI.f1.mono on_sub).mono hX, hm.qp, hm.pcm⟩
  have hmG : MbL X3 { m with mvds := V3, blocks := B3 } r3 q3 u3 := ⟨(hI.f4.mono on_sub).mono hX, lv3, (hI.f3.mono on_sub).mono hX, hm.qp, hm.pcm⟩
  have hE13 := hI.le.trans hX
  have hG3 := hG1.mono hE13
  have eT := binsV_abs hvb hAv hAb
  have eG := binsV_grow (V := V3) (B := B3) hvb hV3l (fun i x y hx hy => hGv.2 i x y hx hy) hGr.1 (fun i x y hx hy => ⟨⟨(hGr.2 i x y hx hy).1.symm, fun j u w hu hw => ((hGr.2 i x y hx hy).2 j u w hu hw).1⟩, fun z hz' => by
    obtain ⟨j, hj⟩ := List.getElem?_of_mem hz'
    have hjl := (List.getElem?_eq_some_iff.1 hj).1
    obtain ⟨u, hu⟩ := get_mid (ys := x) (n := y.length) (hGr.2 i x y hx hy).1.symm hjl
    exact ((hGr.2 i x y hx hy).2 j u z hu hj).2⟩)
  have cT : ∀ (L : List Item) (w : World), Sat X3 L w → Calls Tryd.prog 19 ⟨[.agg ⟨mbC m r1 q1 u1⟩]⟩ w (Ret X3 L (vi ((binsV m : Nat) : Int))) := fun L w hA => by
    have := bBins_calls _ r1 q1 u1 X3 L w hA hmT hG3
    rw [eT] at this
    exact this
  have cG : ∀ (L : List Item) (w : World), Sat X3 L w → Calls Tryd.prog 19 ⟨[.agg ⟨mbC m r3 q3 u3⟩]⟩ w (Ret X3 L (vi ((binsV { m with mvds := V3, blocks := B3 } : Nat) : Int))) := fun L w hA => bBins_calls _ r3 q3 u3 X3 L w hA hmG hG3
  generalize binsV { m with mvds := V3, blocks := B3 } = g3 at eG cG
  repeat' (first | refine st ?_ | refine sr ?_ | refine sl hA ?_ | (refine s_w hA ?_; clear hA; (try clear w); intro w hA) | (refine s_v hA ?_; clear hA; (try clear w); intro v w hA hone hnil) | (refine s_b hA ?_; clear hA; (try clear w); intro b w hA) | refine sp (fun h => ?_) (fun h => ?_) | (refine wc_regionS 27 rfl ?_; refine wc_region ?_))
  refine wc_region ?_
  refine rv hA ?_; clear hA; intro w hA
  refine rv hA ?_; clear hA; intro w hA
  refine rv hA ?_; clear hA; intro w hA
  refine rt hA ?_; clear hA; intro w hA
  first | refine' rl_T rfl hA ?o27_4 ?k27_4 | refine' rl_Tn rfl hA ?o27_4 ?k27_4
  case o27_4 => intro hg w hA; first | (refine ow_call Tryd.call19 (evs1 opr) ((cT _ _ hA).mono ?_); clear hA; rintro e w ⟨rfl, hA⟩; refine ⟨_, rfl, ?_⟩; exact ⟨put_eq (by rfl), hA⟩)
  clear hA; intro w hA; refine rn ?_
  refine rt hA ?_; clear hA; intro w hA
  refine rt hA ?_; clear hA; intro w hA
  refine rv hA ?_; clear hA; intro w hA
  refine rv hA ?_; clear hA; intro w hA
  refine rt hA ?_; clear hA; intro w hA
  first | refine' rl_T rfl hA ?o27_10 ?k27_10 | refine' rl_Tn rfl hA ?o27_10 ?k27_10
  case o27_10 => intro hg w hA; first | (refine ow_call Tryd.call19 (evs1 opr) ((cG _ _ hA).mono ?_); clear hA; rintro e w ⟨rfl, hA⟩; refine ⟨_, rfl, ?_⟩; exact ⟨put_eq (by rfl), hA⟩)
  clear hA; intro w hA; refine rn ?_
  refine rt hA ?_; clear hA; intro w hA
  refine rt hA ?_; clear hA; intro w hA
  refine rv hA ?_; clear hA; intro w hA
  refine rv hA ?_; clear hA; intro w hA
  first | refine' rl_T rfl hA ?o27_15 ?k27_15 | refine' rl_Tn rfl hA ?o27_15 ?k27_15
  case o27_15 => intro hg w hA; first | (refine ow_call Tryd.call24 rfl ((awake38_calls _ _ _ hA hG3).mono ?_); clear hA; rintro e w ⟨rfl, hA⟩; refine ⟨_, rfl, ?_⟩; exact ⟨put_eq (by rfl), hA⟩)
  clear hA; intro w hA; refine rn ?_
  refine rv hA ?_; clear hA; intro w hA
  refine rv hA ?_; clear hA; intro w hA
  refine rl_nil ?_
  repeat' (first | refine st ?_ | refine sr ?_ | refine sl hA ?_ | (refine s_w hA ?_; clear hA; (try clear w); intro w hA) | (refine s_v hA ?_; clear hA; (try clear w); intro v w hA hone hnil) | (refine s_b hA ?_; clear hA; (try clear w); intro b w hA) | refine sp (fun h => ?_) (fun h => ?_) | (refine wc_region ?_))
  exact ret1 ((hA.le (hE1.trans hE13)).dropN 3) rfl (by show Value.bool _ = Value.bool true; simp; omega)
end Go.Proofs.YtomfoaaaeidpnaaDoor
