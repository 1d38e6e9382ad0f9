/-
  spindlelaw38.BoundExamples, walked.
-/
import Derived.Test.YtomfoaaaeidpnaaDoorD8
set_option linter.unusedVariables false
set_option linter.unusedSimpArgs false
namespace Go.Proofs.YtomfoaaaeidpnaaDoor
open Go Go.RowKit
attribute [local irreducible] WC RL OW bodyPostM ThenQ BlockQ LoopQ ScopeQ
theorem setRun_app (cs : List Value) : ∀ (pre zs post : List Value), zs.length = cs.length → setRun (pre ++ (zs ++ post)) pre.length cs = pre ++ (cs ++ post) := by
  induction cs with
  | nil => intro pre zs post h; rw [List.eq_nil_of_length_eq_zero h]; rfl
  | cons c r ih =>
    intro pre zs post h
    cases zs with
    | nil => cases h
    | cons z s =>
      have e : (pre ++ ((z :: s) ++ post)).set pre.length c = (pre ++ [c]) ++ (s ++ post) := by simp
      have := ih (pre ++ [c]) s post (Nat.succ.inj h)
      rw [setRun, e]
      simp only [List.length_append, List.length_cons, List.length_nil] at this
      rw [this, List.append_assoc]
      rfl
/-- A slice of three structs. -/
theorem fill3 {zs a b c : List Value} {n : Nat} (hz : zs.length = n) (ha : a.length = n) (hb : b.length = n) (hc : c.length = n) :
    fillL (fun i => some (i * n, n)) (zeroRow zs 3) [(0, .agg ⟨a⟩), (1, .agg ⟨b⟩), (2, .agg ⟨c⟩)] = some (a ++ (b ++ (c ++ []))) := by
  have e1 := setRun_app a [] zs (zs ++ (zs ++ [])) (by omega)
  have e2 := setRun_app b a zs (zs ++ []) (by omega)
  have e3 := setRun_app c (a ++ b) zs [] (by omega)
  simp only [List.nil_append, List.length_nil, List.append_assoc, List.length_append] at e1 e2 e3
  have l1 : (zs ++ (zs ++ (zs ++ []))).length = 3 * n := by simp only [List.length_append, List.length_nil]; omega
  have l2 : (a ++ (zs ++ (zs ++ []))).length = 3 * n := by simp only [List.length_append, List.length_nil]; omega
  have l3 : (a ++ (b ++ (zs ++ []))).length = 3 * n := by simp only [List.length_append, List.length_nil]; omega
  simp only [zeroRow, fillL, Value.cells, Nat.zero_mul, Nat.one_mul]
  rw [if_pos ⟨ha, by omega⟩, e1, if_pos ⟨hb, by omega⟩]
  rw [show n = a.length by omega, e2, if_pos ⟨by omega, by omega⟩, show 2 * a.length = a.length + b.length by omega, e3]
theorem mb1 {E : Env} {m : Mb} {r v u : Value} (hm : MbL E m r v u) : CsE mbR 29 E (mbC m r v u) [m] := by
  have h := CsE.cons1 (R := mbR) (sz := 29) (cs := mbC m r v u) (x := m) rfl ⟨r, v, u, rfl, hm⟩ (CsE.nil (R := mbR) (sz := 29) (E := E))
  rwa [List.append_nil] at h
abbrev nilL : Value := .slice none 0 0
def exSps : Sps := ⟨77, 0, 10, 0, 4, 4, 1, 1, 1⟩
def exPps : Pps := ⟨0, 0, false, 1, 1, 0, 0, 0, false, false⟩
def exMb : Mb := ⟨0, 0, 0, zero16, zero4, [], [], 0, 0, [], []⟩
def exHead (i : Bool) : Header := ⟨0, i, false, 0, 0, 0, 0, false, 0, false, [], false, false, false, [], 0, 0, 0, 0, 0⟩
def exSlc : Slc := ⟨1, true, exHead true, [exMb]⟩
def noSps : Sps := ⟨0, 0, 0, 0, 0, 0, 0, 0, 0⟩
def noPps : Pps := ⟨0, 0, false, 0, 0, 0, 0, 0, false, false⟩
def noSlc : Slc := ⟨0, false, exHead false, []⟩
def noNal : Nal := ⟨0, 0, []⟩
def exN0 : Node := ⟨0, 1, exSps, noPps, noSlc, noNal⟩
def exN1 : Node := ⟨1, 1, noSps, exPps, noSlc, noNal⟩
def exN2 : Node := ⟨2, 0, noSps, noPps, exSlc, noNal⟩
def exN4 : Node := ⟨4, 0, noSps, noPps, noSlc, noNal⟩
def exN3 : Node := ⟨3, 0, noSps, noPps, noSlc, ⟨0, 6, [97, 98, 99]⟩⟩
def exPcm : Mb := ⟨2, 0, 0, zero16, zero4, [], [], 0, 0, [], List.replicate 384 0⟩
def exBad : Mb := ⟨8, 0, 0, zero16, zero4, [], [], 0, 0, [], []⟩
theorem exMb_L {E : Env} {m : Mb} (h1 : m.refs = []) (h2 : m.mvds = []) (h3 : m.blocks = []) (h4 : I64 m.qp) (h5 : m.pcm.length ≤ 1000) : MbL E m nilL nilL nilL := ⟨h1 ▸ ListE.nil, h2 ▸ ListE.nil, h3 ▸ ListE.nil, h4, by omega⟩
theorem exHead_L {E : Env} (i : Bool) : HeadL E (exHead i) nilL nilL := ⟨ListE.nil, ListE.nil, by refine ⟨?_, ?_, ?_, ?_, ?_, ?_, ?_, ?_, ?_, ?_, ?_⟩ <;> (show I64 0; decide)⟩
theorem noSlc_L {E : Env} : SliceL E noSlc nilL nilL nilL := ⟨exHead_L false, ListE.nil⟩
theorem exSlc_L {E : Env} {q : Value} (h : ListE mbR 29 E q [exMb]) : SliceL E exSlc nilL nilL q := ⟨exHead_L true, h⟩
theorem noSps_I : spsI noSps := by refine ⟨?_, ?_, ?_, ?_, ?_, ?_⟩ <;> (show I64 0; decide)
theorem exSps_I : spsI exSps := by refine ⟨?_, ?_, ?_, ?_, ?_, ?_⟩ <;> (first | (show I64 0; decide) | (show I64 4; decide) | (show I64 1; decide))
theorem noPps_I : ppsI noPps := by refine ⟨?_, ?_, ?_, ?_, ?_, ?_, ?_⟩ <;> (show I64 0; decide)
theorem exPps_I : ppsI exPps := by refine ⟨?_, ?_, ?_, ?_, ?_, ?_, ?_⟩ <;> (first | (show I64 0; decide) | (show I64 1; decide))
theorem exN_L {E : Env} {n : Node} (h1 : n.slice = noSlc) (h2 : spsI n.sps) (h3 : ppsI n.pps) (h4 : n.other.rbsp.length ≤ 100) : NodeL E n nilL nilL nilL := ⟨h1 ▸ noSlc_L, h2, h3, by show n.other.rbsp.length ≤ _; omega⟩
theorem exN2_L {E : Env} {q : Value} (h : ListE mbR 29 E q [exMb]) : NodeL E exN2 nilL nilL q := ⟨exSlc_L h, noSps_I, noPps_I, Nat.zero_le _⟩
theorem exB {n : Node} (h1 : n.slice = noSlc) (h2 : n.other.rbsp.length ≤ 100) : NodeB n := by
  obtain ⟨k, r, s, p, sl, o⟩ := n
  cases h1
  exact ⟨Nat.zero_le _, Nat.zero_le _, Nat.zero_le _, fun m hm => (by cases hm), by show o.rbsp.length ≤ _; have : o.rbsp.length ≤ 100 := h2; omega⟩
theorem exN2_B : NodeB exN2 := ⟨Nat.zero_le _, Nat.zero_le _, by decide, fun m hm => by
  obtain rfl := List.mem_singleton.1 hm
  decide +kernel, Nat.zero_le _⟩
theorem ex_all : ∀ n ∈ [exN0, exN1, exN2], NodeB n := by
  intro n hn
  simp only [List.mem_cons, List.not_mem_nil, or_false] at hn
  rcases hn with rfl | rfl | rfl
  · exact exB rfl (Nat.zero_le _)
  · exact exB rfl (Nat.zero_le _)
  · exact exN2_B
section
set_option maxRecDepth 16000
set_option maxHeartbeats 8000000
variable (E : Env) (L : List Item) (w : World)
theorem sets31_calls (hA : Sat E L w) : Calls Tryd.prog 57 ⟨[]⟩ w (Ret E L (.tuple ⟨[.agg ⟨ppsC exPps⟩, .agg ⟨spsC exSps⟩]⟩)) := by
  refine enter (fn := Tryd.f57) Tryd.func57 rfl 4 rfl [undef, undef, undef, undef] rfl ?_
  repeat' (first | refine st ?_ | refine sr ?_ | refine sl hA ?_ | (refine s_w hA ?_; clear hA; (try clear w); intro w hA) | (refine s_v hA ?_; clear hA; (try clear w); intro v w hA hone hnil) | (refine s_b hA ?_; clear hA; (try clear w); intro b w hA) | refine sp (fun h => ?_) (fun h => ?_) | (refine wc_region ?_))
  exact fp_ret (resTwo rfl (one_cell 1 rfl rfl hA rfl rfl) (one_cell 0 rfl rfl hA rfl rfl)) ⟨rfl, hA.dropN 2⟩
theorem one31_calls (hA : Sat E L w) : Calls Tryd.prog 58 ⟨[]⟩ w (fun e w' => ∃ E' q, e = .returned (.agg ⟨sliceC exSlc nilL nilL q⟩) ∧ E.Le E' ∧ ListE mbR 29 E' q [exMb] ∧ Sat E' L w') := by
  refine enter (fn := Tryd.f58) Tryd.func58 rfl 5 rfl [undef, undef, undef, undef, undef] rfl ?_
  repeat' (first | (refine g_ow ?_; refine t_buildSlice rfl (by decide) rfl hA ?_; clear hA; intro bq w hA; refine rn ?_) | (refine g_ow ?_; refine t_build (cs := sliceC exSlc nilL nilL (.slice (some ⟨bq, 0, none⟩) 1 1)) rfl (by kernel_rfl) rfl ?_; refine rn ?_) | refine st ?_ | refine sr ?_ | refine sl hA ?_ | (refine s_w hA ?_; clear hA; (try clear w); intro w hA) | (refine s_v hA ?_; clear hA; (try clear w); intro v w hA hone hnil) | (refine s_b hA ?_; clear hA; (try clear w); intro b w hA) | refine sp (fun h => ?_) (fun h => ?_) | (refine wc_region ?_))
  obtain ⟨E1, hE1, hA1, hl⟩ := hA.freezeLitE (R := mbR) (xs := [exMb]) 0 rfl (mb1 (exMb_L (m := exMb) rfl rfl rfl (by show I64 0; decide) (Nat.zero_le _))) (Nat.le_of_ble_eq_true rfl)
  exact fp_ret (resSole rfl (one_cell 0 rfl rfl hA1 rfl rfl)) ⟨E1, _, rfl, hE1, hl, hA1.tail⟩
theorem pcm15_calls (hA : Sat E L w) : Calls Tryd.prog 34 ⟨[]⟩ w (Ret E L (.agg ⟨mbC exPcm nilL nilL nilL⟩)) := by
  have ez : zeroRow [Value.int .u8 0] 384 = (List.replicate 384 (0 : UInt8)).map u8 := by kernel_rfl
  refine enter (fn := Tryd.f34) Tryd.func34 rfl 4 rfl [undef, undef, undef, undef] rfl ?_
  repeat' (first | (refine g_ow ?_; refine t_makeN (n := 384) (by rfl) rfl rfl (by omega) (by omega) hA ?_; clear hA; intro v w hA hv1 hv2; rw [ez] at hA; refine rn ?_) | (refine g_ow ?_; refine t_bytes_str 0 rfl hA rfl ?_; refine rn ?_) | refine st ?_ | refine sr ?_ | refine sl hA ?_ | (refine s_w hA ?_; clear hA; (try clear w); intro w hA) | (refine s_v hA ?_; clear hA; (try clear w); intro v w hA hone hnil) | (refine s_b hA ?_; clear hA; (try clear w); intro b w hA) | refine sp (fun h => ?_) (fun h => ?_) | (refine wc_region ?_))
  exact fp_ret (resSole rfl (one_cell 1 rfl rfl hA rfl rfl)) ⟨rfl, hA.dropN 2⟩
def sliceX : Env → Value → Prop := fun E v => ∃ q, v = .agg ⟨sliceC exSlc nilL nilL q⟩ ∧ ListE mbR 29 E q [exMb]
instance : PMono sliceX := ⟨fun hE ⟨q, h1, h2⟩ => ⟨q, h1, h2.mono hE⟩⟩
def nodeX : Env → Value → Prop := fun E v => ∃ q, v = .agg ⟨nodeC exN2 nilL nilL q⟩ ∧ ListE mbR 29 E q [exMb]
instance : PMono nodeX := ⟨fun hE ⟨q, h1, h2⟩ => ⟨q, h1, h2.mono hE⟩⟩
theorem tree32_calls (hA : Sat E L w) : Calls Tryd.prog 33 ⟨[]⟩ w (fun e w' => ∃ E' v, e = .returned v ∧ E.Le E' ∧ ListE nodeR 47 E' v [exN0, exN1, exN2] ∧ Sat E' L w') := by
  refine enter (fn := Tryd.f33) Tryd.func33 rfl 14 rfl [undef, undef, undef, undef, undef, undef, undef, undef, undef, undef, undef, undef, undef, undef] rfl ?_
  repeat' (first | (refine g_callf 57 ?_; refine ow_call Tryd.call57 rfl ((sets31_calls _ _ _ hA).mono ?_); clear hA; (try clear w); rintro e w ⟨rfl, hA⟩; refine ⟨_, rfl, ?_⟩; refine rn ?_) | refine st ?_ | refine sr ?_ | refine sl hA ?_ | (refine s_w hA ?_; clear hA; (try clear w); intro w hA) | (refine s_v hA ?_; clear hA; (try clear w); intro v w hA hone hnil) | (refine s_b hA ?_; clear hA; (try clear w); intro b w hA) | refine sp (fun h => ?_) (fun h => ?_) | (refine wc_regionS 2 rfl ?_; refine wc_region ?_))
  refine' wc_mix 7 [7, 8, 9, 10, 11, 12, 13] [0, 1, 2, 3, 4, 5, 6] (mixPhi [_, _, _, _, undef, undef, undef] (fun ix => match ix with | 4 => some (sliceX) | 5 => some (nodeX) | 6 => some (fun E v => ListE nodeR 47 E v [exN0, exN1, exN2]) | _ => none)) rfl (by kernel_rfl) (by kernel_rfl) (by decide) hA ?phi2 ?ops2 ?k2
  case ops2 =>
    refine' TameOps.m rfl [] (by decide) [] (by decide) ?o2_0 ?r2_0
    case o2_0 => intro yy E' Lx w lf hE hph hl hA; replace hl := hz hl; subst hl; clear hph; first | (refine oq ?_; exact ⟨_, E', pe, Env.Le.refl _, mix_mk rfl rfl, hA⟩)
    refine' TameOps.m rfl [0] (by decide) [7] (by decide) ?o2_1 ?r2_1
    case o2_1 => intro yy E' Lx w lf hE hph hl hA; have e0 := mn hph 0; simp only [List.map_cons, List.map_nil, ← e0] at hl; replace hl := hz hl; subst hl; clear hph; first | (refine t_build (cs := nodeC exN0 nilL nilL nilL) rfl (by kernel_rfl) rfl ?_; exact ⟨_, E', pe, Env.Le.refl _, mix_mk rfl rfl, hA⟩) | (refine oq ?_; exact ⟨_, E', pe, Env.Le.refl _, mix_mk rfl rfl, hA⟩)
    refine' TameOps.m rfl [] (by decide) [] (by decide) ?o2_2 ?r2_2
    case o2_2 => intro yy E' Lx w lf hE hph hl hA; replace hl := hz hl; subst hl; clear hph; first | (refine oq ?_; exact ⟨_, E', pe, Env.Le.refl _, mix_mk rfl rfl, hA⟩)
    refine' TameOps.m rfl [2] (by decide) [9] (by decide) ?o2_3 ?r2_3
    case o2_3 => intro yy E' Lx w lf hE hph hl hA; have e2 := mn hph 2; simp only [List.map_cons, List.map_nil, ← e2] at hl; replace hl := hz hl; subst hl; clear hph; first | (refine t_build (cs := nodeC exN1 nilL nilL nilL) rfl (by kernel_rfl) rfl ?_; exact ⟨_, E', pe, Env.Le.refl _, mix_mk rfl rfl, hA⟩) | (refine oq ?_; exact ⟨_, E', pe, Env.Le.refl _, mix_mk rfl rfl, hA⟩)
    refine' TameOps.m rfl [] (by decide) [] (by decide) ?o2_4 ?r2_4
    case o2_4 => intro yy E' Lx w lf hE hph hl hA; replace hl := hz hl; subst hl; clear hph; refine ow_call Tryd.call58 rfl ((one31_calls _ _ _ hA).mono ?_); clear hA; rintro e w ⟨E2, q, rfl, hE2, hq, hA⟩; exact ⟨_, rfl, _, E2, rfl, hE2, mix_mkP rfl ⟨q, rfl, hq⟩, hA⟩
    refine' TameOps.m rfl [4] (by decide) [11] (by decide) ?o2_5 ?r2_5
    case o2_5 => intro yy E' Lx w lf hE hph hl hA; replace hl := hz hl; subst hl; have p4 := mp hph 4; generalize yy 4 = y4 at *; clear hph; obtain ⟨q, rfl, hq⟩ := p4; refine t_build (cs := nodeC exN2 nilL nilL q) rfl (by kernel_rfl) rfl ?_; exact ⟨_, E', rfl, Env.Le.refl _, mix_mkP rfl ⟨q, rfl, hq⟩, hA⟩
    refine' TameOps.m rfl [1, 3, 5] (by decide) [8, 10, 12] (by decide) ?o2_6 ?r2_6
    case o2_6 => intro yy E' Lx w lf hE hph hl hA; have e1 := mn hph 1; have e3 := mn hph 3; simp only [List.map_cons, List.map_nil, ← e1, ← e3] at hl; replace hl := hz hl; subst hl; have p5 := mp hph 5; generalize yy 5 = y5 at *; clear hph; obtain ⟨q, rfl, hq⟩ := p5; refine t_buildSlice (zs' := [Go.Value.int Go.IntKind.u8 0, Go.Value.int Go.IntKind.u8 0, Go.Value.int Go.IntKind.u8 0, Go.Value.int Go.IntKind.u8 0, Go.Value.int Go.IntKind.u8 0, Go.Value.int Go.IntKind.i64 0, Go.Value.int Go.IntKind.i64 0, Go.Value.int Go.IntKind.i64 0, Go.Value.int Go.IntKind.i64 0, Go.Value.int Go.IntKind.i64 0, Go.Value.int Go.IntKind.i64 0, Go.Value.int Go.IntKind.i64 0, Go.Value.int Go.IntKind.i64 0, Go.Value.bool false, Go.Value.int Go.IntKind.i64 0, Go.Value.int Go.IntKind.i64 0, Go.Value.int Go.IntKind.i64 0, Go.Value.int Go.IntKind.i64 0, Go.Value.int Go.IntKind.i64 0, Go.Value.bool false, Go.Value.bool false, Go.Value.int Go.IntKind.u8 0, Go.Value.bool false, Go.Value.int Go.IntKind.i64 0, Go.Value.bool false, Go.Value.bool false, Go.Value.int Go.IntKind.i64 0, Go.Value.int Go.IntKind.i64 0, Go.Value.int Go.IntKind.i64 0, Go.Value.int Go.IntKind.i64 0, Go.Value.bool false, Go.Value.int Go.IntKind.i64 0, Go.Value.bool false, Go.Value.slice none 0 0, Go.Value.bool false, Go.Value.bool false, Go.Value.bool false, Go.Value.slice none 0 0, Go.Value.int Go.IntKind.i64 0, Go.Value.int Go.IntKind.i64 0, Go.Value.int Go.IntKind.i64 0, Go.Value.int Go.IntKind.i64 0, Go.Value.int Go.IntKind.i64 0, Go.Value.slice none 0 0, Go.Value.int Go.IntKind.u8 0, Go.Value.int Go.IntKind.u8 0, Go.Value.string { data := #[] }]) (sz' := 47) rfl (by decide) (fill3 (zs := [Go.Value.int Go.IntKind.u8 0, Go.Value.int Go.IntKind.u8 0, Go.Value.int Go.IntKind.u8 0, Go.Value.int Go.IntKind.u8 0, Go.Value.int Go.IntKind.u8 0, Go.Value.int Go.IntKind.i64 0, Go.Value.int Go.IntKind.i64 0, Go.Value.int Go.IntKind.i64 0, Go.Value.int Go.IntKind.i64 0, Go.Value.int Go.IntKind.i64 0, Go.Value.int Go.IntKind.i64 0, Go.Value.int Go.IntKind.i64 0, Go.Value.int Go.IntKind.i64 0, Go.Value.bool false, Go.Value.int Go.IntKind.i64 0, Go.Value.int Go.IntKind.i64 0, Go.Value.int Go.IntKind.i64 0, Go.Value.int Go.IntKind.i64 0, Go.Value.int Go.IntKind.i64 0, Go.Value.bool false, Go.Value.bool false, Go.Value.int Go.IntKind.u8 0, Go.Value.bool false, Go.Value.int Go.IntKind.i64 0, Go.Value.bool false, Go.Value.bool false, Go.Value.int Go.IntKind.i64 0, Go.Value.int Go.IntKind.i64 0, Go.Value.int Go.IntKind.i64 0, Go.Value.int Go.IntKind.i64 0, Go.Value.bool false, Go.Value.int Go.IntKind.i64 0, Go.Value.bool false, Go.Value.slice none 0 0, Go.Value.bool false, Go.Value.bool false, Go.Value.bool false, Go.Value.slice none 0 0, Go.Value.int Go.IntKind.i64 0, Go.Value.int Go.IntKind.i64 0, Go.Value.int Go.IntKind.i64 0, Go.Value.int Go.IntKind.i64 0, Go.Value.int Go.IntKind.i64 0, Go.Value.slice none 0 0, Go.Value.int Go.IntKind.u8 0, Go.Value.int Go.IntKind.u8 0, Go.Value.string { data := #[] }]) (n := 47) (a := nodeC exN0 nilL nilL nilL) (b := nodeC exN1 nilL nilL nilL) (c := nodeC exN2 nilL nilL q) rfl rfl rfl rfl) hA ?_; clear hA; intro bb w hA; obtain ⟨E3, hE3, hA, hl⟩ := hA.freezeLitE (R := nodeR) (xs := [exN0, exN1, exN2]) 0 rfl (CsE.cons1 (R := nodeR) (sz := 47) (cs := nodeC exN0 nilL nilL nilL) (x := exN0) rfl ⟨nilL, nilL, nilL, rfl, exN_L rfl exSps_I noPps_I (Nat.zero_le _)⟩ (CsE.cons1 (R := nodeR) (sz := 47) (cs := nodeC exN1 nilL nilL nilL) (x := exN1) rfl ⟨nilL, nilL, nilL, rfl, exN_L rfl noSps_I exPps_I (Nat.zero_le _)⟩ (CsE.cons1 (R := nodeR) (sz := 47) (cs := nodeC exN2 nilL nilL q) (x := exN2) rfl ⟨nilL, nilL, q, rfl, exN2_L hq⟩ CsE.nil))) (Nat.le_of_ble_eq_true rfl); exact ⟨_, E3, rfl, hE3, mix_mkP rfl hl, hA⟩
    exact TameOps.nil
  case phi2 => (refine mix_mono fun i p hp E1 E2 v hE h => ?_; split at hp <;> first | (cases hp; done) | (obtain rfl := Option.some.inj hp; first | exact ListE.mono h hE | exact ListE.mono h (Env.sub_left _ hE) | exact PMono.mono hE h | exact PMono.mono (Env.sub_left _ hE) h | exact h))
  case' k2 => (try clear hA); intro yy E' w lf hE hph hl hA; have e0 := mn hph 0; have e1 := mn hph 1; have e2 := mn hph 2; have e3 := mn hph 3; simp only [List.map_cons, List.map_nil, ← e0, ← e1, ← e2, ← e3] at hl; replace hl := hz hl; subst hl; have p4 := mp hph 4; generalize yy 4 = y4 at *; have p5 := mp hph 5; generalize yy 5 = y5 at *; have p6 := mp hph 6; generalize yy 6 = y6 at *; clear hph
  have o6 := p6.one
  repeat' (first | refine st ?_ | refine sr ?_ | refine sl hA ?_ | (refine s_w hA ?_; clear hA; (try clear w); intro w hA) | (refine s_v hA ?_; clear hA; (try clear w); intro v w hA hone hnil) | (refine s_b hA ?_; clear hA; (try clear w); intro b w hA) | refine sp (fun h => ?_) (fun h => ?_) | (refine wc_region ?_))
  exact fp_ret (res1 rfl rfl) ⟨E', y6, rfl, hE, p6, hA.dropN 2⟩
end
theorem ex_want : ∀ (i : Nat) x y, [exN0, exN1, exN2][i]? = some x → ([256, 256, 317] : List Int)[i]? = some y → ((nodeN x : Nat) : Int) = y := by
  intro i x y hx hy
  match i with
  | 0 => cases hx; cases hy; decide +kernel
  | 1 => cases hx; cases hy; decide +kernel
  | 2 => cases hx; cases hy; decide +kernel
  | i + 3 => cases hx
set_option maxRecDepth 16000 in
set_option maxHeartbeats 8000000 in
theorem boundExamples_calls (E : Env) (L : List Item) (w : World) (hA : Sat E L w) (hG : MbG E) : Calls Tryd.prog 6 ⟨[]⟩ w (Ret E L (.bool true)) := by
  have bn : ∀ (n : Nat) (m : Mb) (E : Env), MbG E → binsV m = n → MbL E m nilL nilL nilL → ∀ (L : List Item) (w : World), Sat E L w → Calls Tryd.prog 19 ⟨[.agg ⟨mbC m nilL nilL nilL⟩]⟩ w (Ret E L (vi (n : Int))) := fun n m E hG h hm L w hA => h ▸ bBins_calls m _ _ _ E L w hA hm hG
  have bt : ∀ (n : Nat) (m : Mb) (E : Env), MbG E → bitsV m = n → MbL E m nilL nilL nilL → ∀ (L : List Item) (w : World), Sat E L w → Calls Tryd.prog 21 ⟨[.agg ⟨mbC m nilL nilL nilL⟩]⟩ w (Ret E L (vi (n : Int))) := fun n m E hG h hm L w hA => h ▸ bBits_calls m _ _ _ E L w hA hm hG
  have nd : ∀ (k : Nat) (n : Node) (E : Env), MbG E → nodeN n = k → NodeL E n nilL nilL nilL → NodeB n → ∀ (L : List Item) (w : World), Sat E L w → Calls Tryd.prog 27 ⟨[.agg ⟨nodeC n nilL nilL nilL⟩]⟩ w (Ret E L (vi (k : Int))) := fun k n E hG h hn hb L w hA => h ▸ bNode_calls n _ _ _ E L w hA hG hn hb
  have lp : ∀ E, MbL E exPcm nilL nilL nilL := fun E => exMb_L rfl rfl rfl (by show I64 0; decide) (by show (List.replicate 384 (0 : UInt8)).length ≤ 1000; rw [List.length_replicate]; omega)
  have lm : ∀ E, MbL E exMb nilL nilL nilL := fun E => exMb_L rfl rfl rfl (by show I64 0; decide) (Nat.zero_le _)
  have lb : ∀ E, MbL E exBad nilL nilL nilL := fun E => exMb_L rfl rfl rfl (by show I64 0; decide) (Nat.zero_le _)
  refine enter (fn := Tryd.f6) Tryd.func6 rfl 71 rfl [undef, undef, undef, undef, undef, undef, undef, undef, undef, undef, undef, undef, undef, undef, undef, undef, undef, undef, undef, undef, undef, undef, undef, undef, undef, undef, undef, undef, undef, undef, undef, undef, undef, undef, undef, undef, undef, undef, undef, undef, undef, undef, undef, undef, undef, undef, undef, undef, undef, undef, undef, undef, undef, undef, undef, undef, undef, undef, undef, undef, undef, undef, undef, undef, undef, undef, undef, undef, undef, undef, undef] rfl ?_
  repeat' (first | (refine g_callf 33 ?_; refine ow_call Tryd.call33 rfl ((tree32_calls _ _ _ hA).mono ?_); clear hA; (try clear w); rintro e w ⟨E1, v, rfl, hE1, hl, hA⟩; refine ⟨_, rfl, ?_⟩; (try have ol := hl.one); refine rn ?_) | refine st ?_ | refine sr ?_ | refine sl hA ?_ | (refine s_w hA ?_; clear hA; (try clear w); intro w hA) | (refine s_v hA ?_; clear hA; (try clear w); intro v w hA hone hnil) | (refine s_b hA ?_; clear hA; (try clear w); intro b w hA) | refine sp (fun h => ?_) (fun h => ?_) | (refine wc_regionS 2 rfl ?_; refine wc_region ?_))
  have hG1 := hG.mono hE1
  have bp := bn 10 exPcm E1 hG1 (by decide +kernel) (lp _)
  have tp := bt 3160 exPcm E1 hG1 (by decide +kernel) (lp _)
  have bm := bn 89 exMb E1 hG1 (by decide +kernel) (lm _)
  have tm := bt 534 exMb E1 hG1 (by decide +kernel) (lm _)
  have hpcm := pcm15_calls E1 L
  refine wc_region ?_
  refine' rl_v hA ?o2_0 ?k2_0
  case o2_0 => intro w hA; first | (refine ow_call Tryd.call34 rfl ((hpcm _ hA).mono ?_); clear hA; rintro e w ⟨rfl, hA⟩; refine ⟨_, rfl, ?_⟩; exact ⟨put_eq (by rfl), hA⟩)
  clear hA; intro w hA; refine rn ?_
  refine' rl_v hA ?o2_1 ?k2_1
  case o2_1 => intro w hA; first | (refine ow_call Tryd.call19 rfl ((bp _ _ hA).mono ?_); clear hA; rintro e w ⟨rfl, hA⟩; refine ⟨_, rfl, ?_⟩; exact ⟨put_eq (by rfl), hA⟩)
  clear hA; intro w hA; refine rn ?_
  refine rv hA ?_; clear hA; intro w hA
  refine rv hA ?_; clear hA; intro w hA
  first | refine' rl_F rfl hA ?o2_4 ?k2_4 | refine' rl_Fn rfl hA ?o2_4 ?k2_4
  case o2_4 => intro hg w hA; first | (refine ow_call Tryd.call34 rfl ((hpcm _ hA).mono ?_); clear hA; rintro e w ⟨rfl, hA⟩; refine ⟨_, rfl, ?_⟩; exact ⟨put_eq (by rfl), hA⟩)
  clear hA; intro w hA; refine rn ?_
  first | refine' rl_F rfl hA ?o2_5 ?k2_5 | refine' rl_Fn rfl hA ?o2_5 ?k2_5
  case o2_5 => intro hg w hA; first | (refine ow_call Tryd.call21 (evs1 opr) ((tp _ _ hA).mono ?_); clear hA; rintro e w ⟨rfl, hA⟩; refine ⟨_, rfl, ?_⟩; exact ⟨put_eq (by rfl), hA⟩)
  clear hA; intro w hA; refine rn ?_
  refine rf hA ?_; clear hA; intro w hA
  refine rv hA ?_; clear hA; intro w hA
  refine rv hA ?_; clear hA; intro w hA
  refine rf hA ?_; clear hA; intro w hA
  first | refine' rl_F rfl hA ?o2_10 ?k2_10 | refine' rl_Fn rfl hA ?o2_10 ?k2_10
  case o2_10 => intro hg w hA; first | (refine ow_call Tryd.call19 (evs1 opr) ((bm _ _ hA).mono ?_); clear hA; rintro e w ⟨rfl, hA⟩; refine ⟨_, rfl, ?_⟩; exact ⟨put_eq (by rfl), hA⟩)
  clear hA; intro w hA; refine rn ?_
  refine rf hA ?_; clear hA; intro w hA
  refine rv hA ?_; clear hA; intro w hA
  refine rv hA ?_; clear hA; intro w hA
  refine rf hA ?_; clear hA; intro w hA
  first | refine' rl_F rfl hA ?o2_15 ?k2_15 | refine' rl_Fn rfl hA ?o2_15 ?k2_15
  case o2_15 => intro hg w hA; first | (refine ow_call Tryd.call21 (evs1 opr) ((tm _ _ hA).mono ?_); clear hA; rintro e w ⟨rfl, hA⟩; refine ⟨_, rfl, ?_⟩; exact ⟨put_eq (by rfl), hA⟩)
  clear hA; intro w hA; refine rn ?_
  refine rf hA ?_; clear hA; intro w hA
  refine rv hA ?_; clear hA; intro w hA
  refine rl_nil ?_
  repeat' (first | refine st ?_ | refine sr ?_ | refine sl hA ?_ | (refine s_w hA ?_; clear hA; (try clear w); intro w hA) | (refine s_v hA ?_; clear hA; (try clear w); intro v w hA hone hnil) | (refine s_b hA ?_; clear hA; (try clear w); intro b w hA) | refine sp (fun h => ?_) (fun h => ?_) | (refine wc_region ?_))
  obtain ⟨E2, hE2, hA2, hw⟩ := hA.freezeLitE (R := intR) (xs := [256, 256, 317]) 0 rfl (CsE.cons1 (R := intR) (sz := 1) (cs := [vi 256]) (x := 256) rfl ⟨rfl, by decide⟩ (CsE.cons1 (R := intR) (sz := 1) (cs := [vi 256]) (x := 256) rfl ⟨rfl, by decide⟩ (CsE.cons1 (R := intR) (sz := 1) (cs := [vi 317]) (x := 317) rfl ⟨rfl, by decide⟩ CsE.nil))) (Nat.le_of_ble_eq_true rfl)
  have hw : ListE intR 1 E2 (.slice (some ⟨b, 0, none⟩) 3 3) [256, 256, 317] := hw
  have ow := hw.one
  clear hA
  have hA := hA2
  clear hA2
  generalize Value.slice (some ⟨b, 0, none⟩) 3 3 = q at *
  have hG2 := hG1.mono hE2
  have hl2 := hl.mono hE2
  clear bp tp bm tm hpcm
  obtain ⟨cx, hcx⟩ := hl2.sl
  obtain ⟨cw, hcw⟩ := hw.sl
  refine wc_loopn (fun t l w => ∃ (i : Nat), (∃ jk : Nat → Value, l = [.bool false, v, q, vi (i : Int), jk 4, jk 5, jk 6, jk 7, jk 8, jk 9, jk 10, jk 11, jk 12, jk 13, jk 14, jk 15, jk 16, jk 17, jk 18, jk 19, jk 20, jk 21, jk 22, jk 23, jk 24, jk 25, jk 26, jk 27, jk 28, jk 29, jk 30, jk 31, jk 32, jk 33, jk 34, jk 35, jk 36, jk 37, jk 38, jk 39, jk 40, jk 41, jk 42, jk 43, jk 44, jk 45, jk 46, jk 47, jk 48, jk 49, jk 50, jk 51, jk 52, jk 53, jk 54, jk 55, jk 56, jk 57, jk 58, jk 59, jk 60, jk 61, jk 62, jk 63, jk 64, jk 65, jk 66, jk 67, jk 68, jk 69, jk 70]) ∧ i + t = 3 ∧ Sat E2 L w) 3 ⟨0, (ex_getD rfl), by omega, hA⟩ ?_
  clear hA
  rintro t l w ⟨i, ⟨jk, rfl⟩, hi, hA⟩
  have hlen : [exN0, exN1, exN2].length = 3 := rfl
  have hlen2 : ([256, 256, 317] : List Int).length = 3 := rfl
  by_cases hlt : i < 3
  · obtain ⟨x, hxi⟩ : ∃ x, [exN0, exN1, exN2][i]? = some x := ⟨_, List.getElem?_eq_getElem (by omega)⟩
    obtain ⟨y, hyi⟩ : ∃ y, ([256, 256, 317] : List Int)[i]? = some y := ⟨_, List.getElem?_eq_getElem (by omega)⟩
    have hxy := ex_want i x y hxi hyi
    subst hxy
    have hbx := ex_all x (List.mem_of_getElem? hxi)
    obtain ⟨cs, hcsl, ⟨r, z, u, rfl, hm⟩, hg⟩ := hl2.get hxi
    obtain ⟨cs', hcsl', ⟨rfl, h64⟩, hg'⟩ := hw.get hyi
    have hx0 : ∀ t z', (nodeC x r z u)[t]? = some z' → E2.cell? ⟨sB v, sO v + (i : Int).toNat * 47 + t, none⟩ = some z' := hg
    have hy0 : E2.cell? ⟨sB q, sO q + (i : Int).toNat * 1, none⟩ = some (vi ((nodeN x : Nat) : Int)) := hg' 0 _ rfl
    repeat' (first | (refine g_call ?_; refine t_lenS rfl hcx ?_; refine rn ?_) | refine st ?_ | refine sr ?_ | refine sl hA ?_ | (refine s_w hA ?_; clear hA; (try clear w); intro w hA) | (refine s_v hA ?_; clear hA; (try clear w); intro v w hA hone hnil) | (refine s_b hA ?_; clear hA; (try clear w); intro b w hA) | refine sp (fun h => ?_) (fun h => ?_) | (refine wc_regionS 8 rfl ?_; refine wc_region ?_))
    refine' wc_vals 10 [30, 31, 32, 33, 34, 35, 36, 37, 38, 39] [_, _, _, _, _, _, _, _, _, _] rfl (by kernel_rfl) (by kernel_rfl) (by kernel_rfl) hA ?ops8 ?k8
    case ops8 =>
      refine' VOps.c0 rfl [] (by decide) [] (by decide) rfl ?o8_0 ?r8_0
      case o8_0 => intro E' Lx w lf hE hl hA; replace hl := hz hl; subst hl; first | (refine oq ?_; exact ⟨pe, hA⟩)
      refine' VOps.c0 rfl [] (by decide) [] (by decide) rfl ?o8_1 ?r8_1
      case o8_1 => intro E' Lx w lf hE hl hA; replace hl := hz hl; subst hl; first | (refine oq ?_; exact ⟨pe, hA⟩)
      refine' VOps.c0 rfl [0, 1] (by decide) [30, 31] (by decide) rfl ?o8_2 ?r8_2
      case o8_2 => intro E' Lx w lf hE hl hA; replace hl := hz hl; subst hl; first | (refine t_indexAddrS rfl (hcx.mono hE) rfl (by omega) ?_; exact ⟨pe, hA⟩) | (refine t_indexAddrS rfl (hcw.mono hE) rfl (by omega) ?_; exact ⟨pe, hA⟩) | (refine oq ?_; exact ⟨pe, hA⟩) | (refine t_indexAddrS rfl rfl (by omega) ?_; exact ⟨pe, hA⟩)
      refine' VOps.c0 rfl [2] (by decide) [32] (by decide) rfl ?o8_3 ?r8_3
      case o8_3 => intro E' Lx w lf hE hl hA; replace hl := hz hl; subst hl; first | (refine t_load_agg_env rfl rfl hA (fun j z hz => hE.cell (hx0 j z hz)) rfl ?_; exact ⟨pe, hA⟩) | (refine t_load_env rfl rfl hA (hE.cell hy0) ?_; exact ⟨pe, hA⟩) | (refine oq ?_; exact ⟨pe, hA⟩)
      refine' VOps.c0 rfl [3] (by decide) [33] (by decide) rfl ?o8_4 ?r8_4
      case o8_4 => intro E' Lx w lf hE hl hA; replace hl := hz hl; subst hl; first | (refine ow_call Tryd.call27 rfl ((bNode_calls x r z u _ _ _ hA (hG2.mono hE) (hm.mono hE) hbx).mono ?_); clear hA; rintro e w ⟨rfl, hA⟩; refine ⟨_, rfl, ?_⟩; exact ⟨put_eq (by rfl), hA⟩)
      refine' VOps.c0 rfl [] (by decide) [] (by decide) rfl ?o8_5 ?r8_5
      case o8_5 => intro E' Lx w lf hE hl hA; replace hl := hz hl; subst hl; first | (refine oq ?_; exact ⟨pe, hA⟩)
      refine' VOps.c0 rfl [] (by decide) [] (by decide) rfl ?o8_6 ?r8_6
      case o8_6 => intro E' Lx w lf hE hl hA; replace hl := hz hl; subst hl; first | (refine oq ?_; exact ⟨pe, hA⟩)
      refine' VOps.c0 rfl [5, 6] (by decide) [35, 36] (by decide) rfl ?o8_7 ?r8_7
      case o8_7 => intro E' Lx w lf hE hl hA; replace hl := hz hl; subst hl; first | (refine t_indexAddrS rfl (hcx.mono hE) rfl (by omega) ?_; exact ⟨pe, hA⟩) | (refine t_indexAddrS rfl (hcw.mono hE) rfl (by omega) ?_; exact ⟨pe, hA⟩) | (refine oq ?_; exact ⟨pe, hA⟩) | (refine t_indexAddrS rfl rfl (by omega) ?_; exact ⟨pe, hA⟩)
      refine' VOps.c0 rfl [7] (by decide) [37] (by decide) rfl ?o8_8 ?r8_8
      case o8_8 => intro E' Lx w lf hE hl hA; replace hl := hz hl; subst hl; first | (refine t_load_agg_env rfl rfl hA (fun j z hz => hE.cell (hx0 j z hz)) rfl ?_; exact ⟨pe, hA⟩) | (refine t_load_env rfl rfl hA (hE.cell hy0) ?_; exact ⟨pe, hA⟩) | (refine oq ?_; exact ⟨pe, hA⟩)
      refine' VOps.c0 rfl [4, 8] (by decide) [34, 38] (by decide) rfl ?o8_9 ?r8_9
      case o8_9 => intro E' Lx w lf hE hl hA; replace hl := hz hl; subst hl; first | (refine oq ?_; exact ⟨pe, hA⟩)
      exact TameOps.nil
    case' k8 => (try clear hA); intro w hA; refine rn ?_
    repeat' (first | refine st ?_ | refine sr ?_ | refine sl hA ?_ | (refine s_w hA ?_; clear hA; (try clear w); intro w hA) | (refine s_v hA ?_; clear hA; (try clear w); intro v w hA hone hnil) | (refine s_b hA ?_; clear hA; (try clear w); intro b w hA) | refine sp (fun h => ?_) (fun h => ?_) | (refine wc_region ?_))
    exact lq_next (t - 1) (by omega) ⟨i + 1, (ex_getD rfl), by omega, hA⟩
  · have e3 : sumN nodeN [exN0, exN1, exN2] = 829 := by decide +kernel
    have tv : ∀ (L : List Item) (w : World), Sat E2 L w → Calls Tryd.prog 30 ⟨[v]⟩ w (Ret E2 L (vi 829)) := fun L w hA => by
      have := bTree_calls v _ E2 L w hA hG2 hl2 ex_all (by decide)
      rwa [e3] at this
    have t0 : ∀ (L : List Item) (w : World), Sat E2 L w → Calls Tryd.prog 30 ⟨[nilL]⟩ w (Ret E2 L (vi 0)) := fun L w hA => bTree_calls nilL [] E2 L w hA hG2 ListE.nil (fun n hn => by cases hn) (by decide)
    have b8 := bn 0 exBad E2 hG2 (by decide +kernel) (lb _)
    have t8 := bt 0 exBad E2 hG2 (by decide +kernel) (lb _)
    have n4 := nd 0 exN4 E2 hG2 (by decide +kernel) (exN_L rfl noSps_I noPps_I (Nat.zero_le _)) (exB rfl (Nat.zero_le _))
    have n3 := nd 12 exN3 E2 hG2 (by decide +kernel) (exN_L rfl noSps_I noPps_I (by decide)) (exB rfl (by decide))
    repeat' (first | (refine g_call ?_; refine t_lenS rfl hcx ?_; refine rn ?_) | refine st ?_ | refine sr ?_ | refine sl hA ?_ | (refine s_w hA ?_; clear hA; (try clear w); intro w hA) | (refine s_v hA ?_; clear hA; (try clear w); intro v w hA hone hnil) | (refine s_b hA ?_; clear hA; (try clear w); intro b w hA) | refine sp (fun h => ?_) (fun h => ?_) | (refine wc_regionS 10 rfl ?_; refine wc_region ?_))
    refine wc_region ?_
    refine rv hA ?_; clear hA; intro w hA
    refine' rl_v hA ?o10_1 ?k10_1
    case o10_1 => intro w hA; first | (refine ow_call Tryd.call30 rfl ((tv _ _ hA).mono ?_); clear hA; rintro e w ⟨rfl, hA⟩; refine ⟨_, rfl, ?_⟩; exact ⟨put_eq (by rfl), hA⟩)
    clear hA; intro w hA; refine rn ?_
    refine rv hA ?_; clear hA; intro w hA
    refine rv hA ?_; clear hA; intro w hA
    first | refine' rl_T rfl hA ?o10_4 ?k10_4 | refine' rl_Tn rfl hA ?o10_4 ?k10_4
    case o10_4 => intro hg w hA; first | (refine ow_call Tryd.call30 (evs1 opr) ((t0 _ _ hA).mono ?_); clear hA; rintro e w ⟨rfl, hA⟩; refine ⟨_, rfl, ?_⟩; exact ⟨put_eq (by rfl), hA⟩)
    clear hA; intro w hA; refine rn ?_
    refine rt hA ?_; clear hA; intro w hA
    refine rv hA ?_; clear hA; intro w hA
    refine rv hA ?_; clear hA; intro w hA
    refine rt hA ?_; clear hA; intro w hA
    first | refine' rl_T rfl hA ?o10_9 ?k10_9 | refine' rl_Tn rfl hA ?o10_9 ?k10_9
    case o10_9 => intro hg w hA; first | (refine ow_call Tryd.call19 (evs1 opr) ((b8 _ _ hA).mono ?_); clear hA; rintro e w ⟨rfl, hA⟩; refine ⟨_, rfl, ?_⟩; exact ⟨put_eq (by rfl), hA⟩)
    clear hA; intro w hA; refine rn ?_
    refine rt hA ?_; clear hA; intro w hA
    refine rv hA ?_; clear hA; intro w hA
    refine rv hA ?_; clear hA; intro w hA
    refine rt hA ?_; clear hA; intro w hA
    first | refine' rl_T rfl hA ?o10_14 ?k10_14 | refine' rl_Tn rfl hA ?o10_14 ?k10_14
    case o10_14 => intro hg w hA; first | (refine ow_call Tryd.call21 (evs1 opr) ((t8 _ _ hA).mono ?_); clear hA; rintro e w ⟨rfl, hA⟩; refine ⟨_, rfl, ?_⟩; exact ⟨put_eq (by rfl), hA⟩)
    clear hA; intro w hA; refine rn ?_
    refine rt hA ?_; clear hA; intro w hA
    refine rv hA ?_; clear hA; intro w hA
    refine rv hA ?_; clear hA; intro w hA
    first | refine' rl_T rfl hA ?o10_18 ?k10_18 | refine' rl_Tn rfl hA ?o10_18 ?k10_18
    case o10_18 => intro hg w hA; first | (refine t_build (cs := nodeC exN4 nilL nilL nilL) rfl (by kernel_rfl) rfl ?_; exact ⟨pe, hA⟩) | (refine oqg ?_; exact ⟨pe, hA⟩)
    clear hA; intro w hA; refine rn ?_
    first | refine' rl_T rfl hA ?o10_19 ?k10_19 | refine' rl_Tn rfl hA ?o10_19 ?k10_19
    case o10_19 => intro hg w hA; first | (refine ow_call Tryd.call27 (evs1 opr) ((n4 _ _ hA).mono ?_); clear hA; rintro e w ⟨rfl, hA⟩; refine ⟨_, rfl, ?_⟩; exact ⟨put_eq (by rfl), hA⟩)
    clear hA; intro w hA; refine rn ?_
    refine rt hA ?_; clear hA; intro w hA
    refine rv hA ?_; clear hA; intro w hA
    refine rv hA ?_; clear hA; intro w hA
    first | refine' rl_T rfl hA ?o10_23 ?k10_23 | refine' rl_Tn rfl hA ?o10_23 ?k10_23
    case o10_23 => intro hg w hA; first | (refine t_build (cs := nalC ⟨0, 6, [97, 98, 99]⟩) rfl (by kernel_rfl) rfl ?_; exact ⟨pe, hA⟩) | (refine oqg ?_; exact ⟨pe, hA⟩)
    clear hA; intro w hA; refine rn ?_
    first | refine' rl_T rfl hA ?o10_24 ?k10_24 | refine' rl_Tn rfl hA ?o10_24 ?k10_24
    case o10_24 => intro hg w hA; first | (refine t_build (cs := nodeC exN3 nilL nilL nilL) rfl (by kernel_rfl) rfl ?_; exact ⟨pe, hA⟩) | (refine oqg ?_; exact ⟨pe, hA⟩)
    clear hA; intro w hA; refine rn ?_
    first | refine' rl_T rfl hA ?o10_25 ?k10_25 | refine' rl_Tn rfl hA ?o10_25 ?k10_25
    case o10_25 => intro hg w hA; first | (refine ow_call Tryd.call27 (evs1 opr) ((n3 _ _ hA).mono ?_); clear hA; rintro e w ⟨rfl, hA⟩; refine ⟨_, rfl, ?_⟩; exact ⟨put_eq (by rfl), hA⟩)
    clear hA; intro w hA; refine rn ?_
    refine rt hA ?_; clear hA; intro w hA
    refine rv hA ?_; clear hA; intro w hA
    refine rv hA ?_; clear hA; intro w hA
    first | refine' rl_T rfl hA ?o10_29 ?k10_29 | refine' rl_Tn rfl hA ?o10_29 ?k10_29
    case o10_29 => intro hg w hA; first | (refine ow_call Tryd.call24 rfl ((awake38_calls _ _ _ hA hG2).mono ?_); clear hA; rintro e w ⟨rfl, hA⟩; refine ⟨_, rfl, ?_⟩; exact ⟨put_eq (by rfl), hA⟩)
    clear hA; intro w hA; refine rn ?_
    refine rv hA ?_; clear hA; intro w hA
    refine rv hA ?_; clear hA; intro w hA
    refine rl_nil ?_
    repeat' (first | refine st ?_ | refine sr ?_ | refine sl hA ?_ | (refine s_w hA ?_; clear hA; (try clear w); intro w hA) | (refine s_v hA ?_; clear hA; (try clear w); intro v w hA hone hnil) | (refine s_b hA ?_; clear hA; (try clear w); intro b w hA) | refine sp (fun h => ?_) (fun h => ?_) | (refine wc_region ?_))
    exact ret1 (hA.le (hE1.trans hE2)) rfl rfl
end Go.Proofs.YtomfoaaaeidpnaaDoor
