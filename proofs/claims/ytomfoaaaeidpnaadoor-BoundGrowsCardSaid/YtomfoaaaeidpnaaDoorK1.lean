/-
  The data of the program, as plain types; how their cells read; equality of structs.
-/
import Derived.Test.YtomfoaaaeidpnaaDoorSlZ
import Derived.Test.YtomfoaaaeidpnaaDoorTy
set_option linter.unusedVariables false
set_option linter.unusedSimpArgs false
namespace Go.Proofs.YtomfoaaaeidpnaaDoor
open Go Go.RowKit
structure Vec where
  (x y : Int)
  deriving DecidableEq
structure Coded where
  (cat comp : UInt8)
  k : Int
  deriving DecidableEq
structure Mb where
  (kind mode chroma : UInt8)
  preds : Vector UInt8 16
  sub : Vector UInt8 4
  refs : List Int
  mvds : List Vec
  cbp : UInt8
  qp : Int
  blocks : List (List Int)
  pcm : List UInt8
  deriving DecidableEq
abbrev vecC (v : Vec) : List Value := [vi v.x, vi v.y]
abbrev codedC (c : Coded) : List Value := [u8 c.cat, u8 c.comp, vi c.k]
def vecR : Rd Vec := fun _ cs v => cs = vecC v ∧ I64 v.x ∧ I64 v.y
def codedR : Rd Coded := fun _ cs c => cs = codedC c ∧ I64 c.k
/-- The cells of a macroblock, its lists being the values r, v, b. -/
abbrev mbC (m : Mb) (r v b : Value) : List Value :=
  [u8 m.kind, u8 m.mode, u8 m.chroma, u8 m.preds[0], u8 m.preds[1], u8 m.preds[2], u8 m.preds[3], u8 m.preds[4], u8 m.preds[5], u8 m.preds[6], u8 m.preds[7], u8 m.preds[8], u8 m.preds[9], u8 m.preds[10], u8 m.preds[11], u8 m.preds[12], u8 m.preds[13], u8 m.preds[14], u8 m.preds[15],
   u8 m.sub[0], u8 m.sub[1], u8 m.sub[2], u8 m.sub[3], r, v, u8 m.cbp, vi m.qp, b, vs m.pcm]
abbrev blocksR : Rd (List (List Int)) := listR (listR intR 1) 1
/-- The lists of a macroblock. -/
structure MbL (E : Env) (m : Mb) (r v b : Value) : Prop where
  refs : ListE intR 1 E r m.refs
  mvds : ListE vecR 2 E v m.mvds
  blocks : ListE (listR intR 1) 1 E b m.blocks
  qp : I64 m.qp
  pcm : m.pcm.length ≤ 9223372036854775807
def mbR : Rd Mb := fun E cs m => ∃ r v b, cs = mbC m r v b ∧ MbL E m r v b
instance : RdMono vecR := ⟨fun _ h => h, fun h u hu => by rw [h.1] at hu; simp at hu; rcases hu with rfl | rfl <;> rfl⟩
instance : RdMono codedR := ⟨fun _ h => h, fun h u hu => by rw [h.1] at hu; simp at hu; rcases hu with rfl | rfl | rfl <;> rfl⟩
theorem MbL.mono {E E' : Env} {m : Mb} {r v b : Value} (h : MbL E m r v b) (hE : E.Le E') : MbL E' m r v b := ⟨h.refs.mono hE, h.mvds.mono hE, h.blocks.mono hE, h.qp, h.pcm⟩
theorem mbC_one {E : Env} {m : Mb} {r v b : Value} (h : MbL E m r v b) : ∀ u ∈ mbC m r v b, u.oneCell' = true := by
  intro u hu
  simp only [mbC, List.mem_cons, List.not_mem_nil, or_false] at hu
  rcases hu with rfl|rfl|rfl|rfl|rfl|rfl|rfl|rfl|rfl|rfl|rfl|rfl|rfl|rfl|rfl|rfl|rfl|rfl|rfl|rfl|rfl|rfl|rfl|rfl|rfl|rfl|rfl|rfl|rfl
  all_goals first | rfl | exact h.refs.one | exact h.mvds.one | exact h.blocks.one
instance : RdMono mbR := ⟨fun hE ⟨r, v, b, h1, h2⟩ => ⟨r, v, b, h1, h2.mono hE⟩, fun ⟨r, v, b, h1, h2⟩ => by rw [h1]; exact mbC_one h2⟩
theorem u8_wf (b : UInt8) : (Lit.int .u8 (b.toNat : Int)).wf = true := by
  have := b.toNat_lt
  simp [Lit.wf, IntKind.min, IntKind.max, IntKind.signed, IntKind.bits]; omega
theorem i64_wf {x : Int} (h : I64 x) : (Lit.int .i64 x).wf = true := by
  simp [Lit.wf, IntKind.min, IntKind.max, IntKind.signed, IntKind.bits]; omega
theorem str_wf {s : List UInt8} (h : s.length ≤ 9223372036854775807) : (bs s).size ≤ maxLen := by rw [bs_size]; unfold maxLen; omega
theorem dec_of {r : Bool} {p : Prop} [Decidable p] (h : r = true ↔ p) : r = decide p := by
  by_cases hp : p
  · rw [decide_eq_true hp]; exact h.2 hp
  · rw [decide_eq_false hp]; cases r
    · rfl
    · exact absurd (h.1 rfl) hp
theorem u8_inj {a b : UInt8} : (a.toNat : Int) = (b.toNat : Int) ↔ a = b := by rw [Int.ofNat_inj, UInt8.toNat_inj]
theorem nat_inj {a b : UInt8} : a.toNat = b.toNat ↔ a = b := UInt8.toNat_inj
section
variable {ro : Option Nat} {P : Program} {l : List Value} {ds : List Deferred} {w : World} {next : List Value → World → Prop} {Q : Exit → Act → World → Prop}
variable {d : Option Tmp} {ty : TypeId} {pos : String} {aft : Array Edge} {g : Option (Nat × Bool)} {T T' : TypeId} {X Y Z : Operand}
theorem ow_eqK {xs ys : List Value} {la lb : List Lit} {m D D' : Nat} {p : Prop} [Decidable p] (hk : P.keyTypeAt m T = true) (hm : m ≤ 10000) (hg : P.eqGuardType P.depth T = false) (hx : ev l X = .agg ⟨xs⟩) (hy : ev l Y = .agg ⟨ys⟩) (fx : (Value.agg ⟨xs⟩).formed P T = true) (fy : (Value.agg ⟨ys⟩).formed P T = true)
    (ha : P.keyLits D T xs = some la) (hb : P.keyLits D' T ys = some lb) (hp : la = lb ↔ p) (h : next (put l d (.bool (decide p))) w) : OW ro P ⟨d, .binOp .eql T X Y T', ty, pos, aft, g⟩ l ds w next Q :=
  ow_eqa hk hm hg hx hy fx fy ha hb fun r hr => by rw [dec_of (hr.trans hp)]; exact h
theorem ow_neK {xs ys : List Value} {la lb : List Lit} {m D D' : Nat} {p : Prop} [Decidable p] (hk : P.keyTypeAt m T = true) (hm : m ≤ 10000) (hg : P.eqGuardType P.depth T = false) (hx : ev l X = .agg ⟨xs⟩) (hy : ev l Y = .agg ⟨ys⟩) (fx : (Value.agg ⟨xs⟩).formed P T = true) (fy : (Value.agg ⟨ys⟩).formed P T = true)
    (ha : P.keyLits D T xs = some la) (hb : P.keyLits D' T ys = some lb) (hp : la = lb ↔ p) (h : next (put l d (.bool (!decide p))) w) : OW ro P ⟨d, .binOp .neq T X Y T', ty, pos, aft, g⟩ l ds w next Q :=
  ow_nea hk hm hg hx hy fx fy ha hb fun r hr => by rw [dec_of (hr.trans hp)]; exact h
end
theorem vec_lits {v : Vec} (h : I64 v.x ∧ I64 v.y) : Tryd.prog.keyLits 3 37 (vecC v) = some [.int .i64 v.x, .int .i64 v.y] := by
  have c1 : Tryd.prog.cellsOf 37 = 2 := by kernel_rfl
  have c2 : Tryd.prog.cellsOf 3 = 1 := by kernel_rfl
  simp [Program.keyLits, Tryd.underlying37, Tryd.underlying3, c1, c2, i64_wf h.1, i64_wf h.2]
  try rfl
theorem coded_lits {c : Coded} (h : I64 c.k) : Tryd.prog.keyLits 3 141 (codedC c) = some [.int .u8 (c.cat.toNat : Int), .int .u8 (c.comp.toNat : Int), .int .i64 c.k] := by
  have c1 : Tryd.prog.cellsOf 141 = 3 := by kernel_rfl
  have c2 : Tryd.prog.cellsOf 3 = 1 := by kernel_rfl
  have c3 : Tryd.prog.cellsOf 5 = 1 := by kernel_rfl
  simp [Program.keyLits, Tryd.underlying141, Tryd.underlying3, Tryd.underlying5, c1, c2, c3, i64_wf h, u8_wf]
  try rfl
/-- The bytes of an array. -/
abbrev arr16 (p : Vector UInt8 16) : List Value := [u8 p[0], u8 p[1], u8 p[2], u8 p[3], u8 p[4], u8 p[5], u8 p[6], u8 p[7], u8 p[8], u8 p[9], u8 p[10], u8 p[11], u8 p[12], u8 p[13], u8 p[14], u8 p[15]]
abbrev arr4 (p : Vector UInt8 4) : List Value := [u8 p[0], u8 p[1], u8 p[2], u8 p[3]]
abbrev lit8 (b : UInt8) : Lit := .int .u8 (b.toNat : Int)
theorem arr16_lits (p : Vector UInt8 16) : Tryd.prog.keyLits 3 22 (arr16 p) = some [lit8 p[0], lit8 p[1], lit8 p[2], lit8 p[3], lit8 p[4], lit8 p[5], lit8 p[6], lit8 p[7], lit8 p[8], lit8 p[9], lit8 p[10], lit8 p[11], lit8 p[12], lit8 p[13], lit8 p[14], lit8 p[15]] := by
  have c1 : Tryd.prog.cellsOf 22 = 16 := by kernel_rfl
  have c3 : Tryd.prog.cellsOf 5 = 1 := by kernel_rfl
  simp [Program.keyLits, Tryd.underlying22, Tryd.underlying5, c1, c3, u8_wf, List.range_succ]
  try rfl
theorem arr4_lits (p : Vector UInt8 4) : Tryd.prog.keyLits 3 23 (arr4 p) = some [lit8 p[0], lit8 p[1], lit8 p[2], lit8 p[3]] := by
  have c1 : Tryd.prog.cellsOf 23 = 4 := by kernel_rfl
  have c3 : Tryd.prog.cellsOf 5 = 1 := by kernel_rfl
  simp [Program.keyLits, Tryd.underlying23, Tryd.underlying5, c1, c3, u8_wf, List.range_succ]
  try rfl
theorem vec16_ext {p q : Vector UInt8 16} : [lit8 p[0], lit8 p[1], lit8 p[2], lit8 p[3], lit8 p[4], lit8 p[5], lit8 p[6], lit8 p[7], lit8 p[8], lit8 p[9], lit8 p[10], lit8 p[11], lit8 p[12], lit8 p[13], lit8 p[14], lit8 p[15]] = [lit8 q[0], lit8 q[1], lit8 q[2], lit8 q[3], lit8 q[4], lit8 q[5], lit8 q[6], lit8 q[7], lit8 q[8], lit8 q[9], lit8 q[10], lit8 q[11], lit8 q[12], lit8 q[13], lit8 q[14], lit8 q[15]] ↔ p = q := by
  constructor
  · intro h
    simp only [List.cons.injEq, lit8, Lit.int.injEq, true_and, and_true, u8_inj] at h
    obtain ⟨h0, h1, h2, h3, h4, h5, h6, h7, h8, h9, h10, h11, h12, h13, h14, h15⟩ := h
    apply Vector.ext
    intro i hi
    have e : i = 0 ∨ i = 1 ∨ i = 2 ∨ i = 3 ∨ i = 4 ∨ i = 5 ∨ i = 6 ∨ i = 7 ∨ i = 8 ∨ i = 9 ∨ i = 10 ∨ i = 11 ∨ i = 12 ∨ i = 13 ∨ i = 14 ∨ i = 15 := by omega
    rcases e with rfl|rfl|rfl|rfl|rfl|rfl|rfl|rfl|rfl|rfl|rfl|rfl|rfl|rfl|rfl|rfl <;> assumption
  · rintro rfl; rfl
theorem vec4_ext {p q : Vector UInt8 4} : [lit8 p[0], lit8 p[1], lit8 p[2], lit8 p[3]] = [lit8 q[0], lit8 q[1], lit8 q[2], lit8 q[3]] ↔ p = q := by
  constructor
  · intro h
    simp only [List.cons.injEq, lit8, Lit.int.injEq, true_and, and_true, u8_inj] at h
    obtain ⟨h0, h1, h2, h3⟩ := h
    apply Vector.ext
    intro i hi
    have e : i = 0 ∨ i = 1 ∨ i = 2 ∨ i = 3 := by omega
    rcases e with rfl|rfl|rfl|rfl <;> assumption
  · rintro rfl; rfl
section
variable {ro : Option Nat} {l : List Value} {ds : List Deferred} {w : World} {next : List Value → World → Prop} {Q : Exit → Act → World → Prop}
variable {d : Option Tmp} {ty : TypeId} {pos : String} {aft : Array Edge} {g : Option (Nat × Bool)} {T' : TypeId} {X Y : Operand}
theorem t_neVec {a b : Vec} (hx : ev l X = .agg ⟨vecC a⟩) (hy : ev l Y = .agg ⟨vecC b⟩) (h1 : I64 a.x ∧ I64 a.y) (h2 : I64 b.x ∧ I64 b.y) (h : next (put l d (.bool (!decide (a = b)))) w) : OW ro Tryd.prog ⟨d, .binOp .neq 37 X Y T', ty, pos, aft, g⟩ l ds w next Q :=
  ow_neK (m := 3) (by kernel_rfl) (by decide) (by kernel_rfl) hx hy (by kernel_rfl) (by kernel_rfl) (vec_lits h1) (vec_lits h2) (by cases a; cases b; simp) h
theorem t_neCoded {a b : Coded} (hx : ev l X = .agg ⟨codedC a⟩) (hy : ev l Y = .agg ⟨codedC b⟩) (h1 : I64 a.k) (h2 : I64 b.k) (h : next (put l d (.bool (!decide (a = b)))) w) : OW ro Tryd.prog ⟨d, .binOp .neq 141 X Y T', ty, pos, aft, g⟩ l ds w next Q :=
  ow_neK (m := 3) (by kernel_rfl) (by decide) (by kernel_rfl) hx hy (by kernel_rfl) (by kernel_rfl) (coded_lits h1) (coded_lits h2) (by cases a; cases b; simp [u8_inj]) h
theorem t_eqCoded {a b : Coded} (hx : ev l X = .agg ⟨codedC a⟩) (hy : ev l Y = .agg ⟨codedC b⟩) (h1 : I64 a.k) (h2 : I64 b.k) (h : next (put l d (.bool (decide (a = b)))) w) : OW ro Tryd.prog ⟨d, .binOp .eql 141 X Y T', ty, pos, aft, g⟩ l ds w next Q :=
  ow_eqK (m := 3) (by kernel_rfl) (by decide) (by kernel_rfl) hx hy (by kernel_rfl) (by kernel_rfl) (coded_lits h1) (coded_lits h2) (by cases a; cases b; simp [u8_inj]) h
theorem t_eqArr16 {p q : Vector UInt8 16} (hx : ev l X = .agg ⟨arr16 p⟩) (hy : ev l Y = .agg ⟨arr16 q⟩) (h : next (put l d (.bool (decide (p = q)))) w) : OW ro Tryd.prog ⟨d, .binOp .eql 22 X Y T', ty, pos, aft, g⟩ l ds w next Q :=
  ow_eqK (m := 3) (by kernel_rfl) (by decide) (by kernel_rfl) hx hy (by kernel_rfl) (by kernel_rfl) (arr16_lits p) (arr16_lits q) vec16_ext h
theorem t_eqArr4 {p q : Vector UInt8 4} (hx : ev l X = .agg ⟨arr4 p⟩) (hy : ev l Y = .agg ⟨arr4 q⟩) (h : next (put l d (.bool (decide (p = q)))) w) : OW ro Tryd.prog ⟨d, .binOp .eql 23 X Y T', ty, pos, aft, g⟩ l ds w next Q :=
  ow_eqK (m := 3) (by kernel_rfl) (by decide) (by kernel_rfl) hx hy (by kernel_rfl) (by kernel_rfl) (arr4_lits p) (arr4_lits q) vec4_ext h
end
theorem ext_at {α : Type} {xs ys : List α} (hl : xs.length = ys.length) (h : ∀ j, j < xs.length → xs[j]? = ys[j]?) : xs = ys := by
  apply List.ext_getElem? fun i => ?_
  rcases Nat.lt_or_ge i xs.length with hi | hi
  · exact h i hi
  · rw [List.getElem?_eq_none hi, List.getElem?_eq_none (by omega)]
end Go.Proofs.YtomfoaaaeidpnaaDoor
