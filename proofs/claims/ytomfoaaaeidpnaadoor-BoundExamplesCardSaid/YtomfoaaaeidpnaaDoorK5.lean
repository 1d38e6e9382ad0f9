/-
  Nodes, slices, headers as plain types; how their cells read; equality of their plain structs.
-/
import Derived.Test.YtomfoaaaeidpnaaDoorK4
set_option linter.unusedVariables false
set_option linter.unusedSimpArgs false
namespace Go.Proofs.YtomfoaaaeidpnaaDoor
open Go Go.RowKit
structure Cmd where
  op : UInt8
  a : Int
  b : Int
  deriving DecidableEq
structure Sps where
  profile : UInt8
  flags : UInt8
  level : UInt8
  id : Int
  frameBits : Int
  pocBits : Int
  refs : Int
  width : Int
  height : Int
  deriving DecidableEq
structure Pps where
  id : Int
  sps : Int
  cabac : Bool
  refs : Int
  refs1 : Int
  qp : Int
  qs : Int
  chroma : Int
  deblock : Bool
  intra : Bool
  deriving DecidableEq
structure Nal where
  ref : UInt8
  kind : UInt8
  rbsp : List UInt8
  deriving DecidableEq
structure Header where
  first : Int
  intra : Bool
  whole : Bool
  pps : Int
  frame : Int
  idr : Int
  poc : Int
  over : Bool
  refs : Int
  listed : Bool
  mods : List Cmd
  fl0 : Bool
  fl1 : Bool
  adapted : Bool
  marks : List Cmd
  init : Int
  qp : Int
  filter : Int
  a : Int
  b : Int
  deriving DecidableEq
structure Slc where
  ref : UInt8
  idr : Bool
  head : Header
  mbs : List Mb
  deriving DecidableEq
structure Node where
  kind : UInt8
  ref : UInt8
  sps : Sps
  pps : Pps
  slice : Slc
  other : Nal
  deriving DecidableEq
abbrev cmdC (x : Cmd) : List Value := [u8 x.op, vi x.a, vi x.b]
/-- The numbers fit. -/
abbrev cmdI (x : Cmd) : Prop := I64 x.a ∧ I64 x.b
abbrev spsC (x : Sps) : List Value := [u8 x.profile, u8 x.flags, u8 x.level, vi x.id, vi x.frameBits, vi x.pocBits, vi x.refs, vi x.width, vi x.height]
/-- The numbers fit. -/
abbrev spsI (x : Sps) : Prop := I64 x.id ∧ I64 x.frameBits ∧ I64 x.pocBits ∧ I64 x.refs ∧ I64 x.width ∧ I64 x.height
abbrev ppsC (x : Pps) : List Value := [vi x.id, vi x.sps, Value.bool x.cabac, vi x.refs, vi x.refs1, vi x.qp, vi x.qs, vi x.chroma, Value.bool x.deblock, Value.bool x.intra]
/-- The numbers fit. -/
abbrev ppsI (x : Pps) : Prop := I64 x.id ∧ I64 x.sps ∧ I64 x.refs ∧ I64 x.refs1 ∧ I64 x.qp ∧ I64 x.qs ∧ I64 x.chroma
abbrev nalC (x : Nal) : List Value := [u8 x.ref, u8 x.kind, vs x.rbsp]
/-- The numbers fit. -/
abbrev nalI (x : Nal) : Prop := x.rbsp.length ≤ 9223372036854775807
abbrev headC (x : Header) (m k : Value) : List Value := [vi x.first, Value.bool x.intra, Value.bool x.whole, vi x.pps, vi x.frame, vi x.idr, vi x.poc, Value.bool x.over, vi x.refs, Value.bool x.listed, m, Value.bool x.fl0, Value.bool x.fl1, Value.bool x.adapted, k, vi x.init, vi x.qp, vi x.filter, vi x.a, vi x.b]
abbrev sliceC (x : Slc) (m k b : Value) : List Value := [u8 x.ref, Value.bool x.idr, vi x.head.first, Value.bool x.head.intra, Value.bool x.head.whole, vi x.head.pps, vi x.head.frame, vi x.head.idr, vi x.head.poc, Value.bool x.head.over, vi x.head.refs, Value.bool x.head.listed, m, Value.bool x.head.fl0, Value.bool x.head.fl1, Value.bool x.head.adapted, k, vi x.head.init, vi x.head.qp, vi x.head.filter, vi x.head.a, vi x.head.b, b]
abbrev nodeC (n : Node) (m k b : Value) : List Value := [u8 n.kind, u8 n.ref, u8 n.sps.profile, u8 n.sps.flags, u8 n.sps.level, vi n.sps.id, vi n.sps.frameBits, vi n.sps.pocBits, vi n.sps.refs, vi n.sps.width, vi n.sps.height, vi n.pps.id, vi n.pps.sps, Value.bool n.pps.cabac, vi n.pps.refs, vi n.pps.refs1, vi n.pps.qp, vi n.pps.qs, vi n.pps.chroma, Value.bool n.pps.deblock, Value.bool n.pps.intra, u8 n.slice.ref, Value.bool n.slice.idr, vi n.slice.head.first, Value.bool n.slice.head.intra, Value.bool n.slice.head.whole, vi n.slice.head.pps, vi n.slice.head.frame, vi n.slice.head.idr, vi n.slice.head.poc, Value.bool n.slice.head.over, vi n.slice.head.refs, Value.bool n.slice.head.listed, m, Value.bool n.slice.head.fl0, Value.bool n.slice.head.fl1, Value.bool n.slice.head.adapted, k, vi n.slice.head.init, vi n.slice.head.qp, vi n.slice.head.filter, vi n.slice.head.a, vi n.slice.head.b, b, u8 n.other.ref, u8 n.other.kind, vs n.other.rbsp]
abbrev headI (x : Header) : Prop := I64 x.first ∧ I64 x.pps ∧ I64 x.frame ∧ I64 x.idr ∧ I64 x.poc ∧ I64 x.refs ∧ I64 x.init ∧ I64 x.qp ∧ I64 x.filter ∧ I64 x.a ∧ I64 x.b
def cmdR : Rd Cmd := fun _ cs x => cs = cmdC x ∧ cmdI x
instance : RdMono cmdR := ⟨fun _ h => h, fun h u hu => by rw [h.1] at hu; simp at hu; rcases hu with rfl | rfl | rfl <;> rfl⟩
structure HeadL (E : Env) (x : Header) (m k : Value) : Prop where
  mods : ListE cmdR 3 E m x.mods
  marks : ListE cmdR 3 E k x.marks
  ints : headI x
structure SliceL (E : Env) (x : Slc) (m k b : Value) : Prop where
  head : HeadL E x.head m k
  mbs : ListE mbR 29 E b x.mbs
structure NodeL (E : Env) (n : Node) (m k b : Value) : Prop where
  slice : SliceL E n.slice m k b
  sps : spsI n.sps
  pps : ppsI n.pps
  other : nalI n.other
def nodeR : Rd Node := fun E cs n => ∃ m k b, cs = nodeC n m k b ∧ NodeL E n m k b
theorem HeadL.mono {E E' : Env} {x : Header} {m k : Value} (h : HeadL E x m k) (hE : E.Le E') : HeadL E' x m k := ⟨h.mods.mono hE, h.marks.mono hE, h.ints⟩
theorem SliceL.mono {E E' : Env} {x : Slc} {m k b : Value} (h : SliceL E x m k b) (hE : E.Le E') : SliceL E' x m k b := ⟨h.head.mono hE, h.mbs.mono hE⟩
theorem NodeL.mono {E E' : Env} {x : Node} {m k b : Value} (h : NodeL E x m k b) (hE : E.Le E') : NodeL E' x m k b := ⟨h.slice.mono hE, h.sps, h.pps, h.other⟩
theorem nodeC_one {E : Env} {n : Node} {m k b : Value} (h : NodeL E n m k b) : ∀ u ∈ nodeC n m k b, u.oneCell' = true := by
  have h1 := h.slice.head.mods.one
  have h2 := h.slice.head.marks.one
  have h3 := h.slice.mbs.one
  intro u hu
  simp only [nodeC, List.mem_cons, List.not_mem_nil, or_false] at hu
  rcases hu with rfl|rfl|rfl|rfl|rfl|rfl|rfl|rfl|rfl|rfl|rfl|rfl|rfl|rfl|rfl|rfl|rfl|rfl|rfl|rfl|rfl|rfl|rfl|rfl|rfl|rfl|rfl|rfl|rfl|rfl|rfl|rfl|rfl|rfl|rfl|rfl|rfl|rfl|rfl|rfl|rfl|rfl|rfl|rfl|rfl|rfl|rfl
  all_goals first | rfl | assumption
instance : RdMono nodeR := ⟨fun hE ⟨r, v, b, h1, h2⟩ => ⟨r, v, b, h1, h2.mono hE⟩, fun ⟨r, v, b, h1, h2⟩ => by rw [h1]; exact nodeC_one h2⟩
theorem cmd_lits {x : Cmd} (h : cmdI x) : Tryd.prog.keyLits 3 188 (cmdC x) = some [.int .u8 (x.op.toNat : Int), .int .i64 x.a, .int .i64 x.b] := by
  have c0 : Tryd.prog.cellsOf 188 = 3 := by kernel_rfl
  have c1 : Tryd.prog.cellsOf 3 = 1 := by kernel_rfl
  have c2 : Tryd.prog.cellsOf 5 = 1 := by kernel_rfl
  obtain ⟨h0, h1⟩ := h
  simp [Program.keyLits, Tryd.underlying188, Tryd.underlying3, Tryd.underlying5, c0, c1, c2, i64_wf h0, i64_wf h1, u8_wf]
  try rfl
theorem sps_lits {x : Sps} (h : spsI x) : Tryd.prog.keyLits 3 45 (spsC x) = some [.int .u8 (x.profile.toNat : Int), .int .u8 (x.flags.toNat : Int), .int .u8 (x.level.toNat : Int), .int .i64 x.id, .int .i64 x.frameBits, .int .i64 x.pocBits, .int .i64 x.refs, .int .i64 x.width, .int .i64 x.height] := by
  have c0 : Tryd.prog.cellsOf 45 = 9 := by kernel_rfl
  have c1 : Tryd.prog.cellsOf 3 = 1 := by kernel_rfl
  have c2 : Tryd.prog.cellsOf 5 = 1 := by kernel_rfl
  obtain ⟨h0, h1, h2, h3, h4, h5⟩ := h
  simp [Program.keyLits, Tryd.underlying45, Tryd.underlying3, Tryd.underlying5, c0, c1, c2, i64_wf h0, i64_wf h1, i64_wf h2, i64_wf h3, i64_wf h4, i64_wf h5, u8_wf]
  try rfl
theorem pps_lits {x : Pps} (h : ppsI x) : Tryd.prog.keyLits 3 47 (ppsC x) = some [.int .i64 x.id, .int .i64 x.sps, .bool x.cabac, .int .i64 x.refs, .int .i64 x.refs1, .int .i64 x.qp, .int .i64 x.qs, .int .i64 x.chroma, .bool x.deblock, .bool x.intra] := by
  have c0 : Tryd.prog.cellsOf 47 = 10 := by kernel_rfl
  have c1 : Tryd.prog.cellsOf 4 = 1 := by kernel_rfl
  have c2 : Tryd.prog.cellsOf 3 = 1 := by kernel_rfl
  obtain ⟨h0, h1, h2, h3, h4, h5, h6⟩ := h
  simp [Program.keyLits, Tryd.underlying47, Tryd.underlying4, Tryd.underlying3, c0, c1, c2, i64_wf h0, i64_wf h1, i64_wf h2, i64_wf h3, i64_wf h4, i64_wf h5, i64_wf h6, u8_wf]
  try rfl
theorem nal_lits {x : Nal} (h : nalI x) : Tryd.prog.keyLits 3 55 (nalC x) = some [.int .u8 (x.ref.toNat : Int), .int .u8 (x.kind.toNat : Int), .string x.rbsp] := by
  have c0 : Tryd.prog.cellsOf 55 = 3 := by kernel_rfl
  have c1 : Tryd.prog.cellsOf 9 = 1 := by kernel_rfl
  have c2 : Tryd.prog.cellsOf 5 = 1 := by kernel_rfl
  have h0 := h
  simp [Program.keyLits, Tryd.underlying55, Tryd.underlying9, Tryd.underlying5, c0, c1, c2, str_wf h0, u8_wf]
  try rfl
section
variable {ro : Option Nat} {l : List Value} {ds : List Deferred} {w : World} {next : List Value → World → Prop} {Q : Exit → Act → World → Prop}
variable {d : Option Tmp} {ty : TypeId} {pos : String} {aft : Array Edge} {g : Option (Nat × Bool)} {T' : TypeId} {X Y : Operand}
theorem t_eqCmd {x y : Cmd} (hx : ev l X = .agg ⟨cmdC x⟩) (hy : ev l Y = .agg ⟨cmdC y⟩) (h1 : cmdI x) (h2 : cmdI y) (h : next (put l d (.bool (decide (x = y)))) w) : OW ro Tryd.prog ⟨d, .binOp .eql 188 X Y T', ty, pos, aft, g⟩ l ds w next Q :=
  ow_eqK (m := 4) (by kernel_rfl) (by decide) (by kernel_rfl) hx hy (by kernel_rfl) (by kernel_rfl) (cmd_lits h1) (cmd_lits h2) (by cases x; cases y; simp [u8_inj]) h
theorem t_neCmd {x y : Cmd} (hx : ev l X = .agg ⟨cmdC x⟩) (hy : ev l Y = .agg ⟨cmdC y⟩) (h1 : cmdI x) (h2 : cmdI y) (h : next (put l d (.bool (!decide (x = y)))) w) : OW ro Tryd.prog ⟨d, .binOp .neq 188 X Y T', ty, pos, aft, g⟩ l ds w next Q :=
  ow_neK (m := 4) (by kernel_rfl) (by decide) (by kernel_rfl) hx hy (by kernel_rfl) (by kernel_rfl) (cmd_lits h1) (cmd_lits h2) (by cases x; cases y; simp [u8_inj]) h
theorem t_eqSps {x y : Sps} (hx : ev l X = .agg ⟨spsC x⟩) (hy : ev l Y = .agg ⟨spsC y⟩) (h1 : spsI x) (h2 : spsI y) (h : next (put l d (.bool (decide (x = y)))) w) : OW ro Tryd.prog ⟨d, .binOp .eql 45 X Y T', ty, pos, aft, g⟩ l ds w next Q :=
  ow_eqK (m := 4) (by kernel_rfl) (by decide) (by kernel_rfl) hx hy (by kernel_rfl) (by kernel_rfl) (sps_lits h1) (sps_lits h2) (by cases x; cases y; simp [u8_inj]) h
theorem t_eqPps {x y : Pps} (hx : ev l X = .agg ⟨ppsC x⟩) (hy : ev l Y = .agg ⟨ppsC y⟩) (h1 : ppsI x) (h2 : ppsI y) (h : next (put l d (.bool (decide (x = y)))) w) : OW ro Tryd.prog ⟨d, .binOp .eql 47 X Y T', ty, pos, aft, g⟩ l ds w next Q :=
  ow_eqK (m := 4) (by kernel_rfl) (by decide) (by kernel_rfl) hx hy (by kernel_rfl) (by kernel_rfl) (pps_lits h1) (pps_lits h2) (by cases x; cases y; simp [u8_inj]) h
theorem t_eqNal {x y : Nal} (hx : ev l X = .agg ⟨nalC x⟩) (hy : ev l Y = .agg ⟨nalC y⟩) (h1 : nalI x) (h2 : nalI y) (h : next (put l d (.bool (decide (x = y)))) w) : OW ro Tryd.prog ⟨d, .binOp .eql 55 X Y T', ty, pos, aft, g⟩ l ds w next Q :=
  ow_eqK (m := 4) (by kernel_rfl) (by decide) (by kernel_rfl) hx hy (by kernel_rfl) (by kernel_rfl) (nal_lits h1) (nal_lits h2) (by cases x; cases y; simp [u8_inj]) h
theorem two_lits (a b : Bool) : Tryd.prog.keyLits 3 49 [.bool a, .bool b] = some [.bool a, .bool b] := by
  have c1 : Tryd.prog.cellsOf 49 = 2 := by kernel_rfl
  have c3 : Tryd.prog.cellsOf 4 = 1 := by kernel_rfl
  simp [Program.keyLits, Tryd.underlying49, Tryd.underlying4, c1, c3, List.range_succ]
  try rfl
theorem t_eqTwo {a b a' b' : Bool} (hx : ev l X = .agg ⟨[.bool a, .bool b]⟩) (hy : ev l Y = .agg ⟨[.bool a', .bool b']⟩) (h : next (put l d (.bool (decide (a = a' ∧ b = b')))) w) : OW ro Tryd.prog ⟨d, .binOp .eql 49 X Y T', ty, pos, aft, g⟩ l ds w next Q :=
  ow_eqK (m := 3) (by kernel_rfl) (by decide) (by kernel_rfl) hx hy (by kernel_rfl) (by kernel_rfl) (two_lits a b) (two_lits a' b') (by simp) h
end
theorem head_eq (x y : Header) : (x = y) ↔ (x.first = y.first ∧ x.intra = y.intra ∧ x.whole = y.whole ∧ x.pps = y.pps ∧ x.frame = y.frame ∧ x.idr = y.idr ∧ x.poc = y.poc ∧ x.over = y.over ∧ x.refs = y.refs ∧ x.listed = y.listed ∧ x.mods = y.mods ∧ x.fl0 = y.fl0 ∧ x.fl1 = y.fl1 ∧ x.adapted = y.adapted ∧ x.marks = y.marks ∧ x.init = y.init ∧ x.qp = y.qp ∧ x.filter = y.filter ∧ x.a = y.a ∧ x.b = y.b) := by
  cases x; cases y; simp
theorem slice_eq (x y : Slc) : (x = y) ↔ (x.ref = y.ref ∧ x.idr = y.idr ∧ x.head = y.head ∧ x.mbs = y.mbs) := by
  cases x; cases y; simp
theorem node_eq (x y : Node) : (x = y) ↔ (x.kind = y.kind ∧ x.ref = y.ref ∧ x.sps = y.sps ∧ x.pps = y.pps ∧ x.slice = y.slice ∧ x.other = y.other) := by
  cases x; cases y; simp
end Go.Proofs.YtomfoaaaeidpnaaDoor
