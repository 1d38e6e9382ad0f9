/-
  Types that mb uses (printed by mk_M0.py).
-/
import Derived.Test.YteeeabnfgpolgaaDoorTy
set_option linter.unusedVariables false
namespace Go.Proofs.YteeeabnfgpolgaaDoor
open Go Go.RowKit
instance ty30 : Ty Tryd.prog 30 (Go.TypeDesc.int Go.IntKind.i64) (Go.Value.int Go.IntKind.i64 0) [Go.Value.int Go.IntKind.i64 0] 1 8 := ⟨by kernel_rfl, by kernel_rfl, rfl⟩
instance fd48_0 : Fd Tryd.prog 48 0 0 := Fd.of (n := 0) ty48.und rfl (by kernel_rfl) rfl
instance fd48_1 : Fd Tryd.prog 48 1 1 := Fd.of (n := 0) ty48.und rfl (by kernel_rfl) rfl
instance fd48_2 : Fd Tryd.prog 48 2 2 := Fd.of (n := 0) ty48.und rfl (by kernel_rfl) rfl
instance fd43_0 : Fd Tryd.prog 43 0 0 := Fd.of (n := 0) ty43.und rfl (by kernel_rfl) rfl
instance fd43_1 : Fd Tryd.prog 43 1 1 := Fd.of (n := 0) ty43.und rfl (by kernel_rfl) rfl
instance ty98 : Ty Tryd.prog 98 (Go.TypeDesc.slice 5) (Go.Value.slice none 0 0) [Go.Value.slice none 0 0] 1 24 := ⟨by kernel_rfl, by kernel_rfl, rfl⟩
instance ty93 : Ty Tryd.prog 93 (Go.TypeDesc.func #[] #[30] false) (Go.Value.nilFunc) [Go.Value.nilFunc] 1 8 := ⟨by kernel_rfl, by kernel_rfl, rfl⟩
instance ty96 : Ty Tryd.prog 96 (Go.TypeDesc.struct #[{ name := "has", type := 4, offset := 0, embedded := false, tag := "", pkgPath := "spindle/mb", byteOffset := 0 }, { name := "empty", type := 4, offset := 1, embedded := false, tag := "", pkgPath := "spindle/mb", byteOffset := 1 }, { name := "check", type := 93, offset := 2, embedded := false, tag := "", pkgPath := "spindle/mb", byteOffset := 8 }]) (Go.Value.agg #[Go.Value.bool false, Go.Value.bool false, Go.Value.nilFunc]) [Go.Value.bool false, Go.Value.bool false, Go.Value.nilFunc] 3 16 := ⟨by kernel_rfl, by kernel_rfl, rfl⟩
instance fd96_0 : Fd Tryd.prog 96 0 0 := Fd.of (n := 0) ty96.und rfl (by kernel_rfl) rfl
instance fd96_1 : Fd Tryd.prog 96 1 1 := Fd.of (n := 0) ty96.und rfl (by kernel_rfl) rfl
instance fd96_2 : Fd Tryd.prog 96 2 2 := Fd.of (n := 0) ty96.und rfl (by kernel_rfl) rfl
instance ty102 : Ty Tryd.prog 102 (Go.TypeDesc.slice 96) (Go.Value.slice none 0 0) [Go.Value.slice none 0 0] 1 24 := ⟨by kernel_rfl, by kernel_rfl, rfl⟩
instance ty115 : Ty Tryd.prog 115 (Go.TypeDesc.array 5 3) (Go.Value.agg #[Go.Value.int Go.IntKind.i64 0, Go.Value.int Go.IntKind.i64 0, Go.Value.int Go.IntKind.i64 0, Go.Value.int Go.IntKind.i64 0, Go.Value.int Go.IntKind.i64 0]) [Go.Value.int Go.IntKind.i64 0, Go.Value.int Go.IntKind.i64 0, Go.Value.int Go.IntKind.i64 0, Go.Value.int Go.IntKind.i64 0, Go.Value.int Go.IntKind.i64 0] 5 40 := ⟨by kernel_rfl, by kernel_rfl, rfl⟩
instance ty126 : Ty Tryd.prog 126 (Go.TypeDesc.array 4 3) (Go.Value.agg #[Go.Value.int Go.IntKind.i64 0, Go.Value.int Go.IntKind.i64 0, Go.Value.int Go.IntKind.i64 0, Go.Value.int Go.IntKind.i64 0]) [Go.Value.int Go.IntKind.i64 0, Go.Value.int Go.IntKind.i64 0, Go.Value.int Go.IntKind.i64 0, Go.Value.int Go.IntKind.i64 0] 4 32 := ⟨by kernel_rfl, by kernel_rfl, rfl⟩
instance ty141 : Ty Tryd.prog 141 (Go.TypeDesc.struct #[{ name := "x", type := 3, offset := 0, embedded := false, tag := "", pkgPath := "spindle/kinds", byteOffset := 0 }, { name := "y", type := 3, offset := 1, embedded := false, tag := "", pkgPath := "spindle/kinds", byteOffset := 8 }, { name := "w", type := 3, offset := 2, embedded := false, tag := "", pkgPath := "spindle/kinds", byteOffset := 16 }, { name := "h", type := 3, offset := 3, embedded := false, tag := "", pkgPath := "spindle/kinds", byteOffset := 24 }, { name := "part", type := 3, offset := 4, embedded := false, tag := "", pkgPath := "spindle/kinds", byteOffset := 32 }]) (Go.Value.agg #[Go.Value.int Go.IntKind.i64 0, Go.Value.int Go.IntKind.i64 0, Go.Value.int Go.IntKind.i64 0, Go.Value.int Go.IntKind.i64 0, Go.Value.int Go.IntKind.i64 0]) [Go.Value.int Go.IntKind.i64 0, Go.Value.int Go.IntKind.i64 0, Go.Value.int Go.IntKind.i64 0, Go.Value.int Go.IntKind.i64 0, Go.Value.int Go.IntKind.i64 0] 5 40 := ⟨by kernel_rfl, by kernel_rfl, rfl⟩
instance fd141_0 : Fd Tryd.prog 141 0 0 := Fd.of (n := 0) ty141.und rfl (by kernel_rfl) rfl
instance fd141_1 : Fd Tryd.prog 141 1 1 := Fd.of (n := 0) ty141.und rfl (by kernel_rfl) rfl
instance fd141_2 : Fd Tryd.prog 141 2 2 := Fd.of (n := 0) ty141.und rfl (by kernel_rfl) rfl
instance fd141_3 : Fd Tryd.prog 141 3 3 := Fd.of (n := 0) ty141.und rfl (by kernel_rfl) rfl
instance fd141_4 : Fd Tryd.prog 141 4 4 := Fd.of (n := 0) ty141.und rfl (by kernel_rfl) rfl
instance ty133 : Ty Tryd.prog 133 (Go.TypeDesc.slice 141) (Go.Value.slice none 0 0) [Go.Value.slice none 0 0] 1 24 := ⟨by kernel_rfl, by kernel_rfl, rfl⟩
instance ty142 : Ty Tryd.prog 142 (Go.TypeDesc.array 4 133) (Go.Value.agg #[Go.Value.slice none 0 0, Go.Value.slice none 0 0, Go.Value.slice none 0 0, Go.Value.slice none 0 0]) [Go.Value.slice none 0 0, Go.Value.slice none 0 0, Go.Value.slice none 0 0, Go.Value.slice none 0 0] 4 96 := ⟨by kernel_rfl, by kernel_rfl, rfl⟩
instance ty104 : Ty Tryd.prog 104 (Go.TypeDesc.slice 30) (Go.Value.slice none 0 0) [Go.Value.slice none 0 0] 1 24 := ⟨by kernel_rfl, by kernel_rfl, rfl⟩
instance ty145 : Ty Tryd.prog 145 (Go.TypeDesc.struct #[{ name := "Part", type := 3, offset := 0, embedded := false, tag := "", pkgPath := "", byteOffset := 0 }, { name := "Blocks", type := 24, offset := 1, embedded := false, tag := "", pkgPath := "", byteOffset := 8 }]) (Go.Value.agg #[Go.Value.int Go.IntKind.i64 0, Go.Value.slice none 0 0]) [Go.Value.int Go.IntKind.i64 0, Go.Value.slice none 0 0] 2 32 := ⟨by kernel_rfl, by kernel_rfl, rfl⟩
instance fd145_0 : Fd Tryd.prog 145 0 0 := Fd.of (n := 0) ty145.und rfl (by kernel_rfl) rfl
instance fd145_1 : Fd Tryd.prog 145 1 1 := Fd.of (n := 0) ty145.und rfl (by kernel_rfl) rfl
instance ty136 : Ty Tryd.prog 136 (Go.TypeDesc.slice 145) (Go.Value.slice none 0 0) [Go.Value.slice none 0 0] 1 24 := ⟨by kernel_rfl, by kernel_rfl, rfl⟩
end Go.Proofs.YteeeabnfgpolgaaDoor
