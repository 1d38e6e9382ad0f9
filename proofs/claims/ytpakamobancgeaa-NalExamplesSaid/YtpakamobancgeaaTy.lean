/-
  The types of the program: facts of its table.
-/
import Derived.Test.YtpakamobancgeaaSlT
import Derived.Test.YtpakamobancgeaaProg
namespace Go.Proofs.Ytpakamobancgeaa
open Go
instance ty0 : Ty Try.prog 0 (Go.TypeDesc.tuple #[]) (Go.Value.tuple #[]) [Go.Value.tuple #[]] 1 0 := ⟨by kernel_rfl, by kernel_rfl, rfl⟩
instance ty1 : Ty Try.prog 1 (Go.TypeDesc.func #[] #[] false) (Go.Value.nilFunc) [Go.Value.nilFunc] 1 8 := ⟨by kernel_rfl, by kernel_rfl, rfl⟩
instance ty2 : Ty Try.prog 2 (Go.TypeDesc.int Go.IntKind.i64) (Go.Value.int Go.IntKind.i64 0) [Go.Value.int Go.IntKind.i64 0] 1 8 := ⟨by kernel_rfl, by kernel_rfl, rfl⟩
instance ty3 : Ty Try.prog 3 (Go.TypeDesc.int Go.IntKind.i64) (Go.Value.int Go.IntKind.i64 0) [Go.Value.int Go.IntKind.i64 0] 1 8 := ⟨by kernel_rfl, by kernel_rfl, rfl⟩
instance ty4 : Ty Try.prog 4 Go.TypeDesc.bool (Go.Value.bool false) [Go.Value.bool false] 1 1 := ⟨by kernel_rfl, by kernel_rfl, rfl⟩
instance ty5 : Ty Try.prog 5 (Go.TypeDesc.int Go.IntKind.u8) (Go.Value.int Go.IntKind.u8 0) [Go.Value.int Go.IntKind.u8 0] 1 1 := ⟨by kernel_rfl, by kernel_rfl, rfl⟩
instance ty6 : Ty Try.prog 6 (Go.TypeDesc.int Go.IntKind.u8) (Go.Value.int Go.IntKind.u8 0) [Go.Value.int Go.IntKind.u8 0] 1 1 := ⟨by kernel_rfl, by kernel_rfl, rfl⟩
instance ty7 : Ty Try.prog 7 (Go.TypeDesc.struct #[{ name := "x", type := 2, offset := 0, embedded := false, tag := "", pkgPath := "runtime", byteOffset := 0 }, { name := "y", type := 3, offset := 1, embedded := false, tag := "", pkgPath := "runtime", byteOffset := 8 }, { name := "signed", type := 4, offset := 2, embedded := false, tag := "", pkgPath := "runtime", byteOffset := 16 }, { name := "code", type := 6, offset := 3, embedded := false, tag := "", pkgPath := "runtime", byteOffset := 17 }]) (Go.Value.agg #[Go.Value.int Go.IntKind.i64 0, Go.Value.int Go.IntKind.i64 0, Go.Value.bool false, Go.Value.int Go.IntKind.u8 0]) [Go.Value.int Go.IntKind.i64 0, Go.Value.int Go.IntKind.i64 0, Go.Value.bool false, Go.Value.int Go.IntKind.u8 0] 4 24 := ⟨by kernel_rfl, by kernel_rfl, rfl⟩
instance ty8 : Ty Try.prog 8 (Go.TypeDesc.struct #[{ name := "x", type := 2, offset := 0, embedded := false, tag := "", pkgPath := "runtime", byteOffset := 0 }, { name := "y", type := 3, offset := 1, embedded := false, tag := "", pkgPath := "runtime", byteOffset := 8 }, { name := "signed", type := 4, offset := 2, embedded := false, tag := "", pkgPath := "runtime", byteOffset := 16 }, { name := "code", type := 6, offset := 3, embedded := false, tag := "", pkgPath := "runtime", byteOffset := 17 }]) (Go.Value.agg #[Go.Value.int Go.IntKind.i64 0, Go.Value.int Go.IntKind.i64 0, Go.Value.bool false, Go.Value.int Go.IntKind.u8 0]) [Go.Value.int Go.IntKind.i64 0, Go.Value.int Go.IntKind.i64 0, Go.Value.bool false, Go.Value.int Go.IntKind.u8 0] 4 24 := ⟨by kernel_rfl, by kernel_rfl, rfl⟩
instance ty9 : Ty Try.prog 9 Go.TypeDesc.string (Go.Value.string { data := #[] }) [Go.Value.string { data := #[] }] 1 16 := ⟨by kernel_rfl, by kernel_rfl, rfl⟩
instance ty10 : Ty Try.prog 10 Go.TypeDesc.string (Go.Value.string { data := #[] }) [Go.Value.string { data := #[] }] 1 16 := ⟨by kernel_rfl, by kernel_rfl, rfl⟩
instance ty11 : Ty Try.prog 11 Go.TypeDesc.string (Go.Value.string { data := #[] }) [Go.Value.string { data := #[] }] 1 16 := ⟨by kernel_rfl, by kernel_rfl, rfl⟩
instance ty12 : Ty Try.prog 12 (Go.TypeDesc.int Go.IntKind.u64) (Go.Value.int Go.IntKind.u64 0) [Go.Value.int Go.IntKind.u64 0] 1 8 := ⟨by kernel_rfl, by kernel_rfl, rfl⟩
instance ty13 : Ty Try.prog 13 (Go.TypeDesc.struct #[{ name := "msg", type := 9, offset := 0, embedded := false, tag := "", pkgPath := "runtime", byteOffset := 0 }, { name := "addr", type := 12, offset := 1, embedded := false, tag := "", pkgPath := "runtime", byteOffset := 16 }]) (Go.Value.agg #[Go.Value.string { data := #[] }, Go.Value.int Go.IntKind.u64 0]) [Go.Value.string { data := #[] }, Go.Value.int Go.IntKind.u64 0] 2 24 := ⟨by kernel_rfl, by kernel_rfl, rfl⟩
instance ty14 : Ty Try.prog 14 (Go.TypeDesc.struct #[{ name := "msg", type := 9, offset := 0, embedded := false, tag := "", pkgPath := "runtime", byteOffset := 0 }, { name := "addr", type := 12, offset := 1, embedded := false, tag := "", pkgPath := "runtime", byteOffset := 16 }]) (Go.Value.agg #[Go.Value.string { data := #[] }, Go.Value.int Go.IntKind.u64 0]) [Go.Value.string { data := #[] }, Go.Value.int Go.IntKind.u64 0] 2 24 := ⟨by kernel_rfl, by kernel_rfl, rfl⟩
instance ty15 : Ty Try.prog 15 (Go.TypeDesc.pointer 49) (Go.Value.pointer none) [Go.Value.pointer none] 1 8 := ⟨by kernel_rfl, by kernel_rfl, rfl⟩
instance ty16 : Ty Try.prog 16 (Go.TypeDesc.pointer 52) (Go.Value.pointer none) [Go.Value.pointer none] 1 8 := ⟨by kernel_rfl, by kernel_rfl, rfl⟩
instance ty17 : Ty Try.prog 17 (Go.TypeDesc.pointer 62) (Go.Value.pointer none) [Go.Value.pointer none] 1 8 := ⟨by kernel_rfl, by kernel_rfl, rfl⟩
instance ty18 : Ty Try.prog 18 (Go.TypeDesc.struct #[{ name := "typ", type := 17, offset := 0, embedded := false, tag := "", pkgPath := "internal/runtime/maps", byteOffset := 0 }]) (Go.Value.agg #[Go.Value.pointer none]) [Go.Value.pointer none] 1 8 := ⟨by kernel_rfl, by kernel_rfl, rfl⟩
instance ty19 : Ty Try.prog 19 (Go.TypeDesc.struct #[{ name := "typ", type := 17, offset := 0, embedded := false, tag := "", pkgPath := "internal/runtime/maps", byteOffset := 0 }]) (Go.Value.agg #[Go.Value.pointer none]) [Go.Value.pointer none] 1 8 := ⟨by kernel_rfl, by kernel_rfl, rfl⟩
instance ty20 : Ty Try.prog 20 (Go.TypeDesc.interface #[]) (Go.Value.nilIface) [Go.Value.nilIface] 1 16 := ⟨by kernel_rfl, by kernel_rfl, rfl⟩
instance ty21 : Ty Try.prog 21 (Go.TypeDesc.int Go.IntKind.i32) (Go.Value.int Go.IntKind.i32 0) [Go.Value.int Go.IntKind.i32 0] 1 4 := ⟨by kernel_rfl, by kernel_rfl, rfl⟩
instance ty22 : Ty Try.prog 22 (Go.TypeDesc.struct #[{ name := "Ref", type := 5, offset := 0, embedded := false, tag := "", pkgPath := "", byteOffset := 0 }, { name := "Kind", type := 5, offset := 1, embedded := false, tag := "", pkgPath := "", byteOffset := 1 }, { name := "Rbsp", type := 9, offset := 2, embedded := false, tag := "", pkgPath := "", byteOffset := 8 }]) (Go.Value.agg #[Go.Value.int Go.IntKind.u8 0, Go.Value.int Go.IntKind.u8 0, Go.Value.string { data := #[] }]) [Go.Value.int Go.IntKind.u8 0, Go.Value.int Go.IntKind.u8 0, Go.Value.string { data := #[] }] 3 24 := ⟨by kernel_rfl, by kernel_rfl, rfl⟩
instance ty23 : Ty Try.prog 23 (Go.TypeDesc.struct #[{ name := "Ref", type := 5, offset := 0, embedded := false, tag := "", pkgPath := "", byteOffset := 0 }, { name := "Kind", type := 5, offset := 1, embedded := false, tag := "", pkgPath := "", byteOffset := 1 }, { name := "Rbsp", type := 9, offset := 2, embedded := false, tag := "", pkgPath := "", byteOffset := 8 }]) (Go.Value.agg #[Go.Value.int Go.IntKind.u8 0, Go.Value.int Go.IntKind.u8 0, Go.Value.string { data := #[] }]) [Go.Value.int Go.IntKind.u8 0, Go.Value.int Go.IntKind.u8 0, Go.Value.string { data := #[] }] 3 24 := ⟨by kernel_rfl, by kernel_rfl, rfl⟩
instance ty24 : Ty Try.prog 24 (Go.TypeDesc.func #[] #[4] false) (Go.Value.nilFunc) [Go.Value.nilFunc] 1 8 := ⟨by kernel_rfl, by kernel_rfl, rfl⟩
instance ty25 : Ty Try.prog 25 (Go.TypeDesc.int Go.IntKind.i64) (Go.Value.int Go.IntKind.i64 0) [Go.Value.int Go.IntKind.i64 0] 1 8 := ⟨by kernel_rfl, by kernel_rfl, rfl⟩
instance ty26 : Ty Try.prog 26 (Go.TypeDesc.tuple #[9, 25]) (Go.Value.tuple #[Go.Value.string { data := #[] }, Go.Value.int Go.IntKind.i64 0]) [Go.Value.tuple #[Go.Value.string { data := #[] }, Go.Value.int Go.IntKind.i64 0]] 1 0 := ⟨by kernel_rfl, by kernel_rfl, rfl⟩
instance ty27 : Ty Try.prog 27 (Go.TypeDesc.func #[23] #[9, 25] false) (Go.Value.nilFunc) [Go.Value.nilFunc] 1 8 := ⟨by kernel_rfl, by kernel_rfl, rfl⟩
instance ty28 : Ty Try.prog 28 (Go.TypeDesc.func #[23] #[4] false) (Go.Value.nilFunc) [Go.Value.nilFunc] 1 8 := ⟨by kernel_rfl, by kernel_rfl, rfl⟩
instance ty29 : Ty Try.prog 29 (Go.TypeDesc.func #[9] #[9] false) (Go.Value.nilFunc) [Go.Value.nilFunc] 1 8 := ⟨by kernel_rfl, by kernel_rfl, rfl⟩
instance ty30 : Ty Try.prog 30 (Go.TypeDesc.func #[9] #[4] false) (Go.Value.nilFunc) [Go.Value.nilFunc] 1 8 := ⟨by kernel_rfl, by kernel_rfl, rfl⟩
instance ty31 : Ty Try.prog 31 (Go.TypeDesc.func #[9, 9] #[4] false) (Go.Value.nilFunc) [Go.Value.nilFunc] 1 8 := ⟨by kernel_rfl, by kernel_rfl, rfl⟩
instance ty32 : Ty Try.prog 32 (Go.TypeDesc.slice 5) (Go.Value.slice none 0 0) [Go.Value.slice none 0 0] 1 24 := ⟨by kernel_rfl, by kernel_rfl, rfl⟩
instance ty33 : Ty Try.prog 33 (Go.TypeDesc.func #[5, 5] #[4] false) (Go.Value.nilFunc) [Go.Value.nilFunc] 1 8 := ⟨by kernel_rfl, by kernel_rfl, rfl⟩
instance ty34 : Ty Try.prog 34 (Go.TypeDesc.func #[9] #[9, 25] false) (Go.Value.nilFunc) [Go.Value.nilFunc] 1 8 := ⟨by kernel_rfl, by kernel_rfl, rfl⟩
instance ty35 : Ty Try.prog 35 (Go.TypeDesc.tuple #[23, 25]) (Go.Value.tuple #[Go.Value.agg #[Go.Value.int Go.IntKind.u8 0, Go.Value.int Go.IntKind.u8 0, Go.Value.string { data := #[] }], Go.Value.int Go.IntKind.i64 0]) [Go.Value.tuple #[Go.Value.agg #[Go.Value.int Go.IntKind.u8 0, Go.Value.int Go.IntKind.u8 0, Go.Value.string { data := #[] }], Go.Value.int Go.IntKind.i64 0]] 1 0 := ⟨by kernel_rfl, by kernel_rfl, rfl⟩
instance ty36 : Ty Try.prog 36 (Go.TypeDesc.func #[9] #[23, 25] false) (Go.Value.nilFunc) [Go.Value.nilFunc] 1 8 := ⟨by kernel_rfl, by kernel_rfl, rfl⟩
instance ty37 : Ty Try.prog 37 (Go.TypeDesc.slice 9) (Go.Value.slice none 0 0) [Go.Value.slice none 0 0] 1 24 := ⟨by kernel_rfl, by kernel_rfl, rfl⟩
instance ty38 : Ty Try.prog 38 (Go.TypeDesc.slice 23) (Go.Value.slice none 0 0) [Go.Value.slice none 0 0] 1 24 := ⟨by kernel_rfl, by kernel_rfl, rfl⟩
instance ty39 : Ty Try.prog 39 (Go.TypeDesc.slice 25) (Go.Value.slice none 0 0) [Go.Value.slice none 0 0] 1 24 := ⟨by kernel_rfl, by kernel_rfl, rfl⟩
instance ty40 : Ty Try.prog 40 (Go.TypeDesc.int Go.IntKind.u64) (Go.Value.int Go.IntKind.u64 0) [Go.Value.int Go.IntKind.u64 0] 1 8 := ⟨by kernel_rfl, by kernel_rfl, rfl⟩
instance ty41 : Ty Try.prog 41 (Go.TypeDesc.func #[5, 5, 9, 9] #[4] false) (Go.Value.nilFunc) [Go.Value.nilFunc] 1 8 := ⟨by kernel_rfl, by kernel_rfl, rfl⟩
instance ty42 : Ty Try.prog 42 (Go.TypeDesc.func #[46] #[] false) (Go.Value.nilFunc) [Go.Value.nilFunc] 1 8 := ⟨by kernel_rfl, by kernel_rfl, rfl⟩
instance ty43 : Ty Try.prog 43 (Go.TypeDesc.func #[46] #[] false) (Go.Value.nilFunc) [Go.Value.nilFunc] 1 8 := ⟨by kernel_rfl, by kernel_rfl, rfl⟩
instance ty44 : Ty Try.prog 44 (Go.TypeDesc.func #[9, 45] #[43] false) (Go.Value.nilFunc) [Go.Value.nilFunc] 1 8 := ⟨by kernel_rfl, by kernel_rfl, rfl⟩
instance ty45 : Ty Try.prog 45 (Go.TypeDesc.func #[5, 3] #[3] false) (Go.Value.nilFunc) [Go.Value.nilFunc] 1 8 := ⟨by kernel_rfl, by kernel_rfl, rfl⟩
instance ty46 : Ty Try.prog 46 (Go.TypeDesc.func #[3, 5] #[4] false) (Go.Value.nilFunc) [Go.Value.nilFunc] 1 8 := ⟨by kernel_rfl, by kernel_rfl, rfl⟩
instance ty47 : Ty Try.prog 47 (Go.TypeDesc.func #[] #[9] false) (Go.Value.nilFunc) [Go.Value.nilFunc] 1 8 := ⟨by kernel_rfl, by kernel_rfl, rfl⟩
instance ty48 : Ty Try.prog 48 (Go.TypeDesc.struct #[{ name := "_interface", type := 17, offset := 0, embedded := false, tag := "", pkgPath := "runtime", byteOffset := 0 }, { name := "concrete", type := 17, offset := 1, embedded := false, tag := "", pkgPath := "runtime", byteOffset := 8 }, { name := "asserted", type := 17, offset := 2, embedded := false, tag := "", pkgPath := "runtime", byteOffset := 16 }, { name := "missingMethod", type := 9, offset := 3, embedded := false, tag := "", pkgPath := "runtime", byteOffset := 24 }]) (Go.Value.agg #[Go.Value.pointer none, Go.Value.pointer none, Go.Value.pointer none, Go.Value.string { data := #[] }]) [Go.Value.pointer none, Go.Value.pointer none, Go.Value.pointer none, Go.Value.string { data := #[] }] 4 40 := ⟨by kernel_rfl, by kernel_rfl, rfl⟩
instance ty49 : Ty Try.prog 49 (Go.TypeDesc.struct #[{ name := "_interface", type := 17, offset := 0, embedded := false, tag := "", pkgPath := "runtime", byteOffset := 0 }, { name := "concrete", type := 17, offset := 1, embedded := false, tag := "", pkgPath := "runtime", byteOffset := 8 }, { name := "asserted", type := 17, offset := 2, embedded := false, tag := "", pkgPath := "runtime", byteOffset := 16 }, { name := "missingMethod", type := 9, offset := 3, embedded := false, tag := "", pkgPath := "runtime", byteOffset := 24 }]) (Go.Value.agg #[Go.Value.pointer none, Go.Value.pointer none, Go.Value.pointer none, Go.Value.string { data := #[] }]) [Go.Value.pointer none, Go.Value.pointer none, Go.Value.pointer none, Go.Value.string { data := #[] }] 4 40 := ⟨by kernel_rfl, by kernel_rfl, rfl⟩
instance ty50 : Ty Try.prog 50 (Go.TypeDesc.array 0 16) (Go.Value.agg #[]) [] 0 0 := ⟨by kernel_rfl, by kernel_rfl, rfl⟩
instance ty51 : Ty Try.prog 51 (Go.TypeDesc.struct #[{ name := "_", type := 50, offset := 0, embedded := false, tag := "", pkgPath := "runtime", byteOffset := 0 }]) (Go.Value.agg #[]) [] 0 0 := ⟨by kernel_rfl, by kernel_rfl, rfl⟩
instance ty52 : Ty Try.prog 52 (Go.TypeDesc.struct #[{ name := "_", type := 50, offset := 0, embedded := false, tag := "", pkgPath := "runtime", byteOffset := 0 }]) (Go.Value.agg #[]) [] 0 0 := ⟨by kernel_rfl, by kernel_rfl, rfl⟩
instance ty53 : Ty Try.prog 53 (Go.TypeDesc.func #[] #[3] false) (Go.Value.nilFunc) [Go.Value.nilFunc] 1 8 := ⟨by kernel_rfl, by kernel_rfl, rfl⟩
instance ty54 : Ty Try.prog 54 (Go.TypeDesc.int Go.IntKind.u32) (Go.Value.int Go.IntKind.u32 0) [Go.Value.int Go.IntKind.u32 0] 1 4 := ⟨by kernel_rfl, by kernel_rfl, rfl⟩
instance ty55 : Ty Try.prog 55 (Go.TypeDesc.int Go.IntKind.u8) (Go.Value.int Go.IntKind.u8 0) [Go.Value.int Go.IntKind.u8 0] 1 1 := ⟨by kernel_rfl, by kernel_rfl, rfl⟩
instance ty56 : Ty Try.prog 56 (Go.TypeDesc.int Go.IntKind.u8) (Go.Value.int Go.IntKind.u8 0) [Go.Value.int Go.IntKind.u8 0] 1 1 := ⟨by kernel_rfl, by kernel_rfl, rfl⟩
instance ty57 : Ty Try.prog 57 (Go.TypeDesc.func #[63, 63] #[4] false) (Go.Value.nilFunc) [Go.Value.nilFunc] 1 8 := ⟨by kernel_rfl, by kernel_rfl, rfl⟩
instance ty58 : Ty Try.prog 58 (Go.TypeDesc.pointer 5) (Go.Value.pointer none) [Go.Value.pointer none] 1 8 := ⟨by kernel_rfl, by kernel_rfl, rfl⟩
instance ty59 : Ty Try.prog 59 (Go.TypeDesc.int Go.IntKind.i32) (Go.Value.int Go.IntKind.i32 0) [Go.Value.int Go.IntKind.i32 0] 1 4 := ⟨by kernel_rfl, by kernel_rfl, rfl⟩
instance ty60 : Ty Try.prog 60 (Go.TypeDesc.int Go.IntKind.i32) (Go.Value.int Go.IntKind.i32 0) [Go.Value.int Go.IntKind.i32 0] 1 4 := ⟨by kernel_rfl, by kernel_rfl, rfl⟩
instance ty61 : Ty Try.prog 61 (Go.TypeDesc.struct #[{ name := "Size_", type := 12, offset := 0, embedded := false, tag := "", pkgPath := "", byteOffset := 0 }, { name := "PtrBytes", type := 12, offset := 1, embedded := false, tag := "", pkgPath := "", byteOffset := 8 }, { name := "Hash", type := 54, offset := 2, embedded := false, tag := "", pkgPath := "", byteOffset := 16 }, { name := "TFlag", type := 55, offset := 3, embedded := false, tag := "", pkgPath := "", byteOffset := 20 }, { name := "Align_", type := 5, offset := 4, embedded := false, tag := "", pkgPath := "", byteOffset := 21 }, { name := "FieldAlign_", type := 5, offset := 5, embedded := false, tag := "", pkgPath := "", byteOffset := 22 }, { name := "Kind_", type := 56, offset := 6, embedded := false, tag := "", pkgPath := "", byteOffset := 23 }, { name := "Equal", type := 57, offset := 7, embedded := false, tag := "", pkgPath := "", byteOffset := 24 }, { name := "GCData", type := 58, offset := 8, embedded := false, tag := "", pkgPath := "", byteOffset := 32 }, { name := "Str", type := 59, offset := 9, embedded := false, tag := "", pkgPath := "", byteOffset := 40 }, { name := "PtrToThis", type := 60, offset := 10, embedded := false, tag := "", pkgPath := "", byteOffset := 44 }]) (Go.Value.agg #[Go.Value.int Go.IntKind.u64 0, Go.Value.int Go.IntKind.u64 0, Go.Value.int Go.IntKind.u32 0, Go.Value.int Go.IntKind.u8 0, Go.Value.int Go.IntKind.u8 0, Go.Value.int Go.IntKind.u8 0, Go.Value.int Go.IntKind.u8 0, Go.Value.nilFunc, Go.Value.pointer none, Go.Value.int Go.IntKind.i32 0, Go.Value.int Go.IntKind.i32 0]) [Go.Value.int Go.IntKind.u64 0, Go.Value.int Go.IntKind.u64 0, Go.Value.int Go.IntKind.u32 0, Go.Value.int Go.IntKind.u8 0, Go.Value.int Go.IntKind.u8 0, Go.Value.int Go.IntKind.u8 0, Go.Value.int Go.IntKind.u8 0, Go.Value.nilFunc, Go.Value.pointer none, Go.Value.int Go.IntKind.i32 0, Go.Value.int Go.IntKind.i32 0] 11 48 := ⟨by kernel_rfl, by kernel_rfl, rfl⟩
instance ty62 : Ty Try.prog 62 (Go.TypeDesc.struct #[{ name := "Size_", type := 12, offset := 0, embedded := false, tag := "", pkgPath := "", byteOffset := 0 }, { name := "PtrBytes", type := 12, offset := 1, embedded := false, tag := "", pkgPath := "", byteOffset := 8 }, { name := "Hash", type := 54, offset := 2, embedded := false, tag := "", pkgPath := "", byteOffset := 16 }, { name := "TFlag", type := 55, offset := 3, embedded := false, tag := "", pkgPath := "", byteOffset := 20 }, { name := "Align_", type := 5, offset := 4, embedded := false, tag := "", pkgPath := "", byteOffset := 21 }, { name := "FieldAlign_", type := 5, offset := 5, embedded := false, tag := "", pkgPath := "", byteOffset := 22 }, { name := "Kind_", type := 56, offset := 6, embedded := false, tag := "", pkgPath := "", byteOffset := 23 }, { name := "Equal", type := 57, offset := 7, embedded := false, tag := "", pkgPath := "", byteOffset := 24 }, { name := "GCData", type := 58, offset := 8, embedded := false, tag := "", pkgPath := "", byteOffset := 32 }, { name := "Str", type := 59, offset := 9, embedded := false, tag := "", pkgPath := "", byteOffset := 40 }, { name := "PtrToThis", type := 60, offset := 10, embedded := false, tag := "", pkgPath := "", byteOffset := 44 }]) (Go.Value.agg #[Go.Value.int Go.IntKind.u64 0, Go.Value.int Go.IntKind.u64 0, Go.Value.int Go.IntKind.u32 0, Go.Value.int Go.IntKind.u8 0, Go.Value.int Go.IntKind.u8 0, Go.Value.int Go.IntKind.u8 0, Go.Value.int Go.IntKind.u8 0, Go.Value.nilFunc, Go.Value.pointer none, Go.Value.int Go.IntKind.i32 0, Go.Value.int Go.IntKind.i32 0]) [Go.Value.int Go.IntKind.u64 0, Go.Value.int Go.IntKind.u64 0, Go.Value.int Go.IntKind.u32 0, Go.Value.int Go.IntKind.u8 0, Go.Value.int Go.IntKind.u8 0, Go.Value.int Go.IntKind.u8 0, Go.Value.int Go.IntKind.u8 0, Go.Value.nilFunc, Go.Value.pointer none, Go.Value.int Go.IntKind.i32 0, Go.Value.int Go.IntKind.i32 0] 11 48 := ⟨by kernel_rfl, by kernel_rfl, rfl⟩
instance ty63 : Ty Try.prog 63 Go.TypeDesc.unsafePointer (Go.Value.pointer none) [Go.Value.pointer none] 1 8 := ⟨by kernel_rfl, by kernel_rfl, rfl⟩
instance fd7_0 : Fd Try.prog 7 0 0 := Fd.of ty7.und rfl rfl rfl
instance fd7_1 : Fd Try.prog 7 1 1 := Fd.of ty7.und rfl rfl rfl
instance fd7_2 : Fd Try.prog 7 2 2 := Fd.of ty7.und rfl rfl rfl
instance fd7_3 : Fd Try.prog 7 3 3 := Fd.of ty7.und rfl rfl rfl
instance fd8_0 : Fd Try.prog 8 0 0 := Fd.of ty8.und rfl rfl rfl
instance fd8_1 : Fd Try.prog 8 1 1 := Fd.of ty8.und rfl rfl rfl
instance fd8_2 : Fd Try.prog 8 2 2 := Fd.of ty8.und rfl rfl rfl
instance fd8_3 : Fd Try.prog 8 3 3 := Fd.of ty8.und rfl rfl rfl
instance fd13_0 : Fd Try.prog 13 0 0 := Fd.of ty13.und rfl rfl rfl
instance fd13_1 : Fd Try.prog 13 1 1 := Fd.of ty13.und rfl rfl rfl
instance fd14_0 : Fd Try.prog 14 0 0 := Fd.of ty14.und rfl rfl rfl
instance fd14_1 : Fd Try.prog 14 1 1 := Fd.of ty14.und rfl rfl rfl
instance fd18_0 : Fd Try.prog 18 0 0 := Fd.of ty18.und rfl rfl rfl
instance fd19_0 : Fd Try.prog 19 0 0 := Fd.of ty19.und rfl rfl rfl
instance fd22_0 : Fd Try.prog 22 0 0 := Fd.of ty22.und rfl rfl rfl
instance fd22_1 : Fd Try.prog 22 1 1 := Fd.of ty22.und rfl rfl rfl
instance fd22_2 : Fd Try.prog 22 2 2 := Fd.of ty22.und rfl rfl rfl
instance fd23_0 : Fd Try.prog 23 0 0 := Fd.of ty23.und rfl rfl rfl
instance fd23_1 : Fd Try.prog 23 1 1 := Fd.of ty23.und rfl rfl rfl
instance fd23_2 : Fd Try.prog 23 2 2 := Fd.of ty23.und rfl rfl rfl
instance fd48_0 : Fd Try.prog 48 0 0 := Fd.of ty48.und rfl rfl rfl
instance fd48_1 : Fd Try.prog 48 1 1 := Fd.of ty48.und rfl rfl rfl
instance fd48_2 : Fd Try.prog 48 2 2 := Fd.of ty48.und rfl rfl rfl
instance fd48_3 : Fd Try.prog 48 3 3 := Fd.of ty48.und rfl rfl rfl
instance fd49_0 : Fd Try.prog 49 0 0 := Fd.of ty49.und rfl rfl rfl
instance fd49_1 : Fd Try.prog 49 1 1 := Fd.of ty49.und rfl rfl rfl
instance fd49_2 : Fd Try.prog 49 2 2 := Fd.of ty49.und rfl rfl rfl
instance fd49_3 : Fd Try.prog 49 3 3 := Fd.of ty49.und rfl rfl rfl
instance fd61_0 : Fd Try.prog 61 0 0 := Fd.of ty61.und rfl rfl rfl
instance fd61_1 : Fd Try.prog 61 1 1 := Fd.of ty61.und rfl rfl rfl
instance fd61_2 : Fd Try.prog 61 2 2 := Fd.of ty61.und rfl rfl rfl
instance fd61_3 : Fd Try.prog 61 3 3 := Fd.of ty61.und rfl rfl rfl
instance fd61_4 : Fd Try.prog 61 4 4 := Fd.of ty61.und rfl rfl rfl
instance fd61_5 : Fd Try.prog 61 5 5 := Fd.of ty61.und rfl rfl rfl
instance fd61_6 : Fd Try.prog 61 6 6 := Fd.of ty61.und rfl rfl rfl
instance fd61_7 : Fd Try.prog 61 7 7 := Fd.of ty61.und rfl rfl rfl
instance fd61_8 : Fd Try.prog 61 8 8 := Fd.of ty61.und rfl rfl rfl
instance fd61_9 : Fd Try.prog 61 9 9 := Fd.of ty61.und rfl rfl rfl
instance fd61_10 : Fd Try.prog 61 10 10 := Fd.of ty61.und rfl rfl rfl
instance fd62_0 : Fd Try.prog 62 0 0 := Fd.of ty62.und rfl rfl rfl
instance fd62_1 : Fd Try.prog 62 1 1 := Fd.of ty62.und rfl rfl rfl
instance fd62_2 : Fd Try.prog 62 2 2 := Fd.of ty62.und rfl rfl rfl
instance fd62_3 : Fd Try.prog 62 3 3 := Fd.of ty62.und rfl rfl rfl
instance fd62_4 : Fd Try.prog 62 4 4 := Fd.of ty62.und rfl rfl rfl
instance fd62_5 : Fd Try.prog 62 5 5 := Fd.of ty62.und rfl rfl rfl
instance fd62_6 : Fd Try.prog 62 6 6 := Fd.of ty62.und rfl rfl rfl
instance fd62_7 : Fd Try.prog 62 7 7 := Fd.of ty62.und rfl rfl rfl
instance fd62_8 : Fd Try.prog 62 8 8 := Fd.of ty62.und rfl rfl rfl
instance fd62_9 : Fd Try.prog 62 9 9 := Fd.of ty62.und rfl rfl rfl
instance fd62_10 : Fd Try.prog 62 10 10 := Fd.of ty62.und rfl rfl rfl
end Go.Proofs.Ytpakamobancgeaa
