/- The seat's types and their sizes, for the walks. -/
import Derived.Test.YtfpikmfonpnicaaSx
import Derived.Test.YtfpikmfonpnicaaProg
namespace Go.Proofs.Ytfpikmfonpnicaa
open Go.Proofs.Ytfpikmfonpnicaa.Sx
def tys : List (Nat × TypeDesc) := [
  (2, Go.TypeDesc.int Go.IntKind.i64),
  (3, Go.TypeDesc.int Go.IntKind.i64),
  (4, Go.TypeDesc.bool),
  (5, Go.TypeDesc.int Go.IntKind.u8),
  (6, Go.TypeDesc.int Go.IntKind.u8),
  (7, Go.TypeDesc.struct #[{ name := "x", type := 2, offset := 0, embedded := Bool.false, tag := "", pkgPath := "runtime", byteOffset := 0 }, { name := "y", type := 3, offset := 1, embedded := Bool.false, tag := "", pkgPath := "runtime", byteOffset := 8 }, { name := "signed", type := 4, offset := 2, embedded := Bool.false, tag := "", pkgPath := "runtime", byteOffset := 16 }, { name := "code", type := 6, offset := 3, embedded := Bool.false, tag := "", pkgPath := "runtime", byteOffset := 17 }]),
  (8, Go.TypeDesc.struct #[{ name := "x", type := 2, offset := 0, embedded := Bool.false, tag := "", pkgPath := "runtime", byteOffset := 0 }, { name := "y", type := 3, offset := 1, embedded := Bool.false, tag := "", pkgPath := "runtime", byteOffset := 8 }, { name := "signed", type := 4, offset := 2, embedded := Bool.false, tag := "", pkgPath := "runtime", byteOffset := 16 }, { name := "code", type := 6, offset := 3, embedded := Bool.false, tag := "", pkgPath := "runtime", byteOffset := 17 }]),
  (9, Go.TypeDesc.string),
  (10, Go.TypeDesc.string),
  (11, Go.TypeDesc.string),
  (12, Go.TypeDesc.int Go.IntKind.u64),
  (13, Go.TypeDesc.struct #[{ name := "msg", type := 9, offset := 0, embedded := Bool.false, tag := "", pkgPath := "runtime", byteOffset := 0 }, { name := "addr", type := 12, offset := 1, embedded := Bool.false, tag := "", pkgPath := "runtime", byteOffset := 16 }]),
  (14, Go.TypeDesc.struct #[{ name := "msg", type := 9, offset := 0, embedded := Bool.false, tag := "", pkgPath := "runtime", byteOffset := 0 }, { name := "addr", type := 12, offset := 1, embedded := Bool.false, tag := "", pkgPath := "runtime", byteOffset := 16 }]),
  (15, Go.TypeDesc.pointer 110),
  (16, Go.TypeDesc.pointer 113),
  (17, Go.TypeDesc.pointer 122),
  (18, Go.TypeDesc.struct #[{ name := "typ", type := 17, offset := 0, embedded := Bool.false, tag := "", pkgPath := "internal/runtime/maps", byteOffset := 0 }]),
  (19, Go.TypeDesc.struct #[{ name := "typ", type := 17, offset := 0, embedded := Bool.false, tag := "", pkgPath := "internal/runtime/maps", byteOffset := 0 }]),
  (21, Go.TypeDesc.int Go.IntKind.i32),
  (22, Go.TypeDesc.int Go.IntKind.u64),
  (24, Go.TypeDesc.int Go.IntKind.u32),
  (29, Go.TypeDesc.int Go.IntKind.i64),
  (42, Go.TypeDesc.struct #[{ name := "At", type := 3, offset := 0, embedded := Bool.false, tag := "", pkgPath := "", byteOffset := 0 }, { name := "Bits", type := 3, offset := 1, embedded := Bool.false, tag := "", pkgPath := "", byteOffset := 8 }, { name := "N", type := 22, offset := 2, embedded := Bool.false, tag := "", pkgPath := "", byteOffset := 16 }]),
  (43, Go.TypeDesc.struct #[{ name := "At", type := 3, offset := 0, embedded := Bool.false, tag := "", pkgPath := "", byteOffset := 0 }, { name := "Bits", type := 3, offset := 1, embedded := Bool.false, tag := "", pkgPath := "", byteOffset := 8 }, { name := "N", type := 22, offset := 2, embedded := Bool.false, tag := "", pkgPath := "", byteOffset := 16 }]),
  (53, Go.TypeDesc.array 2 5),
  (55, Go.TypeDesc.int Go.IntKind.u16),
  (56, Go.TypeDesc.array 4 5),
  (58, Go.TypeDesc.array 8 5),
  (61, Go.TypeDesc.slice 5),
  (74, Go.TypeDesc.struct #[{ name := "A", type := 24, offset := 0, embedded := Bool.false, tag := "", pkgPath := "", byteOffset := 0 }, { name := "B", type := 24, offset := 1, embedded := Bool.false, tag := "", pkgPath := "", byteOffset := 4 }, { name := "C", type := 24, offset := 2, embedded := Bool.false, tag := "", pkgPath := "", byteOffset := 8 }, { name := "D", type := 24, offset := 3, embedded := Bool.false, tag := "", pkgPath := "", byteOffset := 12 }]),
  (75, Go.TypeDesc.struct #[{ name := "A", type := 24, offset := 0, embedded := Bool.false, tag := "", pkgPath := "", byteOffset := 0 }, { name := "B", type := 24, offset := 1, embedded := Bool.false, tag := "", pkgPath := "", byteOffset := 4 }, { name := "C", type := 24, offset := 2, embedded := Bool.false, tag := "", pkgPath := "", byteOffset := 8 }, { name := "D", type := 24, offset := 3, embedded := Bool.false, tag := "", pkgPath := "", byteOffset := 12 }]),
  (79, Go.TypeDesc.array 16 24),
  (80, Go.TypeDesc.array 16 24),
  (81, Go.TypeDesc.struct #[{ name := "Bit", type := 3, offset := 0, embedded := Bool.false, tag := "", pkgPath := "", byteOffset := 0 }, { name := "N", type := 3, offset := 1, embedded := Bool.false, tag := "", pkgPath := "", byteOffset := 8 }]),
  (82, Go.TypeDesc.struct #[{ name := "Bit", type := 3, offset := 0, embedded := Bool.false, tag := "", pkgPath := "", byteOffset := 0 }, { name := "N", type := 3, offset := 1, embedded := Bool.false, tag := "", pkgPath := "", byteOffset := 8 }]),
  (85, Go.TypeDesc.array 16 24),
  (86, Go.TypeDesc.slice 3),
  (89, Go.TypeDesc.int Go.IntKind.u64),
  (109, Go.TypeDesc.struct #[{ name := "_interface", type := 17, offset := 0, embedded := Bool.false, tag := "", pkgPath := "runtime", byteOffset := 0 }, { name := "concrete", type := 17, offset := 1, embedded := Bool.false, tag := "", pkgPath := "runtime", byteOffset := 8 }, { name := "asserted", type := 17, offset := 2, embedded := Bool.false, tag := "", pkgPath := "runtime", byteOffset := 16 }, { name := "missingMethod", type := 9, offset := 3, embedded := Bool.false, tag := "", pkgPath := "runtime", byteOffset := 24 }]),
  (110, Go.TypeDesc.struct #[{ name := "_interface", type := 17, offset := 0, embedded := Bool.false, tag := "", pkgPath := "runtime", byteOffset := 0 }, { name := "concrete", type := 17, offset := 1, embedded := Bool.false, tag := "", pkgPath := "runtime", byteOffset := 8 }, { name := "asserted", type := 17, offset := 2, embedded := Bool.false, tag := "", pkgPath := "runtime", byteOffset := 16 }, { name := "missingMethod", type := 9, offset := 3, embedded := Bool.false, tag := "", pkgPath := "runtime", byteOffset := 24 }]),
  (111, Go.TypeDesc.array 0 16),
  (112, Go.TypeDesc.struct #[{ name := "_", type := 111, offset := 0, embedded := Bool.false, tag := "", pkgPath := "runtime", byteOffset := 0 }]),
  (113, Go.TypeDesc.struct #[{ name := "_", type := 111, offset := 0, embedded := Bool.false, tag := "", pkgPath := "runtime", byteOffset := 0 }]),
  (115, Go.TypeDesc.int Go.IntKind.u8),
  (116, Go.TypeDesc.int Go.IntKind.u8),
  (118, Go.TypeDesc.pointer 5),
  (119, Go.TypeDesc.int Go.IntKind.i32),
  (120, Go.TypeDesc.int Go.IntKind.i32),
  (121, Go.TypeDesc.struct #[{ name := "Size_", type := 12, offset := 0, embedded := Bool.false, tag := "", pkgPath := "", byteOffset := 0 }, { name := "PtrBytes", type := 12, offset := 1, embedded := Bool.false, tag := "", pkgPath := "", byteOffset := 8 }, { name := "Hash", type := 24, offset := 2, embedded := Bool.false, tag := "", pkgPath := "", byteOffset := 16 }, { name := "TFlag", type := 115, offset := 3, embedded := Bool.false, tag := "", pkgPath := "", byteOffset := 20 }, { name := "Align_", type := 5, offset := 4, embedded := Bool.false, tag := "", pkgPath := "", byteOffset := 21 }, { name := "FieldAlign_", type := 5, offset := 5, embedded := Bool.false, tag := "", pkgPath := "", byteOffset := 22 }, { name := "Kind_", type := 116, offset := 6, embedded := Bool.false, tag := "", pkgPath := "", byteOffset := 23 }, { name := "Equal", type := 117, offset := 7, embedded := Bool.false, tag := "", pkgPath := "", byteOffset := 24 }, { name := "GCData", type := 118, offset := 8, embedded := Bool.false, tag := "", pkgPath := "", byteOffset := 32 }, { name := "Str", type := 119, offset := 9, embedded := Bool.false, tag := "", pkgPath := "", byteOffset := 40 }, { name := "PtrToThis", type := 120, offset := 10, embedded := Bool.false, tag := "", pkgPath := "", byteOffset := 44 }]),
  (122, Go.TypeDesc.struct #[{ name := "Size_", type := 12, offset := 0, embedded := Bool.false, tag := "", pkgPath := "", byteOffset := 0 }, { name := "PtrBytes", type := 12, offset := 1, embedded := Bool.false, tag := "", pkgPath := "", byteOffset := 8 }, { name := "Hash", type := 24, offset := 2, embedded := Bool.false, tag := "", pkgPath := "", byteOffset := 16 }, { name := "TFlag", type := 115, offset := 3, embedded := Bool.false, tag := "", pkgPath := "", byteOffset := 20 }, { name := "Align_", type := 5, offset := 4, embedded := Bool.false, tag := "", pkgPath := "", byteOffset := 21 }, { name := "FieldAlign_", type := 5, offset := 5, embedded := Bool.false, tag := "", pkgPath := "", byteOffset := 22 }, { name := "Kind_", type := 116, offset := 6, embedded := Bool.false, tag := "", pkgPath := "", byteOffset := 23 }, { name := "Equal", type := 117, offset := 7, embedded := Bool.false, tag := "", pkgPath := "", byteOffset := 24 }, { name := "GCData", type := 118, offset := 8, embedded := Bool.false, tag := "", pkgPath := "", byteOffset := 32 }, { name := "Str", type := 119, offset := 9, embedded := Bool.false, tag := "", pkgPath := "", byteOffset := 40 }, { name := "PtrToThis", type := 120, offset := 10, embedded := Bool.false, tag := "", pkgPath := "", byteOffset := 44 }])]
def szs : List (Nat × Nat) := [(2, 1), (3, 1), (4, 1), (5, 1), (6, 1), (7, 4), (8, 4), (9, 1), (10, 1), (11, 1), (12, 1), (13, 2), (14, 2), (15, 1), (16, 1), (17, 1), (18, 1), (19, 1), (21, 1), (22, 1), (24, 1), (29, 1), (42, 3), (43, 3), (53, 2), (55, 1), (56, 4), (58, 8), (61, 1), (74, 4), (75, 4), (79, 16), (80, 16), (81, 2), (82, 2), (85, 16), (86, 1), (89, 1), (109, 4), (110, 4), (111, 0), (112, 0), (113, 0), (115, 1), (116, 1), (118, 1), (119, 1), (120, 1), (121, 11), (122, 11)]
theorem tys_ok : AllTy Try.prog tys := ⟨Try.underlying2, Try.underlying3, Try.underlying4, Try.underlying5, Try.underlying6, Try.underlying7, Try.underlying8, Try.underlying9, Try.underlying10, Try.underlying11, Try.underlying12, Try.underlying13, Try.underlying14, Try.underlying15, Try.underlying16, Try.underlying17, Try.underlying18, Try.underlying19, Try.underlying21, Try.underlying22, Try.underlying24, Try.underlying29, Try.underlying42, Try.underlying43, Try.underlying53, Try.underlying55, Try.underlying56, Try.underlying58, Try.underlying61, Try.underlying74, Try.underlying75, Try.underlying79, Try.underlying80, Try.underlying81, Try.underlying82, Try.underlying85, Try.underlying86, Try.underlying89, Try.underlying109, Try.underlying110, Try.underlying111, Try.underlying112, Try.underlying113, Try.underlying115, Try.underlying116, Try.underlying118, Try.underlying119, Try.underlying120, Try.underlying121, Try.underlying122, trivial⟩
theorem szs_ok : AllSz Try.prog szs := ⟨by kernel_rfl, by kernel_rfl, by kernel_rfl, by kernel_rfl, by kernel_rfl, by kernel_rfl, by kernel_rfl, by kernel_rfl, by kernel_rfl, by kernel_rfl, by kernel_rfl, by kernel_rfl, by kernel_rfl, by kernel_rfl, by kernel_rfl, by kernel_rfl, by kernel_rfl, by kernel_rfl, by kernel_rfl, by kernel_rfl, by kernel_rfl, by kernel_rfl, by kernel_rfl, by kernel_rfl, by kernel_rfl, by kernel_rfl, by kernel_rfl, by kernel_rfl, by kernel_rfl, by kernel_rfl, by kernel_rfl, by kernel_rfl, by kernel_rfl, by kernel_rfl, by kernel_rfl, by kernel_rfl, by kernel_rfl, by kernel_rfl, by kernel_rfl, by kernel_rfl, by kernel_rfl, by kernel_rfl, by kernel_rfl, by kernel_rfl, by kernel_rfl, by kernel_rfl, by kernel_rfl, by kernel_rfl, by kernel_rfl, by kernel_rfl, trivial⟩
def tab : Tab Try.prog := Tab.mk' tys_ok szs_ok
end Go.Proofs.Ytfpikmfonpnicaa
