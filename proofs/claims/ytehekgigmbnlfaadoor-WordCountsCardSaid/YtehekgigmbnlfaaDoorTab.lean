/- The seat's types and their sizes, for the walks. -/
import Derived.Test.YtehekgigmbnlfaaDoorSx
import Derived.Test.YtehekgigmbnlfaaDoorProg
namespace Go.Proofs.YtehekgigmbnlfaaDoor
open Go.Proofs.YtehekgigmbnlfaaDoor.Sx
def tys : List (Nat × TypeDesc) := [
  (2, Go.TypeDesc.int Go.IntKind.i64),
  (3, Go.TypeDesc.int Go.IntKind.i64),
  (4, Go.TypeDesc.bool),
  (5, Go.TypeDesc.int Go.IntKind.u8),
  (6, Go.TypeDesc.int Go.IntKind.u8),
  (7, Go.TypeDesc.struct #[{ name := "x", type := 2, offset := 0, embedded := Bool.false, tag := "", pkgPath := "runtime", byteOffset := 0 }, { name := "y", type := 3, offset := 1, embedded := Bool.false, tag := "", pkgPath := "runtime", byteOffset := 8 }, { name := "signed", type := 4, offset := 2, embedded := Bool.false, tag := "", pkgPath := "runtime", byteOffset := 16 }, { name := "code", type := 6, offset := 3, embedded := Bool.false, tag := "", pkgPath := "runtime", byteOffset := 17 }]),
  (8, Go.TypeDesc.struct #[{ name := "x", type := 2, offset := 0, embedded := Bool.false, tag := "", pkgPath := "runtime", byteOffset := 0 }, { name := "y", type := 3, offset := 1, embedded := Bool.false, tag := "", pkgPath := "runtime", byteOffset := 8 }, { name := "signed", type := 4, offset := 2, embedded := Bool.false, tag := "", pkgPath := "runtime", byteOffset := 16 }, { name := "code", type := 6, offset := 3, embedded := Bool.false, tag := "", pkgPath := "runtime", byteOffset := 17 }]),
  (9, Go.TypeDesc.string),
  (10, Go.TypeDesc.string),
  (11, Go.TypeDesc.string),
  (12, Go.TypeDesc.int Go.IntKind.u64),
  (13, Go.TypeDesc.struct #[{ name := "msg", type := 9, offset := 0, embedded := Bool.false, tag := "", pkgPath := "runtime", byteOffset := 0 }, { name := "addr", type := 12, offset := 1, embedded := Bool.false, tag := "", pkgPath := "runtime", byteOffset := 16 }]),
  (14, Go.TypeDesc.struct #[{ name := "msg", type := 9, offset := 0, embedded := Bool.false, tag := "", pkgPath := "runtime", byteOffset := 0 }, { name := "addr", type := 12, offset := 1, embedded := Bool.false, tag := "", pkgPath := "runtime", byteOffset := 16 }]),
  (15, Go.TypeDesc.pointer 44),
  (16, Go.TypeDesc.pointer 47),
  (17, Go.TypeDesc.pointer 56),
  (18, Go.TypeDesc.struct #[{ name := "typ", type := 17, offset := 0, embedded := Bool.false, tag := "", pkgPath := "internal/runtime/maps", byteOffset := 0 }]),
  (19, Go.TypeDesc.struct #[{ name := "typ", type := 17, offset := 0, embedded := Bool.false, tag := "", pkgPath := "internal/runtime/maps", byteOffset := 0 }]),
  (21, Go.TypeDesc.int Go.IntKind.i32),
  (22, Go.TypeDesc.int Go.IntKind.u64),
  (23, Go.TypeDesc.int Go.IntKind.i64),
  (33, Go.TypeDesc.slice 5),
  (38, Go.TypeDesc.int Go.IntKind.u32),
  (40, Go.TypeDesc.int Go.IntKind.u64),
  (41, Go.TypeDesc.array 64 5),
  (43, Go.TypeDesc.struct #[{ name := "_interface", type := 17, offset := 0, embedded := Bool.false, tag := "", pkgPath := "runtime", byteOffset := 0 }, { name := "concrete", type := 17, offset := 1, embedded := Bool.false, tag := "", pkgPath := "runtime", byteOffset := 8 }, { name := "asserted", type := 17, offset := 2, embedded := Bool.false, tag := "", pkgPath := "runtime", byteOffset := 16 }, { name := "missingMethod", type := 9, offset := 3, embedded := Bool.false, tag := "", pkgPath := "runtime", byteOffset := 24 }]),
  (44, Go.TypeDesc.struct #[{ name := "_interface", type := 17, offset := 0, embedded := Bool.false, tag := "", pkgPath := "runtime", byteOffset := 0 }, { name := "concrete", type := 17, offset := 1, embedded := Bool.false, tag := "", pkgPath := "runtime", byteOffset := 8 }, { name := "asserted", type := 17, offset := 2, embedded := Bool.false, tag := "", pkgPath := "runtime", byteOffset := 16 }, { name := "missingMethod", type := 9, offset := 3, embedded := Bool.false, tag := "", pkgPath := "runtime", byteOffset := 24 }]),
  (45, Go.TypeDesc.array 0 16),
  (46, Go.TypeDesc.struct #[{ name := "_", type := 45, offset := 0, embedded := Bool.false, tag := "", pkgPath := "runtime", byteOffset := 0 }]),
  (47, Go.TypeDesc.struct #[{ name := "_", type := 45, offset := 0, embedded := Bool.false, tag := "", pkgPath := "runtime", byteOffset := 0 }]),
  (49, Go.TypeDesc.int Go.IntKind.u8),
  (50, Go.TypeDesc.int Go.IntKind.u8),
  (52, Go.TypeDesc.pointer 5),
  (53, Go.TypeDesc.int Go.IntKind.i32),
  (54, Go.TypeDesc.int Go.IntKind.i32),
  (55, Go.TypeDesc.struct #[{ name := "Size_", type := 12, offset := 0, embedded := Bool.false, tag := "", pkgPath := "", byteOffset := 0 }, { name := "PtrBytes", type := 12, offset := 1, embedded := Bool.false, tag := "", pkgPath := "", byteOffset := 8 }, { name := "Hash", type := 38, offset := 2, embedded := Bool.false, tag := "", pkgPath := "", byteOffset := 16 }, { name := "TFlag", type := 49, offset := 3, embedded := Bool.false, tag := "", pkgPath := "", byteOffset := 20 }, { name := "Align_", type := 5, offset := 4, embedded := Bool.false, tag := "", pkgPath := "", byteOffset := 21 }, { name := "FieldAlign_", type := 5, offset := 5, embedded := Bool.false, tag := "", pkgPath := "", byteOffset := 22 }, { name := "Kind_", type := 50, offset := 6, embedded := Bool.false, tag := "", pkgPath := "", byteOffset := 23 }, { name := "Equal", type := 51, offset := 7, embedded := Bool.false, tag := "", pkgPath := "", byteOffset := 24 }, { name := "GCData", type := 52, offset := 8, embedded := Bool.false, tag := "", pkgPath := "", byteOffset := 32 }, { name := "Str", type := 53, offset := 9, embedded := Bool.false, tag := "", pkgPath := "", byteOffset := 40 }, { name := "PtrToThis", type := 54, offset := 10, embedded := Bool.false, tag := "", pkgPath := "", byteOffset := 44 }]),
  (56, Go.TypeDesc.struct #[{ name := "Size_", type := 12, offset := 0, embedded := Bool.false, tag := "", pkgPath := "", byteOffset := 0 }, { name := "PtrBytes", type := 12, offset := 1, embedded := Bool.false, tag := "", pkgPath := "", byteOffset := 8 }, { name := "Hash", type := 38, offset := 2, embedded := Bool.false, tag := "", pkgPath := "", byteOffset := 16 }, { name := "TFlag", type := 49, offset := 3, embedded := Bool.false, tag := "", pkgPath := "", byteOffset := 20 }, { name := "Align_", type := 5, offset := 4, embedded := Bool.false, tag := "", pkgPath := "", byteOffset := 21 }, { name := "FieldAlign_", type := 5, offset := 5, embedded := Bool.false, tag := "", pkgPath := "", byteOffset := 22 }, { name := "Kind_", type := 50, offset := 6, embedded := Bool.false, tag := "", pkgPath := "", byteOffset := 23 }, { name := "Equal", type := 51, offset := 7, embedded := Bool.false, tag := "", pkgPath := "", byteOffset := 24 }, { name := "GCData", type := 52, offset := 8, embedded := Bool.false, tag := "", pkgPath := "", byteOffset := 32 }, { name := "Str", type := 53, offset := 9, embedded := Bool.false, tag := "", pkgPath := "", byteOffset := 40 }, { name := "PtrToThis", type := 54, offset := 10, embedded := Bool.false, tag := "", pkgPath := "", byteOffset := 44 }])]
def szs : List (Nat × Nat) := [(2, 1), (3, 1), (4, 1), (5, 1), (6, 1), (7, 4), (8, 4), (9, 1), (10, 1), (11, 1), (12, 1), (13, 2), (14, 2), (15, 1), (16, 1), (17, 1), (18, 1), (19, 1), (21, 1), (22, 1), (23, 1), (33, 1), (38, 1), (40, 1), (41, 64), (43, 4), (44, 4), (45, 0), (46, 0), (47, 0), (49, 1), (50, 1), (52, 1), (53, 1), (54, 1), (55, 11), (56, 11)]
theorem tys_ok : AllTy Tryd.prog tys := ⟨Tryd.underlying2, Tryd.underlying3, Tryd.underlying4, Tryd.underlying5, Tryd.underlying6, Tryd.underlying7, Tryd.underlying8, Tryd.underlying9, Tryd.underlying10, Tryd.underlying11, Tryd.underlying12, Tryd.underlying13, Tryd.underlying14, Tryd.underlying15, Tryd.underlying16, Tryd.underlying17, Tryd.underlying18, Tryd.underlying19, Tryd.underlying21, Tryd.underlying22, Tryd.underlying23, Tryd.underlying33, Tryd.underlying38, Tryd.underlying40, Tryd.underlying41, Tryd.underlying43, Tryd.underlying44, Tryd.underlying45, Tryd.underlying46, Tryd.underlying47, Tryd.underlying49, Tryd.underlying50, Tryd.underlying52, Tryd.underlying53, Tryd.underlying54, Tryd.underlying55, Tryd.underlying56, trivial⟩
theorem szs_ok : AllSz Tryd.prog szs := ⟨by kernel_rfl, by kernel_rfl, by kernel_rfl, by kernel_rfl, by kernel_rfl, by kernel_rfl, by kernel_rfl, by kernel_rfl, by kernel_rfl, by kernel_rfl, by kernel_rfl, by kernel_rfl, by kernel_rfl, by kernel_rfl, by kernel_rfl, by kernel_rfl, by kernel_rfl, by kernel_rfl, by kernel_rfl, by kernel_rfl, by kernel_rfl, by kernel_rfl, by kernel_rfl, by kernel_rfl, by kernel_rfl, by kernel_rfl, by kernel_rfl, by kernel_rfl, by kernel_rfl, by kernel_rfl, by kernel_rfl, by kernel_rfl, by kernel_rfl, by kernel_rfl, by kernel_rfl, by kernel_rfl, by kernel_rfl, trivial⟩
def tab : Tab Tryd.prog := Tab.mk' tys_ok szs_ok
end Go.Proofs.YtehekgigmbnlfaaDoor
