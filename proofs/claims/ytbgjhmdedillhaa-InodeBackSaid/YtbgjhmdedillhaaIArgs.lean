/- Inodes and bytes among the arguments. -/
import Derived.Test.YtbgjhmdedillhaaSArgs
import Derived.Test.YtbgjhmdedillhaaInoC1
namespace Go.Proofs.Ytbgjhmdedillhaa.IArgs
open Go.ChangeShapes Go.WideShapes Go.ChangeAt Go.RowKit Go.Proofs.Ytbgjhmdedillhaa.Fl Go.Proofs.Ytbgjhmdedillhaa.Sx Go.Proofs.Ytbgjhmdedillhaa.Mx Go.Proofs.Ytbgjhmdedillhaa.By Go.Proofs.Ytbgjhmdedillhaa.Ap Go.Proofs.Ytbgjhmdedillhaa.Ar Go.Proofs.Ytbgjhmdedillhaa.Fb Go.Proofs.Ytbgjhmdedillhaa.SArgs
set_option linter.unusedVariables false
theorem flatInode : Flat Try.prog 44 Ind.inC Ind.OkI :=
  (flat_struct5 Try.underlying44 (by kernel_rfl) (flat_i64 Try.underlying3) (flat_i64 Try.underlying3) (flat_i64 Try.underlying3) (flat_u64 Try.underlying35) flatTree).map
    (fun a => ⟨a.1, a.2.1, a.2.2.1, a.2.2.2.1, a.2.2.2.2.1, a.2.2.2.2.2⟩)
    (fun a ⟨_, _, _, _, h5⟩ => ⟨by simp [Ind.inC, Sup.trC], h5.2⟩)
theorem cb_flat (l : List Byte) : l.flatMap (fun b => [Value.int .u8 b.toNat]) = cb l := by
  induction l with
  | nil => rfl
  | cons x l ih => rw [List.flatMap_cons, ih]; rfl
theorem cells_u8 : Try.prog.cellsOf 5 = 1 := by kernel_rfl
theorem bytes_u8 : Try.prog.bytesOf 5 = 1 := by kernel_rfl
theorem reach : reachBytes = 140737488351232 := rfl
theorem row_pre {W : World} {A : Option Addr} {cs : List Value} (h : Row W A cs) : Stm.Pre [Stm.rowI A cs] W := .cons_ro .nil h rfl (fun j hj => nomatch hj)
theorem flatBlk : Flat Try.prog 65 cb (fun l : List Byte => l.length = 256) := flat_bytes Try.underlying65 Try.underlying5 (by kernel_rfl)
theorem flat4 : Flat Try.prog 63 (fun l : List Ind.In => l.flatMap Ind.inC) (fun l => l.length = 4 ∧ ∀ x ∈ l, Ind.OkI x) := flat_array Try.underlying63 (by kernel_rfl) flatInode
end Go.Proofs.Ytbgjhmdedillhaa.IArgs
