/- References and nodes among the arguments. -/
import Derived.Test.YtbfpgigbakhplaaBArgs
import Derived.Test.YtbfpgigbakhplaaNd2
namespace Go.Proofs.Ytbfpgigbakhplaa.NArgs
open Go.ChangeShapes Go.WideShapes Go.ChangeAt Go.RowKit Go.Proofs.Ytbfpgigbakhplaa.Fl Go.Proofs.Ytbfpgigbakhplaa.Sx Go.Proofs.Ytbfpgigbakhplaa.Mx Go.Proofs.Ytbfpgigbakhplaa.By Go.Proofs.Ytbfpgigbakhplaa.Ap Go.Proofs.Ytbfpgigbakhplaa.Ar Go.Proofs.Ytbfpgigbakhplaa.Fb
set_option linter.unusedVariables false
theorem flatSum : Flat Try.prog 79 cb (fun l : List Byte => l.length = 32) := flat_bytes Try.underlying79 Try.underlying5 (by kernel_rfl)
theorem flatRef : Flat Try.prog 89 Nd.refC Nd.OkR :=
  (flat_struct2 Try.underlying89 (by kernel_rfl) (flat_u32 Try.underlying42) flatSum).map id (fun a h => ⟨rfl, h.2⟩)
theorem flatNode : Flat Try.prog 105 Nd.nodeC Nd.OkN :=
  (flat_struct2 Try.underlying105 (by kernel_rfl) (flat_i64 Try.underlying3) (flat_array (n := 4) Try.underlying103 (by kernel_rfl) flatRef)).map id (fun a h => ⟨rfl, h.1, h.2.1, h.2.2⟩)
end Go.Proofs.Ytbfpgigbakhplaa.NArgs
