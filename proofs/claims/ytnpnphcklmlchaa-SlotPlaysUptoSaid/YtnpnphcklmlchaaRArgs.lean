/- Slots among the arguments. -/
import Derived.Test.YtnpnphcklmlchaaFb
import Derived.Test.YtnpnphcklmlchaaSlt1
namespace Go.Proofs.Ytnpnphcklmlchaa.RArgs
open Go.ChangeShapes Go.WideShapes Go.ChangeAt Go.RowKit Go.Proofs.Ytnpnphcklmlchaa.Fl Go.Proofs.Ytnpnphcklmlchaa.Sx Go.Proofs.Ytnpnphcklmlchaa.Mx Go.Proofs.Ytnpnphcklmlchaa.By Go.Proofs.Ytnpnphcklmlchaa.Ap Go.Proofs.Ytnpnphcklmlchaa.Ar Go.Proofs.Ytnpnphcklmlchaa.Fb
set_option linter.unusedVariables false
theorem flatSum : Flat Try.prog 24 cb (fun l : List Byte => l.length = 32) := flat_bytes Try.underlying24 Try.underlying5 (by kernel_rfl)
theorem flatRef : Flat Try.prog 105 Nd.refC Nd.OkR :=
  (flat_struct2 Try.underlying105 (by kernel_rfl) (flat_u32 Try.underlying103) flatSum).map id (fun a h => ⟨rfl, h.2⟩)
theorem flatSlot : Flat Try.prog 107 Slt.slC Slt.OkL :=
  (flat_struct2 Try.underlying107 (by kernel_rfl) (flat_u64 Try.underlying102) flatRef).map id (fun a h => ⟨rfl, h.2⟩)
end Go.Proofs.Ytnpnphcklmlchaa.RArgs
