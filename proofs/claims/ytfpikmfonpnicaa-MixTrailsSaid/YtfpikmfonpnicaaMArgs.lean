/- States among the arguments. -/
import Derived.Test.YtfpikmfonpnicaaFb
import Derived.Test.YtfpikmfonpnicaaMix1
namespace Go.Proofs.Ytfpikmfonpnicaa.MArgs
open Go.ChangeShapes Go.WideShapes Go.ChangeAt Go.RowKit Go.Proofs.Ytfpikmfonpnicaa.Fl Go.Proofs.Ytfpikmfonpnicaa.Sx Go.Proofs.Ytfpikmfonpnicaa.Mx Go.Proofs.Ytfpikmfonpnicaa.By Go.Proofs.Ytfpikmfonpnicaa.Ap Go.Proofs.Ytfpikmfonpnicaa.Ar Go.Proofs.Ytfpikmfonpnicaa.Fb
set_option linter.unusedVariables false
theorem flat_w (l : List (BitVec 32)) : (l.flatMap fun b => [Value.int .u32 b.toNat]) = MixR.wC l := by
  induction l with
  | nil => rfl
  | cons x l ih => rw [List.flatMap_cons, ih]; rfl
theorem flatSt : Flat Try.prog 80 MixR.wC (fun s : MixR.Stt => s.length = 16) :=
  (flat_array (n := 16) Try.underlying80 (by kernel_rfl) (flat_u32 Try.underlying24)).map id (fun l h => ⟨flat_w l, h.1⟩)
end Go.Proofs.Ytfpikmfonpnicaa.MArgs
