/- Bytes among the arguments. -/
import Derived.Test.YtnpnphcklmlchaaFb
namespace Go.Proofs.Ytnpnphcklmlchaa.HArgs
open Go.ChangeShapes Go.WideShapes Go.ChangeAt Go.RowKit Go.Proofs.Ytnpnphcklmlchaa.Fl Go.Proofs.Ytnpnphcklmlchaa.Sx Go.Proofs.Ytnpnphcklmlchaa.Mx Go.Proofs.Ytnpnphcklmlchaa.By Go.Proofs.Ytnpnphcklmlchaa.Ap Go.Proofs.Ytnpnphcklmlchaa.Ar Go.Proofs.Ytnpnphcklmlchaa.Fb
set_option linter.unusedVariables false
variable {P : Program}
theorem u8_open {W : World} {r : Reach} {b0 : Nat} {t : TypeId} {v : Value} {H : Type} {enc : TypeId × Value → H} {base : Nat} {sp : Nat → Bool} {held : Bool} {D : DataW H} {ps : List MemPlace}
    (ht : P.underlying t = some (.int .u8)) (hv : Value.okWide P W r b0 t v) (h : DataW.Trod enc P W base sp held t v D ps) : ∃ b : Byte, v = by8 b := by
  obtain ⟨n, rfl, _, _, hw⟩ := open_int ht hv h
  exact ⟨BitVec.ofInt 8 n, by unfold by8; rw [← nat_of_wf 8 .u8 rfl rfl hw]⟩
end Go.Proofs.Ytnpnphcklmlchaa.HArgs
