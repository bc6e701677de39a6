/- SlotNil: the call at every argument that can be read. -/
import Derived.Test.YtnpnphcklmlchaaRArgs
import Derived.Test.YtnpnphcklmlchaaSlt3
namespace Go.Proofs.Ytnpnphcklmlchaa.slotNil
open Go.ChangeShapes Go.WideShapes Go.ChangeAt Go.RowKit Go.Proofs.Ytnpnphcklmlchaa.Fl Go.Proofs.Ytnpnphcklmlchaa.Sx Go.Proofs.Ytnpnphcklmlchaa.Mx Go.Proofs.Ytnpnphcklmlchaa.By Go.Proofs.Ytnpnphcklmlchaa.Ar Go.Proofs.Ytnpnphcklmlchaa.Fb
set_option linter.unusedVariables false
open Go.Proofs.Ytnpnphcklmlchaa.RArgs
set_option maxRecDepth 100000 in
theorem calls {H : Type} {enc : TypeId × Value → H} (W : World) (base : Nat)
    (v0 : Value) (d0 : DataW H) (p0 : List MemPlace) (k0 : Value.okWide Try.prog W .any base 107 v0) (h0 : DataW.Trod enc Try.prog W 0 (fun _ => true) true 107 v0 d0 p0)
    (hsz : (DataW.weightsEach Try.prog ([107] ++ []) ([d0] ++ [])).all (· ≤ reachBytes) = true) :
    Calls Try.prog 10 #[v0] W fun e W' => e = .returned (.bool true) ∧ Below W.heap.size W W' := by
  obtain ⟨z0, hsz⟩ := weights_cons hsz
  obtain ⟨s, rfl, hs⟩ := agg_open Try.underlying107 rfl flatSlot k0 h0
  exact Calls.mono (Slt.slotNil s hs W) fun e w' ⟨v, he, hv, hk⟩ => ⟨by rw [he, hv], hk.below⟩
end Go.Proofs.Ytnpnphcklmlchaa.slotNil
