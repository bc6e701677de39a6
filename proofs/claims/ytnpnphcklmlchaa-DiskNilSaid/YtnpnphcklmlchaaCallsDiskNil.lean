/- DiskNil: the call at every argument that can be read. -/
import Derived.Test.YtnpnphcklmlchaaAArgs
namespace Go.Proofs.Ytnpnphcklmlchaa.diskNil
open Go.ChangeShapes Go.WideShapes Go.ChangeAt Go.RowKit Go.Proofs.Ytnpnphcklmlchaa.Fl Go.Proofs.Ytnpnphcklmlchaa.Sx Go.Proofs.Ytnpnphcklmlchaa.Mx Go.Proofs.Ytnpnphcklmlchaa.By Go.Proofs.Ytnpnphcklmlchaa.Ar Go.Proofs.Ytnpnphcklmlchaa.Fb
set_option linter.unusedVariables false
open Go.Proofs.Ytnpnphcklmlchaa.AArgs
set_option maxRecDepth 100000 in
theorem calls {H : Type} {enc : TypeId × Value → H} (W : World) (base : Nat)
    (v0 : Value) (d0 : DataW H) (p0 : List MemPlace) (k0 : Value.okWide Try.prog W .any base 58 v0) (h0 : DataW.Trod enc Try.prog W 0 (fun _ => true) true 58 v0 d0 p0)
    (hsz : (DataW.weightsEach Try.prog ([58] ++ []) ([d0] ++ [])).all (· ≤ reachBytes) = true) :
    Calls Try.prog 9 #[v0] W fun e W' => e = .returned (.bool true) ∧ Below W.heap.size W W' := by
  obtain ⟨z0, hsz⟩ := weights_cons hsz
  obtain ⟨⟨kind, at_, fill, ⟨A, m, c⟩, ce, ca⟩, rfl, _⟩ := agg_openB Try.underlying58 rfl flatAct k0 h0 z0
  exact Calls.mono (Dsk.diskNil kind at_ fill A m c ce ca W) fun e w' ⟨v, he, hv, hk⟩ => ⟨by rw [he, hv], hk.below⟩
end Go.Proofs.Ytnpnphcklmlchaa.diskNil
