/- MixQuarters: the call at every argument that can be read. -/
import Derived.Test.YtfpikmfonpnicaaFl
import Derived.Test.YtfpikmfonpnicaaMixQL
namespace Go.Proofs.Ytfpikmfonpnicaa.mixQuarters
open Go.ChangeShapes Go.WideShapes Go.ChangeAt Go.RowKit Go.Proofs.Ytfpikmfonpnicaa.Fl Go.Proofs.Ytfpikmfonpnicaa.Sx Go.Proofs.Ytfpikmfonpnicaa.Mx
set_option linter.unusedVariables false

theorem flatFour : Flat Try.prog 75 (fun a : BitVec 32 × BitVec 32 × BitVec 32 × BitVec 32 => [.int .u32 a.1.toNat] ++ [.int .u32 a.2.1.toNat] ++ [.int .u32 a.2.2.1.toNat] ++ [.int .u32 a.2.2.2.toNat]) (fun _ => True ∧ True ∧ True ∧ True) :=
  flat_struct4 Try.underlying75 (by kernel_rfl) (flat_u32 Try.underlying24) (flat_u32 Try.underlying24) (flat_u32 Try.underlying24) (flat_u32 Try.underlying24)

set_option maxRecDepth 100000 in
theorem calls {H : Type} {enc : TypeId × Value → H} (W : World) (base : Nat)
    (v0 : Value) (d0 : DataW H) (p0 : List MemPlace) (k0 : Value.okWide Try.prog W .any base 75 v0) (h0 : DataW.Trod enc Try.prog W 0 (fun _ => true) true 75 v0 d0 p0)
    (hsz : (DataW.weightsEach Try.prog ([75] ++ []) ([d0] ++ [])).all (· ≤ reachBytes) = true) :
    Calls Try.prog 8 #[v0] W fun e W' => e = .returned (.bool true) ∧ Below W.heap.size W W' := by
  obtain ⟨⟨a, b, c, d⟩, rfl, _⟩ := agg_open Try.underlying75 rfl flatFour k0 h0
  exact Calls.mono (MixQ.law a b c d W) fun e w' ⟨v, he, hv, hk⟩ => ⟨by rw [he, hv], hk.below⟩
end Go.Proofs.Ytfpikmfonpnicaa.mixQuarters
