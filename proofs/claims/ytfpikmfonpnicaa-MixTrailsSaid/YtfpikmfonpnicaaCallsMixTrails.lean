/- MixTrails: the call at every argument that can be read. -/
import Derived.Test.YtfpikmfonpnicaaMArgs
import Derived.Test.YtfpikmfonpnicaaMixTr
namespace Go.Proofs.Ytfpikmfonpnicaa.mixTrails
open Go.ChangeShapes Go.WideShapes Go.ChangeAt Go.RowKit Go.Proofs.Ytfpikmfonpnicaa.Fl Go.Proofs.Ytfpikmfonpnicaa.Sx Go.Proofs.Ytfpikmfonpnicaa.Mx Go.Proofs.Ytfpikmfonpnicaa.By Go.Proofs.Ytfpikmfonpnicaa.Ar Go.Proofs.Ytfpikmfonpnicaa.Fb
set_option linter.unusedVariables false
open Go.Proofs.Ytfpikmfonpnicaa.MArgs
set_option maxRecDepth 100000 in
theorem calls {H : Type} {enc : TypeId × Value → H} (W : World) (base : Nat)
    (v0 : Value) (d0 : DataW H) (p0 : List MemPlace) (k0 : Value.okWide Try.prog W .any base 80 v0) (h0 : DataW.Trod enc Try.prog W 0 (fun _ => true) true 80 v0 d0 p0)
    (v1 : Value) (d1 : DataW H) (p1 : List MemPlace) (k1 : Value.okWide Try.prog W .any base 80 v1) (h1 : DataW.Trod enc Try.prog W 0 (fun _ => true) true 80 v1 d1 p1)
    (v2 : Value) (d2 : DataW H) (p2 : List MemPlace) (k2 : Value.okWide Try.prog W .any base 82 v2) (h2 : DataW.Trod enc Try.prog W 0 (fun _ => true) true 82 v2 d2 p2)
    (hsz : (DataW.weightsEach Try.prog ([80, 80, 82] ++ []) ([d0, d1, d2] ++ [])).all (· ≤ reachBytes) = true) :
    Calls Try.prog 9 #[v0, v1, v2] W fun e W' => e = .returned (.bool true) ∧ Below W.heap.size W W' := by
  obtain ⟨z0, hsz⟩ := weights_cons hsz
  obtain ⟨z1, hsz⟩ := weights_cons hsz
  obtain ⟨z2, hsz⟩ := weights_cons hsz
  obtain ⟨s, rfl, hs⟩ := agg_open Try.underlying80 rfl flatSt k0 h0
  obtain ⟨o, rfl, ho⟩ := agg_open Try.underlying80 rfl flatSt k1 h1
  obtain ⟨⟨b, n⟩, rfl, hb⟩ := agg_open Try.underlying82 rfl (flat_struct2 Try.underlying82 (by kernel_rfl) (flat_i64 Try.underlying3) (flat_i64 Try.underlying3)) k2 h2
  exact Calls.mono (MixR.mixTrails s o hs ho b n W) fun e w' ⟨v, he, hv, hk⟩ => ⟨by rw [he, hv], hk.below⟩
end Go.Proofs.Ytfpikmfonpnicaa.mixTrails
