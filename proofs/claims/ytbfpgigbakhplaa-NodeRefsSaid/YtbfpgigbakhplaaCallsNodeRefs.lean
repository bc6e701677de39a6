/- NodeRefs: the call at every argument that can be read. -/
import Derived.Test.YtbfpgigbakhplaaNArgs
import Derived.Test.YtbfpgigbakhplaaNdLaws
namespace Go.Proofs.Ytbfpgigbakhplaa.nodeRefs
open Go.ChangeShapes Go.WideShapes Go.ChangeAt Go.RowKit Go.Proofs.Ytbfpgigbakhplaa.Fl Go.Proofs.Ytbfpgigbakhplaa.Sx Go.Proofs.Ytbfpgigbakhplaa.Mx Go.Proofs.Ytbfpgigbakhplaa.By Go.Proofs.Ytbfpgigbakhplaa.Ar Go.Proofs.Ytbfpgigbakhplaa.Fb
set_option linter.unusedVariables false
open Go.Proofs.Ytbfpgigbakhplaa.BArgs Go.Proofs.Ytbfpgigbakhplaa.NArgs
set_option maxRecDepth 100000 in
theorem calls {H : Type} {enc : TypeId × Value → H} (W : World) (base : Nat)
    (v0 : Value) (d0 : DataW H) (p0 : List MemPlace) (k0 : Value.okWide Try.prog W .any base 89 v0) (h0 : DataW.Trod enc Try.prog W 0 (fun _ => true) true 89 v0 d0 p0)
    (v1 : Value) (d1 : DataW H) (p1 : List MemPlace) (k1 : Value.okWide Try.prog W .any base 9 v1) (h1 : DataW.Trod enc Try.prog W 0 (fun _ => true) true 9 v1 d1 p1)
    (v2 : Value) (d2 : DataW H) (p2 : List MemPlace) (k2 : Value.okWide Try.prog W .any base 3 v2) (h2 : DataW.Trod enc Try.prog W 0 (fun _ => true) true 3 v2 d2 p2)
    (hsz : (DataW.weightsEach Try.prog ([89, 9, 3] ++ []) ([d0, d1, d2] ++ [])).all (· ≤ reachBytes) = true) :
    Calls Try.prog 11 #[v0, v1, v2] W fun e W' => e = .returned (.bool true) ∧ Below W.heap.size W W' := by
  obtain ⟨z0, hsz⟩ := weights_cons hsz
  obtain ⟨z1, hsz⟩ := weights_cons hsz
  obtain ⟨z2, hsz⟩ := weights_cons hsz
  obtain ⟨r, rfl, hr⟩ := agg_open Try.underlying89 rfl flatRef k0 h0
  obtain ⟨s, rfl, _, hs⟩ := str_open Try.underlying9 k1 h1
  obtain ⟨n, rfl, hn⟩ := i64_open Try.underlying3 k2 h2
  have hs := hs z1
  rw [reach] at hs
  exact Calls.mono (Nd.nodeRefs r hr s n hn hs W) fun e w' ⟨v, he, hv, hk⟩ => ⟨by rw [he, hv], hk.below⟩
end Go.Proofs.Ytbfpgigbakhplaa.nodeRefs
