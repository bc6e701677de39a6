/- NodeBlocks: the call at every argument that can be read. -/
import Derived.Test.YtbfpgigbakhplaaNArgs
import Derived.Test.YtbfpgigbakhplaaNdBlocks
namespace Go.Proofs.Ytbfpgigbakhplaa.nodeBlocks
open Go.ChangeShapes Go.WideShapes Go.ChangeAt Go.RowKit Go.Proofs.Ytbfpgigbakhplaa.Fl Go.Proofs.Ytbfpgigbakhplaa.Sx Go.Proofs.Ytbfpgigbakhplaa.Mx Go.Proofs.Ytbfpgigbakhplaa.By Go.Proofs.Ytbfpgigbakhplaa.Ar Go.Proofs.Ytbfpgigbakhplaa.Fb
set_option linter.unusedVariables false
open Go.Proofs.Ytbfpgigbakhplaa.BArgs Go.Proofs.Ytbfpgigbakhplaa.NArgs
set_option maxRecDepth 100000 in
theorem calls {H : Type} {enc : TypeId × Value → H} (W : World) (base : Nat)
    (v0 : Value) (d0 : DataW H) (p0 : List MemPlace) (k0 : Value.okWide Try.prog W .any base 105 v0) (h0 : DataW.Trod enc Try.prog W 0 (fun _ => true) true 105 v0 d0 p0)
    (v1 : Value) (d1 : DataW H) (p1 : List MemPlace) (k1 : Value.okWide Try.prog W .any base 3 v1) (h1 : DataW.Trod enc Try.prog W 0 (fun _ => true) true 3 v1 d1 p1)
    (v2 : Value) (d2 : DataW H) (p2 : List MemPlace) (k2 : Value.okWide Try.prog W .any base 89 v2) (h2 : DataW.Trod enc Try.prog W 0 (fun _ => true) true 89 v2 d2 p2)
    (hsz : (DataW.weightsEach Try.prog ([105, 3, 89] ++ []) ([d0, d1, d2] ++ [])).all (· ≤ reachBytes) = true) :
    Calls Try.prog 13 #[v0, v1, v2] W fun e W' => e = .returned (.bool true) ∧ Below W.heap.size W W' := by
  obtain ⟨z0, hsz⟩ := weights_cons hsz
  obtain ⟨z1, hsz⟩ := weights_cons hsz
  obtain ⟨z2, hsz⟩ := weights_cons hsz
  obtain ⟨n, rfl, hn⟩ := agg_open Try.underlying105 rfl flatNode k0 h0
  obtain ⟨p, rfl, hp⟩ := i64_open Try.underlying3 k1 h1
  obtain ⟨r, rfl, hr⟩ := agg_open Try.underlying89 rfl flatRef k2 h2
  exact Calls.mono (Nd.nodeBlocks n hn p hp r hr W) fun e w' ⟨v, he, hv, hk⟩ => ⟨by rw [he, hv], hk.below⟩
end Go.Proofs.Ytbfpgigbakhplaa.nodeBlocks
