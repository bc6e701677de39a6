/- NodeOrders: the call at every argument that can be read. -/
import Derived.Test.YtbfpgigbakhplaaNArgs
import Derived.Test.YtbfpgigbakhplaaOrd7
namespace Go.Proofs.Ytbfpgigbakhplaa.nodeOrders
open Go.ChangeShapes Go.WideShapes Go.ChangeAt Go.RowKit Go.Proofs.Ytbfpgigbakhplaa.Fl Go.Proofs.Ytbfpgigbakhplaa.Sx Go.Proofs.Ytbfpgigbakhplaa.Mx Go.Proofs.Ytbfpgigbakhplaa.By Go.Proofs.Ytbfpgigbakhplaa.Ar Go.Proofs.Ytbfpgigbakhplaa.Fb
set_option linter.unusedVariables false
open Go.Proofs.Ytbfpgigbakhplaa.BArgs Go.Proofs.Ytbfpgigbakhplaa.NArgs
theorem cellsR : Try.prog.cellsOf 89 = 33 := by kernel_rfl
theorem bytesR : Try.prog.bytesOf 89 = 36 := by kernel_rfl
set_option maxRecDepth 100000 in
theorem calls {H : Type} {enc : TypeId × Value → H} (W : World) (base : Nat)
    (v0 : Value) (d0 : DataW H) (p0 : List MemPlace) (k0 : Value.okWide Try.prog W .any base 122 v0) (h0 : DataW.Trod enc Try.prog W 0 (fun _ => true) true 122 v0 d0 p0)
    (hsz : (DataW.weightsEach Try.prog ([122] ++ []) ([d0] ++ [])).all (· ≤ reachBytes) = true) :
    Calls Try.prog 14 #[v0] W fun e W' => e = .returned (.bool true) ∧ Below W.heap.size W W' := by
  obtain ⟨z0, hsz⟩ := weights_cons hsz
  obtain ⟨A, l, c, rfl, hr, hl, hlc, hn⟩ := slice_open Try.underlying122 cellsR (Nat.zero_lt_succ _) flatRef (fun a h => Nd.refC_len h) k0 h0
  have hn := hn z0
  rw [bytesR, reach] at hn
  exact Calls.mono (Ord.nodeOrders A l c hl hn W hr) fun e w' ⟨v, he, hv, hk⟩ => ⟨by rw [he, hv], hk.below⟩
end Go.Proofs.Ytbfpgigbakhplaa.nodeOrders
