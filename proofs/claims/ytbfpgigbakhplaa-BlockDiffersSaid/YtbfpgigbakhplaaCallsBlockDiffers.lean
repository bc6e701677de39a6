/- BlockDiffers: the call at every argument that can be read. -/
import Derived.Test.YtbfpgigbakhplaaBArgs
import Derived.Test.YtbfpgigbakhplaaBlkDif
namespace Go.Proofs.Ytbfpgigbakhplaa.blockDiffers
open Go.ChangeShapes Go.WideShapes Go.ChangeAt Go.RowKit Go.Proofs.Ytbfpgigbakhplaa.Fl Go.Proofs.Ytbfpgigbakhplaa.Sx Go.Proofs.Ytbfpgigbakhplaa.Mx Go.Proofs.Ytbfpgigbakhplaa.By Go.Proofs.Ytbfpgigbakhplaa.Ar Go.Proofs.Ytbfpgigbakhplaa.Fb
set_option linter.unusedVariables false
open Go.Proofs.Ytbfpgigbakhplaa.BArgs
set_option maxRecDepth 100000 in
theorem calls {H : Type} {enc : TypeId × Value → H} (W : World) (base : Nat)
    (v0 : Value) (d0 : DataW H) (p0 : List MemPlace) (k0 : Value.okWide Try.prog W .any base 23 v0) (h0 : DataW.Trod enc Try.prog W 0 (fun _ => true) true 23 v0 d0 p0)
    (v1 : Value) (d1 : DataW H) (p1 : List MemPlace) (k1 : Value.okWide Try.prog W .any base 23 v1) (h1 : DataW.Trod enc Try.prog W 0 (fun _ => true) true 23 v1 d1 p1)
    (v2 : Value) (d2 : DataW H) (p2 : List MemPlace) (k2 : Value.okWide Try.prog W .any base 35 v2) (h2 : DataW.Trod enc Try.prog W 0 (fun _ => true) true 35 v2 d2 p2)
    (hsz : (DataW.weightsEach Try.prog ([23, 23, 35] ++ []) ([d0, d1, d2] ++ [])).all (· ≤ reachBytes) = true) :
    Calls Try.prog 7 #[v0, v1, v2] W fun e W' => e = .returned (.bool true) ∧ Below W.heap.size W W' := by
  obtain ⟨z0, hsz⟩ := weights_cons hsz
  obtain ⟨z1, hsz⟩ := weights_cons hsz
  obtain ⟨z2, hsz⟩ := weights_cons hsz
  obtain ⟨a, rfl, ha⟩ := agg_open Try.underlying23 rfl flatBlock k0 h0
  obtain ⟨b, rfl, hb⟩ := agg_open Try.underlying23 rfl flatBlock k1 h1
  obtain ⟨A, l, c, rfl, hr, hl, hlc, hn⟩ := slice_open Try.underlying35 cells23 (Nat.zero_lt_succ _) flatBlock (fun a h => by rw [List.length_map]; exact h) k2 h2
  have hn := hn z2
  rw [bytes23, reach] at hn
  exact Calls.mono (Gr.blockDiffers a b ha hb A l c hl hn hlc W hr) fun e w' ⟨v, he, hv, hk⟩ => ⟨by rw [he, hv], hk.below⟩
end Go.Proofs.Ytbfpgigbakhplaa.blockDiffers
