/- SuperBack: the call at every argument that can be read. -/
import Derived.Test.YtbgjhmdedillhaaSArgs
import Derived.Test.YtbgjhmdedillhaaSupB2
namespace Go.Proofs.Ytbgjhmdedillhaa.superBack
open Go.ChangeShapes Go.WideShapes Go.ChangeAt Go.RowKit Go.Proofs.Ytbgjhmdedillhaa.Fl Go.Proofs.Ytbgjhmdedillhaa.Sx Go.Proofs.Ytbgjhmdedillhaa.Mx Go.Proofs.Ytbgjhmdedillhaa.By Go.Proofs.Ytbgjhmdedillhaa.Ar Go.Proofs.Ytbgjhmdedillhaa.Fb
set_option linter.unusedVariables false
open Go.Proofs.Ytbgjhmdedillhaa.SArgs
theorem flatBlk : Flat Try.prog 65 cb (fun l : List Byte => l.length = 256) := flat_bytes Try.underlying65 Try.underlying5 (by kernel_rfl)
set_option maxRecDepth 100000 in
theorem calls {H : Type} {enc : TypeId × Value → H} (W : World) (base : Nat)
    (v0 : Value) (d0 : DataW H) (p0 : List MemPlace) (k0 : Value.okWide Try.prog W .any base 76 v0) (h0 : DataW.Trod enc Try.prog W 0 (fun _ => true) true 76 v0 d0 p0)
    (v1 : Value) (d1 : DataW H) (p1 : List MemPlace) (k1 : Value.okWide Try.prog W .any base 76 v1) (h1 : DataW.Trod enc Try.prog W 0 (fun _ => true) true 76 v1 d1 p1)
    (v2 : Value) (d2 : DataW H) (p2 : List MemPlace) (k2 : Value.okWide Try.prog W .any base 65 v2) (h2 : DataW.Trod enc Try.prog W 0 (fun _ => true) true 65 v2 d2 p2)
    (hsz : (DataW.weightsEach Try.prog ([76, 76, 65] ++ []) ([d0, d1, d2] ++ [])).all (· ≤ reachBytes) = true) :
    Calls Try.prog 10 #[v0, v1, v2] W fun e W' => e = .returned (.bool true) ∧ Below W.heap.size W W' := by
  obtain ⟨z0, hsz⟩ := weights_cons hsz
  obtain ⟨z1, hsz⟩ := weights_cons hsz
  obtain ⟨z2, hsz⟩ := weights_cons hsz
  obtain ⟨x, rfl, hx, _, hi, _⟩ := agg_open Try.underlying76 rfl flatSuper k0 h0
  obtain ⟨o, rfl, ho, _, hio, _⟩ := agg_open Try.underlying76 rfl flatSuper k1 h1
  obtain ⟨b, rfl, hb⟩ := agg_open Try.underlying65 rfl flatBlk k2 h2
  exact Calls.mono (Sup.superBack x o hx hi ho hio b hb W) fun e w' ⟨v, he, hv, hk⟩ => ⟨by rw [he, hv], hk.below⟩
end Go.Proofs.Ytbgjhmdedillhaa.superBack
