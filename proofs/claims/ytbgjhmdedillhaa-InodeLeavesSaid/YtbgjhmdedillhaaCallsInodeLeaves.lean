/- InodeLeaves: the call at every argument that can be read. -/
import Derived.Test.YtbgjhmdedillhaaIArgs
import Derived.Test.YtbgjhmdedillhaaInoD3
namespace Go.Proofs.Ytbgjhmdedillhaa.inodeLeaves
open Go.ChangeShapes Go.WideShapes Go.ChangeAt Go.RowKit Go.Proofs.Ytbgjhmdedillhaa.Fl Go.Proofs.Ytbgjhmdedillhaa.Sx Go.Proofs.Ytbgjhmdedillhaa.Mx Go.Proofs.Ytbgjhmdedillhaa.By Go.Proofs.Ytbgjhmdedillhaa.Ar Go.Proofs.Ytbgjhmdedillhaa.Fb
set_option linter.unusedVariables false
open Go.Proofs.Ytbgjhmdedillhaa.IArgs
set_option maxRecDepth 100000 in
theorem calls {H : Type} {enc : TypeId × Value → H} (W : World) (base : Nat)
    (v0 : Value) (d0 : DataW H) (p0 : List MemPlace) (k0 : Value.okWide Try.prog W .any base 63 v0) (h0 : DataW.Trod enc Try.prog W 0 (fun _ => true) true 63 v0 d0 p0)
    (v1 : Value) (d1 : DataW H) (p1 : List MemPlace) (k1 : Value.okWide Try.prog W .any base 65 v1) (h1 : DataW.Trod enc Try.prog W 0 (fun _ => true) true 65 v1 d1 p1)
    (hsz : (DataW.weightsEach Try.prog ([63, 65] ++ []) ([d0, d1] ++ [])).all (· ≤ reachBytes) = true) :
    Calls Try.prog 6 #[v0, v1] W fun e W' => e = .returned (.bool true) ∧ Below W.heap.size W W' := by
  obtain ⟨z0, hsz⟩ := weights_cons hsz
  obtain ⟨z1, hsz⟩ := weights_cons hsz
  obtain ⟨l, rfl, hl⟩ := agg_open Try.underlying63 rfl flat4 k0 h0
  obtain ⟨b, rfl, hb⟩ := agg_open Try.underlying65 rfl flatBlk k1 h1
  exact Calls.mono (Ind.inodeLeaves l hl b hb W) fun e w' ⟨v, he, hv, hk⟩ => ⟨by rw [he, hv], hk.below⟩
end Go.Proofs.Ytbgjhmdedillhaa.inodeLeaves
