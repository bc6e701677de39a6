/- DigestLogs: the call at every argument that can be read. -/
import Derived.Test.YtnpnphcklmlchaaLArgs
namespace Go.Proofs.Ytnpnphcklmlchaa.digestLogs
open Go.ChangeShapes Go.WideShapes Go.ChangeAt Go.RowKit Go.Proofs.Ytnpnphcklmlchaa.Fl Go.Proofs.Ytnpnphcklmlchaa.Sx Go.Proofs.Ytnpnphcklmlchaa.Mx Go.Proofs.Ytnpnphcklmlchaa.By Go.Proofs.Ytnpnphcklmlchaa.Ar Go.Proofs.Ytnpnphcklmlchaa.Fb
set_option linter.unusedVariables false
open Go.Proofs.Ytnpnphcklmlchaa.LArgs Go.Proofs.Ytnpnphcklmlchaa.Fb
set_option maxRecDepth 100000 in
theorem calls {H : Type} {enc : TypeId × Value → H} (W : World) (base : Nat)
    (v0 : Value) (d0 : DataW H) (p0 : List MemPlace) (k0 : Value.okWide Try.prog W .any base 37 v0) (h0 : DataW.Trod enc Try.prog W 0 (fun _ => true) true 37 v0 d0 p0)
    (hsz : (DataW.weightsEach Try.prog ([37] ++ []) ([d0] ++ [])).all (· ≤ reachBytes) = true) :
    Calls Try.prog 5 #[v0] W fun e W' => e = .returned (.bool true) ∧ Below W.heap.size W W' := by
  obtain ⟨z0, hsz⟩ := weights_cons hsz
  obtain ⟨A, xs, c, rfl, hr, hx, _, hl⟩ := slice_openB Try.underlying37 (sz := 4) (by kernel_rfl) (by decide) flatAsk (fun _ _ => rfl) k0 h0 z0
  rw [show Try.prog.bytesOf 42 = 40 from by kernel_rfl] at hl
  exact Calls.mono (Lg.digestLogs A xs c (fun x h => ⟨(hx x h).2.1, (hx x h).2.2.2⟩) hl W (.cons_ro .nil hr rfl Stm.ro_nil)) fun e w' ⟨v, he, hv, hk⟩ => ⟨by rw [he, hv], hk.below⟩
end Go.Proofs.Ytnpnphcklmlchaa.digestLogs
