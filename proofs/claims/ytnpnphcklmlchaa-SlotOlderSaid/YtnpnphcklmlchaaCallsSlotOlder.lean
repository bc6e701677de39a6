/- SlotOlder: the call at every argument that can be read. -/
import Derived.Test.YtnpnphcklmlchaaRArgs
import Derived.Test.YtnpnphcklmlchaaSlt9
namespace Go.Proofs.Ytnpnphcklmlchaa.slotOlder
open Go.ChangeShapes Go.WideShapes Go.ChangeAt Go.RowKit Go.Proofs.Ytnpnphcklmlchaa.Fl Go.Proofs.Ytnpnphcklmlchaa.Sx Go.Proofs.Ytnpnphcklmlchaa.Mx Go.Proofs.Ytnpnphcklmlchaa.By Go.Proofs.Ytnpnphcklmlchaa.Ar Go.Proofs.Ytnpnphcklmlchaa.Fb
set_option linter.unusedVariables false
open Go.Proofs.Ytnpnphcklmlchaa.RArgs
theorem reach : reachBytes = 140737488351232 := rfl
set_option maxRecDepth 100000 in
theorem calls {H : Type} {enc : TypeId × Value → H} (W : World) (base : Nat)
    (v0 : Value) (d0 : DataW H) (p0 : List MemPlace) (k0 : Value.okWide Try.prog W .any base 116 v0) (h0 : DataW.Trod enc Try.prog W 0 (fun _ => true) true 116 v0 d0 p0)
    (v1 : Value) (d1 : DataW H) (p1 : List MemPlace) (k1 : Value.okWide Try.prog W .any base 102 v1) (h1 : DataW.Trod enc Try.prog W 0 (fun _ => true) true 102 v1 d1 p1)
    (v2 : Value) (d2 : DataW H) (p2 : List MemPlace) (k2 : Value.okWide Try.prog W .any base 102 v2) (h2 : DataW.Trod enc Try.prog W 0 (fun _ => true) true 102 v2 d2 p2)
    (hsz : (DataW.weightsEach Try.prog ([116, 102, 102] ++ []) ([d0, d1, d2] ++ [])).all (· ≤ reachBytes) = true) :
    Calls Try.prog 11 #[v0, v1, v2] W fun e W' => e = .returned (.bool true) ∧ Below W.heap.size W W' := by
  obtain ⟨z0, hsz⟩ := weights_cons hsz
  obtain ⟨z1, hsz⟩ := weights_cons hsz
  obtain ⟨z2, hsz⟩ := weights_cons hsz
  obtain ⟨A, xs, c, rfl, hr, hx, _, hb⟩ := slice_openB Try.underlying116 (sz := 32) (by kernel_rfl) (by decide) (.of flatSum) (fun l h => by rw [List.length_map]; exact h) k0 h0 z0
  obtain ⟨a, rfl⟩ := one_open Try.underlying102 k1 h1
  obtain ⟨b, rfl⟩ := one_open Try.underlying102 k2 h2
  rw [reach, show Try.prog.bytesOf 24 = 32 from by kernel_rfl] at hb
  exact Calls.mono (Slt.slotOlder A xs c hx (by omega) a b W (.cons_ro .nil hr rfl Stm.ro_nil)) fun e w' ⟨v, he, hv, hk⟩ => ⟨by rw [he, hv], hk.below⟩
end Go.Proofs.Ytnpnphcklmlchaa.slotOlder
