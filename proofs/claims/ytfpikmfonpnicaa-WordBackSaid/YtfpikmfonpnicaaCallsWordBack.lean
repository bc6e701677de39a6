import Derived.Test.YtfpikmfonpnicaaFl
import Derived.Test.YtfpikmfonpnicaaPureWordBack
import Derived.Test.YtfpikmfonpnicaaPWordBackx2
namespace Go.Proofs.Ytfpikmfonpnicaa.wordBack
open Go.ChangeShapes Go.WideShapes Go.ChangeAt Go.RowKit Go.Proofs.Ytfpikmfonpnicaa.Fl
set_option linter.unusedVariables false

theorem flatPart : Flat Try.prog 43 (fun a : Int × Int × BitVec 64 => [.int .i64 a.1] ++ [.int .i64 a.2.1] ++ [.int .u64 a.2.2.toNat]) (fun a => I64 a.1 ∧ I64 a.2.1 ∧ True) :=
  flat_struct3 Try.underlying43 (by kernel_rfl) (flat_i64 Try.underlying3) (flat_i64 Try.underlying3) (flat_u64 Try.underlying22)

set_option maxRecDepth 100000 in
theorem calls {H : Type} {enc : TypeId × Value → H} (W : World) (base : Nat)
    (v0 : Value) (d0 : DataW H) (p0 : List MemPlace) (k0 : Value.okWide Try.prog W .any base 22 v0) (h0 : DataW.Trod enc Try.prog W 0 (fun _ => true) true 22 v0 d0 p0)
    (v1 : Value) (d1 : DataW H) (p1 : List MemPlace) (k1 : Value.okWide Try.prog W .any base 3 v1) (h1 : DataW.Trod enc Try.prog W 0 (fun _ => true) true 3 v1 d1 p1)
    (v2 : Value) (d2 : DataW H) (p2 : List MemPlace) (k2 : Value.okWide Try.prog W .any base 43 v2) (h2 : DataW.Trod enc Try.prog W 0 (fun _ => true) true 43 v2 d2 p2)
    (hsz : (DataW.weightsEach Try.prog ([22, 3, 43] ++ []) ([d0, d1, d2] ++ [])).all (· ≤ reachBytes) = true) :
    Calls Try.prog 5 #[v0, v1, v2] W fun e W' => e = .returned (.bool true) ∧ Below W.heap.size W W' := by
  obtain ⟨X, rfl⟩ := one_open Try.underlying22 k0 h0
  obtain ⟨c, rfl, hc⟩ := i64_open Try.underlying3 k1 h1
  obtain ⟨⟨a, b, N⟩, rfl, ha, hb, _⟩ := agg_open Try.underlying43 rfl flatPart k2 h2
  exact PWordBack.signetlaw01_WordBack.calls 200 _ c a b _ true W (Pure.back_law X N c a b hc ha hb)
end Go.Proofs.Ytfpikmfonpnicaa.wordBack
