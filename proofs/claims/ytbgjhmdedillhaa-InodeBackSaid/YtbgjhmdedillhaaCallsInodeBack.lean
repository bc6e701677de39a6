/- InodeBack: the call at every argument that can be read. -/
import Derived.Test.YtbgjhmdedillhaaIArgs
import Derived.Test.YtbgjhmdedillhaaInoD4
namespace Go.Proofs.Ytbgjhmdedillhaa.inodeBack
open Go.ChangeShapes Go.WideShapes Go.ChangeAt Go.RowKit Go.Proofs.Ytbgjhmdedillhaa.Fl Go.Proofs.Ytbgjhmdedillhaa.Sx Go.Proofs.Ytbgjhmdedillhaa.Mx Go.Proofs.Ytbgjhmdedillhaa.By Go.Proofs.Ytbgjhmdedillhaa.Ar Go.Proofs.Ytbgjhmdedillhaa.Fb
set_option linter.unusedVariables false
open Go.Proofs.Ytbgjhmdedillhaa.IArgs
set_option maxRecDepth 100000 in
theorem calls {H : Type} {enc : TypeId × Value → H} (W : World) (base : Nat)
    (v0 : Value) (d0 : DataW H) (p0 : List MemPlace) (k0 : Value.okWide Try.prog W .any base 63 v0) (h0 : DataW.Trod enc Try.prog W 0 (fun _ => true) true 63 v0 d0 p0)
    (v1 : Value) (d1 : DataW H) (p1 : List MemPlace) (k1 : Value.okWide Try.prog W .any base 45 v1) (h1 : DataW.Trod enc Try.prog W 0 (fun _ => true) true 45 v1 d1 p1)
    (v2 : Value) (d2 : DataW H) (p2 : List MemPlace) (k2 : Value.okWide Try.prog W .any base 3 v2) (h2 : DataW.Trod enc Try.prog W 0 (fun _ => true) true 3 v2 d2 p2)
    (hsz : (DataW.weightsEach Try.prog ([63, 45, 3] ++ []) ([d0, d1, d2] ++ [])).all (· ≤ reachBytes) = true) :
    Calls Try.prog 7 #[v0, v1, v2] W fun e W' => e = .returned (.bool true) ∧ Below W.heap.size W W' := by
  obtain ⟨z0, hsz⟩ := weights_cons hsz
  obtain ⟨z1, hsz⟩ := weights_cons hsz
  obtain ⟨z2, hsz⟩ := weights_cons hsz
  obtain ⟨l, rfl, hl⟩ := agg_open Try.underlying63 rfl flat4 k0 h0
  obtain ⟨A, b, c, rfl, hr, _, _, hn⟩ := slice_open Try.underlying45 cells_u8 (Nat.zero_lt_succ _) (flat_u8 Try.underlying5) (fun _ _ => rfl) k1 h1
  obtain ⟨n, rfl, _⟩ := i64_open Try.underlying3 k2 h2
  have hn := hn z1
  rw [bytes_u8, reach, Nat.mul_one] at hn
  rw [cb_flat] at hr
  exact Calls.mono (Ind.inodeBack l hl A b b.length c rfl hn n W (row_pre hr)) fun e w' ⟨v, he, hv, hk⟩ => ⟨by rw [he, hv], hk.below⟩
end Go.Proofs.Ytbgjhmdedillhaa.inodeBack
