/- BlockPatches: the call at every argument that can be read. -/
import Derived.Test.YtbfpgigbakhplaaBArgs
import Derived.Test.YtbfpgigbakhplaaBlkPatches
namespace Go.Proofs.Ytbfpgigbakhplaa.blockPatches
open Go.ChangeShapes Go.WideShapes Go.ChangeAt Go.RowKit Go.Proofs.Ytbfpgigbakhplaa.Fl Go.Proofs.Ytbfpgigbakhplaa.Sx Go.Proofs.Ytbfpgigbakhplaa.Mx Go.Proofs.Ytbfpgigbakhplaa.By Go.Proofs.Ytbfpgigbakhplaa.Ar Go.Proofs.Ytbfpgigbakhplaa.Fb Go.Proofs.Ytbfpgigbakhplaa.BArgs
set_option linter.unusedVariables false
theorem flatPt : FlatB Try.prog 60 Blk1.ptC (fun a : Int × List Byte => I64 a.1 ∧ a.2.length ≤ reachBytes) :=
  (fb_struct2 Try.underlying60 (by kernel_rfl) (.of (flat_i64 Try.underlying3)) (fb_string Try.underlying9)).map id (fun a h => ⟨rfl, h⟩)
theorem cells60 : Try.prog.cellsOf 60 = 2 := by kernel_rfl
theorem bytes60 : Try.prog.bytesOf 60 = 24 := by kernel_rfl
set_option maxRecDepth 100000 in
theorem calls {H : Type} {enc : TypeId × Value → H} (W : World) (base : Nat)
    (v0 : Value) (d0 : DataW H) (p0 : List MemPlace) (k0 : Value.okWide Try.prog W .any base 23 v0) (h0 : DataW.Trod enc Try.prog W 0 (fun _ => true) true 23 v0 d0 p0)
    (v1 : Value) (d1 : DataW H) (p1 : List MemPlace) (k1 : Value.okWide Try.prog W .any base 23 v1) (h1 : DataW.Trod enc Try.prog W 0 (fun _ => true) true 23 v1 d1 p1)
    (v2 : Value) (d2 : DataW H) (p2 : List MemPlace) (k2 : Value.okWide Try.prog W .any base 57 v2) (h2 : DataW.Trod enc Try.prog W 0 (fun _ => true) true 57 v2 d2 p2)
    (hsz : (DataW.weightsEach Try.prog ([23, 23, 57] ++ []) ([d0, d1, d2] ++ [])).all (· ≤ reachBytes) = true) :
    Calls Try.prog 8 #[v0, v1, v2] W fun e W' => e = .returned (.bool true) ∧ Below W.heap.size W W' := by
  obtain ⟨z0, hsz⟩ := weights_cons hsz
  obtain ⟨z1, hsz⟩ := weights_cons hsz
  obtain ⟨z2, hsz⟩ := weights_cons hsz
  obtain ⟨a, rfl, ha⟩ := agg_open Try.underlying23 rfl flatBlock k0 h0
  obtain ⟨b, rfl, hb⟩ := agg_open Try.underlying23 rfl flatBlock k1 h1
  obtain ⟨A, l, c, rfl, hr, hl, _, hn⟩ := slice_openB Try.underlying57 cells60 (Nat.zero_lt_succ _) flatPt (fun _ _ => rfl) k2 h2 z2
  rw [bytes60, reach] at hn
  rw [reach] at hl
  exact Calls.mono (Blk1.blockPatches W a b ha hb A l c hr hl (Nat.le_trans (Nat.le_mul_of_pos_right _ (by decide)) hn)) fun e w' ⟨v, he, hv, hk⟩ => ⟨by rw [he, hv], hk.below⟩
end Go.Proofs.Ytbfpgigbakhplaa.blockPatches
