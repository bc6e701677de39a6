/- BlockParts: the call at every argument that can be read. -/
import Derived.Test.YtbfpgigbakhplaaBArgs
import Derived.Test.YtbfpgigbakhplaaBlkParts
namespace Go.Proofs.Ytbfpgigbakhplaa.blockParts
open Go.ChangeShapes Go.WideShapes Go.ChangeAt Go.RowKit Go.Proofs.Ytbfpgigbakhplaa.Fl Go.Proofs.Ytbfpgigbakhplaa.Sx Go.Proofs.Ytbfpgigbakhplaa.Mx Go.Proofs.Ytbfpgigbakhplaa.By Go.Proofs.Ytbfpgigbakhplaa.Ar Go.Proofs.Ytbfpgigbakhplaa.Fb
set_option linter.unusedVariables false
open Go.Proofs.Ytbfpgigbakhplaa.BArgs
theorem flatPart : FlatB Try.prog 45 (fun a : Int × Int × List Byte × BitVec 32 × BitVec 64 => [.int .i64 a.1] ++ [.int .i64 a.2.1] ++ [str a.2.2.1] ++ [.int .u32 a.2.2.2.1.toNat] ++ [.int .u64 a.2.2.2.2.toNat]) (fun a => I64 a.1 ∧ I64 a.2.1 ∧ a.2.2.1.length ≤ reachBytes ∧ True ∧ True) :=
  fb_struct5 Try.underlying45 (by kernel_rfl) (.of (flat_i64 Try.underlying3)) (.of (flat_i64 Try.underlying3)) (fb_string Try.underlying9) (.of (flat_u32 Try.underlying42)) (.of (flat_u64 Try.underlying43))
set_option maxRecDepth 100000 in
theorem calls {H : Type} {enc : TypeId × Value → H} (W : World) (base : Nat)
    (v0 : Value) (d0 : DataW H) (p0 : List MemPlace) (k0 : Value.okWide Try.prog W .any base 23 v0) (h0 : DataW.Trod enc Try.prog W 0 (fun _ => true) true 23 v0 d0 p0)
    (v1 : Value) (d1 : DataW H) (p1 : List MemPlace) (k1 : Value.okWide Try.prog W .any base 45 v1) (h1 : DataW.Trod enc Try.prog W 0 (fun _ => true) true 45 v1 d1 p1)
    (hsz : (DataW.weightsEach Try.prog ([23, 45] ++ []) ([d0, d1] ++ [])).all (· ≤ reachBytes) = true) :
    Calls Try.prog 9 #[v0, v1] W fun e W' => e = .returned (.bool true) ∧ Below W.heap.size W W' := by
  obtain ⟨z0, hsz⟩ := weights_cons hsz
  obtain ⟨z1, hsz⟩ := weights_cons hsz
  obtain ⟨b, rfl, hb⟩ := agg_open Try.underlying23 rfl flatBlock k0 h0
  obtain ⟨⟨a, n, s, x, y⟩, rfl, ha, hn, hs, _, _⟩ := agg_openB Try.underlying45 rfl flatPart k1 h1 z1
  simp only at ha hn hs
  rw [reach] at hs
  exact Calls.mono (Blk1.blockParts W b hb a n s x y ha hn (Nat.le_trans hs (by decide))) fun e w' ⟨v, he, hv, hk⟩ => ⟨by rw [he, hv], hk.below⟩
end Go.Proofs.Ytbfpgigbakhplaa.blockParts
