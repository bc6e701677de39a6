/- BlockOf: the call at every argument that can be read. -/
import Derived.Test.YtbfpgigbakhplaaFl
import Derived.Test.YtbfpgigbakhplaaBlk3
namespace Go.Proofs.Ytbfpgigbakhplaa.blockOf
open Go.ChangeShapes Go.WideShapes Go.ChangeAt Go.RowKit Go.Proofs.Ytbfpgigbakhplaa.Fl Go.Proofs.Ytbfpgigbakhplaa.Sx Go.Proofs.Ytbfpgigbakhplaa.Mx Go.Proofs.Ytbfpgigbakhplaa.By
open Go.ChangeMaps (open_string)
set_option linter.unusedVariables false

theorem flat_cb (l : List Byte) : (l.flatMap fun b : Byte => [Value.int .u8 b.toNat]) = cb l := by
  induction l with
  | nil => rfl
  | cons x l ih => rw [List.flatMap_cons, ih]; rfl
theorem flatBlock : Flat Try.prog 23 cb (fun l : List Byte => l.length = 256) :=
  (flat_array (cells := fun b : Byte => [Value.int .u8 b.toNat]) Try.underlying23 (by kernel_rfl) (flat_u8 Try.underlying5)).map id (fun l h => ⟨by simp only [id]; exact flat_cb l, h.1⟩)

set_option maxRecDepth 100000 in
theorem calls {H : Type} {enc : TypeId × Value → H} (W : World) (base : Nat)
    (v0 : Value) (d0 : DataW H) (p0 : List MemPlace) (k0 : Value.okWide Try.prog W .any base 9 v0) (h0 : DataW.Trod enc Try.prog W 0 (fun _ => true) true 9 v0 d0 p0)
    (v1 : Value) (d1 : DataW H) (p1 : List MemPlace) (k1 : Value.okWide Try.prog W .any base 23 v1) (h1 : DataW.Trod enc Try.prog W 0 (fun _ => true) true 23 v1 d1 p1)
    (hsz : (DataW.weightsEach Try.prog ([9, 23] ++ []) ([d0, d1] ++ [])).all (· ≤ reachBytes) = true) :
    Calls Try.prog 3 #[v0, v1] W fun e W' => e = .returned (.bool true) ∧ Below W.heap.size W W' := by
  obtain ⟨s, rfl, _, _, hs⟩ := open_string Try.underlying9 k0 h0
  obtain ⟨b, rfl, hb⟩ := agg_open Try.underlying23 rfl flatBlock k1 h1
  rw [← bs_ofBA s, bs_size] at hs
  rw [← bs_ofBA s]
  have hm : maxLen = 9223372036854775807 := by decide
  exact Calls.mono (Blk1.blockOf (ofBA s) (hm ▸ hs) b hb W) fun e w' ⟨v, he, hv, hk⟩ => ⟨by rw [he, hv], hk.below⟩
end Go.Proofs.Ytbfpgigbakhplaa.blockOf
