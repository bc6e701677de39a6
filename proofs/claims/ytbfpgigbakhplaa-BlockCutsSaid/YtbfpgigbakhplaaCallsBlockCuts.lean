/- BlockCuts: the call at every argument that can be read. -/
import Derived.Test.YtbfpgigbakhplaaFl
import Derived.Test.YtbfpgigbakhplaaBlkCuts
namespace Go.Proofs.Ytbfpgigbakhplaa.blockCuts
open Go.ChangeShapes Go.WideShapes Go.ChangeAt Go.RowKit Go.Proofs.Ytbfpgigbakhplaa.Fl Go.Proofs.Ytbfpgigbakhplaa.Sx Go.Proofs.Ytbfpgigbakhplaa.Mx Go.Proofs.Ytbfpgigbakhplaa.By Go.Proofs.Ytbfpgigbakhplaa.Ar
set_option linter.unusedVariables false

theorem flatBlock : Flat Try.prog 23 cb (fun l : List Byte => l.length = 256) := flat_bytes Try.underlying23 Try.underlying5 (by kernel_rfl)
theorem bytes23 : Try.prog.bytesOf 23 = 256 := by kernel_rfl
theorem cells23 : Try.prog.cellsOf 23 = 256 := by kernel_rfl
theorem reach : reachBytes = 140737488351232 := rfl

set_option maxRecDepth 100000 in
theorem calls {H : Type} {enc : TypeId × Value → H} (W : World) (base : Nat)
    (v0 : Value) (d0 : DataW H) (p0 : List MemPlace) (k0 : Value.okWide Try.prog W .any base 9 v0) (h0 : DataW.Trod enc Try.prog W 0 (fun _ => true) true 9 v0 d0 p0)
    (v1 : Value) (d1 : DataW H) (p1 : List MemPlace) (k1 : Value.okWide Try.prog W .any base 35 v1) (h1 : DataW.Trod enc Try.prog W 0 (fun _ => true) true 35 v1 d1 p1)
    (v2 : Value) (d2 : DataW H) (p2 : List MemPlace) (k2 : Value.okWide Try.prog W .any base 3 v2) (h2 : DataW.Trod enc Try.prog W 0 (fun _ => true) true 3 v2 d2 p2)
    (hsz : (DataW.weightsEach Try.prog ([9, 35, 3] ++ []) ([d0, d1, d2] ++ [])).all (· ≤ reachBytes) = true) :
    Calls Try.prog 4 #[v0, v1, v2] W fun e W' => e = .returned (.bool true) ∧ Below W.heap.size W W' := by
  obtain ⟨z0, hsz⟩ := weights_cons hsz
  obtain ⟨z1, hsz⟩ := weights_cons hsz
  obtain ⟨s, rfl, _, hs⟩ := str_open Try.underlying9 k0 h0
  obtain ⟨A, l, c, rfl, hr, hl, _, hb⟩ := slice_open Try.underlying35 cells23 (Nat.zero_lt_succ _) flatBlock (fun a h => by rw [List.length_map]; exact h) k1 h1
  obtain ⟨n, rfl, hn⟩ := i64_open Try.underlying3 k2 h2
  have hs := hs z0
  have hb := hb z1
  rw [bytes23, reach] at hb
  rw [reach] at hs
  exact Calls.mono (Blk1.blockCuts s hs W A l c hr hl hb n hn) fun e w' ⟨v, he, hv, hk⟩ => ⟨by rw [he, hv], hk.below⟩
end Go.Proofs.Ytbfpgigbakhplaa.blockCuts
