/- Blocks among the arguments. -/
import Derived.Test.YtbfpgigbakhplaaFb
import Derived.Test.YtbfpgigbakhplaaTab
namespace Go.Proofs.Ytbfpgigbakhplaa.BArgs
open Go.ChangeShapes Go.WideShapes Go.ChangeAt Go.RowKit Go.Proofs.Ytbfpgigbakhplaa.Fl Go.Proofs.Ytbfpgigbakhplaa.Sx Go.Proofs.Ytbfpgigbakhplaa.Mx Go.Proofs.Ytbfpgigbakhplaa.By Go.Proofs.Ytbfpgigbakhplaa.Ap Go.Proofs.Ytbfpgigbakhplaa.Ar Go.Proofs.Ytbfpgigbakhplaa.Fb
set_option linter.unusedVariables false
theorem flatBlock : Flat Try.prog 23 cb (fun l : List Byte => l.length = 256) := flat_bytes Try.underlying23 Try.underlying5 (by kernel_rfl)
theorem bytes23 : Try.prog.bytesOf 23 = 256 := by kernel_rfl
theorem cells23 : Try.prog.cellsOf 23 = 256 := by kernel_rfl
theorem reach : reachBytes = 140737488351232 := rfl
set_option maxRecDepth 100000 in
/-- A slice of blocks. -/
theorem blocks_open {W : World} {base : Nat} {H : Type} {enc : TypeId × Value → H} {v : Value} {d : DataW H} {p : List MemPlace} (k : Value.okWide Try.prog W .any base 35 v) (h : DataW.Trod enc Try.prog W 0 (fun _ => true) true 35 v d p) (z : (d.weights Try.prog 35).all (· ≤ reachBytes) = true) :
    ∃ (A : Option Addr) (l : List (List Byte)) (c : Nat), v = .slice A l.length c ∧ Row W A (l.flatMap cb) ∧ (∀ x ∈ l, x.length = 256) ∧ l.length * 256 ≤ 140737488351232 := by
  obtain ⟨A, l, c, rfl, hr, hl, _, hb⟩ := slice_open Try.underlying35 cells23 (Nat.zero_lt_succ _) flatBlock (fun a h => by rw [List.length_map]; exact h) k h
  have hb := hb z
  rw [bytes23, reach] at hb
  exact ⟨A, l, c, rfl, hr, hl, hb⟩
end Go.Proofs.Ytbfpgigbakhplaa.BArgs
