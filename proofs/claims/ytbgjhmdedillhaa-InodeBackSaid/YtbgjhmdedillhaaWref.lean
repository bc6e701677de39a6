/- The reference's numbers in bytes, walked. -/
import Derived.Test.YtbgjhmdedillhaaWnum
set_option linter.unusedVariables false
set_option linter.unusedSimpArgs false
namespace Go.Proofs.Ytbgjhmdedillhaa.Wd
open Go.RowKit Go.Proofs.Ytbgjhmdedillhaa.Sx Go.Proofs.Ytbgjhmdedillhaa.Mx Go.Proofs.Ytbgjhmdedillhaa.Bw Go.Proofs.Ytbgjhmdedillhaa.By Go.Proofs.Ytbgjhmdedillhaa.Eqs Go.Proofs.Ytbgjhmdedillhaa.Qx Go.Proofs.Ytbgjhmdedillhaa.Ap Go.Proofs.Ytbgjhmdedillhaa.Mi Go.Proofs.Ytbgjhmdedillhaa.Stm Go.Proofs.Ytbgjhmdedillhaa.Num Go.Proofs.Ytbgjhmdedillhaa.Fl
attribute [local irreducible] Ow Cw Xw Mw
set_option maxHeartbeats 4000000
theorem div_u64 (n : BitVec 64) : IntKind.u64.wrap ((n.toNat : Int).tdiv 256) = ((n / 256).toNat : Int) := by
  have : (n.toNat : Int).tdiv 256 = ((n / 256).toNat : Int) := by rw [BitVec.toNat_udiv]; exact Int.ofNat_tdiv _ _
  rw [this, u64_of _ (by omega) (by have := (n / 256).isLt; omega)]
theorem mul256r (X : BitVec 64) : IntKind.u64.wrap ((X.toNat : Int) * 256) = ((256 * X).toNat : Int) := by rw [BitVec.mul_comm]; exact mul_u64 X (256 : BitVec 64)
theorem valB_step (s : List Byte) (i : Nat) (h : i < s.length) : valB (s.drop i) = 256 * valB (s.drop (i + 1)) + (s[i].setWidth 64 : BitVec 64) := by
  rw [List.drop_eq_getElem_cons h, valB]

end Go.Proofs.Ytbgjhmdedillhaa.Wd
