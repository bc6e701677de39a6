/- The law MixQuarters, walked. -/
import Derived.Test.YtfpikmfonpnicaaMixQ
namespace Go.Proofs.Ytfpikmfonpnicaa.MixQ
open Go.RowKit Go.Proofs.Ytfpikmfonpnicaa.Sx Go.Proofs.Ytfpikmfonpnicaa.Mx Go.Proofs.Ytfpikmfonpnicaa.Bw Go.Proofs.Ytfpikmfonpnicaa.By
set_option linter.unusedVariables false

theorem turn_xor (X Y : BitVec 32) (n : Nat) (hn : n ≤ 32) : turnN (X ^^^ Y) n = turnN X n ^^^ turnN Y n := by
  refine BitVec.eq_of_getLsbD_eq (fun j hj => ?_)
  rw [turn_bit _ n hn j hj, BitVec.getLsbD_xor, BitVec.getLsbD_xor, turn_bit _ n hn j hj, turn_bit _ n hn j hj]
theorem turn_full (X : BitVec 32) (n m : Nat) (h : n + m = 32) : turnN (turnN X n) m = X := by
  rw [turn_turn _ _ _ (by omega), h]
  refine BitVec.eq_of_getLsbD_eq (fun j hj => ?_)
  rw [turn_bit _ 32 (by omega) j hj]
  congr 1; omega
theorem xor_back (X Y : BitVec 32) : X ^^^ Y ^^^ Y = X := by rw [BitVec.xor_assoc, BitVec.xor_self, BitVec.xor_zero]
theorem undo_quarter (a b c d : BitVec 32) : undo (quarter a b c d).1 (quarter a b c d).2.1 (quarter a b c d).2.2.1 (quarter a b c d).2.2.2 = (a, b, c, d) := by
  simp only [undo, quarter, turn_full _ 7 25 rfl, turn_full _ 8 24 rfl, turn_full _ 12 20 rfl, turn_full _ 16 16 rfl, xor_back, BitVec.add_sub_cancel]
theorem sub_add (X Y : BitVec 32) : X - Y + Y = X := BitVec.sub_add_cancel X Y
theorem quarter_undo (a b c d : BitVec 32) : quarter (undo a b c d).1 (undo a b c d).2.1 (undo a b c d).2.2.1 (undo a b c d).2.2.2 = (a, b, c, d) := by
  simp only [undo, quarter, sub_add, xor_back, turn_full _ 25 7 rfl, turn_full _ 24 8 rfl, turn_full _ 20 12 rfl, turn_full _ 16 16 rfl]

end Go.Proofs.Ytfpikmfonpnicaa.MixQ
