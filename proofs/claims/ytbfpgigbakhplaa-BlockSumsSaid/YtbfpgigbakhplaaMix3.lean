/- The mix, whole; the reference's rounds. -/
import Derived.Test.YtbfpgigbakhplaaMix2
set_option linter.unusedVariables false
set_option linter.unusedSimpArgs false
namespace Go.Proofs.Ytbfpgigbakhplaa.MixR
open Go.RowKit Go.Proofs.Ytbfpgigbakhplaa.Sx Go.Proofs.Ytbfpgigbakhplaa.Mx Go.Proofs.Ytbfpgigbakhplaa.Bw Go.Proofs.Ytbfpgigbakhplaa.By Go.Proofs.Ytbfpgigbakhplaa.Eqs Go.Proofs.Ytbfpgigbakhplaa.Qx Go.Proofs.Ytbfpgigbakhplaa.Ap Go.Proofs.Ytbfpgigbakhplaa.Mi Go.Proofs.Ytbfpgigbakhplaa.Stm Go.Proofs.Ytbfpgigbakhplaa.Fl Go.Proofs.Ytbfpgigbakhplaa.MixQ
attribute [local irreducible] Ow Cw Xw Mw
set_option maxHeartbeats 4000000
/-- The columns from the last to the first. -/
def rndV (F : Fn4) (t : Nat) (s : Stt) : Nat → Stt
  | 0 => s
  | n + 1 => col F t (3 - n) (rndV F t s n)
theorem rndV_len (F : Fn4) (t : Nat) (s : Stt) : ∀ i, (rndV F t s i).length = s.length
  | 0 => rfl
  | i + 1 => by rw [rndV, col, at4_len, rndV_len F t s i]
theorem sixteen {α : Type} : ∀ (s : List α), s.length = 16 → ∃ a b c d e f g h i j k l m n o p, s = [a, b, c, d, e, f, g, h, i, j, k, l, m, n, o, p]
  | [a, b, c, d, e, f, g, h, i, j, k, l, m, n, o, p], _ => ⟨a, b, c, d, e, f, g, h, i, j, k, l, m, n, o, p, rfl⟩
theorem rndV_eq (F : Fn4) (odd : Bool) (s : Stt) (hs : s.length = 16) : rndV F odd.toNat s 4 = rndB F odd s := by
  obtain ⟨a, b, c, d, e, f, g, h, i, j, k, l, m, n, o, p, rfl⟩ := sixteen s hs
  cases odd
  · simp [rndV, rndB, rnd, col, at4, put4, Bool.toNat]
  · simp [rndV, rndB, rnd, col, at4, put4, Bool.toNat]
end Go.Proofs.Ytbfpgigbakhplaa.MixR
