/- Words as bit vectors: what the printed integer words (wrap, bits, shl, shr) are of the integers of a BitVec. -/
import Derived.Test.YtfpikmfonpnicaaWMore
namespace Go.Proofs.Ytfpikmfonpnicaa.Bv
open Go.RowKit Go.Proofs.YtfpikmfonpnicaaW.PrintWords

theorem wrap_u64 (n : Int) : IntKind.u64.wrap n = ((BitVec.ofInt 64 n).toNat : Int) := by
  rw [BitVec.toNat_ofInt]
  rw [Int.toNat_of_nonneg (Int.emod_nonneg _ (by decide))]
  rfl

theorem wrap_u32 (n : Int) : IntKind.u32.wrap n = ((BitVec.ofInt 32 n).toNat : Int) := by
  rw [BitVec.toNat_ofInt]
  rw [Int.toNat_of_nonneg (Int.emod_nonneg _ (by decide))]
  rfl

theorem wrap_i64 (n : Int) : IntKind.i64.wrap n = (BitVec.ofInt 64 n).toInt := by
  rw [BitVec.toInt_ofInt]
  have e : IntKind.i64.wrap n = if n % 18446744073709551616 ≥ 9223372036854775808 then n % 18446744073709551616 - 18446744073709551616 else n % 18446744073709551616 := by
    simp [IntKind.wrap, IntKind.signed, IntKind.bits]
  rw [e]
  simp only [Int.bmod]
  omega

theorem wrap64_eq (n : Int) : wrap64 n = (BitVec.ofInt 64 n).toInt := by
  rw [← wrap_i64]
  have e : IntKind.i64.wrap n = if n % 18446744073709551616 ≥ 9223372036854775808 then n % 18446744073709551616 - 18446744073709551616 else n % 18446744073709551616 := by
    simp [IntKind.wrap, IntKind.signed, IntKind.bits]
  rw [e]
  unfold wrap64
  omega

theorem mod32_eq (n : Int) : n % 4294967296 = ((BitVec.ofInt 32 n).toNat : Int) := by
  rw [← wrap_u32, IntKind.wrap_u32]

theorem ofInt_toNat {w : Nat} (X : BitVec w) : BitVec.ofInt w (X.toNat : Int) = X := by simp
theorem ofInt_toInt {w : Nat} (X : BitVec w) : BitVec.ofInt w X.toInt = X := by simp

theorem or_u64 (X Y : BitVec 64) : Go.bits .or .u64 (X.toNat : Int) (Y.toNat : Int) = ((X ||| Y).toNat : Int) := by
  simp only [Go.bits]
  rw [wrap_u64]
  simp only [IntKind.bits, ofInt_toNat]
  rfl

theorem xor_u64 (X Y : BitVec 64) : Go.bits .xor .u64 (X.toNat : Int) (Y.toNat : Int) = ((X ^^^ Y).toNat : Int) := by
  simp only [Go.bits]
  rw [wrap_u64]
  simp only [IntKind.bits, ofInt_toNat]
  rfl

theorem and_u64 (X Y : BitVec 64) : Go.bits .and .u64 (X.toNat : Int) (Y.toNat : Int) = ((X &&& Y).toNat : Int) := by
  simp only [Go.bits]
  rw [wrap_u64]
  simp only [IntKind.bits, ofInt_toNat]
  rfl

theorem and_i64 (X Y : BitVec 64) : Go.bits .and .i64 X.toInt Y.toInt = (X &&& Y).toInt := by
  simp only [Go.bits]
  rw [wrap_i64]
  simp only [IntKind.bits, ofInt_toInt, ofInt_toNat]
  rfl

theorem or_u32 (X Y : BitVec 32) : Go.bits .or .u32 (X.toNat : Int) (Y.toNat : Int) = ((X ||| Y).toNat : Int) := by
  simp only [Go.bits]
  rw [wrap_u32]
  simp only [IntKind.bits, ofInt_toNat]
  rfl

theorem xor_u32 (X Y : BitVec 32) : Go.bits .xor .u32 (X.toNat : Int) (Y.toNat : Int) = ((X ^^^ Y).toNat : Int) := by
  simp only [Go.bits]
  rw [wrap_u32]
  simp only [IntKind.bits, ofInt_toNat]
  rfl

theorem ofInt_mul_pow {w : Nat} (X : BitVec w) (n : Nat) (x : Int) (hx : BitVec.ofInt w x = X) : BitVec.ofInt w (x * 2 ^ min n w) = X <<< n := by
  rw [BitVec.ofInt_mul, hx]
  apply BitVec.eq_of_toNat_eq
  rw [BitVec.toNat_mul, BitVec.toNat_shiftLeft, Nat.shiftLeft_eq]
  have h2 : (BitVec.ofInt w ((2 : Int) ^ min n w)).toNat = 2 ^ min n w % 2 ^ w := by
    rw [BitVec.toNat_ofInt]
    have : ((2 : Int) ^ min n w) = ((2 ^ min n w : Nat) : Int) := by simp
    rw [this]
    have e : ((2 ^ w : Nat) : Int) = ((2 ^ w : Nat) : Int) := rfl
    omega
  rw [h2]
  rcases Nat.lt_or_ge n w with h | h
  · rw [Nat.min_eq_left (by omega), Nat.mul_mod_mod]
  · rw [Nat.min_eq_right h, Nat.mod_self, Nat.mul_zero, Nat.zero_mod]
    obtain ⟨d, rfl⟩ : ∃ d, n = w + d := ⟨n - w, by omega⟩
    rw [Nat.pow_add, Nat.mul_comm (2 ^ w), ← Nat.mul_assoc, Nat.mul_mod_left]

theorem shl_u64 (X : BitVec 64) (i : Int) : shl .u64 (X.toNat : Int) i = ((X <<< i.toNat).toNat : Int) := by
  unfold shl
  rw [wrap_u64]
  simp only [IntKind.bits]
  rw [ofInt_mul_pow X i.toNat _ (ofInt_toNat X)]

theorem shl_u32 (X : BitVec 32) (i : Int) : shl .u32 (X.toNat : Int) i = ((X <<< i.toNat).toNat : Int) := by
  unfold shl
  rw [wrap_u32]
  simp only [IntKind.bits]
  rw [ofInt_mul_pow X i.toNat _ (ofInt_toNat X)]

theorem shl_i64 (X : BitVec 64) (i : Int) : shl .i64 X.toInt i = (X <<< i.toNat).toInt := by
  unfold shl
  rw [wrap_i64]
  simp only [IntKind.bits]
  rw [ofInt_mul_pow X i.toNat _ (ofInt_toInt X)]

theorem shr_nat {w : Nat} (X : BitVec w) (n : Nat) : (X.toNat : Int) / 2 ^ min n w = ((X >>> n).toNat : Int) := by
  rw [BitVec.toNat_ushiftRight, Nat.shiftRight_eq_div_pow]
  have : ((2 : Int) ^ min n w) = ((2 ^ min n w : Nat) : Int) := by simp
  rw [this, ← Int.natCast_ediv]
  rcases Nat.lt_or_ge n w with h | h
  · rw [Nat.min_eq_left (by omega)]
  · rw [Nat.min_eq_right h, Nat.div_eq_of_lt X.isLt]
    rw [Nat.div_eq_of_lt (Nat.lt_of_lt_of_le X.isLt (Nat.pow_le_pow_right (by decide) h))]

theorem shr_u64 (X : BitVec 64) (i : Int) : shr .u64 (X.toNat : Int) i = ((X >>> i.toNat).toNat : Int) := by
  unfold shr; simp only [IntKind.bits]; exact shr_nat X i.toNat

theorem shr_u32 (X : BitVec 32) (i : Int) : shr .u32 (X.toNat : Int) i = ((X >>> i.toNat).toNat : Int) := by
  unfold shr; simp only [IntKind.bits]; exact shr_nat X i.toNat

theorem shr_i64 (X : BitVec 64) (i : Int) : shr .i64 X.toInt i = (X.sshiftRight i.toNat).toInt := by
  unfold shr
  simp only [IntKind.bits]
  rw [BitVec.toInt_sshiftRight, Int.shiftRight_eq_div_pow]
  have hp : ∀ m : Nat, ((2 : Int) ^ m) = ((2 ^ m : Nat) : Int) := by intro m; simp
  rcases Nat.lt_or_ge i.toNat 64 with h | h
  · rw [Nat.min_eq_left (by omega), hp]
  · rw [Nat.min_eq_right h, hp]
    have hb := BitVec.toInt_lt (x := X)
    have hb' := BitVec.le_toInt (x := X)
    have hq : (2 ^ 64 : Nat) ≤ 2 ^ i.toNat := Nat.pow_le_pow_right (by decide) h
    generalize (2 ^ i.toNat : Nat) = q at hq
    generalize X.toInt = x at hb hb'
    simp only [Nat.reduceSub, Int.reducePow, Int.reduceNeg] at hb hb'
    by_cases hx : x < 0
    · have h1 : x / ((2 ^ 64 : Nat) : Int) = -1 := by omega
      have h2 : x / (q : Int) = -1 := by
        rw [Int.ediv_eq_iff_of_pos (by omega)]
        omega
      rw [h1, h2]
    · rw [Int.ediv_eq_zero_of_lt (by omega) (by omega), Int.ediv_eq_zero_of_lt (by omega) (by omega)]

end Go.Proofs.Ytfpikmfonpnicaa.Bv
