/- Words as bit vectors: what the model's whole numbers of a kind are of a BitVec's. -/
import Derived.WalkKit
set_option linter.unusedVariables false
set_option linter.unusedSimpArgs false
namespace Go.Proofs.YtehekgigmbnlfaaDoor.Bw
open Go.RowKit

theorem ofInt_toNat {w : Nat} (X : BitVec w) : BitVec.ofInt w (X.toNat : Int) = X := by simp
theorem ofInt_toInt {w : Nat} (X : BitVec w) : BitVec.ofInt w X.toInt = X := by simp

theorem wrap_u {w : Nat} (k : IntKind) (hk : k.signed = false) (hw : k.bits = w) (n : Int) : k.wrap n = ((BitVec.ofInt w n).toNat : Int) := by
  rw [BitVec.toNat_ofInt]
  simp only [IntKind.wrap, hk, hw, Bool.false_and, Bool.false_eq_true, if_false]
  have : ((2 ^ w : Nat) : Int) = 2 ^ w := by simp
  rw [this, Int.toNat_of_nonneg (Int.emod_nonneg _ (by rw [← this]; have := Nat.pow_pos (n := w) (show 0 < 2 by decide); omega))]
theorem wrap_u8 (n : Int) : IntKind.u8.wrap n = ((BitVec.ofInt 8 n).toNat : Int) := wrap_u .u8 rfl rfl n
theorem wrap_u16 (n : Int) : IntKind.u16.wrap n = ((BitVec.ofInt 16 n).toNat : Int) := wrap_u .u16 rfl rfl n
theorem wrap_u32 (n : Int) : IntKind.u32.wrap n = ((BitVec.ofInt 32 n).toNat : Int) := wrap_u .u32 rfl rfl n
theorem wrap_u64 (n : Int) : IntKind.u64.wrap n = ((BitVec.ofInt 64 n).toNat : Int) := wrap_u .u64 rfl rfl n
theorem wrap_i64 (n : Int) : IntKind.i64.wrap n = (BitVec.ofInt 64 n).toInt := by
  rw [BitVec.toInt_ofInt]
  have e : IntKind.i64.wrap n = if n % 18446744073709551616 ≥ 9223372036854775808 then n % 18446744073709551616 - 18446744073709551616 else n % 18446744073709551616 := by
    simp [IntKind.wrap, IntKind.signed, IntKind.bits]
  rw [e]
  simp only [Int.bmod]
  omega
/-- An int within its bounds. -/
theorem wi (n : Int) (h0 : -9223372036854775808 ≤ n) (h : n < 9223372036854775808) : IntKind.i64.wrap n = n := by
  have e : IntKind.i64.wrap n = if n % 18446744073709551616 ≥ 9223372036854775808 then n % 18446744073709551616 - 18446744073709551616 else n % 18446744073709551616 := by
    simp [IntKind.wrap, IntKind.signed, IntKind.bits]
  rw [e]
  omega
theorem wrap_of {w : Nat} (k : IntKind) (hk : k.signed = false) (hw : k.bits = w) (n : Int) (h0 : 0 ≤ n) (h : n < 2 ^ w) : k.wrap n = n := by
  simp only [IntKind.wrap, hk, hw, Bool.false_and, Bool.false_eq_true, if_false]
  exact Int.emod_eq_of_lt h0 h
theorem u8_of (n : Int) (h0 : 0 ≤ n) (h : n < 256) : IntKind.u8.wrap n = n := wrap_of (w := 8) .u8 rfl rfl n h0 (by omega)
theorem u16_of (n : Int) (h0 : 0 ≤ n) (h : n < 65536) : IntKind.u16.wrap n = n := wrap_of (w := 16) .u16 rfl rfl n h0 (by omega)
theorem u32_of (n : Int) (h0 : 0 ≤ n) (h : n < 4294967296) : IntKind.u32.wrap n = n := wrap_of (w := 32) .u32 rfl rfl n h0 (by omega)
theorem u64_of (n : Int) (h0 : 0 ≤ n) (h : n < 18446744073709551616) : IntKind.u64.wrap n = n := wrap_of (w := 64) .u64 rfl rfl n h0 (by omega)

section
variable {w : Nat} (X Y : BitVec w)
theorem ofInt_add : BitVec.ofInt w ((X.toNat : Int) + (Y.toNat : Int)) = X + Y := by rw [BitVec.ofInt_add, ofInt_toNat, ofInt_toNat]
theorem ofInt_sub : BitVec.ofInt w ((X.toNat : Int) - (Y.toNat : Int)) = X - Y := by
  rw [Int.sub_eq_add_neg, BitVec.ofInt_add, BitVec.ofInt_neg, ofInt_toNat, ofInt_toNat, BitVec.sub_eq_add_neg]
theorem ofInt_mul : BitVec.ofInt w ((X.toNat : Int) * (Y.toNat : Int)) = X * Y := by rw [BitVec.ofInt_mul, ofInt_toNat, ofInt_toNat]
end
theorem add_u8 (X Y : BitVec 8) : IntKind.u8.wrap ((X.toNat : Int) + (Y.toNat : Int)) = ((X + Y).toNat : Int) := by rw [wrap_u8, ofInt_add]
theorem add_u32 (X Y : BitVec 32) : IntKind.u32.wrap ((X.toNat : Int) + (Y.toNat : Int)) = ((X + Y).toNat : Int) := by rw [wrap_u32, ofInt_add]
theorem sub_u32 (X Y : BitVec 32) : IntKind.u32.wrap ((X.toNat : Int) - (Y.toNat : Int)) = ((X - Y).toNat : Int) := by rw [wrap_u32, ofInt_sub]
theorem mul_u32 (X Y : BitVec 32) : IntKind.u32.wrap ((X.toNat : Int) * (Y.toNat : Int)) = ((X * Y).toNat : Int) := by rw [wrap_u32, ofInt_mul]
theorem add_u64 (X Y : BitVec 64) : IntKind.u64.wrap ((X.toNat : Int) + (Y.toNat : Int)) = ((X + Y).toNat : Int) := by rw [wrap_u64, ofInt_add]
theorem sub_u64 (X Y : BitVec 64) : IntKind.u64.wrap ((X.toNat : Int) - (Y.toNat : Int)) = ((X - Y).toNat : Int) := by rw [wrap_u64, ofInt_sub]
theorem mul_u64 (X Y : BitVec 64) : IntKind.u64.wrap ((X.toNat : Int) * (Y.toNat : Int)) = ((X * Y).toNat : Int) := by rw [wrap_u64, ofInt_mul]

theorem bits_u {w : Nat} (k : IntKind) (hk : k.signed = false) (hw : k.bits = w) (X Y : BitVec w) :
    bits .and k X.toNat Y.toNat = ((X &&& Y).toNat : Int) ∧ bits .or k X.toNat Y.toNat = ((X ||| Y).toNat : Int) ∧ bits .xor k X.toNat Y.toNat = ((X ^^^ Y).toNat : Int) := by
  subst hw
  simp only [bits]
  rw [wrap_u k hk rfl, wrap_u k hk rfl, wrap_u k hk rfl]
  simp only [ofInt_toNat]
  exact ⟨trivial, trivial, trivial⟩
theorem and_u8 (X Y : BitVec 8) : bits .and .u8 X.toNat Y.toNat = ((X &&& Y).toNat : Int) := (bits_u .u8 rfl rfl X Y).1
theorem or_u8 (X Y : BitVec 8) : bits .or .u8 X.toNat Y.toNat = ((X ||| Y).toNat : Int) := (bits_u .u8 rfl rfl X Y).2.1
theorem xor_u8 (X Y : BitVec 8) : bits .xor .u8 X.toNat Y.toNat = ((X ^^^ Y).toNat : Int) := (bits_u .u8 rfl rfl X Y).2.2
theorem and_u32 (X Y : BitVec 32) : bits .and .u32 X.toNat Y.toNat = ((X &&& Y).toNat : Int) := (bits_u .u32 rfl rfl X Y).1
theorem or_u32 (X Y : BitVec 32) : bits .or .u32 X.toNat Y.toNat = ((X ||| Y).toNat : Int) := (bits_u .u32 rfl rfl X Y).2.1
theorem xor_u32 (X Y : BitVec 32) : bits .xor .u32 X.toNat Y.toNat = ((X ^^^ Y).toNat : Int) := (bits_u .u32 rfl rfl X Y).2.2
theorem and_u64 (X Y : BitVec 64) : bits .and .u64 X.toNat Y.toNat = ((X &&& Y).toNat : Int) := (bits_u .u64 rfl rfl X Y).1
theorem or_u64 (X Y : BitVec 64) : bits .or .u64 X.toNat Y.toNat = ((X ||| Y).toNat : Int) := (bits_u .u64 rfl rfl X Y).2.1
theorem xor_u64 (X Y : BitVec 64) : bits .xor .u64 X.toNat Y.toNat = ((X ^^^ Y).toNat : Int) := (bits_u .u64 rfl rfl X Y).2.2
theorem and_i64 (X Y : BitVec 64) : bits .and .i64 X.toInt Y.toInt = (X &&& Y).toInt := by
  simp only [bits]
  rw [wrap_i64]
  simp only [IntKind.bits, ofInt_toInt, ofInt_toNat]
  rfl
/-- A mask of the lowest bits, of an int. -/
theorem mask_i64 (b : Int) (j : Nat) (hj : j < 63) : bits .and .i64 b (2 ^ j - 1) = b % 2 ^ j := by
  have hb : bits .and .i64 b (2 ^ j - 1) = (BitVec.ofInt 64 b &&& BitVec.ofInt 64 (2 ^ j - 1)).toInt := by
    simp only [bits]
    rw [wrap_i64]
    simp only [IntKind.bits, ofInt_toNat]
    rfl
  have hp : ((2 : Int) ^ j - 1) = ((2 ^ j - 1 : Nat) : Int) := by
    have : 1 ≤ 2 ^ j := Nat.pow_pos (by decide)
    rw [Int.natCast_sub this]; simp
  have h63 : 2 ^ j ≤ 2 ^ 62 := Nat.pow_le_pow_right (by decide) (by omega)
  have hpos : 0 < 2 ^ j := Nat.pow_pos (by decide)
  rw [hb, BitVec.toInt_eq_toNat_cond, BitVec.toNat_and, hp, BitVec.ofInt_natCast, BitVec.toNat_ofNat, Nat.mod_eq_of_lt (show 2 ^ j - 1 < 2 ^ 64 by omega), Nat.and_two_pow_sub_one_eq_mod, BitVec.toNat_ofInt]
  have hlt := Nat.mod_lt ((b % ((2 ^ 64 : Nat) : Int)).toNat) hpos
  rw [if_pos (by omega)]
  have h1 : (((b % ((2 ^ 64 : Nat) : Int)).toNat : Nat) : Int) = b % ((2 ^ 64 : Nat) : Int) := Int.toNat_of_nonneg (Int.emod_nonneg _ (by decide))
  rw [Int.natCast_emod, h1]
  have h2 : ((2 ^ j : Nat) : Int) = (2 : Int) ^ j := by simp
  rw [h2]
  refine Int.emod_emod_of_dvd b ?_
  have : ((2 ^ 64 : Nat) : Int) = (2 : Int) ^ j * 2 ^ (64 - j) := by
    rw [← Int.pow_add, show j + (64 - j) = 64 from by omega]; rfl
  exact ⟨_, this⟩

theorem ofInt_mul_pow {w : Nat} (X : BitVec w) (n : Nat) (x : Int) (hx : BitVec.ofInt w x = X) : BitVec.ofInt w (x * 2 ^ min n w) = X <<< n := by
  rw [BitVec.ofInt_mul, hx]
  apply BitVec.eq_of_toNat_eq
  rw [BitVec.toNat_mul, BitVec.toNat_shiftLeft, Nat.shiftLeft_eq]
  have h2 : (BitVec.ofInt w ((2 : Int) ^ min n w)).toNat = 2 ^ min n w % 2 ^ w := by
    rw [BitVec.toNat_ofInt]
    have : ((2 : Int) ^ min n w) = ((2 ^ min n w : Nat) : Int) := by simp
    rw [this]
    omega
  rw [h2]
  rcases Nat.lt_or_ge n w with h | h
  · rw [Nat.min_eq_left (by omega), Nat.mul_mod_mod]
  · rw [Nat.min_eq_right h, Nat.mod_self, Nat.mul_zero, Nat.zero_mod]
    obtain ⟨d, rfl⟩ : ∃ d, n = w + d := ⟨n - w, by omega⟩
    rw [Nat.pow_add, Nat.mul_comm (2 ^ w), ← Nat.mul_assoc, Nat.mul_mod_left]

theorem shl_u {w : Nat} (k : IntKind) (hk : k.signed = false) (hw : k.bits = w) (X : BitVec w) (n : Nat) : k.wrap ((X.toNat : Int) * 2 ^ min n k.bits) = ((X <<< n).toNat : Int) := by
  subst hw
  rw [wrap_u k hk rfl, ofInt_mul_pow X n _ (ofInt_toNat X)]
theorem shl_u8 (X : BitVec 8) (n : Nat) : IntKind.u8.wrap ((X.toNat : Int) * 2 ^ min n (IntKind.bits .u8)) = ((X <<< n).toNat : Int) := shl_u .u8 rfl rfl X n
theorem shl_u32 (X : BitVec 32) (n : Nat) : IntKind.u32.wrap ((X.toNat : Int) * 2 ^ min n (IntKind.bits .u32)) = ((X <<< n).toNat : Int) := shl_u .u32 rfl rfl X n
theorem shl_u64 (X : BitVec 64) (n : Nat) : IntKind.u64.wrap ((X.toNat : Int) * 2 ^ min n (IntKind.bits .u64)) = ((X <<< n).toNat : Int) := shl_u .u64 rfl rfl X n

theorem shr_nat {w : Nat} (X : BitVec w) (n : Nat) : (X.toNat : Int) / 2 ^ min n w = ((X >>> n).toNat : Int) := by
  rw [BitVec.toNat_ushiftRight, Nat.shiftRight_eq_div_pow]
  have : ((2 : Int) ^ min n w) = ((2 ^ min n w : Nat) : Int) := by simp
  rw [this, ← Int.natCast_ediv]
  rcases Nat.lt_or_ge n w with h | h
  · rw [Nat.min_eq_left (by omega)]
  · rw [Nat.min_eq_right h, Nat.div_eq_of_lt X.isLt]
    rw [Nat.div_eq_of_lt (Nat.lt_of_lt_of_le X.isLt (Nat.pow_le_pow_right (by decide) h))]
theorem shr_u {w : Nat} (k : IntKind) (hw : k.bits = w) (X : BitVec w) (n : Nat) : (X.toNat : Int).fdiv (2 ^ min n k.bits) = ((X >>> n).toNat : Int) := by
  subst hw
  have hp : (0 : Int) ≤ 2 ^ min n k.bits := Int.pow_nonneg (by decide)
  rw [Int.fdiv_eq_ediv_of_nonneg _ hp]
  exact shr_nat X n
theorem shr_u8 (X : BitVec 8) (n : Nat) : (X.toNat : Int).fdiv (2 ^ min n (IntKind.bits .u8)) = ((X >>> n).toNat : Int) := shr_u .u8 rfl X n
theorem shr_u32 (X : BitVec 32) (n : Nat) : (X.toNat : Int).fdiv (2 ^ min n (IntKind.bits .u32)) = ((X >>> n).toNat : Int) := shr_u .u32 rfl X n
theorem shr_u64 (X : BitVec 64) (n : Nat) : (X.toNat : Int).fdiv (2 ^ min n (IntKind.bits .u64)) = ((X >>> n).toNat : Int) := shr_u .u64 rfl X n

/-! conversions -/
theorem u8_u {w : Nat} (X : BitVec w) : IntKind.u8.wrap (X.toNat : Int) = ((X.setWidth 8).toNat : Int) := by rw [wrap_u8, BitVec.ofInt_natCast, BitVec.toNat_ofNat, BitVec.toNat_setWidth]
theorem u16_u {w : Nat} (X : BitVec w) : IntKind.u16.wrap (X.toNat : Int) = ((X.setWidth 16).toNat : Int) := by rw [wrap_u16, BitVec.ofInt_natCast, BitVec.toNat_ofNat, BitVec.toNat_setWidth]
theorem u32_u {w : Nat} (X : BitVec w) : IntKind.u32.wrap (X.toNat : Int) = ((X.setWidth 32).toNat : Int) := by rw [wrap_u32, BitVec.ofInt_natCast, BitVec.toNat_ofNat, BitVec.toNat_setWidth]
theorem u64_u {w : Nat} (X : BitVec w) : IntKind.u64.wrap (X.toNat : Int) = ((X.setWidth 64).toNat : Int) := by rw [wrap_u64, BitVec.ofInt_natCast, BitVec.toNat_ofNat, BitVec.toNat_setWidth]
theorem i64_u8 (X : BitVec 8) : IntKind.i64.wrap (X.toNat : Int) = (X.toNat : Int) := wi _ (by omega) (by have := X.isLt; omega)
theorem i64_u16 (X : BitVec 16) : IntKind.i64.wrap (X.toNat : Int) = (X.toNat : Int) := wi _ (by omega) (by have := X.isLt; omega)
theorem i64_u32 (X : BitVec 32) : IntKind.i64.wrap (X.toNat : Int) = (X.toNat : Int) := wi _ (by omega) (by have := X.isLt; omega)
theorem i64_u64 (X : BitVec 64) : IntKind.i64.wrap (X.toNat : Int) = X.toInt := by rw [wrap_i64, ofInt_toNat]
theorem u64_i64 (X : BitVec 64) : IntKind.u64.wrap X.toInt = (X.toNat : Int) := by rw [wrap_u64, ofInt_toInt]

theorem eq_iff {w : Nat} (X Y : BitVec w) : ((X.toNat : Int) == (Y.toNat : Int)) = (X == Y) := by
  rw [Bool.eq_iff_iff]
  simp only [beq_iff_eq]
  exact ⟨fun h => BitVec.eq_of_toNat_eq (by omega), fun h => by rw [h]⟩
theorem ne_iff {w : Nat} (X Y : BitVec w) : ((X.toNat : Int) != (Y.toNat : Int)) = (X != Y) := by
  simp only [bne, eq_iff]
end Go.Proofs.YtehekgigmbnlfaaDoor.Bw
