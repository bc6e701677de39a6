/- Numbers in bytes, the lowest first: plain laws. -/
import Derived.Test.YtehekgigmbnlfaaDoorBy
set_option linter.unusedVariables false
set_option linter.unusedSimpArgs false
namespace Go.Proofs.YtehekgigmbnlfaaDoor.Num
open Go.Proofs.YtehekgigmbnlfaaDoor.By

/-- The i-th byte of a number. -/
def nbyte (n : BitVec 64) (i : Nat) : Byte := (n >>> (8 * i)).setWidth 8
/-- So many bytes of a number. -/
def leB (n : BitVec 64) (k : Nat) : List Byte := (List.range k).map (nbyte n)
theorem leB_len (n : BitVec 64) (k : Nat) : (leB n k).length = k := by simp [leB]
theorem leB_zero (n : BitVec 64) : leB n 0 = [] := rfl
theorem leB_succ (n : BitVec 64) (k : Nat) : leB n (k + 1) = leB n k ++ [nbyte n k] := by simp [leB, List.range_succ]
/-- The number of bytes. -/
def leV : List Byte → Nat
  | [] => 0
  | b :: l => b.toNat + 256 * leV l
theorem leV_lt : ∀ l : List Byte, leV l < 256 ^ l.length
  | [] => by simp [leV]
  | b :: l => by
    have := leV_lt l
    have := b.isLt
    simp only [leV, List.length_cons, Nat.pow_succ]
    omega
theorem leV_append : ∀ (a b : List Byte), leV (a ++ b) = leV a + 256 ^ a.length * leV b
  | [], b => by simp [leV]
  | x :: a, b => by
    simp only [List.cons_append, leV, leV_append a b, List.length_cons, Nat.pow_succ]
    rw [Nat.mul_add, Nat.mul_comm (256 ^ a.length) 256, Nat.mul_assoc]; omega
/-- As the program reckons it. -/
def gotB (l : List Byte) : Nat → BitVec 64
  | 0 => 0
  | i + 1 => gotB l i ||| ((l.getD i 0).setWidth 64 <<< (8 * i))
theorem take_succ' (l : List Byte) (i : Nat) (h : i < l.length) : l.take (i + 1) = l.take i ++ [l.getD i 0] := by
  rw [List.take_add_one, List.getD_eq_getElem?_getD, List.getElem?_eq_getElem h]; rfl
theorem gotB_val (l : List Byte) (hl : l.length ≤ 8) : ∀ i, i ≤ l.length → (gotB l i).toNat = leV (l.take i)
  | 0, _ => by simp [gotB, leV]
  | i + 1, h => by
    have ih := gotB_val l hl i (by omega)
    have hlt := leV_lt (l.take i)
    rw [List.length_take, Nat.min_eq_left (by omega)] at hlt
    rw [take_succ' l i (by omega), leV_append, List.length_take, Nat.min_eq_left (by omega), gotB]
    have hb := (l.getD i 0).isLt
    generalize l.getD i 0 = b at *
    have h256 : (256 : Nat) ^ i = 2 ^ (8 * i) := by rw [Nat.pow_mul]
    rw [h256] at hlt ⊢
    have hp : 2 ^ (8 * i) * 2 ^ 8 ≤ 2 ^ 64 := by rw [← Nat.pow_add]; exact Nat.pow_le_pow_right (by decide) (by omega)
    have hlt2 : b.toNat * 2 ^ (8 * i) < 2 ^ 64 := Nat.lt_of_lt_of_le (by rw [Nat.mul_comm]; exact Nat.mul_lt_mul_of_pos_left hb (Nat.two_pow_pos _)) hp
    have e : ((b.setWidth 64 : BitVec 64) <<< (8 * i)).toNat = b.toNat * 2 ^ (8 * i) := by
      rw [BitVec.toNat_shiftLeft, BitVec.toNat_setWidth, Nat.shiftLeft_eq, Nat.mod_eq_of_lt (Nat.lt_trans hb (by decide)), Nat.mod_eq_of_lt hlt2]
    rw [BitVec.toNat_or, ih, e, Nat.or_comm, ← Nat.shiftLeft_eq, ← Nat.shiftLeft_add_eq_or_of_lt hlt, Nat.shiftLeft_eq]
    simp only [leV, Nat.mul_zero, Nat.add_zero]
    rw [Nat.mul_comm b.toNat, Nat.add_comm]
theorem gotB_eq (l : List Byte) (hl : l.length ≤ 8) : gotB l l.length = BitVec.ofNat 64 (leV l) := by
  apply BitVec.eq_of_toNat_eq
  have := gotB_val l hl l.length (Nat.le_refl _)
  rw [List.take_length] at this
  rw [this, BitVec.toNat_ofNat, Nat.mod_eq_of_lt]
  rw [← this]; exact BitVec.isLt _
/-- As the reference reckons it: from the end. -/
def valB : List Byte → BitVec 64
  | [] => 0
  | b :: l => 256 * valB l + b.setWidth 64
theorem valB_eq : ∀ l : List Byte, valB l = BitVec.ofNat 64 (leV l)
  | [] => rfl
  | b :: l => by
    rw [valB, valB_eq l]
    apply BitVec.eq_of_toNat_eq
    have := b.isLt
    have h256 : ((256 : BitVec 64)).toNat = 256 := rfl
    simp only [BitVec.toNat_add, BitVec.toNat_mul, h256, BitVec.toNat_setWidth, BitVec.toNat_ofNat, leV]
    rw [Nat.mod_eq_of_lt (a := b.toNat) (by omega), Nat.add_comm b.toNat]
    omega
theorem got_val (l : List Byte) (hl : l.length ≤ 8) : gotB l l.length = valB l := by rw [gotB_eq l hl, valB_eq]
/-- Bytes, one behind the other, as the reference takes them off. -/
theorem div256 (n : BitVec 64) (i : Nat) : n >>> (8 * (i + 1)) = (n >>> (8 * i)) / 256 := by
  apply BitVec.eq_of_toNat_eq
  have h256 : ((256 : BitVec 64)).toNat = 256 := rfl
  rw [BitVec.toNat_udiv, h256, BitVec.toNat_ushiftRight, BitVec.toNat_ushiftRight, Nat.shiftRight_eq_div_pow, Nat.shiftRight_eq_div_pow, Nat.div_div_eq_div_mul, show 8 * (i + 1) = 8 * i + 8 from by omega, Nat.pow_add]
theorem mod256 (n : BitVec 64) : (n % 256).setWidth 8 = n.setWidth 8 := by
  apply BitVec.eq_of_toNat_eq
  have h256 : ((256 : BitVec 64)).toNat = 256 := rfl
  rw [BitVec.toNat_setWidth, BitVec.toNat_setWidth, BitVec.toNat_umod, h256]; omega
/-- Bytes of a number are read back. -/
theorem leV_leB (n : BitVec 64) : ∀ k, k ≤ 8 → leV (leB n k) = n.toNat % 256 ^ k
  | 0, _ => by simp [leB, leV, Nat.mod_one]
  | k + 1, h => by
    rw [leB_succ, leV_append, leB_len, leV_leB n k (by omega)]
    have e : (nbyte n k).toNat = n.toNat / 256 ^ k % 256 := by
      unfold nbyte
      rw [BitVec.toNat_setWidth, BitVec.toNat_ushiftRight, Nat.shiftRight_eq_div_pow, Nat.pow_mul]
    simp only [leV, e, Nat.mul_zero, Nat.add_zero]
    rw [Nat.pow_succ, Nat.mod_mul]
theorem leV_inj : ∀ {a b : List Byte}, a.length = b.length → leV a = leV b → a = b
  | [], [], _, _ => rfl
  | x :: a, y :: b, hl, h => by
    simp only [leV] at h
    have hx := x.isLt
    have hy := y.isLt
    have h1 : x = y := BitVec.eq_of_toNat_eq (by omega)
    have h2 : a = b := leV_inj (by simpa using hl) (by omega)
    rw [h1, h2]
end Go.Proofs.YtehekgigmbnlfaaDoor.Num
