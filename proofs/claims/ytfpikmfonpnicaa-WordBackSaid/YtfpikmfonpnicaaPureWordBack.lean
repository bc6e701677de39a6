/- WordBack: what is turned is turned back, what is narrowed extends again, what is laid is taken, for every input; no condition. -/
import Derived.Test.YtfpikmfonpnicaaPWordBackx2
import Derived.Test.YtfpikmfonpnicaaBv
namespace Go.Proofs.Ytfpikmfonpnicaa.Pure
open Go.RowKit Go.Proofs.Ytfpikmfonpnicaa.PWordBack Go.Proofs.YtfpikmfonpnicaaW.PrintWords Go.Proofs.YtfpikmfonpnicaaW.PrintLast Go.Proofs.Ytfpikmfonpnicaa.Bv
set_option linter.unusedVariables false
set_option linter.unusedSimpArgs false
theorem u64_of (n : Int) (h0 : 0 ≤ n) (h : n < 18446744073709551616) : IntKind.u64.wrap n = n := by
  rw [wrap_u64, BitVec.toNat_ofInt]
  omega

/-- The bit at an integer place. -/
def atI (X : BitVec 64) (i : Int) : Bool := decide (0 ≤ i) && X.getLsbD i.toNat

theorem one_shl (i : Nat) : shl .u64 1 (i : Int) = (((1#64) <<< i).toNat : Int) := by
  have := shl_u64 (1#64) (i : Int)
  simpa using this

theorem lsb_one_shl (w i j : Nat) (hj : j < w) : ((1#w) <<< i).getLsbD j = decide (j = i) := by
  rw [BitVec.getLsbD_shiftLeft]
  simp only [BitVec.getLsbD_one]
  by_cases h : j < i
  · simp [h]; omega
  · by_cases e : j = i
    · subst e; simp; omega
    · simp [e]; omega

theorem one_shl32 (i : Nat) : shl .u32 1 (i : Int) = (((1#32) <<< i).toNat : Int) := by
  have := shl_u32 (1#32) (i : Int)
  simpa using this

theorem wrap64_of (n : Int) (h0 : -9223372036854775808 ≤ n) (h : n < 9223372036854775808) : wrap64 n = n := by
  unfold wrap64
  omega
theorem awake_true : signetlaw01_awake.f = some true := by decide +kernel

/-- by, from 0 to 31. -/
def mod32 (b : Int) : Nat := (b % 32).toNat

theorem turns_same (X : BitVec 32) (n : Nat) (hn : n < 32) (R : BitVec 32) (h : ∀ j, j < 32 → R.getLsbD j = X.getLsbD ((j + 32 - n) % 32)) : (X <<< n) ||| (X >>> (32 - n)) = R := by
  apply BitVec.eq_of_getLsbD_eq
  intro j hj
  rw [h j hj, BitVec.getLsbD_or, BitVec.getLsbD_shiftLeft, BitVec.getLsbD_ushiftRight]
  by_cases l : j < n
  · rw [show (j + 32 - n) % 32 = 32 - n + j from by omega]
    simp [l]
  · rw [show (j + 32 - n) % 32 = j - n from by omega, BitVec.getLsbD_of_ge X (32 - n + j) (by omega)]
    simp [l, hj]

theorem and31 (b : Int) : Go.bits .and .i64 b 31 = b % 32 := by
  have hb : Go.bits .and .i64 b 31 = (BitVec.ofInt 64 b &&& 31#64).toInt := by
    simp only [Go.bits]
    rw [wrap_i64]
    simp only [IntKind.bits, ofInt_toNat]
    rfl
  rw [hb, BitVec.toInt_eq_toNat_cond, BitVec.toNat_and]
  have : (31#64).toNat = 2 ^ 5 - 1 := by decide
  rw [this, Nat.and_two_pow_sub_one_eq_mod, BitVec.toNat_ofInt]
  omega

theorem and31u (n : Nat) (h : n < 32) : Go.bits .and .u64 (n : Int) 31 = n := by
  have hb := and_u64 (BitVec.ofNat 64 n) (31#64)
  have e1 : (BitVec.ofNat 64 n).toNat = n := by rw [BitVec.toNat_ofNat]; omega
  have e2 : (31#64).toNat = 2 ^ 5 - 1 := by decide
  rw [BitVec.toNat_and, e1, e2, Nat.and_two_pow_sub_one_eq_mod] at hb
  have e3 : (((2 ^ 5 - 1 : Nat)) : Int) = 31 := by decide
  rw [e3] at hb
  rw [hb]
  omega

theorem word_turn (X : BitVec 32) (b : Int) : word_Turn.f (X.toNat : Int) b = some (((X <<< mod32 b) ||| (X >>> (32 - mod32 b))).toNat : Int) := by
  have hn : mod32 b < 32 := by unfold mod32; omega
  have h2 : ((mod32 b : Nat) : Int) = b % 32 := by unfold mod32; omega
  unfold word_Turn.f bits_RotateLeft32.f
  rw [and31, ← h2, u64_of _ (by omega) (by omega), and31u _ hn, if_pos (by omega), u64_of _ (by omega) (by omega), if_pos (by omega), shl_u32, shr_u32, or_u32]
  simp only [Option.bind_some, Int.toNat_natCast]
  rw [show ((32 : Int) - (mod32 b : Nat)).toNat = 32 - mod32 b from by omega]


/-- What Shift comes to. -/
def shiftV (X : BitVec 64) (b : Int) : BitVec 64 := if b ≥ 64 then 0 else if b ≤ -64 then 0 else if b < 0 then X >>> (-b).toNat else X <<< b.toNat

theorem shiftV_bit (X : BitVec 64) (b : Int) (hb : -64 < b ∧ b < 64) (j : Nat) (hj : j < 64) : (shiftV X b).getLsbD j = atI X ((j : Int) - b) := by
  unfold shiftV atI
  rw [if_neg (by omega), if_neg (by omega)]
  by_cases h : b < 0
  · rw [if_pos h, BitVec.getLsbD_ushiftRight, decide_eq_true (by omega), Bool.true_and]
    congr 1; omega
  · rw [if_neg h, BitVec.getLsbD_shiftLeft]
    by_cases l : j < b.toNat
    · rw [decide_eq_false (show ¬ (0 ≤ (j : Int) - b) by omega)]; simp [l]
    · rw [decide_eq_true (show 0 ≤ (j : Int) - b by omega), Bool.true_and, show ((j : Int) - b).toNat = j - b.toNat from by omega]
      simp [l, hj]


theorem word_shift (X : BitVec 64) (b : Int) (hb : -9223372036854775808 ≤ b ∧ b < 9223372036854775808) (k : Nat) (hk : 70 < k) : word_Shift.f k (X.toNat : Int) b = some ((shiftV X b).toNat : Int) := by
  obtain ⟨k, rfl⟩ : ∃ m, k = m + 1 := ⟨k - 1, by omega⟩
  unfold word_Shift.f shiftV
  by_cases h1 : b ≥ 64
  · rw [if_pos h1, if_pos h1]
    simp only [word_Shift.j0]
    rw [if_pos trivial]; rfl
  · rw [if_neg h1, if_neg h1]
    simp only [word_Shift.j0]
    by_cases h2 : b ≤ -64
    · rw [if_pos h2, if_pos (by simp; omega)]; rfl
    · rw [if_neg h2, if_neg (by simp; omega)]
      by_cases h3 : b < 0
      · rw [if_pos h3, if_pos h3, wrap64_of _ (by omega) (by omega), if_pos (by omega), shr_u64]
      · rw [if_neg h3, if_neg h3, if_pos (by omega), shl_u64]

/-! ### Extend, Narrow, lowest -/
/-- What Extend comes to, for n bits from 1 to 64: the sign at place n - 1 goes on. -/
def extV (X : BitVec 64) (n : Nat) : BitVec 64 := (X <<< (64 - n)).sshiftRight (64 - n)

theorem extV_bit (X : BitVec 64) (n : Nat) (h : 1 ≤ n ∧ n ≤ 64) (j : Nat) (hj : j < 64) : (extV X n).getLsbD j = X.getLsbD (if n - 1 < j then n - 1 else j) := by
  unfold extV
  rw [BitVec.getLsbD_sshiftRight, decide_eq_false (show ¬ 64 ≤ j by omega), BitVec.msb_eq_getLsbD_last]
  simp only [BitVec.getLsbD_shiftLeft, Bool.not_false, Bool.true_and]
  by_cases l : 64 - n + j < 64
  · rw [if_pos l, if_neg (by omega), show 64 - n + j - (64 - n) = j from by omega]
    simp; omega
  · rw [if_neg l, if_pos (by omega), show 64 - 1 - (64 - n) = n - 1 from by omega]
    simp; omega

theorem word_extend (X : BitVec 64) (n : Nat) (h : 1 ≤ n ∧ n ≤ 64) : word_Extend.f (X.toNat : Int) (n : Int) = some ((extV X n).toInt, 0) := by
  unfold word_Extend.f extV
  rw [if_neg (by omega), if_neg (by omega), wrap64_of (64 - (n : Int)) (by omega) (by omega), if_pos (by omega), shl_u64, wrap64_eq, ofInt_toNat, shr_i64, show ((64 : Int) - n).toNat = 64 - n from by omega]

theorem word_extend_out (x b : Int) (h : b < 1 ∨ b > 64) : word_Extend.f x b = some (0, 11) := by
  unfold word_Extend.f
  rcases h with h | h
  · rw [if_pos h]
  · rw [if_neg (by omega), if_pos h]


/-- The n lowest bits. -/
def lowV (X : BitVec 64) (n : Nat) : BitVec 64 := (X <<< (64 - n)) >>> (64 - n)

theorem lowV_bit (X : BitVec 64) (n : Nat) (h : n ≤ 64) (j : Nat) (hj : j < 64) : (lowV X n).getLsbD j = (decide (j < n) && X.getLsbD j) := by
  unfold lowV
  rw [BitVec.getLsbD_ushiftRight, BitVec.getLsbD_shiftLeft]
  by_cases l : j < n
  · rw [decide_eq_true l, show 64 - n + j - (64 - n) = j from by omega]
    simp; omega
  · rw [decide_eq_false l, decide_eq_false (show ¬ 64 - n + j < 64 by omega)]
    simp


theorem toInt_eq_iff (X Y : BitVec 64) : X.toInt = Y.toInt ↔ X = Y := ⟨BitVec.eq_of_toInt_eq, fun h => by rw [h]⟩
theorem toNat_eq_iff (X Y : BitVec 64) : ((X.toNat : Int) = Y.toNat) ↔ X = Y := ⟨fun h => BitVec.eq_of_toNat_eq (by omega), fun h => by rw [h]⟩


theorem word_narrow (X : BitVec 64) (n : Nat) (h : 1 ≤ n ∧ n ≤ 64) : word_Narrow.f X.toInt (n : Int) = some (if extV X n = X then (((lowV X n).toNat : Int), 0) else (0, 10)) := by
  unfold word_Narrow.f
  rw [wrap_u64, ofInt_toInt, word_extend X n h, Option.bind_some, if_pos rfl]
  dsimp only
  by_cases e : extV X n = X
  · rw [if_pos (by rw [e]), if_pos e, wrap64_of _ (by omega) (by omega), if_pos (by omega), shl_u64, shr_u64, show ((64 : Int) - n).toNat = 64 - n from by omega]
    rfl
  · rw [if_neg (by rw [toInt_eq_iff]; exact e), if_neg e]

theorem word_narrow_out (x b : Int) (h : b < 1 ∨ b > 64) : word_Narrow.f x b = some (0, 11) := by
  unfold word_Narrow.f
  rw [word_extend_out _ _ h, Option.bind_some, if_neg (by decide)]


theorem shiftV_neg (X : BitVec 64) (a : Nat) (h : a ≤ 63) : shiftV X (-(a : Int)) = X >>> a := by
  unfold shiftV
  rw [if_neg (by omega), if_neg (by omega)]
  by_cases h0 : a = 0
  · subst h0; simp
  · rw [if_pos (by omega), show (-(-(a : Int))).toNat = a from by omega]

theorem word_fits (a b : Int) (ha : -9223372036854775808 ≤ a ∧ a < 9223372036854775808) : word_fits.f a b = some (decide (0 ≤ a ∧ 1 ≤ b ∧ b ≤ 64 ∧ a ≤ 64 - b)) := by
  unfold word_fits.f
  by_cases h1 : a ≥ 0
  · rw [if_pos h1]
    by_cases h2 : b ≥ 1
    · rw [if_pos h2]
      by_cases h3 : b ≤ 64
      · rw [if_pos h3, wrap64_of _ (by omega) (by omega)]
        congr 1
        rw [Bool.eq_iff_iff]; simp; omega
      · rw [if_neg h3, decide_eq_false (by omega)]
    · rw [if_neg h2, decide_eq_false (by omega)]
  · rw [if_neg h1, decide_eq_false (by omega)]

/-- Does a field lie in a word? -/
def Fit (a b : Int) : Prop := 0 ≤ a ∧ 1 ≤ b ∧ b ≤ 64 ∧ a ≤ 64 - b

theorem word_field (X : BitVec 64) (a n : Nat) (h : 1 ≤ n ∧ a + n ≤ 64) : word_Field.f (X.toNat : Int) (a : Int) (n : Int) = some (((lowV (X >>> a) n).toNat : Int), 0) := by
  unfold word_Field.f
  rw [word_fits _ _ (by omega), Option.bind_some, if_pos (by simp; omega), if_pos (by omega), wrap64_of _ (by omega) (by omega), if_pos (by omega), shr_u64, shl_u64, shr_u64, show ((64 : Int) - n).toNat = 64 - n from by omega, Int.toNat_natCast]
  rfl

theorem word_field_out (x a b : Int) (ha : -9223372036854775808 ≤ a ∧ a < 9223372036854775808) (h : ¬ (0 ≤ a ∧ 1 ≤ b ∧ b ≤ 64 ∧ a ≤ 64 - b)) : word_Field.f x a b = some (0, 11) := by
  unfold word_Field.f
  rw [word_fits _ _ ha, Option.bind_some, decide_eq_false h, if_neg (by simp)]

/-- A word with another one in a field. -/
def layV (X : BitVec 64) (a n : Nat) (N : BitVec 64) : BitVec 64 := X ^^^ ((lowV (X >>> a) n ^^^ N) <<< a)

theorem layV_bit (X : BitVec 64) (a n : Nat) (N : BitVec 64) (h : 1 ≤ n ∧ a + n ≤ 64) (hN : lowV N n = N) (j : Nat) (hj : j < 64) :
    (layV X a n N).getLsbD j = if a ≤ j ∧ j < a + n then N.getLsbD (j - a) else X.getLsbD j := by
  unfold layV
  rw [BitVec.getLsbD_xor, BitVec.getLsbD_shiftLeft, decide_eq_true hj, Bool.true_and]
  by_cases h1 : j < a
  · rw [decide_eq_true h1, if_neg (by omega)]; simp
  · rw [decide_eq_false h1, Bool.not_false, Bool.true_and, BitVec.getLsbD_xor, lowV_bit _ n (by omega) (j - a) (by omega), BitVec.getLsbD_ushiftRight, show a + (j - a) = j from by omega]
    by_cases h2 : j - a < n
    · rw [decide_eq_true h2, if_pos (by omega), Bool.true_and]
      cases X.getLsbD j <;> simp
    · rw [decide_eq_false h2, if_neg (by omega), ← hN, lowV_bit _ n (by omega) (j - a) (by omega), decide_eq_false h2]
      simp

theorem low_iff (N : BitVec 64) (n : Nat) (h : 1 ≤ n ∧ n ≤ 64) : shiftV N (-(n : Int)) = 0#64 ↔ lowV N n = N := by
  by_cases e : n = 64
  · subst e
    constructor
    · intro _; unfold lowV; simp
    · intro _; unfold shiftV; rw [if_neg (by omega), if_pos (by omega)]; rfl
  · rw [shiftV_neg N n (by omega)]
    constructor
    · intro h0
      refine BitVec.eq_of_getLsbD_eq (fun j hj => ?_)
      rw [lowV_bit N n (by omega) j hj]
      by_cases l : j < n
      · simp [l]
      · have := congrArg (fun Y : BitVec 64 => Y.getLsbD (j - n)) h0
        simp only [BitVec.getLsbD_ushiftRight, BitVec.getLsbD_zero] at this
        rw [show n + (j - n) = j from by omega] at this
        simp [l, this]
    · intro h0
      refine BitVec.eq_of_getLsbD_eq (fun j hj => ?_)
      rw [BitVec.getLsbD_ushiftRight, BitVec.getLsbD_zero]
      by_cases l : n + j < 64
      · rw [← h0, lowV_bit N n (by omega) (n + j) l, decide_eq_false (by omega), Bool.false_and]
      · exact BitVec.getLsbD_of_ge _ _ (by omega)

theorem zero_iff (X : BitVec 64) : (X.toNat : Int) = 0 ↔ X = 0#64 := by
  constructor
  · intro h; exact BitVec.eq_of_toNat_eq (by simp; omega)
  · intro h; rw [h]; rfl

theorem word_lay (X N : BitVec 64) (a n : Nat) (h : 1 ≤ n ∧ a + n ≤ 64) (k : Nat) (hk : 90 < k) :
    word_Lay.f k (X.toNat : Int) (a : Int) (n : Int) (N.toNat : Int) = some (if lowV N n = N then (((layV X a n N).toNat : Int), 0) else (0, 10)) := by
  unfold word_Lay.f
  rw [word_field X a n h, Option.bind_some, if_pos rfl, wrap64_of _ (by omega) (by omega), word_shift N _ (by omega) k (by omega), Option.bind_some]
  by_cases e : lowV N n = N
  · rw [if_pos e, if_pos (by rw [zero_iff, low_iff N n (by omega)]; exact e), if_pos (by omega)]
    dsimp only
    rw [xor_u64, shl_u64, xor_u64, Int.toNat_natCast]
    rfl
  · rw [if_neg e, if_neg (by rw [zero_iff, low_iff N n (by omega)]; exact e)]

theorem word_lay_out (x a b m : Int) (ha : -9223372036854775808 ≤ a ∧ a < 9223372036854775808) (h : ¬ (0 ≤ a ∧ 1 ≤ b ∧ b ≤ 64 ∧ a ≤ 64 - b)) (k : Nat) : word_Lay.f k x a b m = some (0, 11) := by
  unfold word_Lay.f
  rw [word_field_out x a b ha h, Option.bind_some, if_neg (by decide)]


theorem turn_back (X : BitVec 32) (b : Int) (hb : -9223372036854775808 < b ∧ b < 9223372036854775808) :
    (((X <<< mod32 b) ||| (X >>> (32 - mod32 b))) <<< mod32 (-b)) ||| (((X <<< mod32 b) ||| (X >>> (32 - mod32 b))) >>> (32 - mod32 (-b))) = X := by
  have h : (mod32 b = 0 ∧ mod32 (-b) = 0) ∨ (0 < mod32 b ∧ mod32 b < 32 ∧ mod32 (-b) = 32 - mod32 b) := by unfold mod32; omega
  rcases h with ⟨h1, h2⟩ | ⟨h1, h2, h3⟩
  · rw [h1, h2]
    have e : ∀ Y : BitVec 32, Y >>> (32 - 0) = 0#32 := fun Y => BitVec.eq_of_getLsbD_eq (fun j hj => by rw [BitVec.getLsbD_ushiftRight, BitVec.getLsbD_of_ge _ _ (by omega)]; simp)
    rw [e, e]
    simp
  · rw [h3]
    generalize mod32 b = n at *
    refine BitVec.eq_of_getLsbD_eq (fun j hj => ?_)
    simp only [BitVec.getLsbD_or, BitVec.getLsbD_shiftLeft, BitVec.getLsbD_ushiftRight]
    by_cases l : j < 32 - n
    · rw [show 32 - (32 - n) + j = n + j from by omega, show n + j - n = j from by omega, BitVec.getLsbD_of_ge X (32 - n + (n + j)) (by omega), decide_eq_true l, decide_eq_true (show n + j < 32 by omega), decide_eq_false (show ¬ n + j < n by omega)]
      simp
    · rw [show 32 - n + (j - (32 - n)) = j from by omega, BitVec.getLsbD_of_ge X (32 - n + (32 - (32 - n) + j)) (by omega), decide_eq_false l, decide_eq_true (show j - (32 - n) < n by omega), decide_eq_false (show ¬ 32 - (32 - n) + j < 32 by omega), decide_eq_true hj]
      simp

theorem ext_low (X : BitVec 64) (n : Nat) (h : 1 ≤ n ∧ n ≤ 64) : extV (lowV X n) n = extV X n := by
  refine BitVec.eq_of_getLsbD_eq (fun j hj => ?_)
  rw [extV_bit _ n h j hj, extV_bit _ n h j hj, lowV_bit _ n h.2 _ (by split <;> omega), decide_eq_true (by split <;> omega), Bool.true_and]

theorem ext_ext (X : BitVec 64) (n : Nat) (h : 1 ≤ n ∧ n ≤ 64) : extV (extV X n) n = extV X n := by
  refine BitVec.eq_of_getLsbD_eq (fun j hj => ?_)
  rw [extV_bit _ n h j hj, extV_bit _ n h _ (by split <;> omega), extV_bit _ n h j hj]
  by_cases l : n - 1 < j
  · rw [if_pos l, if_neg (by omega)]
  · rw [if_neg l, if_neg l]

theorem low_low (X : BitVec 64) (n : Nat) (h : n ≤ 64) : lowV (lowV X n) n = lowV X n := by
  refine BitVec.eq_of_getLsbD_eq (fun j hj => ?_)
  rw [lowV_bit _ n h j hj, lowV_bit _ n h j hj]
  cases decide (j < n) <;> simp

theorem field_lay (X : BitVec 64) (a n : Nat) (N : BitVec 64) (h : 1 ≤ n ∧ a + n ≤ 64) (hN : lowV N n = N) : lowV (layV X a n N >>> a) n = N := by
  refine BitVec.eq_of_getLsbD_eq (fun j hj => ?_)
  rw [lowV_bit _ n (by omega) j hj, BitVec.getLsbD_ushiftRight]
  by_cases l : j < n
  · rw [decide_eq_true l, Bool.true_and, layV_bit X a n N h hN _ (by omega), if_pos (by omega), show a + j - a = j from by omega]
  · rw [decide_eq_false l, Bool.false_and, ← hN, lowV_bit _ n (by omega) j hj, decide_eq_false l, Bool.false_and]

theorem lay_back (X : BitVec 64) (a n : Nat) (N : BitVec 64) (h : 1 ≤ n ∧ a + n ≤ 64) (hN : lowV N n = N) : layV (layV X a n N) a n (lowV (X >>> a) n) = X := by
  refine BitVec.eq_of_getLsbD_eq (fun j hj => ?_)
  rw [layV_bit _ a n _ h (low_low _ n (by omega)) j hj]
  by_cases l : a ≤ j ∧ j < a + n
  · rw [if_pos l, lowV_bit _ n (by omega) _ (by omega), decide_eq_true (by omega), Bool.true_and, BitVec.getLsbD_ushiftRight, show a + (j - a) = j from by omega]
  · rw [if_neg l, layV_bit X a n N h hN j hj, if_neg l]

theorem back_j1 (X N : BitVec 64) (a b : Int) (ha : -9223372036854775808 ≤ a ∧ a < 9223372036854775808) (hb : -9223372036854775808 ≤ b ∧ b < 9223372036854775808) (k : Nat) (hk : 100 < k) :
    signetlaw01_WordBack.j1 k (X.toNat : Int) a b (N.toNat : Int) = some true := by
  obtain ⟨k, rfl⟩ : ∃ m, k = m + 1 := ⟨k - 1, by omega⟩
  simp only [signetlaw01_WordBack.j1]
  by_cases h : 0 ≤ a ∧ 1 ≤ b ∧ b ≤ 64 ∧ a ≤ 64 - b
  · obtain ⟨i, rfl⟩ : ∃ i : Nat, a = i := ⟨a.toNat, by omega⟩
    obtain ⟨n, rfl⟩ : ∃ n : Nat, b = n := ⟨b.toNat, by omega⟩
    rw [word_lay X N i n (by omega) k (by omega), Option.bind_some]
    by_cases e : lowV N n = N
    · rw [if_pos e, if_pos rfl]
      dsimp only
      rw [word_field _ i n (by omega), Option.bind_some, word_field X i n (by omega), Option.bind_some]
      dsimp only
      rw [word_lay _ _ i n (by omega) k (by omega), Option.bind_some, if_pos (low_low _ n (by omega)), if_pos rfl, if_pos rfl, if_pos rfl, field_lay X i n N (by omega) e, if_pos rfl, lay_back X i n N (by omega) e]
      simp
    · rw [if_neg e, if_neg (by decide)]
  · rw [word_lay_out _ a b _ ha h k, Option.bind_some, if_neg (by decide)]

theorem back_j0 (X N : BitVec 64) (a b : Int) (ha : -9223372036854775808 ≤ a ∧ a < 9223372036854775808) (hb : -9223372036854775808 ≤ b ∧ b < 9223372036854775808) (k : Nat) (hk : 110 < k) :
    signetlaw01_WordBack.j0 k (X.toNat : Int) false a b (N.toNat : Int) = some true := by
  obtain ⟨k, rfl⟩ : ∃ m, k = m + 1 := ⟨k - 1, by omega⟩
  simp only [signetlaw01_WordBack.j0]
  rw [if_neg (by simp)]
  by_cases h : b < 1 ∨ b > 64
  · rw [word_extend_out _ b h, Option.bind_some, if_neg (by decide)]
    exact back_j1 X N a b ha hb k (by omega)
  · obtain ⟨n, rfl⟩ : ∃ n : Nat, b = n := ⟨b.toNat, by omega⟩
    have hn : 1 ≤ n ∧ n ≤ 64 := by omega
    rw [word_extend X n hn, Option.bind_some, if_pos rfl]
    dsimp only
    rw [word_narrow _ n hn, if_pos (ext_ext X n hn), Option.bind_some]
    dsimp only
    rw [word_extend _ n hn, Option.bind_some, if_pos rfl, if_pos rfl, ext_low _ n hn, ext_ext X n hn, if_pos rfl]
    exact back_j1 X N a n ha hb k (by omega)

theorem back_law (X N : BitVec 64) (c a b : Int) (hc : -9223372036854775808 ≤ c ∧ c < 9223372036854775808) (ha : -9223372036854775808 ≤ a ∧ a < 9223372036854775808) (hb : -9223372036854775808 ≤ b ∧ b < 9223372036854775808) :
    signetlaw01_WordBack.f 200 (X.toNat : Int) c a b (N.toNat : Int) = some true := by
  unfold signetlaw01_WordBack.f
  rw [awake_true, Option.bind_some, if_pos rfl]
  by_cases h : c = -9223372036854775808
  · rw [if_pos h]
    exact back_j0 X N a b ha hb 200 (by omega)
  · have h32 : (X.toNat : Int) % 4294967296 = ((X.setWidth 32).toNat : Int) := by
      rw [BitVec.toNat_setWidth]; omega
    rw [if_neg h, h32, word_turn, Option.bind_some, word_turn, Option.bind_some, wrap64_of (-c) (by omega) (by omega), turn_back _ c (by omega), bne_self_eq_false]
    exact back_j0 X N a b ha hb 200 (by omega)

end Go.Proofs.Ytfpikmfonpnicaa.Pure
