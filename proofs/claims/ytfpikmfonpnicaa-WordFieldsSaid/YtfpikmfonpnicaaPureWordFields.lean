import Derived.Test.YtfpikmfonpnicaaPWordFieldsx3
import Derived.Test.YtfpikmfonpnicaaBv
namespace Go.Proofs.Ytfpikmfonpnicaa.Pure
open Go.RowKit Go.Proofs.Ytfpikmfonpnicaa.PWordFields Go.Proofs.YtfpikmfonpnicaaW.PrintWords Go.Proofs.YtfpikmfonpnicaaW.PrintLast Go.Proofs.Ytfpikmfonpnicaa.Bv
set_option linter.unusedVariables false
set_option linter.unusedSimpArgs false
/-! ### bits: signetref01.bit, Turn, Shift, Lean -/
theorem u64_of (n : Int) (h0 : 0 ≤ n) (h : n < 18446744073709551616) : IntKind.u64.wrap n = n := by
  rw [wrap_u64, BitVec.toNat_ofInt]
  omega

theorem mod2_bit (q : Nat) : (q : Int) % 2 = (((decide (q % 2 = 1)).toNat : Nat) : Int) := by
  by_cases h : q % 2 = 1
  · rw [decide_eq_true h]; simp; omega
  · rw [decide_eq_false h]; simp; omega

theorem bit_nat (X : BitVec 64) (i : Nat) (h : i < 64) : signetref01_bit.f (X.toNat : Int) (i : Int) = some (((X.getLsbD i).toNat : Nat) : Int) := by
  unfold signetref01_bit.f
  rw [if_neg (by omega), if_neg (by omega)]
  rw [u64_of (i : Int) (by omega) (by omega), if_pos (by omega), shr_u64, Int.toNat_natCast]
  congr 1
  rw [Int.tmod_eq_emod_of_nonneg (by omega), BitVec.toNat_ushiftRight, Nat.shiftRight_eq_div_pow, BitVec.getLsbD, Nat.testBit_eq_decide_div_mod_eq]
  exact mod2_bit _

theorem bit_out (X : BitVec 64) (i : Int) (h : i < 0 ∨ 63 < i) : signetref01_bit.f (X.toNat : Int) i = some 0 := by
  unfold signetref01_bit.f
  rcases h with h | h
  · rw [if_pos h]
  · rw [if_neg (by omega), if_pos (by omega)]

/-- The bit at an integer place. -/
def atI (X : BitVec 64) (i : Int) : Bool := decide (0 ≤ i) && X.getLsbD i.toNat

theorem bit_eq (X : BitVec 64) (i : Int) : signetref01_bit.f (X.toNat : Int) i = some (((atI X i).toNat : Nat) : Int) := by
  by_cases h : 0 ≤ i ∧ i ≤ 63
  · obtain ⟨n, rfl⟩ := Int.eq_ofNat_of_zero_le h.1
    have hn : n < 64 := by omega
    rw [bit_nat X n hn]
    simp [atI]
  · rw [bit_out X i (by omega)]
    have : atI X i = false := by
      unfold atI
      by_cases h0 : 0 ≤ i
      · simp only [h0, decide_true, Bool.true_and]
        exact BitVec.getLsbD_of_ge _ _ (by omega)
      · simp [h0]
    simp [this]

theorem one_shl (i : Nat) : shl .u64 1 (i : Int) = (((1#64) <<< i).toNat : Int) := by
  have := shl_u64 (1#64) (i : Int)
  simpa using this

theorem lsb_one_shl (w i j : Nat) (hj : j < w) : ((1#w) <<< i).getLsbD j = decide (j = i) := by
  rw [BitVec.getLsbD_shiftLeft]
  simp only [BitVec.getLsbD_one]
  by_cases h : j < i
  · simp [h]; omega
  · by_cases e : j = i
    · subst e; simp; omega
    · simp [e]; omega

theorem one_shl32 (i : Nat) : shl .u32 1 (i : Int) = (((1#32) <<< i).toNat : Int) := by
  have := shl_u32 (1#32) (i : Int)
  simpa using this

theorem wrap64_of (n : Int) (h0 : -9223372036854775808 ≤ n) (h : n < 9223372036854775808) : wrap64 n = n := by
  unfold wrap64
  omega
theorem awake_true : signetlaw01_awake.f = some true := by decide +kernel

/-! ### Shift, Lean -/
theorem ref_shift_loop (X : BitVec 64) (b : Int) (hb : -64 < b ∧ b < 64) (d : Nat) : ∀ (k i : Nat) (O : BitVec 64), i + d = 64 → d < k →
    (∀ j, j < 64 → O.getLsbD j = (decide (j < i) && atI X ((j : Int) - b))) →
    ∃ R : BitVec 64, signetref01_Shift.l0 k (X.toNat : Int) b (O.toNat : Int) (i : Int) = some (R.toNat : Int) ∧ ∀ j, j < 64 → R.getLsbD j = atI X ((j : Int) - b) := by
  induction d with
  | zero =>
    intro k i O hi hk hO
    obtain ⟨k, rfl⟩ : ∃ m, k = m + 1 := ⟨k - 1, by omega⟩
    refine ⟨O, by simp only [signetref01_Shift.l0]; rw [if_neg (by omega)], fun j hj => ?_⟩
    rw [hO j hj, decide_eq_true (by omega), Bool.true_and]
  | succ d ih =>
    intro k i O hi hk hO
    obtain ⟨k, rfl⟩ : ∃ m, k = m + 1 := ⟨k - 1, by omega⟩
    have hs : wrap64 ((i : Int) + 1) = ((i + 1 : Nat) : Int) := by rw [wrap64_of _ (by omega) (by omega)]; omega
    simp only [signetref01_Shift.l0]
    rw [if_pos (show (i : Int) < 64 by omega), wrap64_of ((i : Int) - b) (by omega) (by omega), bit_eq, Option.bind_some]
    by_cases ht : atI X ((i : Int) - b) = true
    · rw [ht, if_pos (by simp), u64_of _ (by omega) (by omega), if_pos (by omega), one_shl, or_u64, hs]
      refine ih k (i + 1) _ (by omega) (by omega) (fun j hj => ?_)
      rw [BitVec.getLsbD_or, hO j hj, lsb_one_shl 64 _ j hj]
      by_cases e : j = i
      · subst e; simp [ht]
      · rw [decide_eq_false e, Bool.or_false]
        by_cases l : j < i
        · rw [decide_eq_true l, decide_eq_true (by omega)]
        · rw [decide_eq_false l, decide_eq_false (by omega)]
    · have ht' : atI X ((i : Int) - b) = false := by simpa using ht
      rw [ht', if_neg (by simp), hs]
      refine ih k (i + 1) _ (by omega) (by omega) (fun j hj => ?_)
      rw [hO j hj]
      by_cases e : j = i
      · subst e; simp [ht']
      · by_cases l : j < i
        · rw [decide_eq_true l, decide_eq_true (by omega)]
        · rw [decide_eq_false l, decide_eq_false (by omega)]

/-- What Shift comes to. -/
def shiftV (X : BitVec 64) (b : Int) : BitVec 64 := if b ≥ 64 then 0 else if b ≤ -64 then 0 else if b < 0 then X >>> (-b).toNat else X <<< b.toNat

theorem shiftV_bit (X : BitVec 64) (b : Int) (hb : -64 < b ∧ b < 64) (j : Nat) (hj : j < 64) : (shiftV X b).getLsbD j = atI X ((j : Int) - b) := by
  unfold shiftV atI
  rw [if_neg (by omega), if_neg (by omega)]
  by_cases h : b < 0
  · rw [if_pos h, BitVec.getLsbD_ushiftRight, decide_eq_true (by omega), Bool.true_and]
    congr 1; omega
  · rw [if_neg h, BitVec.getLsbD_shiftLeft]
    by_cases l : j < b.toNat
    · rw [decide_eq_false (show ¬ (0 ≤ (j : Int) - b) by omega)]; simp [l]
    · rw [decide_eq_true (show 0 ≤ (j : Int) - b by omega), Bool.true_and, show ((j : Int) - b).toNat = j - b.toNat from by omega]
      simp [l, hj]

theorem ref_shift (X : BitVec 64) (b : Int) (k : Nat) (hk : 70 < k) : signetref01_Shift.f k (X.toNat : Int) b = some ((shiftV X b).toNat : Int) := by
  obtain ⟨k, rfl⟩ : ∃ m, k = m + 1 := ⟨k - 1, by omega⟩
  unfold signetref01_Shift.f
  by_cases h1 : b ≤ -64
  · rw [if_pos h1]
    simp only [signetref01_Shift.j0]
    rw [if_pos trivial]
    unfold shiftV
    rw [if_neg (by omega), if_pos h1]; rfl
  · rw [if_neg h1]
    simp only [signetref01_Shift.j0]
    by_cases h2 : b ≥ 64
    · rw [if_pos (by simp; omega)]
      unfold shiftV
      rw [if_pos h2]; rfl
    · rw [if_neg (by simp; omega)]
      obtain ⟨R, hR, hb⟩ := ref_shift_loop X b (by omega) 64 k 0 0#64 (by omega) (by omega) (fun j hj => by simp)
      have : R = shiftV X b := BitVec.eq_of_getLsbD_eq (fun j hj => by rw [hb j hj, shiftV_bit X b (by omega) j hj])
      subst this
      exact hR

theorem word_shift (X : BitVec 64) (b : Int) (hb : -9223372036854775808 ≤ b ∧ b < 9223372036854775808) (k : Nat) (hk : 70 < k) : word_Shift.f k (X.toNat : Int) b = some ((shiftV X b).toNat : Int) := by
  obtain ⟨k, rfl⟩ : ∃ m, k = m + 1 := ⟨k - 1, by omega⟩
  unfold word_Shift.f shiftV
  by_cases h1 : b ≥ 64
  · rw [if_pos h1, if_pos h1]
    simp only [word_Shift.j0]
    rw [if_pos trivial]; rfl
  · rw [if_neg h1, if_neg h1]
    simp only [word_Shift.j0]
    by_cases h2 : b ≤ -64
    · rw [if_pos h2, if_pos (by simp; omega)]; rfl
    · rw [if_neg h2, if_neg (by simp; omega)]
      by_cases h3 : b < 0
      · rw [if_pos h3, if_pos h3, wrap64_of _ (by omega) (by omega), if_pos (by omega), shr_u64]
      · rw [if_neg h3, if_neg h3, if_pos (by omega), shl_u64]

/-- The n lowest bits. -/
def lowV (X : BitVec 64) (n : Nat) : BitVec 64 := (X <<< (64 - n)) >>> (64 - n)

theorem lowV_bit (X : BitVec 64) (n : Nat) (h : n ≤ 64) (j : Nat) (hj : j < 64) : (lowV X n).getLsbD j = (decide (j < n) && X.getLsbD j) := by
  unfold lowV
  rw [BitVec.getLsbD_ushiftRight, BitVec.getLsbD_shiftLeft]
  by_cases l : j < n
  · rw [decide_eq_true l, show 64 - n + j - (64 - n) = j from by omega]
    simp; omega
  · rw [decide_eq_false l, decide_eq_false (show ¬ 64 - n + j < 64 by omega)]
    simp

theorem ref_lowest_loop (X : BitVec 64) (n : Nat) (hn : n ≤ 64) (d : Nat) : ∀ (k i : Nat) (O : BitVec 64), i + d = n → d < k →
    (∀ j, j < 64 → O.getLsbD j = (decide (j < i) && X.getLsbD j)) →
    ∃ R : BitVec 64, signetref01_lowest.l0 k (X.toNat : Int) (n : Int) (O.toNat : Int) (i : Int) = some (R.toNat : Int) ∧ ∀ j, j < 64 → R.getLsbD j = (decide (j < n) && X.getLsbD j) := by
  induction d with
  | zero =>
    intro k i O hi hk hO
    obtain ⟨k, rfl⟩ : ∃ m, k = m + 1 := ⟨k - 1, by omega⟩
    refine ⟨O, by simp only [signetref01_lowest.l0]; rw [if_neg (by omega)], fun j hj => ?_⟩
    rw [hO j hj, show i = n from by omega]
  | succ d ih =>
    intro k i O hi hk hO
    obtain ⟨k, rfl⟩ : ∃ m, k = m + 1 := ⟨k - 1, by omega⟩
    have hs : wrap64 ((i : Int) + 1) = ((i + 1 : Nat) : Int) := by rw [wrap64_of _ (by omega) (by omega)]; omega
    simp only [signetref01_lowest.l0]
    rw [if_pos (show (i : Int) < n by omega), bit_nat _ i (by omega), Option.bind_some]
    by_cases ht : X.getLsbD i = true
    · rw [ht, if_pos (by simp), u64_of _ (by omega) (by omega), if_pos (by omega), one_shl, or_u64, hs]
      refine ih k (i + 1) _ (by omega) (by omega) (fun j hj => ?_)
      rw [BitVec.getLsbD_or, hO j hj, lsb_one_shl 64 _ j hj]
      by_cases e : j = i
      · subst e; simp [ht]
      · rw [decide_eq_false e, Bool.or_false]
        by_cases l : j < i
        · rw [decide_eq_true l, decide_eq_true (by omega)]
        · rw [decide_eq_false l, decide_eq_false (by omega)]
    · have ht' : X.getLsbD i = false := by simpa using ht
      rw [ht', if_neg (by simp), hs]
      refine ih k (i + 1) _ (by omega) (by omega) (fun j hj => ?_)
      rw [hO j hj]
      by_cases e : j = i
      · subst e; simp [ht']
      · by_cases l : j < i
        · rw [decide_eq_true l, decide_eq_true (by omega)]
        · rw [decide_eq_false l, decide_eq_false (by omega)]

theorem ref_lowest (X : BitVec 64) (n : Nat) (hn : n ≤ 64) (k : Nat) (hk : 70 < k) : signetref01_lowest.f k (X.toNat : Int) (n : Int) = some ((lowV X n).toNat : Int) := by
  unfold signetref01_lowest.f
  obtain ⟨R, hR, h⟩ := ref_lowest_loop X n hn n k 0 0#64 (by omega) (by omega) (fun j hj => by simp)
  have : R = lowV X n := BitVec.eq_of_getLsbD_eq (fun j hj => by rw [h j hj, lowV_bit X n hn j hj])
  rw [← this]
  exact hR

theorem toInt_eq_iff (X Y : BitVec 64) : X.toInt = Y.toInt ↔ X = Y := ⟨BitVec.eq_of_toInt_eq, fun h => by rw [h]⟩
theorem toNat_eq_iff (X Y : BitVec 64) : ((X.toNat : Int) = Y.toNat) ↔ X = Y := ⟨fun h => BitVec.eq_of_toNat_eq (by omega), fun h => by rw [h]⟩


/-! ### Field, Lay, Over -/
theorem shiftV_neg (X : BitVec 64) (a : Nat) (h : a ≤ 63) : shiftV X (-(a : Int)) = X >>> a := by
  unfold shiftV
  rw [if_neg (by omega), if_neg (by omega)]
  by_cases h0 : a = 0
  · subst h0; simp
  · rw [if_pos (by omega), show (-(-(a : Int))).toNat = a from by omega]

theorem word_fits (a b : Int) (ha : -9223372036854775808 ≤ a ∧ a < 9223372036854775808) : word_fits.f a b = some (decide (0 ≤ a ∧ 1 ≤ b ∧ b ≤ 64 ∧ a ≤ 64 - b)) := by
  unfold word_fits.f
  by_cases h1 : a ≥ 0
  · rw [if_pos h1]
    by_cases h2 : b ≥ 1
    · rw [if_pos h2]
      by_cases h3 : b ≤ 64
      · rw [if_pos h3, wrap64_of _ (by omega) (by omega)]
        congr 1
        rw [Bool.eq_iff_iff]; simp; omega
      · rw [if_neg h3, decide_eq_false (by omega)]
    · rw [if_neg h2, decide_eq_false (by omega)]
  · rw [if_neg h1, decide_eq_false (by omega)]

/-- Does a field lie in a word? -/
def Fit (a b : Int) : Prop := 0 ≤ a ∧ 1 ≤ b ∧ b ≤ 64 ∧ a ≤ 64 - b

theorem word_field (X : BitVec 64) (a n : Nat) (h : 1 ≤ n ∧ a + n ≤ 64) : word_Field.f (X.toNat : Int) (a : Int) (n : Int) = some (((lowV (X >>> a) n).toNat : Int), 0) := by
  unfold word_Field.f
  rw [word_fits _ _ (by omega), Option.bind_some, if_pos (by simp; omega), if_pos (by omega), wrap64_of _ (by omega) (by omega), if_pos (by omega), shr_u64, shl_u64, shr_u64, show ((64 : Int) - n).toNat = 64 - n from by omega, Int.toNat_natCast]
  rfl

theorem word_field_out (x a b : Int) (ha : -9223372036854775808 ≤ a ∧ a < 9223372036854775808) (h : ¬ (0 ≤ a ∧ 1 ≤ b ∧ b ≤ 64 ∧ a ≤ 64 - b)) : word_Field.f x a b = some (0, 11) := by
  unfold word_Field.f
  rw [word_fits _ _ ha, Option.bind_some, decide_eq_false h, if_neg (by simp)]

theorem ref_field (X : BitVec 64) (a n : Nat) (h : 1 ≤ n ∧ a + n ≤ 64) (k : Nat) (hk : 90 < k) : signetref01_Field.f k (X.toNat : Int) (a : Int) (n : Int) = some (((lowV (X >>> a) n).toNat : Int), 0) := by
  obtain ⟨k, rfl⟩ : ∃ m, k = m + 1 := ⟨k - 1, by omega⟩
  unfold signetref01_Field.f
  rw [if_neg (by omega), if_neg (by omega), if_neg (by omega), wrap64_of (64 - (n : Int)) (by omega) (by omega)]
  simp only [signetref01_Field.j0]
  rw [if_neg (by simp; omega), wrap64_of (-(a : Int)) (by omega) (by omega), ref_shift _ _ k (by omega), Option.bind_some, shiftV_neg X a (by omega), ref_lowest _ n (by omega) k (by omega), Option.bind_some]

theorem ref_field_out (x a b : Int) (ha : -9223372036854775808 ≤ a ∧ a < 9223372036854775808) (h : ¬ (0 ≤ a ∧ 1 ≤ b ∧ b ≤ 64 ∧ a ≤ 64 - b)) (k : Nat) (hk : 0 < k) : signetref01_Field.f k x a b = some (0, 11) := by
  obtain ⟨k, rfl⟩ : ∃ m, k = m + 1 := ⟨k - 1, by omega⟩
  unfold signetref01_Field.f
  by_cases h1 : a < 0
  · rw [if_pos h1]; simp only [signetref01_Field.j0]; rw [if_pos trivial]
  · rw [if_neg h1]
    by_cases h2 : b < 1
    · rw [if_pos h2]; simp only [signetref01_Field.j0]; rw [if_pos trivial]
    · rw [if_neg h2]
      by_cases h3 : b > 64
      · rw [if_pos h3]; simp only [signetref01_Field.j0]; rw [if_pos trivial]
      · rw [if_neg h3, wrap64_of _ (by omega) (by omega), decide_eq_true (by omega)]
        simp only [signetref01_Field.j0]; rw [if_pos trivial]

/-- A word with another one in a field. -/
def layV (X : BitVec 64) (a n : Nat) (N : BitVec 64) : BitVec 64 := X ^^^ ((lowV (X >>> a) n ^^^ N) <<< a)

theorem layV_bit (X : BitVec 64) (a n : Nat) (N : BitVec 64) (h : 1 ≤ n ∧ a + n ≤ 64) (hN : lowV N n = N) (j : Nat) (hj : j < 64) :
    (layV X a n N).getLsbD j = if a ≤ j ∧ j < a + n then N.getLsbD (j - a) else X.getLsbD j := by
  unfold layV
  rw [BitVec.getLsbD_xor, BitVec.getLsbD_shiftLeft, decide_eq_true hj, Bool.true_and]
  by_cases h1 : j < a
  · rw [decide_eq_true h1, if_neg (by omega)]; simp
  · rw [decide_eq_false h1, Bool.not_false, Bool.true_and, BitVec.getLsbD_xor, lowV_bit _ n (by omega) (j - a) (by omega), BitVec.getLsbD_ushiftRight, show a + (j - a) = j from by omega]
    by_cases h2 : j - a < n
    · rw [decide_eq_true h2, if_pos (by omega), Bool.true_and]
      cases X.getLsbD j <;> simp
    · rw [decide_eq_false h2, if_neg (by omega), ← hN, lowV_bit _ n (by omega) (j - a) (by omega), decide_eq_false h2]
      simp

theorem low_iff (N : BitVec 64) (n : Nat) (h : 1 ≤ n ∧ n ≤ 64) : shiftV N (-(n : Int)) = 0#64 ↔ lowV N n = N := by
  by_cases e : n = 64
  · subst e
    constructor
    · intro _; unfold lowV; simp
    · intro _; unfold shiftV; rw [if_neg (by omega), if_pos (by omega)]; rfl
  · rw [shiftV_neg N n (by omega)]
    constructor
    · intro h0
      refine BitVec.eq_of_getLsbD_eq (fun j hj => ?_)
      rw [lowV_bit N n (by omega) j hj]
      by_cases l : j < n
      · simp [l]
      · have := congrArg (fun Y : BitVec 64 => Y.getLsbD (j - n)) h0
        simp only [BitVec.getLsbD_ushiftRight, BitVec.getLsbD_zero] at this
        rw [show n + (j - n) = j from by omega] at this
        simp [l, this]
    · intro h0
      refine BitVec.eq_of_getLsbD_eq (fun j hj => ?_)
      rw [BitVec.getLsbD_ushiftRight, BitVec.getLsbD_zero]
      by_cases l : n + j < 64
      · rw [← h0, lowV_bit N n (by omega) (n + j) l, decide_eq_false (by omega), Bool.false_and]
      · exact BitVec.getLsbD_of_ge _ _ (by omega)

theorem zero_iff (X : BitVec 64) : (X.toNat : Int) = 0 ↔ X = 0#64 := by
  constructor
  · intro h; exact BitVec.eq_of_toNat_eq (by simp; omega)
  · intro h; rw [h]; rfl

theorem word_lay (X N : BitVec 64) (a n : Nat) (h : 1 ≤ n ∧ a + n ≤ 64) (k : Nat) (hk : 90 < k) :
    word_Lay.f k (X.toNat : Int) (a : Int) (n : Int) (N.toNat : Int) = some (if lowV N n = N then (((layV X a n N).toNat : Int), 0) else (0, 10)) := by
  unfold word_Lay.f
  rw [word_field X a n h, Option.bind_some, if_pos rfl, wrap64_of _ (by omega) (by omega), word_shift N _ (by omega) k (by omega), Option.bind_some]
  by_cases e : lowV N n = N
  · rw [if_pos e, if_pos (by rw [zero_iff, low_iff N n (by omega)]; exact e), if_pos (by omega)]
    dsimp only
    rw [xor_u64, shl_u64, xor_u64, Int.toNat_natCast]
    rfl
  · rw [if_neg e, if_neg (by rw [zero_iff, low_iff N n (by omega)]; exact e)]

theorem word_lay_out (x a b m : Int) (ha : -9223372036854775808 ≤ a ∧ a < 9223372036854775808) (h : ¬ (0 ≤ a ∧ 1 ≤ b ∧ b ≤ 64 ∧ a ≤ 64 - b)) (k : Nat) : word_Lay.f k x a b m = some (0, 11) := by
  unfold word_Lay.f
  rw [word_field_out x a b ha h, Option.bind_some, if_neg (by decide)]

theorem ref_lay_loop (X N : BitVec 64) (a n : Nat) (h : 1 ≤ n ∧ a + n ≤ 64) (d : Nat) : ∀ (k i : Nat) (O : BitVec 64), i + d = 64 → 2 * d < k →
    (∀ j, j < 64 → O.getLsbD j = (decide (j < i) && if a ≤ j ∧ j < a + n then N.getLsbD (j - a) else X.getLsbD j)) →
    ∃ R : BitVec 64, signetref01_Lay.l0 k (X.toNat : Int) (a : Int) (n : Int) (N.toNat : Int) (O.toNat : Int) (i : Int) = some ((R.toNat : Int), 0) ∧ ∀ j, j < 64 → R.getLsbD j = if a ≤ j ∧ j < a + n then N.getLsbD (j - a) else X.getLsbD j := by
  induction d with
  | zero =>
    intro k i O hi hk hO
    obtain ⟨k, rfl⟩ : ∃ m, k = m + 1 := ⟨k - 1, by omega⟩
    refine ⟨O, by simp only [signetref01_Lay.l0]; rw [if_neg (by omega)], fun j hj => ?_⟩
    rw [hO j hj, decide_eq_true (by omega), Bool.true_and]
  | succ d ih =>
    intro k i O hi hk hO
    obtain ⟨k, rfl⟩ : ∃ m, k = m + 2 := ⟨k - 2, by omega⟩
    have hs : wrap64 ((i : Int) + 1) = ((i + 1 : Nat) : Int) := by rw [wrap64_of _ (by omega) (by omega)]; omega
    have key : ∀ b : Bool, b = (if a ≤ i ∧ i < a + n then N.getLsbD (i - a) else X.getLsbD i) →
        ∃ R : BitVec 64, (if ((b.toNat : Nat) : Int) = 1 then (if 0 ≤ (IntKind.u64.wrap (i : Int)) then (signetref01_Lay.l0 k (X.toNat : Int) (a : Int) (n : Int) (N.toNat : Int) (Go.bits .or .u64 (O.toNat : Int) (shl .u64 1 (IntKind.u64.wrap (i : Int)))) (wrap64 ((i : Int) + 1))) else none) else (signetref01_Lay.l0 k (X.toNat : Int) (a : Int) (n : Int) (N.toNat : Int) (O.toNat : Int) (wrap64 ((i : Int) + 1)))) = some ((R.toNat : Int), 0) ∧ ∀ j, j < 64 → R.getLsbD j = if a ≤ j ∧ j < a + n then N.getLsbD (j - a) else X.getLsbD j := by
      intro b hb
      by_cases ht : b = true
      · rw [ht, if_pos (by simp), u64_of _ (by omega) (by omega), if_pos (by omega), one_shl, or_u64, hs]
        refine ih k (i + 1) _ (by omega) (by omega) (fun j hj => ?_)
        rw [BitVec.getLsbD_or, hO j hj, lsb_one_shl 64 _ j hj]
        by_cases e : j = i
        · subst e; rw [← hb, ht]; simp
        · rw [decide_eq_false e, Bool.or_false]
          by_cases l : j < i
          · rw [decide_eq_true l, decide_eq_true (by omega)]
          · rw [decide_eq_false l, decide_eq_false (by omega)]
      · have ht' : b = false := by simpa using ht
        rw [ht', if_neg (by simp), hs]
        refine ih k (i + 1) _ (by omega) (by omega) (fun j hj => ?_)
        rw [hO j hj]
        by_cases e : j = i
        · subst e; rw [← hb, ht']; simp
        · by_cases l : j < i
          · rw [decide_eq_true l, decide_eq_true (by omega)]
          · rw [decide_eq_false l, decide_eq_false (by omega)]
    simp only [signetref01_Lay.l0]
    rw [if_pos (show (i : Int) < 64 by omega), bit_nat _ i (by omega), Option.bind_some, wrap64_of ((a : Int) + n) (by omega) (by omega)]
    simp only [signetref01_Lay.j1]
    by_cases g : a ≤ i
    · rw [if_pos (show (i : Int) ≥ a by omega)]
      by_cases g2 : i < a + n
      · rw [if_pos (by simp; omega), wrap64_of _ (by omega) (by omega), show (i : Int) - a = ((i - a : Nat) : Int) from by omega, bit_nat _ (i - a) (by omega), Option.bind_some]
        exact key _ (by rw [if_pos ⟨g, g2⟩])
      · rw [if_neg (by simp; omega)]
        exact key _ (by rw [if_neg (by omega)])
    · rw [if_neg (show ¬ (i : Int) ≥ a by omega), if_neg (by simp)]
      exact key _ (by rw [if_neg (by omega)])

theorem ref_lay (X N : BitVec 64) (a n : Nat) (h : 1 ≤ n ∧ a + n ≤ 64) (k : Nat) (hk : 150 < k) :
    signetref01_Lay.f k (X.toNat : Int) (a : Int) (n : Int) (N.toNat : Int) = some (if lowV N n = N then (((layV X a n N).toNat : Int), 0) else (0, 10)) := by
  unfold signetref01_Lay.f
  rw [ref_field X a n h k (by omega), Option.bind_some, if_pos rfl, ref_lowest N n (by omega) k (by omega), Option.bind_some]
  by_cases e : lowV N n = N
  · rw [if_pos e, if_pos (by rw [e])]
    obtain ⟨R, hR, hb⟩ := ref_lay_loop X N a n h 64 k 0 0#64 (by omega) (by omega) (fun j hj => by simp)
    have : R = layV X a n N := BitVec.eq_of_getLsbD_eq (fun j hj => by rw [hb j hj, layV_bit X a n N h e j hj])
    rw [← this]
    exact hR
  · rw [if_neg e, if_neg (by rw [toNat_eq_iff]; exact e)]

theorem ref_lay_out (x a b m : Int) (ha : -9223372036854775808 ≤ a ∧ a < 9223372036854775808) (h : ¬ (0 ≤ a ∧ 1 ≤ b ∧ b ≤ 64 ∧ a ≤ 64 - b)) (k : Nat) (hk : 0 < k) : signetref01_Lay.f k x a b m = some (0, 11) := by
  unfold signetref01_Lay.f
  rw [ref_field_out x a b ha h k hk, Option.bind_some, if_neg (by decide)]

theorem over_same (n s : Int) (hn : -9223372036854775808 ≤ n ∧ n < 9223372036854775808) (k : Nat) (hk : 1 < k) : ∃ p, word_Over.f k n s = some p ∧ signetref01_Over.f k n s = some p := by
  obtain ⟨k, rfl⟩ : ∃ m, k = m + 1 := ⟨k - 1, by omega⟩
  unfold word_Over.f signetref01_Over.f
  by_cases h1 : n < 0
  · rw [if_pos h1, if_pos h1]; exact ⟨_, rfl, rfl⟩
  rw [if_neg h1, if_neg h1]
  by_cases h2 : s < 0
  · rw [if_pos h2, if_pos h2]
    simp only [word_Over.j0, signetref01_Over.j0]
    rw [if_pos trivial, if_pos trivial]; exact ⟨_, rfl, rfl⟩
  rw [if_neg h2, if_neg h2]
  simp only [word_Over.j0, signetref01_Over.j0]
  by_cases h3 : s > 62
  · rw [decide_eq_true h3, if_pos rfl]; exact ⟨_, rfl, if_pos rfl⟩
  rw [decide_eq_false h3, if_neg Bool.false_ne_true, if_neg Bool.false_ne_true, u64_of s (by omega) (by omega), if_pos (show 0 ≤ s by omega), if_pos (show 0 ≤ s by omega)]
  obtain ⟨m, rfl⟩ : ∃ m : Nat, s = m := ⟨s.toNat, by omega⟩
  obtain ⟨x, rfl⟩ : ∃ x : Nat, n = x := ⟨n.toNat, by omega⟩
  have hp : (2 : Int) ^ m = ((2 ^ m : Nat) : Int) := by simp
  have hb : 2 ^ m ≤ 2 ^ 62 := Nat.pow_le_pow_right (by decide) (by omega)
  have hp0 : 0 < 2 ^ m := Nat.pow_pos (by decide)
  have hmin : min (m : Int).toNat (IntKind.bits .i64) = m := by simp [IntKind.bits]; omega
  have e1 : shl .i64 1 (m : Int) = ((2 ^ m : Nat) : Int) := by
    unfold shl
    rw [hmin, hp, Int.one_mul, wrap_i64, ← wrap64_eq, wrap64_of _ (by omega) (by omega)]
  have e2 : shr .i64 (x : Int) (m : Int) = ((x / 2 ^ m : Nat) : Int) := by
    unfold shr
    rw [hmin, hp]
    exact (Int.natCast_ediv _ _).symm
  have hle : x / 2 ^ m * 2 ^ m ≤ x := Nat.div_mul_le_self _ _
  have hdx : x / 2 ^ m ≤ x := Nat.div_le_self _ _
  have e3 : shl .i64 ((x / 2 ^ m : Nat) : Int) (m : Int) = ((x / 2 ^ m * 2 ^ m : Nat) : Int) := by
    unfold shl
    rw [hmin, hp, wrap_i64, ← wrap64_eq, ← Int.natCast_mul, wrap64_of _ (by omega) (by omega)]
  have e4 : Int.tdiv (x : Int) ((2 ^ m : Nat) : Int) = ((x / 2 ^ m : Nat) : Int) := by rw [Int.tdiv_eq_ediv_of_nonneg (by omega)]; exact (Int.natCast_ediv _ _).symm
  have e5 : Int.tmod (x : Int) ((2 ^ m : Nat) : Int) = ((x % 2 ^ m : Nat) : Int) := by rw [Int.tmod_eq_emod_of_nonneg (by omega)]; exact (Int.natCast_emod _ _).symm
  have hdm := Nat.div_add_mod x (2 ^ m)
  rw [e1, e2, e3, e4, e5]
  rw [Nat.mul_comm] at hdm
  clear e1 e2 e3 e4 e5
  generalize x / 2 ^ m = q at *
  generalize x % 2 ^ m = r at *
  generalize q * 2 ^ m = y at *
  generalize 2 ^ m = u at *
  rw [if_neg (show ¬ (u : Int) = 0 by omega), wrap64_of (q : Int) (by omega) (by omega)]
  by_cases h4 : r = 0
  · rw [if_pos (by omega), if_neg (by omega)]; exact ⟨_, rfl, rfl⟩
  · rw [if_neg (by omega), if_pos (by omega)]; exact ⟨_, rfl, rfl⟩

theorem wf_u64 {a : Int} (h : (Lit.int .u64 a).wf = true) : ∃ X : BitVec 64, a = (X.toNat : Int) := by
  simp only [Lit.wf, IntKind.min, IntKind.max, IntKind.signed, IntKind.bits, Bool.and_eq_true, decide_eq_true_eq] at h
  refine ⟨BitVec.ofInt 64 a, ?_⟩
  rw [BitVec.toNat_ofInt]
  simp at h
  omega

theorem wf_i64 {a : Int} (h : (Lit.int .i64 a).wf = true) : -9223372036854775808 ≤ a ∧ a < 9223372036854775808 := by
  simp only [Lit.wf, IntKind.min, IntKind.max, IntKind.signed, IntKind.bits, Bool.and_eq_true, decide_eq_true_eq] at h
  simp at h
  omega

theorem fields_law (X N : BitVec 64) (a b : Int) (ha : -9223372036854775808 ≤ a ∧ a < 9223372036854775808) (hb : -9223372036854775808 ≤ b ∧ b < 9223372036854775808) :
    signetlaw01_WordFields.f 200 (X.toNat : Int) a b (N.toNat : Int) = some true := by
  obtain ⟨p, h1, h2⟩ := over_same X.toInt b (by have := BitVec.toInt_lt (x := X); have := BitVec.le_toInt (x := X); simp at *; omega) 200 (by omega)
  have hf : ∃ p, word_Field.f (X.toNat : Int) a b = some p ∧ signetref01_Field.f 200 (X.toNat : Int) a b = some p := by
    by_cases h : 0 ≤ a ∧ 1 ≤ b ∧ b ≤ 64 ∧ a ≤ 64 - b
    · obtain ⟨i, rfl⟩ : ∃ i : Nat, a = i := ⟨a.toNat, by omega⟩
      obtain ⟨n, rfl⟩ : ∃ n : Nat, b = n := ⟨b.toNat, by omega⟩
      exact ⟨_, word_field X i n (by omega), ref_field X i n (by omega) 200 (by omega)⟩
    · exact ⟨_, word_field_out _ a b ha h, ref_field_out _ a b ha h 200 (by omega)⟩
  have hl : ∃ p, word_Lay.f 200 (X.toNat : Int) a b (N.toNat : Int) = some p ∧ signetref01_Lay.f 200 (X.toNat : Int) a b (N.toNat : Int) = some p := by
    by_cases h : 0 ≤ a ∧ 1 ≤ b ∧ b ≤ 64 ∧ a ≤ 64 - b
    · obtain ⟨i, rfl⟩ : ∃ i : Nat, a = i := ⟨a.toNat, by omega⟩
      obtain ⟨n, rfl⟩ : ∃ n : Nat, b = n := ⟨b.toNat, by omega⟩
      exact ⟨_, word_lay X N i n (by omega) 200 (by omega), ref_lay X N i n (by omega) 200 (by omega)⟩
    · exact ⟨_, word_lay_out _ a b _ ha h 200, ref_lay_out _ a b _ ha h 200 (by omega)⟩
  obtain ⟨q, h3, h4⟩ := hf
  obtain ⟨r, h5, h6⟩ := hl
  have hw : wrap64 (X.toNat : Int) = X.toInt := by rw [wrap64_eq, ofInt_toNat]
  unfold signetlaw01_WordFields.f
  rw [hw, h1, Option.bind_some, h2, Option.bind_some, h3, Option.bind_some, h4, Option.bind_some, h5, Option.bind_some, h6, Option.bind_some, awake_true, Option.bind_some, if_pos rfl, if_pos rfl, if_pos rfl, if_pos rfl, if_pos rfl, if_pos rfl]
  simp

end Go.Proofs.Ytfpikmfonpnicaa.Pure
