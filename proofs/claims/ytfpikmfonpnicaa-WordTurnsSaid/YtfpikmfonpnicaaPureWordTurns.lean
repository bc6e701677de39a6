/- WordTurns: for every word and every number the program's Turn, Shift and Lean are the document's; no condition. -/
import Derived.Test.YtfpikmfonpnicaaPWordTurnsx2
import Derived.Test.YtfpikmfonpnicaaBv
namespace Go.Proofs.Ytfpikmfonpnicaa.Pure
open Go.RowKit Go.Proofs.Ytfpikmfonpnicaa.PWordTurns Go.Proofs.YtfpikmfonpnicaaW.PrintWords Go.Proofs.YtfpikmfonpnicaaW.PrintLast Go.Proofs.Ytfpikmfonpnicaa.Bv
set_option linter.unusedVariables false
set_option linter.unusedSimpArgs false
/-! ### bits: signetref01.bit, Turn, Shift, Lean -/
theorem u64_of (n : Int) (h0 : 0 ≤ n) (h : n < 18446744073709551616) : IntKind.u64.wrap n = n := by
  rw [wrap_u64, BitVec.toNat_ofInt]
  omega

theorem mod2_bit (q : Nat) : (q : Int) % 2 = (((decide (q % 2 = 1)).toNat : Nat) : Int) := by
  by_cases h : q % 2 = 1
  · rw [decide_eq_true h]; simp; omega
  · rw [decide_eq_false h]; simp; omega

theorem bit_nat (X : BitVec 64) (i : Nat) (h : i < 64) : signetref01_bit.f (X.toNat : Int) (i : Int) = some (((X.getLsbD i).toNat : Nat) : Int) := by
  unfold signetref01_bit.f
  rw [if_neg (by omega), if_neg (by omega)]
  rw [u64_of (i : Int) (by omega) (by omega), if_pos (by omega), shr_u64, Int.toNat_natCast]
  congr 1
  rw [Int.tmod_eq_emod_of_nonneg (by omega), BitVec.toNat_ushiftRight, Nat.shiftRight_eq_div_pow, BitVec.getLsbD, Nat.testBit_eq_decide_div_mod_eq]
  exact mod2_bit _

theorem bit_out (X : BitVec 64) (i : Int) (h : i < 0 ∨ 63 < i) : signetref01_bit.f (X.toNat : Int) i = some 0 := by
  unfold signetref01_bit.f
  rcases h with h | h
  · rw [if_pos h]
  · rw [if_neg (by omega), if_pos (by omega)]

/-- The bit at an integer place. -/
def atI (X : BitVec 64) (i : Int) : Bool := decide (0 ≤ i) && X.getLsbD i.toNat

theorem bit_eq (X : BitVec 64) (i : Int) : signetref01_bit.f (X.toNat : Int) i = some (((atI X i).toNat : Nat) : Int) := by
  by_cases h : 0 ≤ i ∧ i ≤ 63
  · obtain ⟨n, rfl⟩ := Int.eq_ofNat_of_zero_le h.1
    have hn : n < 64 := by omega
    rw [bit_nat X n hn]
    simp [atI]
  · rw [bit_out X i (by omega)]
    have : atI X i = false := by
      unfold atI
      by_cases h0 : 0 ≤ i
      · simp only [h0, decide_true, Bool.true_and]
        exact BitVec.getLsbD_of_ge _ _ (by omega)
      · simp [h0]
    simp [this]

theorem one_shl (i : Nat) : shl .u64 1 (i : Int) = (((1#64) <<< i).toNat : Int) := by
  have := shl_u64 (1#64) (i : Int)
  simpa using this

theorem lsb_one_shl (w i j : Nat) (hj : j < w) : ((1#w) <<< i).getLsbD j = decide (j = i) := by
  rw [BitVec.getLsbD_shiftLeft]
  simp only [BitVec.getLsbD_one]
  by_cases h : j < i
  · simp [h]; omega
  · by_cases e : j = i
    · subst e; simp; omega
    · simp [e]; omega

theorem one_shl32 (i : Nat) : shl .u32 1 (i : Int) = (((1#32) <<< i).toNat : Int) := by
  have := shl_u32 (1#32) (i : Int)
  simpa using this

theorem wrap64_of (n : Int) (h0 : -9223372036854775808 ≤ n) (h : n < 9223372036854775808) : wrap64 n = n := by
  unfold wrap64
  omega

/-! ### Turn -/
theorem ref_turn_loop (X : BitVec 32) (n : Nat) (hn : n < 32) (d : Nat) : ∀ (k i : Nat) (O : BitVec 32), i + d = 32 → d < k →
    (∀ j, j < 32 → O.getLsbD j = (decide ((j + 32 - n) % 32 < i) && X.getLsbD ((j + 32 - n) % 32))) →
    ∃ R : BitVec 32, signetref01_Turn.l0 k (X.toNat : Int) (n : Int) (O.toNat : Int) (i : Int) = some (R.toNat : Int) ∧ ∀ j, j < 32 → R.getLsbD j = X.getLsbD ((j + 32 - n) % 32) := by
  induction d with
  | zero =>
    intro k i O hi hk hO
    obtain ⟨k, rfl⟩ : ∃ m, k = m + 1 := ⟨k - 1, by omega⟩
    refine ⟨O, by simp only [signetref01_Turn.l0]; rw [if_neg (by omega)], fun j hj => ?_⟩
    rw [hO j hj, decide_eq_true (by omega), Bool.true_and]
  | succ d ih =>
    intro k i O hi hk hO
    obtain ⟨k, rfl⟩ : ∃ m, k = m + 1 := ⟨k - 1, by omega⟩
    have h64 : IntKind.u64.wrap (X.toNat : Int) = ((X.setWidth 64).toNat : Int) := by
      rw [u64_of _ (by omega) (by have := X.isLt; omega), BitVec.toNat_setWidth]
      have := X.isLt
      omega
    have hp : Int.tmod (wrap64 ((i : Int) + n)) 32 = (((i + n) % 32 : Nat) : Int) := by
      rw [wrap64_of _ (by omega) (by omega), Int.tmod_eq_emod_of_nonneg (by omega)]
      omega
    have hX : (X.setWidth 64).getLsbD i = X.getLsbD i := by rw [BitVec.getLsbD_setWidth]; simp; omega
    have hs : wrap64 ((i : Int) + 1) = ((i + 1 : Nat) : Int) := by rw [wrap64_of _ (by omega) (by omega)]; omega
    simp only [signetref01_Turn.l0]
    rw [if_pos (show (i : Int) < 32 by omega), h64, bit_nat _ i (by omega), Option.bind_some, hX]
    by_cases hb : X.getLsbD i = true
    · rw [hb, if_pos (by simp), hp, u64_of _ (by omega) (by omega), if_pos (by omega), one_shl32, or_u32, hs]
      refine ih k (i + 1) _ (by omega) (by omega) (fun j hj => ?_)
      rw [BitVec.getLsbD_or, hO j hj, lsb_one_shl 32 _ j hj]
      by_cases e : (j + 32 - n) % 32 = i
      · have e2 : j = (i + n) % 32 := by omega
        rw [decide_eq_true e2, e, hb, decide_eq_true (show i < i + 1 by omega)]; simp
      · have e2 : ¬ j = (i + n) % 32 := by omega
        rw [decide_eq_false e2, Bool.or_false]
        by_cases l : (j + 32 - n) % 32 < i
        · rw [decide_eq_true l, decide_eq_true (by omega)]
        · rw [decide_eq_false l, decide_eq_false (by omega)]
    · have hb' : X.getLsbD i = false := by simpa using hb
      rw [hb', if_neg (by simp), hs]
      refine ih k (i + 1) _ (by omega) (by omega) (fun j hj => ?_)
      rw [hO j hj]
      by_cases e : (j + 32 - n) % 32 = i
      · rw [e, hb']; simp
      · by_cases l : (j + 32 - n) % 32 < i
        · rw [decide_eq_true l, decide_eq_true (by omega)]
        · rw [decide_eq_false l, decide_eq_false (by omega)]

/-- by, from 0 to 31. -/
def mod32 (b : Int) : Nat := (b % 32).toNat

theorem ref_turn (X : BitVec 32) (b : Int) (k : Nat) (hk : 40 < k) :
    ∃ R : BitVec 32, signetref01_Turn.f k (X.toNat : Int) b = some (R.toNat : Int) ∧ ∀ j, j < 32 → R.getLsbD j = X.getLsbD ((j + 32 - mod32 b) % 32) := by
  have hn : mod32 b < 32 := by unfold mod32; omega
  obtain ⟨k, rfl⟩ : ∃ m, k = m + 1 := ⟨k - 1, by omega⟩
  obtain ⟨R, hR, hb⟩ := ref_turn_loop X (mod32 b) hn 32 k 0 0#32 (by omega) (by omega) (fun j hj => by simp)
  refine ⟨R, ?_, hb⟩
  have h1 : Int.tmod b 32 = b % 32 ∨ (Int.tmod b 32 < 0 ∧ Int.tmod b 32 + 32 = b % 32) := by
    have := Int.tmod_eq_emod (a := b) (b := 32)
    rw [this]
    split <;> simp <;> omega
  have h2 : ((mod32 b : Nat) : Int) = b % 32 := by unfold mod32; omega
  unfold signetref01_Turn.f
  rcases h1 with h1 | ⟨h1, h3⟩
  · rw [if_neg (by omega), h1, ← h2]
    simp only [signetref01_Turn.j0]
    exact hR
  · rw [if_pos h1, h3, wrap64_of _ (by omega) (by omega), ← h2]
    simp only [signetref01_Turn.j0]
    exact hR

theorem and31 (b : Int) : Go.bits .and .i64 b 31 = b % 32 := by
  have hb : Go.bits .and .i64 b 31 = (BitVec.ofInt 64 b &&& 31#64).toInt := by
    simp only [Go.bits]
    rw [wrap_i64]
    simp only [IntKind.bits, ofInt_toNat]
    rfl
  rw [hb, BitVec.toInt_eq_toNat_cond, BitVec.toNat_and]
  have : (31#64).toNat = 2 ^ 5 - 1 := by decide
  rw [this, Nat.and_two_pow_sub_one_eq_mod, BitVec.toNat_ofInt]
  omega

theorem and31u (n : Nat) (h : n < 32) : Go.bits .and .u64 (n : Int) 31 = n := by
  have hb := and_u64 (BitVec.ofNat 64 n) (31#64)
  have e1 : (BitVec.ofNat 64 n).toNat = n := by rw [BitVec.toNat_ofNat]; omega
  have e2 : (31#64).toNat = 2 ^ 5 - 1 := by decide
  rw [BitVec.toNat_and, e1, e2, Nat.and_two_pow_sub_one_eq_mod] at hb
  have e3 : (((2 ^ 5 - 1 : Nat)) : Int) = 31 := by decide
  rw [e3] at hb
  rw [hb]
  omega

theorem word_turn (X : BitVec 32) (b : Int) : word_Turn.f (X.toNat : Int) b = some (((X <<< mod32 b) ||| (X >>> (32 - mod32 b))).toNat : Int) := by
  have hn : mod32 b < 32 := by unfold mod32; omega
  have h2 : ((mod32 b : Nat) : Int) = b % 32 := by unfold mod32; omega
  unfold word_Turn.f bits_RotateLeft32.f
  rw [and31, ← h2, u64_of _ (by omega) (by omega), and31u _ hn, if_pos (by omega), u64_of _ (by omega) (by omega), if_pos (by omega), shl_u32, shr_u32, or_u32]
  simp only [Option.bind_some, Int.toNat_natCast]
  rw [show ((32 : Int) - (mod32 b : Nat)).toNat = 32 - mod32 b from by omega]

theorem turns_same (X : BitVec 32) (n : Nat) (hn : n < 32) (R : BitVec 32) (h : ∀ j, j < 32 → R.getLsbD j = X.getLsbD ((j + 32 - n) % 32)) : (X <<< n) ||| (X >>> (32 - n)) = R := by
  apply BitVec.eq_of_getLsbD_eq
  intro j hj
  rw [h j hj, BitVec.getLsbD_or, BitVec.getLsbD_shiftLeft, BitVec.getLsbD_ushiftRight]
  by_cases l : j < n
  · rw [show (j + 32 - n) % 32 = 32 - n + j from by omega]
    simp [l]
  · rw [show (j + 32 - n) % 32 = j - n from by omega, BitVec.getLsbD_of_ge X (32 - n + j) (by omega)]
    simp [l, hj]
theorem awake_true : signetlaw01_awake.f = some true := by decide +kernel

/-! ### Shift, Lean -/
theorem ref_shift_loop (X : BitVec 64) (b : Int) (hb : -64 < b ∧ b < 64) (d : Nat) : ∀ (k i : Nat) (O : BitVec 64), i + d = 64 → d < k →
    (∀ j, j < 64 → O.getLsbD j = (decide (j < i) && atI X ((j : Int) - b))) →
    ∃ R : BitVec 64, signetref01_Shift.l0 k (X.toNat : Int) b (O.toNat : Int) (i : Int) = some (R.toNat : Int) ∧ ∀ j, j < 64 → R.getLsbD j = atI X ((j : Int) - b) := by
  induction d with
  | zero =>
    intro k i O hi hk hO
    obtain ⟨k, rfl⟩ : ∃ m, k = m + 1 := ⟨k - 1, by omega⟩
    refine ⟨O, by simp only [signetref01_Shift.l0]; rw [if_neg (by omega)], fun j hj => ?_⟩
    rw [hO j hj, decide_eq_true (by omega), Bool.true_and]
  | succ d ih =>
    intro k i O hi hk hO
    obtain ⟨k, rfl⟩ : ∃ m, k = m + 1 := ⟨k - 1, by omega⟩
    have hs : wrap64 ((i : Int) + 1) = ((i + 1 : Nat) : Int) := by rw [wrap64_of _ (by omega) (by omega)]; omega
    simp only [signetref01_Shift.l0]
    rw [if_pos (show (i : Int) < 64 by omega), wrap64_of ((i : Int) - b) (by omega) (by omega), bit_eq, Option.bind_some]
    by_cases ht : atI X ((i : Int) - b) = true
    · rw [ht, if_pos (by simp), u64_of _ (by omega) (by omega), if_pos (by omega), one_shl, or_u64, hs]
      refine ih k (i + 1) _ (by omega) (by omega) (fun j hj => ?_)
      rw [BitVec.getLsbD_or, hO j hj, lsb_one_shl 64 _ j hj]
      by_cases e : j = i
      · subst e; simp [ht]
      · rw [decide_eq_false e, Bool.or_false]
        by_cases l : j < i
        · rw [decide_eq_true l, decide_eq_true (by omega)]
        · rw [decide_eq_false l, decide_eq_false (by omega)]
    · have ht' : atI X ((i : Int) - b) = false := by simpa using ht
      rw [ht', if_neg (by simp), hs]
      refine ih k (i + 1) _ (by omega) (by omega) (fun j hj => ?_)
      rw [hO j hj]
      by_cases e : j = i
      · subst e; simp [ht']
      · by_cases l : j < i
        · rw [decide_eq_true l, decide_eq_true (by omega)]
        · rw [decide_eq_false l, decide_eq_false (by omega)]

/-- What Shift comes to. -/
def shiftV (X : BitVec 64) (b : Int) : BitVec 64 := if b ≥ 64 then 0 else if b ≤ -64 then 0 else if b < 0 then X >>> (-b).toNat else X <<< b.toNat

theorem shiftV_bit (X : BitVec 64) (b : Int) (hb : -64 < b ∧ b < 64) (j : Nat) (hj : j < 64) : (shiftV X b).getLsbD j = atI X ((j : Int) - b) := by
  unfold shiftV atI
  rw [if_neg (by omega), if_neg (by omega)]
  by_cases h : b < 0
  · rw [if_pos h, BitVec.getLsbD_ushiftRight, decide_eq_true (by omega), Bool.true_and]
    congr 1; omega
  · rw [if_neg h, BitVec.getLsbD_shiftLeft]
    by_cases l : j < b.toNat
    · rw [decide_eq_false (show ¬ (0 ≤ (j : Int) - b) by omega)]; simp [l]
    · rw [decide_eq_true (show 0 ≤ (j : Int) - b by omega), Bool.true_and, show ((j : Int) - b).toNat = j - b.toNat from by omega]
      simp [l, hj]

theorem ref_shift (X : BitVec 64) (b : Int) (k : Nat) (hk : 70 < k) : signetref01_Shift.f k (X.toNat : Int) b = some ((shiftV X b).toNat : Int) := by
  obtain ⟨k, rfl⟩ : ∃ m, k = m + 1 := ⟨k - 1, by omega⟩
  unfold signetref01_Shift.f
  by_cases h1 : b ≤ -64
  · rw [if_pos h1]
    simp only [signetref01_Shift.j0]
    rw [if_pos trivial]
    unfold shiftV
    rw [if_neg (by omega), if_pos h1]; rfl
  · rw [if_neg h1]
    simp only [signetref01_Shift.j0]
    by_cases h2 : b ≥ 64
    · rw [if_pos (by simp; omega)]
      unfold shiftV
      rw [if_pos h2]; rfl
    · rw [if_neg (by simp; omega)]
      obtain ⟨R, hR, hb⟩ := ref_shift_loop X b (by omega) 64 k 0 0#64 (by omega) (by omega) (fun j hj => by simp)
      have : R = shiftV X b := BitVec.eq_of_getLsbD_eq (fun j hj => by rw [hb j hj, shiftV_bit X b (by omega) j hj])
      subst this
      exact hR

theorem word_shift (X : BitVec 64) (b : Int) (hb : -9223372036854775808 ≤ b ∧ b < 9223372036854775808) (k : Nat) (hk : 70 < k) : word_Shift.f k (X.toNat : Int) b = some ((shiftV X b).toNat : Int) := by
  obtain ⟨k, rfl⟩ : ∃ m, k = m + 1 := ⟨k - 1, by omega⟩
  unfold word_Shift.f shiftV
  by_cases h1 : b ≥ 64
  · rw [if_pos h1, if_pos h1]
    simp only [word_Shift.j0]
    rw [if_pos trivial]; rfl
  · rw [if_neg h1, if_neg h1]
    simp only [word_Shift.j0]
    by_cases h2 : b ≤ -64
    · rw [if_pos h2, if_pos (by simp; omega)]; rfl
    · rw [if_neg h2, if_neg (by simp; omega)]
      by_cases h3 : b < 0
      · rw [if_pos h3, if_pos h3, wrap64_of _ (by omega) (by omega), if_pos (by omega), shr_u64]
      · rw [if_neg h3, if_neg h3, if_pos (by omega), shl_u64]

theorem ref_lean_loop (b : Int) (hb : -64 < b ∧ b < 0) (d : Nat) : ∀ (k i : Nat) (O : BitVec 64), i + d = 64 → d < k →
    ∃ R : BitVec 64, signetref01_Lean.l0 k (O.toNat : Int) (i : Int) = some R.toInt ∧ ∀ j, j < 64 → R.getLsbD j = (O.getLsbD j || decide (i ≤ j)) := by
  induction d with
  | zero =>
    intro k i O hi hk
    obtain ⟨k, rfl⟩ : ∃ m, k = m + 1 := ⟨k - 1, by omega⟩
    refine ⟨O, by simp only [signetref01_Lean.l0]; rw [if_neg (by omega), wrap64_eq, ofInt_toNat], fun j hj => ?_⟩
    rw [decide_eq_false (by omega), Bool.or_false]
  | succ d ih =>
    intro k i O hi hk
    obtain ⟨k, rfl⟩ : ∃ m, k = m + 1 := ⟨k - 1, by omega⟩
    have hs : wrap64 ((i : Int) + 1) = ((i + 1 : Nat) : Int) := by rw [wrap64_of _ (by omega) (by omega)]; omega
    simp only [signetref01_Lean.l0]
    rw [if_pos (show (i : Int) < 64 by omega), u64_of _ (by omega) (by omega), if_pos (by omega), one_shl, or_u64, hs]
    obtain ⟨R, hR, h⟩ := ih k (i + 1) (O ||| 1#64 <<< i) (by omega) (by omega)
    refine ⟨R, hR, fun j hj => ?_⟩
    rw [h j hj, BitVec.getLsbD_or, lsb_one_shl 64 _ j hj, Bool.or_assoc]
    congr 1
    rw [Bool.eq_iff_iff]
    simp
    omega

/-- What Lean comes to. -/
def leanV (X : BitVec 64) (b : Int) : BitVec 64 := if b ≥ 64 then 0 else if b ≤ -64 then X.sshiftRight 63 else if b < 0 then X.sshiftRight (-b).toNat else X <<< b.toNat

theorem lean_bits (X : BitVec 64) (b : Int) (hb : -64 < b ∧ b < 0) (j : Nat) (hj : j < 64) :
    (X.sshiftRight (-b).toNat).getLsbD j = ((shiftV X b).getLsbD j || (decide (X.toInt < 0) && decide (64 + b ≤ (j : Int)))) := by
  rw [shiftV_bit X b (by omega) j hj, BitVec.getLsbD_sshiftRight, BitVec.msb_eq_toInt]
  unfold atI
  rw [decide_eq_true (show 0 ≤ (j : Int) - b by omega), Bool.true_and, decide_eq_false (show ¬ (64 ≤ j) by omega)]
  by_cases l : (-b).toNat + j < 64
  · rw [if_pos l, show (-b).toNat + j = ((j : Int) - b).toNat from by omega, decide_eq_false (show ¬ (64 + b ≤ (j : Int)) by omega)]
    simp
  · rw [if_neg l, BitVec.getLsbD_of_ge X _ (by omega), decide_eq_true (show 64 + b ≤ (j : Int) by omega)]
    simp

theorem ref_lean_at (X : BitVec 64) (b : Int) (hb : -64 < b ∧ b < 64) (k : Nat) (hk : 80 < k) :
    signetref01_Lean.j0 k X.toInt b = some (if b < 0 then X.sshiftRight (-b).toNat else X <<< b.toNat).toInt := by
  obtain ⟨k, rfl⟩ : ∃ m, k = m + 1 := ⟨k - 1, by omega⟩
  simp only [signetref01_Lean.j0]
  rw [wrap_u64, ofInt_toInt, ref_shift X b k (by omega), Option.bind_some]
  obtain ⟨k, rfl⟩ : ∃ m, k = m + 1 := ⟨k - 1, by omega⟩
  by_cases h : b < 0
  · rw [if_pos h, if_pos h]
    simp only [signetref01_Lean.j1]
    by_cases hx : X.toInt < 0
    · rw [if_pos (by simpa using hx), wrap64_of _ (by omega) (by omega)]
      obtain ⟨i, hi⟩ : ∃ i : Nat, 64 + b = (i : Int) := ⟨(64 + b).toNat, by omega⟩
      rw [hi]
      obtain ⟨R, hR, hr⟩ := ref_lean_loop b ⟨hb.1, h⟩ (64 - i) k i (shiftV X b) (by omega) (by omega)
      rw [hR]
      have : R = X.sshiftRight (-b).toNat := BitVec.eq_of_getLsbD_eq (fun j hj => by
        rw [hr j hj, lean_bits X b ⟨hb.1, h⟩ j hj, decide_eq_true hx, Bool.true_and, hi]
        congr 1
        rw [Bool.eq_iff_iff]; simp)
      rw [this]
    · rw [if_neg (by simpa using hx), wrap64_eq, ofInt_toNat]
      have : shiftV X b = X.sshiftRight (-b).toNat := BitVec.eq_of_getLsbD_eq (fun j hj => by
        rw [lean_bits X b ⟨hb.1, h⟩ j hj, decide_eq_false hx, Bool.false_and, Bool.or_false])
      rw [this]
  · rw [if_neg h, if_neg h]
    simp only [signetref01_Lean.j1]
    rw [if_neg (by simp), wrap64_eq, ofInt_toNat]
    unfold shiftV
    rw [if_neg (by omega), if_neg (by omega), if_neg h]

theorem ref_lean (X : BitVec 64) (b : Int) (k : Nat) (hk : 80 < k) : signetref01_Lean.f k X.toInt b = some (leanV X b).toInt := by
  unfold signetref01_Lean.f leanV
  by_cases h1 : b ≥ 64
  · rw [if_pos h1, if_pos h1]; rfl
  · rw [if_neg h1, if_neg h1]
    by_cases h2 : b ≤ -64
    · rw [if_pos h2, if_pos h2, ref_lean_at X (-63) (by omega) k hk]
      rfl
    · rw [if_neg h2, if_neg h2, ref_lean_at X b (by omega) k hk]

theorem word_lean (X : BitVec 64) (b : Int) (hb : -9223372036854775808 ≤ b ∧ b < 9223372036854775808) : word_Lean.f X.toInt b = some (leanV X b).toInt := by
  unfold word_Lean.f leanV
  by_cases h1 : b ≥ 64
  · rw [if_pos h1, if_pos h1]; rfl
  · rw [if_neg h1, if_neg h1]
    by_cases h2 : b ≤ -64
    · rw [if_pos h2, if_pos h2]
      have := shr_i64 X 63
      simp [shr, IntKind.bits] at this
      simp [this]
    · rw [if_neg h2, if_neg h2]
      by_cases h3 : b < 0
      · rw [if_pos h3, if_pos h3, wrap64_of _ (by omega) (by omega), if_pos (by omega), shr_i64]
      · rw [if_neg h3, if_neg h3, if_pos (by omega), shl_i64]

theorem wf_u64 {a : Int} (h : (Lit.int .u64 a).wf = true) : ∃ X : BitVec 64, a = (X.toNat : Int) := by
  simp only [Lit.wf, IntKind.min, IntKind.max, IntKind.signed, IntKind.bits, Bool.and_eq_true, decide_eq_true_eq] at h
  refine ⟨BitVec.ofInt 64 a, ?_⟩
  rw [BitVec.toNat_ofInt]
  simp at h
  omega

theorem wf_i64 {a : Int} (h : (Lit.int .i64 a).wf = true) : -9223372036854775808 ≤ a ∧ a < 9223372036854775808 := by
  simp only [Lit.wf, IntKind.min, IntKind.max, IntKind.signed, IntKind.bits, Bool.and_eq_true, decide_eq_true_eq] at h
  simp at h
  omega

theorem WordTurns : signetlaw01_WordTurns.Pure := by
  intro a b ha hb
  obtain ⟨X, rfl⟩ := wf_u64 ha
  have hb := wf_i64 hb
  refine ⟨200, ?_⟩
  unfold signetlaw01_WordTurns.f
  have h32 : (X.toNat : Int) % 4294967296 = ((X.setWidth 32).toNat : Int) := by
    rw [BitVec.toNat_setWidth]; omega
  obtain ⟨R, hR, hbits⟩ := ref_turn (X.setWidth 32) b 200 (by omega)
  have hn : mod32 b < 32 := by unfold mod32; omega
  rw [awake_true, Option.bind_some, if_pos rfl, h32, word_turn, Option.bind_some, hR, Option.bind_some, turns_same _ _ hn R hbits, if_pos rfl,
    word_shift X b hb 200 (by omega), Option.bind_some, ref_shift X b 200 (by omega), Option.bind_some, if_pos rfl, wrap64_eq, ofInt_toNat, word_lean X b hb, Option.bind_some, ref_lean X b 200 (by omega), Option.bind_some]
  simp

end Go.Proofs.Ytfpikmfonpnicaa.Pure
