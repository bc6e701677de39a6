/- WordConverts: for every word and every number of bits the program's Extend, Narrow, Int and Word are the document's; no condition. -/
import Derived.Test.YtfpikmfonpnicaaPWordConvertsx2
import Derived.Test.YtfpikmfonpnicaaBv
namespace Go.Proofs.Ytfpikmfonpnicaa.Pure
open Go.RowKit Go.Proofs.Ytfpikmfonpnicaa.PWordConverts Go.Proofs.YtfpikmfonpnicaaW.PrintWords Go.Proofs.YtfpikmfonpnicaaW.PrintLast Go.Proofs.Ytfpikmfonpnicaa.Bv
set_option linter.unusedVariables false
set_option linter.unusedSimpArgs false
/-! ### bits: signetref01.bit, Turn, Shift, Lean -/
theorem u64_of (n : Int) (h0 : 0 ≤ n) (h : n < 18446744073709551616) : IntKind.u64.wrap n = n := by
  rw [wrap_u64, BitVec.toNat_ofInt]
  omega

theorem mod2_bit (q : Nat) : (q : Int) % 2 = (((decide (q % 2 = 1)).toNat : Nat) : Int) := by
  by_cases h : q % 2 = 1
  · rw [decide_eq_true h]; simp; omega
  · rw [decide_eq_false h]; simp; omega

theorem bit_nat (X : BitVec 64) (i : Nat) (h : i < 64) : signetref01_bit.f (X.toNat : Int) (i : Int) = some (((X.getLsbD i).toNat : Nat) : Int) := by
  unfold signetref01_bit.f
  rw [if_neg (by omega), if_neg (by omega)]
  rw [u64_of (i : Int) (by omega) (by omega), if_pos (by omega), shr_u64, Int.toNat_natCast]
  congr 1
  rw [Int.tmod_eq_emod_of_nonneg (by omega), BitVec.toNat_ushiftRight, Nat.shiftRight_eq_div_pow, BitVec.getLsbD, Nat.testBit_eq_decide_div_mod_eq]
  exact mod2_bit _

theorem bit_out (X : BitVec 64) (i : Int) (h : i < 0 ∨ 63 < i) : signetref01_bit.f (X.toNat : Int) i = some 0 := by
  unfold signetref01_bit.f
  rcases h with h | h
  · rw [if_pos h]
  · rw [if_neg (by omega), if_pos (by omega)]

/-- The bit at an integer place. -/
def atI (X : BitVec 64) (i : Int) : Bool := decide (0 ≤ i) && X.getLsbD i.toNat

theorem bit_eq (X : BitVec 64) (i : Int) : signetref01_bit.f (X.toNat : Int) i = some (((atI X i).toNat : Nat) : Int) := by
  by_cases h : 0 ≤ i ∧ i ≤ 63
  · obtain ⟨n, rfl⟩ := Int.eq_ofNat_of_zero_le h.1
    have hn : n < 64 := by omega
    rw [bit_nat X n hn]
    simp [atI]
  · rw [bit_out X i (by omega)]
    have : atI X i = false := by
      unfold atI
      by_cases h0 : 0 ≤ i
      · simp only [h0, decide_true, Bool.true_and]
        exact BitVec.getLsbD_of_ge _ _ (by omega)
      · simp [h0]
    simp [this]

theorem one_shl (i : Nat) : shl .u64 1 (i : Int) = (((1#64) <<< i).toNat : Int) := by
  have := shl_u64 (1#64) (i : Int)
  simpa using this

theorem lsb_one_shl (w i j : Nat) (hj : j < w) : ((1#w) <<< i).getLsbD j = decide (j = i) := by
  rw [BitVec.getLsbD_shiftLeft]
  simp only [BitVec.getLsbD_one]
  by_cases h : j < i
  · simp [h]; omega
  · by_cases e : j = i
    · subst e; simp; omega
    · simp [e]; omega

theorem one_shl32 (i : Nat) : shl .u32 1 (i : Int) = (((1#32) <<< i).toNat : Int) := by
  have := shl_u32 (1#32) (i : Int)
  simpa using this

theorem wrap64_of (n : Int) (h0 : -9223372036854775808 ≤ n) (h : n < 9223372036854775808) : wrap64 n = n := by
  unfold wrap64
  omega
theorem awake_true : signetlaw01_awake.f = some true := by decide +kernel

/-! ### Extend, Narrow, lowest -/
/-- What Extend comes to, for n bits from 1 to 64: the sign at place n - 1 goes on. -/
def extV (X : BitVec 64) (n : Nat) : BitVec 64 := (X <<< (64 - n)).sshiftRight (64 - n)

theorem extV_bit (X : BitVec 64) (n : Nat) (h : 1 ≤ n ∧ n ≤ 64) (j : Nat) (hj : j < 64) : (extV X n).getLsbD j = X.getLsbD (if n - 1 < j then n - 1 else j) := by
  unfold extV
  rw [BitVec.getLsbD_sshiftRight, decide_eq_false (show ¬ 64 ≤ j by omega), BitVec.msb_eq_getLsbD_last]
  simp only [BitVec.getLsbD_shiftLeft, Bool.not_false, Bool.true_and]
  by_cases l : 64 - n + j < 64
  · rw [if_pos l, if_neg (by omega), show 64 - n + j - (64 - n) = j from by omega]
    simp; omega
  · rw [if_neg l, if_pos (by omega), show 64 - 1 - (64 - n) = n - 1 from by omega]
    simp; omega

theorem word_extend (X : BitVec 64) (n : Nat) (h : 1 ≤ n ∧ n ≤ 64) : word_Extend.f (X.toNat : Int) (n : Int) = some ((extV X n).toInt, 0) := by
  unfold word_Extend.f extV
  rw [if_neg (by omega), if_neg (by omega), wrap64_of (64 - (n : Int)) (by omega) (by omega), if_pos (by omega), shl_u64, wrap64_eq, ofInt_toNat, shr_i64, show ((64 : Int) - n).toNat = 64 - n from by omega]

theorem word_extend_out (x b : Int) (h : b < 1 ∨ b > 64) : word_Extend.f x b = some (0, 11) := by
  unfold word_Extend.f
  rcases h with h | h
  · rw [if_pos h]
  · rw [if_neg (by omega), if_pos h]

theorem ref_extend_loop (X : BitVec 64) (n : Nat) (hn : 1 ≤ n ∧ n ≤ 64) (d : Nat) : ∀ (k i : Nat) (O : BitVec 64), i + d = 64 → d < k →
    (∀ j, j < 64 → O.getLsbD j = (decide (j < i) && X.getLsbD (if n - 1 < j then n - 1 else j))) →
    ∃ R : BitVec 64, signetref01_Extend.l0 k (X.toNat : Int) (n : Int) (O.toNat : Int) (i : Int) = some (R.toInt, 0) ∧ ∀ j, j < 64 → R.getLsbD j = X.getLsbD (if n - 1 < j then n - 1 else j) := by
  induction d with
  | zero =>
    intro k i O hi hk hO
    obtain ⟨k, rfl⟩ : ∃ m, k = m + 1 := ⟨k - 1, by omega⟩
    refine ⟨O, by simp only [signetref01_Extend.l0]; rw [if_neg (by omega), wrap64_eq, ofInt_toNat], fun j hj => ?_⟩
    rw [hO j hj, decide_eq_true (by omega), Bool.true_and]
  | succ d ih =>
    intro k i O hi hk hO
    obtain ⟨k, rfl⟩ : ∃ m, k = m + 1 := ⟨k - 1, by omega⟩
    have hs : wrap64 ((i : Int) + 1) = ((i + 1 : Nat) : Int) := by rw [wrap64_of _ (by omega) (by omega)]; omega
    have hm : wrap64 ((n : Int) - 1) = ((n - 1 : Nat) : Int) := by rw [wrap64_of _ (by omega) (by omega)]; omega
    have key : ∀ b : Bool, b = X.getLsbD (if n - 1 < i then n - 1 else i) →
        ∃ R : BitVec 64, (if ((b.toNat : Nat) : Int) = 1 then (if 0 ≤ (IntKind.u64.wrap (i : Int)) then (signetref01_Extend.l0 k (X.toNat : Int) (n : Int) (Go.bits .or .u64 (O.toNat : Int) (shl .u64 1 (IntKind.u64.wrap (i : Int)))) (wrap64 ((i : Int) + 1))) else none) else (signetref01_Extend.l0 k (X.toNat : Int) (n : Int) (O.toNat : Int) (wrap64 ((i : Int) + 1)))) = some (R.toInt, 0) ∧ ∀ j, j < 64 → R.getLsbD j = X.getLsbD (if n - 1 < j then n - 1 else j) := by
      intro b hb
      by_cases ht : b = true
      · rw [ht, if_pos (by simp), u64_of _ (by omega) (by omega), if_pos (by omega), one_shl, or_u64, hs]
        refine ih k (i + 1) _ (by omega) (by omega) (fun j hj => ?_)
        rw [BitVec.getLsbD_or, hO j hj, lsb_one_shl 64 _ j hj]
        by_cases e : j = i
        · subst e; rw [← hb, ht]; simp
        · rw [decide_eq_false e, Bool.or_false]
          by_cases l : j < i
          · rw [decide_eq_true l, decide_eq_true (by omega)]
          · rw [decide_eq_false l, decide_eq_false (by omega)]
      · have ht' : b = false := by simpa using ht
        rw [ht', if_neg (by simp), hs]
        refine ih k (i + 1) _ (by omega) (by omega) (fun j hj => ?_)
        rw [hO j hj]
        by_cases e : j = i
        · subst e; rw [← hb, ht']; simp
        · by_cases l : j < i
          · rw [decide_eq_true l, decide_eq_true (by omega)]
          · rw [decide_eq_false l, decide_eq_false (by omega)]
    simp only [signetref01_Extend.l0]
    rw [if_pos (show (i : Int) < 64 by omega), hm]
    by_cases g : n - 1 < i
    · rw [if_pos (show (i : Int) > ((n - 1 : Nat) : Int) by omega), bit_nat _ (n - 1) (by omega), Option.bind_some]
      exact key _ (by rw [if_pos g])
    · rw [if_neg (show ¬ (i : Int) > ((n - 1 : Nat) : Int) by omega), bit_nat _ i (by omega), Option.bind_some]
      exact key _ (by rw [if_neg g])

theorem ref_extend (X : BitVec 64) (n : Nat) (hn : 1 ≤ n ∧ n ≤ 64) (k : Nat) (hk : 70 < k) : signetref01_Extend.f k (X.toNat : Int) (n : Int) = some ((extV X n).toInt, 0) := by
  obtain ⟨k, rfl⟩ : ∃ m, k = m + 1 := ⟨k - 1, by omega⟩
  unfold signetref01_Extend.f
  rw [if_neg (by omega)]
  simp only [signetref01_Extend.j0]
  rw [if_neg (by simp; omega)]
  obtain ⟨R, hR, h⟩ := ref_extend_loop X n hn 64 k 0 0#64 (by omega) (by omega) (fun j hj => by simp)
  have : R = extV X n := BitVec.eq_of_getLsbD_eq (fun j hj => by rw [h j hj, extV_bit X n hn j hj])
  rw [← this]
  exact hR

theorem ref_extend_out (x b : Int) (h : b < 1 ∨ b > 64) (k : Nat) (hk : 0 < k) : signetref01_Extend.f k x b = some (0, 11) := by
  obtain ⟨k, rfl⟩ : ∃ m, k = m + 1 := ⟨k - 1, by omega⟩
  unfold signetref01_Extend.f
  rcases h with h | h
  · rw [if_pos h]; simp only [signetref01_Extend.j0]; rw [if_pos trivial]
  · rw [if_neg (by omega)]; simp only [signetref01_Extend.j0]; rw [if_pos (by simpa using h)]

/-- The n lowest bits. -/
def lowV (X : BitVec 64) (n : Nat) : BitVec 64 := (X <<< (64 - n)) >>> (64 - n)

theorem lowV_bit (X : BitVec 64) (n : Nat) (h : n ≤ 64) (j : Nat) (hj : j < 64) : (lowV X n).getLsbD j = (decide (j < n) && X.getLsbD j) := by
  unfold lowV
  rw [BitVec.getLsbD_ushiftRight, BitVec.getLsbD_shiftLeft]
  by_cases l : j < n
  · rw [decide_eq_true l, show 64 - n + j - (64 - n) = j from by omega]
    simp; omega
  · rw [decide_eq_false l, decide_eq_false (show ¬ 64 - n + j < 64 by omega)]
    simp

theorem ref_lowest_loop (X : BitVec 64) (n : Nat) (hn : n ≤ 64) (d : Nat) : ∀ (k i : Nat) (O : BitVec 64), i + d = n → d < k →
    (∀ j, j < 64 → O.getLsbD j = (decide (j < i) && X.getLsbD j)) →
    ∃ R : BitVec 64, signetref01_lowest.l0 k (X.toNat : Int) (n : Int) (O.toNat : Int) (i : Int) = some (R.toNat : Int) ∧ ∀ j, j < 64 → R.getLsbD j = (decide (j < n) && X.getLsbD j) := by
  induction d with
  | zero =>
    intro k i O hi hk hO
    obtain ⟨k, rfl⟩ : ∃ m, k = m + 1 := ⟨k - 1, by omega⟩
    refine ⟨O, by simp only [signetref01_lowest.l0]; rw [if_neg (by omega)], fun j hj => ?_⟩
    rw [hO j hj, show i = n from by omega]
  | succ d ih =>
    intro k i O hi hk hO
    obtain ⟨k, rfl⟩ : ∃ m, k = m + 1 := ⟨k - 1, by omega⟩
    have hs : wrap64 ((i : Int) + 1) = ((i + 1 : Nat) : Int) := by rw [wrap64_of _ (by omega) (by omega)]; omega
    simp only [signetref01_lowest.l0]
    rw [if_pos (show (i : Int) < n by omega), bit_nat _ i (by omega), Option.bind_some]
    by_cases ht : X.getLsbD i = true
    · rw [ht, if_pos (by simp), u64_of _ (by omega) (by omega), if_pos (by omega), one_shl, or_u64, hs]
      refine ih k (i + 1) _ (by omega) (by omega) (fun j hj => ?_)
      rw [BitVec.getLsbD_or, hO j hj, lsb_one_shl 64 _ j hj]
      by_cases e : j = i
      · subst e; simp [ht]
      · rw [decide_eq_false e, Bool.or_false]
        by_cases l : j < i
        · rw [decide_eq_true l, decide_eq_true (by omega)]
        · rw [decide_eq_false l, decide_eq_false (by omega)]
    · have ht' : X.getLsbD i = false := by simpa using ht
      rw [ht', if_neg (by simp), hs]
      refine ih k (i + 1) _ (by omega) (by omega) (fun j hj => ?_)
      rw [hO j hj]
      by_cases e : j = i
      · subst e; simp [ht']
      · by_cases l : j < i
        · rw [decide_eq_true l, decide_eq_true (by omega)]
        · rw [decide_eq_false l, decide_eq_false (by omega)]

theorem ref_lowest (X : BitVec 64) (n : Nat) (hn : n ≤ 64) (k : Nat) (hk : 70 < k) : signetref01_lowest.f k (X.toNat : Int) (n : Int) = some ((lowV X n).toNat : Int) := by
  unfold signetref01_lowest.f
  obtain ⟨R, hR, h⟩ := ref_lowest_loop X n hn n k 0 0#64 (by omega) (by omega) (fun j hj => by simp)
  have : R = lowV X n := BitVec.eq_of_getLsbD_eq (fun j hj => by rw [h j hj, lowV_bit X n hn j hj])
  rw [← this]
  exact hR

theorem toInt_eq_iff (X Y : BitVec 64) : X.toInt = Y.toInt ↔ X = Y := ⟨BitVec.eq_of_toInt_eq, fun h => by rw [h]⟩
theorem toNat_eq_iff (X Y : BitVec 64) : ((X.toNat : Int) = Y.toNat) ↔ X = Y := ⟨fun h => BitVec.eq_of_toNat_eq (by omega), fun h => by rw [h]⟩

theorem word_narrow (X : BitVec 64) (n : Nat) (h : 1 ≤ n ∧ n ≤ 64) : word_Narrow.f X.toInt (n : Int) = some (if extV X n = X then (((lowV X n).toNat : Int), 0) else (0, 10)) := by
  unfold word_Narrow.f
  rw [wrap_u64, ofInt_toInt, word_extend X n h, Option.bind_some, if_pos rfl]
  dsimp only
  by_cases e : extV X n = X
  · rw [if_pos (by rw [e]), if_pos e, wrap64_of _ (by omega) (by omega), if_pos (by omega), shl_u64, shr_u64, show ((64 : Int) - n).toNat = 64 - n from by omega]
    rfl
  · rw [if_neg (by rw [toInt_eq_iff]; exact e), if_neg e]

theorem word_narrow_out (x b : Int) (h : b < 1 ∨ b > 64) : word_Narrow.f x b = some (0, 11) := by
  unfold word_Narrow.f
  rw [word_extend_out _ _ h, Option.bind_some, if_neg (by decide)]

theorem ref_narrow (X : BitVec 64) (n : Nat) (h : 1 ≤ n ∧ n ≤ 64) (k : Nat) (hk : 80 < k) : signetref01_Narrow.f k X.toInt (n : Int) = some (if extV X n = X then (((lowV X n).toNat : Int), 0) else (0, 10)) := by
  obtain ⟨k, rfl⟩ : ∃ m, k = m + 1 := ⟨k - 1, by omega⟩
  unfold signetref01_Narrow.f
  rw [if_neg (by omega)]
  simp only [signetref01_Narrow.j0]
  rw [if_neg (by simp; omega), wrap_u64, ofInt_toInt, ref_extend X n h k (by omega), Option.bind_some]
  dsimp only
  by_cases e : extV X n = X
  · rw [if_pos (by rw [e]), if_pos e, ref_lowest X n h.2 k (by omega), Option.bind_some]
  · rw [if_neg (by rw [toInt_eq_iff]; exact e), if_neg e]

theorem ref_narrow_out (x b : Int) (h : b < 1 ∨ b > 64) (k : Nat) (hk : 0 < k) : signetref01_Narrow.f k x b = some (0, 11) := by
  obtain ⟨k, rfl⟩ : ∃ m, k = m + 1 := ⟨k - 1, by omega⟩
  unfold signetref01_Narrow.f
  rcases h with h | h
  · rw [if_pos h]; simp only [signetref01_Narrow.j0]; rw [if_pos trivial]
  · rw [if_neg (by omega)]; simp only [signetref01_Narrow.j0]; rw [if_pos (by simpa using h)]

theorem wf_u64 {a : Int} (h : (Lit.int .u64 a).wf = true) : ∃ X : BitVec 64, a = (X.toNat : Int) := by
  simp only [Lit.wf, IntKind.min, IntKind.max, IntKind.signed, IntKind.bits, Bool.and_eq_true, decide_eq_true_eq] at h
  refine ⟨BitVec.ofInt 64 a, ?_⟩
  rw [BitVec.toNat_ofInt]
  simp at h
  omega

theorem wf_i64 {a : Int} (h : (Lit.int .i64 a).wf = true) : -9223372036854775808 ≤ a ∧ a < 9223372036854775808 := by
  simp only [Lit.wf, IntKind.min, IntKind.max, IntKind.signed, IntKind.bits, Bool.and_eq_true, decide_eq_true_eq] at h
  simp at h
  omega

theorem int_word (X : BitVec 64) : word_Int.f (X.toNat : Int) = some (if X.toNat > 9223372036854775807 then (0, 10) else (((X.toNat : Nat) : Int), 0)) := by
  unfold word_Int.f
  by_cases h : X.toNat > 9223372036854775807
  · rw [if_pos (by omega), if_pos h]
  · rw [if_neg (by omega), if_neg h, wrap64_of _ (by omega) (by omega)]

theorem word_word (x : Int) : word_Word.f x = some (if x < 0 ∨ x > 4294967295 then (0, 10) else (x % 4294967296, 0)) := by
  unfold word_Word.f
  by_cases h : x < 0
  · rw [if_pos h, if_pos (.inl h)]
  · by_cases g : x > 4294967295
    · rw [if_neg h, if_pos g, if_pos (.inr g)]
    · rw [if_neg h, if_neg g, if_neg (by omega)]

theorem WordConverts : signetlaw01_WordConverts.Pure := by
  intro a b ha hb
  obtain ⟨X, rfl⟩ := wf_u64 ha
  have hb := wf_i64 hb
  refine ⟨200, ?_⟩
  have hext : ∃ p, word_Extend.f (X.toNat : Int) b = some p ∧ signetref01_Extend.f 200 (X.toNat : Int) b = some p := by
    by_cases h : b < 1 ∨ b > 64
    · exact ⟨_, word_extend_out _ _ h, ref_extend_out _ _ h 200 (by omega)⟩
    · obtain ⟨n, rfl⟩ : ∃ n : Nat, b = n := ⟨b.toNat, by omega⟩
      exact ⟨_, word_extend X n (by omega), ref_extend X n (by omega) 200 (by omega)⟩
  have hnar : ∃ p, word_Narrow.f X.toInt b = some p ∧ signetref01_Narrow.f 200 X.toInt b = some p := by
    by_cases h : b < 1 ∨ b > 64
    · exact ⟨_, word_narrow_out _ _ h, ref_narrow_out _ _ h 200 (by omega)⟩
    · obtain ⟨n, rfl⟩ : ∃ n : Nat, b = n := ⟨b.toNat, by omega⟩
      exact ⟨_, word_narrow X n (by omega), ref_narrow X n (by omega) 200 (by omega)⟩
  obtain ⟨p, h1, h2⟩ := hext
  obtain ⟨q, h3, h4⟩ := hnar
  have hw : wrap64 (X.toNat : Int) = X.toInt := by rw [wrap64_eq, ofInt_toNat]
  unfold signetlaw01_WordConverts.f
  rw [hw, h1, Option.bind_some, h2, Option.bind_some, h3, Option.bind_some, h4, Option.bind_some, int_word, Option.bind_some, word_word, Option.bind_some, awake_true, Option.bind_some, if_pos rfl, if_pos rfl, if_pos rfl, if_pos rfl]
  have hX := X.isLt
  have hc := BitVec.toInt_eq_toNat_cond X
  simp only [signetlaw01_WordConverts.j0, bne_self_eq_false, Bool.false_eq_true, if_false, hw]
  by_cases g : X.toNat > 9223372036854775807
  · rw [if_neg (show ¬ 2 * X.toNat < 2 ^ 64 by omega)] at hc
    rw [if_pos (show X.toInt < 0 ∨ X.toInt > 4294967295 by omega), if_pos g, if_pos (by omega)]
    simp
  · rw [if_pos (show 2 * X.toNat < 2 ^ 64 by omega)] at hc
    rw [if_neg g, if_neg (by omega), hc]
    by_cases f : (X.toNat : Int) > 4294967295
    · rw [if_pos f, if_pos (show (X.toNat : Int) < 0 ∨ (X.toNat : Int) > 4294967295 by omega)]
      simp
    · rw [if_neg f, if_neg (show ¬ ((X.toNat : Int) < 0 ∨ (X.toNat : Int) > 4294967295) by omega)]
      simp

end Go.Proofs.Ytfpikmfonpnicaa.Pure
