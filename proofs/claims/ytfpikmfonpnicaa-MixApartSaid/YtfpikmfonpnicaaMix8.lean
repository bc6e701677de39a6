/- MixApart walked. -/
import Derived.Test.YtfpikmfonpnicaaMix7
import Derived.Test.YtfpikmfonpnicaaMix5
set_option linter.unusedVariables false
set_option linter.unusedSimpArgs false
namespace Go.Proofs.Ytfpikmfonpnicaa.MixR
open Go.RowKit Go.Proofs.Ytfpikmfonpnicaa.Sx Go.Proofs.Ytfpikmfonpnicaa.Mx Go.Proofs.Ytfpikmfonpnicaa.Bw Go.Proofs.Ytfpikmfonpnicaa.By Go.Proofs.Ytfpikmfonpnicaa.Eqs Go.Proofs.Ytfpikmfonpnicaa.Qx Go.Proofs.Ytfpikmfonpnicaa.Ap Go.Proofs.Ytfpikmfonpnicaa.Mi Go.Proofs.Ytfpikmfonpnicaa.Stm Go.Proofs.Ytfpikmfonpnicaa.Fl Go.Proofs.Ytfpikmfonpnicaa.MixQ
attribute [local irreducible] Ow Cw Xw Mw
set_option maxHeartbeats 4000000
theorem xor_half (a b : Nat) : (a ^^^ b) / 2 = a / 2 ^^^ b / 2 := by
  have := Nat.shiftRight_xor_distrib (a := a) (b := b) (i := 1)
  simpa [Nat.shiftRight_eq_div_pow] using this
theorem xor_low (a b : Nat) : (a ^^^ b) % 2 = (a % 2 + b % 2) % 2 := by
  have h := Nat.testBit_xor a b 0
  simp only [Nat.testBit_zero] at h
  rcases Nat.mod_two_eq_zero_or_one a with ha | ha <;> rcases Nat.mod_two_eq_zero_or_one b with hb | hb <;> rcases Nat.mod_two_eq_zero_or_one (a ^^^ b) with hc | hc <;> simp [ha, hb, hc] at h ⊢
theorem popF_xor : ∀ k a b, popF k (a ^^^ b) ≤ popF k a + popF k b
  | 0, _, _ => Nat.le_refl _
  | k + 1, a, b => by
    have := popF_xor k (a / 2) (b / 2)
    rw [popF, popF, popF, xor_half, xor_low]
    omega
theorem popF_pos : ∀ k n, n < 2 ^ k → popF k n = 0 → n = 0
  | 0, n, h, _ => by simpa using h
  | k + 1, n, h, e => by
    rw [popF] at e
    have := popF_pos k (n / 2) (by rw [Nat.pow_succ] at h; omega) (by omega)
    omega
theorem pop_zero : pop 0 = 0 := popF_zero 32
theorem pop_eq0 {x : BitVec 32} (h : pop x = 0) : x = 0 := BitVec.eq_of_toNat_eq (popF_pos 32 _ x.isLt h)
theorem pop_tri (x y z : BitVec 32) : pop (x ^^^ z) ≤ pop (x ^^^ y) + pop (y ^^^ z) := by
  have e : x ^^^ z = (x ^^^ y) ^^^ (y ^^^ z) := by
    rw [BitVec.xor_assoc, ← BitVec.xor_assoc y y z, BitVec.xor_self, BitVec.zero_xor]
  rw [e, pop, BitVec.toNat_xor]
  exact popF_xor 32 _ _
theorem apartN_same (a : Stt) : ∀ i, apartN a a i = 0
  | 0 => rfl
  | i + 1 => by rw [apartN, apartN_same a i, BitVec.xor_self, show pop (0#32) = 0 from pop_zero]
theorem apartN_comm (a b : Stt) : ∀ i, apartN a b i = apartN b a i
  | 0 => rfl
  | i + 1 => by rw [apartN, apartN, apartN_comm a b i, BitVec.xor_comm]
theorem apartN_tri (a b c : Stt) : ∀ i, apartN a c i ≤ apartN a b i + apartN b c i
  | 0 => Nat.le_refl _
  | i + 1 => by
    have h1 := apartN_tri a b c i
    have h2 := pop_tri (a.getD i 0) (b.getD i 0) (c.getD i 0)
    rw [apartN, apartN, apartN]
    generalize pop (a.getD i 0 ^^^ c.getD i 0) = x at *
    generalize pop (a.getD i 0 ^^^ b.getD i 0) = y at *
    generalize pop (b.getD i 0 ^^^ c.getD i 0) = z at *
    omega
theorem xor_zero_eq {x y : BitVec 32} (h : x ^^^ y = 0) : x = y := by
  have h4 : x ^^^ y ^^^ y = 0#32 ^^^ y := by rw [h]; rfl
  rwa [BitVec.xor_assoc, BitVec.xor_self, BitVec.xor_zero, BitVec.zero_xor] at h4
theorem apartN_zero (a b : Stt) (i : Nat) : apartN a b i = 0 → ∀ j, j < i → a.getD j 0 = b.getD j 0 := by
  induction i with
  | zero => exact fun _ j h => absurd h (Nat.not_lt_zero j)
  | succ i ih =>
    intro e j h
    rw [apartN] at e
    obtain ⟨e1, e2⟩ := Nat.add_eq_zero_iff.1 e
    rcases Nat.lt_or_eq_of_le (Nat.le_of_lt_succ h) with h2 | h2
    · exact ih e1 j h2
    · rw [h2]
      exact xor_zero_eq (pop_eq0 e2)
theorem apart_iff (a b : Stt) (ha : a.length = 16) (hb : b.length = 16) : apart a b = 0 ↔ a = b := by
  constructor
  · intro e
    refine List.ext_getElem (by omega) (fun j h1 h2 => ?_)
    have := apartN_zero a b 16 e j (by omega)
    rwa [List.getD_eq_getElem?_getD, List.getD_eq_getElem?_getD, List.getElem?_eq_getElem h1, List.getElem?_eq_getElem h2] at this
  · rintro rfl; exact apartN_same a 16
theorem pop_bit : ∀ k, k < 32 → pop ((1 : BitVec 32) <<< k) = 1 := by decide +kernel
theorem flip_get (s : Stt) (hs : s.length = 16) (b : Nat) (hb : b < 512) (j : Nat) (hj : j < 16) : s.getD j 0 ^^^ (flip s b).getD j 0 = if j = b / 32 then (1 : BitVec 32) <<< (b % 32) else 0 := by
  unfold flip
  have hjs : j < s.length := by omega
  simp only [List.getD_eq_getElem?_getD, List.getElem?_set]
  by_cases h : b / 32 = j
  · subst h
    rw [if_pos rfl, if_pos hjs, if_pos rfl]
    simp only [Option.getD_some]
    rw [← BitVec.xor_assoc, BitVec.xor_self, BitVec.zero_xor]
  · rw [if_neg h, if_neg (fun e => h e.symm), BitVec.xor_self]; rfl
theorem flip_apart (s : Stt) (hs : s.length = 16) (b : Nat) (hb : b < 512) : ∀ i, i ≤ 16 → apartN s (flip s b) i = if b / 32 < i then 1 else 0
  | 0, _ => by simp [apartN]
  | i + 1, h => by
    rw [apartN, flip_apart s hs b hb i (by omega), flip_get s hs b hb i (by omega)]
    by_cases h1 : i = b / 32
    · rw [if_pos h1, pop_bit _ (by omega), if_neg (by omega), if_pos (by omega)]
    · rw [if_neg h1, pop_zero]
      by_cases h2 : b / 32 < i
      · rw [if_pos h2, if_pos (by omega)]
      · rw [if_neg h2, if_neg (by omega)]
theorem flip_one (s : Stt) (hs : s.length = 16) (b : Nat) (hb : b < 512) : apart s (flip s b) = 1 := by
  unfold apart
  rw [flip_apart s hs b hb 16 (Nat.le_refl _), if_pos (by omega)]
theorem trl_zero (s o : Stt) : trl s o 0 = apart s o := by rw [trl, fwd, fwd]
theorem trl_pos (s : Stt) (hs : s.length = 16) (b : Nat) (hb : b < 512) (k : Nat) : 1 ≤ trl s (flip s b) k ∧ trl s (flip s b) k ≤ 512 := by
  refine ⟨?_, apart_le _ _⟩
  rcases Nat.eq_zero_or_pos (trl s (flip s b) k) with h | h
  · have h1 := (apart_iff _ _ (by rw [fwd_len, hs]) (by rw [fwd_len, flip_len, hs])).1 h
    have h2 := bwd_fwd s hs k
    rw [h1, bwd_fwd _ (by rw [flip_len, hs])] at h2
    have h3 := flip_one s hs b hb
    rw [h2, apart, apartN_same s 16] at h3
    omega
  · exact h
theorem apart_same (s : Stt) : apart s s = 0 := apartN_same s 16
theorem apart_comm (s o : Stt) : apart s o = apart o s := apartN_comm s o 16
theorem apart_tri (s o p : Stt) : apart s p ≤ apart s o + apart o p := apartN_tri s o p 16
attribute [local irreducible] apart
set_option maxRecDepth 4000 in
theorem mixApart (s o p : Stt) (hs : s.length = 16) (ho : o.length = 16) (hp : p.length = 16) (w0 : World) : Does Try.prog 10 [stV s, stV o, stV p] w0 fun v w' => v = .bool true ∧ Kp No w0 w' := by
  have hw := St.start (w := w0) .nil
  have hl : (wC s).length = 16 := by rw [List.length_map, hs]
  have hl2 : (wC o).length = 16 := by rw [List.length_map, ho]
  have hl3 : (wC p).length = 16 := by rw [List.length_map, hp]
  have a1 : apart s s = 0 := apart_same s
  have a2 : apart o s = apart s o := apart_comm o s
  have a3 : apart s p ≤ apart s o + apart o p := apart_tri s o p
  have a4 := apart_iff s o hs ho
  have b1 := apart_le s o
  have b2 := apart_le o p
  refine fn_enter Try.func10 rfl Try.ntmps10 rfl ?_
  repeat (first | refine X.p1 ?_ | refine X.p2 ?_ | refine X.p6 ?_ | refine X.p7 ?_ | refine X.p0 ?_ | refine X.p3 ?_ | refine X.p4 ?_ | refine X.p5 ?_ | refine X.p8 ?_ | refine X.p9 ?_ | refine X.q1 ?_ | refine X.q2 ?_ | refine X.q3 ?_ | refine X.q4 ?_ | refine X.q5 ?_ | refine X.q6 ?_ | refine X.q7 ?_ | refine X.q8 ?_ | refine X.q9 ?_ | refine X.q0 ?_ | refine X.m1 ?_ | refine X.m2 ?_ | refine X.m3 ?_ | refine X.m4 ?_ | refine X.m5 ?_ | refine X.m6 ?_ | refine X.l11 ?_ | refine X.l1 ?_ | refine X.l2 ?_ | refine X.l3 ?_ | refine X.l4 ?_ | refine X.l5 ?_ | refine X.l10 ?_ | refine X.l6 ?_ | refine X.l7 ?_ | refine X.l8 ?_ | refine X.l9 ?_ | refine X.m7 ?_ | refine X.m8 ?_ | (refine X.s1 ?_; intro w hw) | (refine X.s2 ?_; intro w hw) | refine X.e1 ?_ | refine X.e2 ?_ | (simp only [X.df]) | (simp (disch := omega) only [wi]))
  (first | refine X.nb ?_ | refine X.na ?_); intro g1 w _ hw
  (first | refine X.nb ?_ | refine X.na ?_); intro g2 w _ hw
  (first | refine X.nb ?_ | refine X.na ?_); intro g3 w _ hw
  repeat (first | refine X.p1 ?_ | refine X.p2 ?_ | refine X.p6 ?_ | refine X.p7 ?_ | refine X.p0 ?_ | refine X.p3 ?_ | refine X.p4 ?_ | refine X.p5 ?_ | refine X.p8 ?_ | refine X.p9 ?_ | refine X.q1 ?_ | refine X.q2 ?_ | refine X.q3 ?_ | refine X.q4 ?_ | refine X.q5 ?_ | refine X.q6 ?_ | refine X.q7 ?_ | refine X.q8 ?_ | refine X.q9 ?_ | refine X.q0 ?_ | refine X.m1 ?_ | refine X.m2 ?_ | refine X.m3 ?_ | refine X.m4 ?_ | refine X.m5 ?_ | refine X.m6 ?_ | refine X.l11 ?_ | refine X.l1 ?_ | refine X.l2 ?_ | refine X.l3 ?_ | refine X.l4 ?_ | refine X.l5 ?_ | refine X.l10 ?_ | refine X.l6 ?_ | refine X.l7 ?_ | refine X.l8 ?_ | refine X.l9 ?_ | refine X.m7 ?_ | refine X.m8 ?_ | (refine X.s1 ?_; intro w hw) | (refine X.s2 ?_; intro w hw) | refine X.e1 ?_ | refine X.e2 ?_ | (simp only [X.df]) | (simp (disch := omega) only [wi]))
  refine X.mix [0, 1, 2, 3, 4, 5, 6, 7, 8, 9, 10, 12, 13, 11, 14, 15, 16, 17, 18, 19, 21, 22, 24, 25, 20, 23, 26, 27, 28, 29, 30, 31, 32, 35, 36, 37, 33, 34, 38, 39] [] hw fun w hk hw => ?_
  repeat (first | refine X.r1 ?_ | refine X.r2 ?_ | refine X.r4 ?_ | refine X.r3 ?_ | refine X.rm1 ?_ | refine X.rm2 ?_ | refine X.rm3 ?_ | refine X.rm4 ?_ | refine X.rm5 ?_ | refine X.rl11 ?_ | refine X.rl1 ?_ | refine X.rl2 ?_ | refine X.rl3 ?_ | refine X.rl5 ?_ | refine X.rl6 ?_ | refine X.rm8 ?_ | refine X.re1 ?_ | refine X.re2 ?_ | (simp only [X.df]) | (simp (disch := omega) only [wi]))
  refine X.act ?_; refine X.call rfl rfl Try.func44 (awake w) ?_; rintro _ w ⟨rfl, rfl⟩; refine mid_a hk ?_
  repeat (first | refine X.r1 ?_ | refine X.r2 ?_ | refine X.r4 ?_ | refine X.r3 ?_ | refine X.rm1 ?_ | refine X.rm2 ?_ | refine X.rm3 ?_ | refine X.rm4 ?_ | refine X.rm5 ?_ | refine X.rl11 ?_ | refine X.rl1 ?_ | refine X.rl2 ?_ | refine X.rl3 ?_ | refine X.rl5 ?_ | refine X.rl6 ?_ | refine X.rm8 ?_ | refine X.re1 ?_ | refine X.re2 ?_ | (simp only [X.df]) | (simp (disch := omega) only [wi]))
  refine X.act ?_; refine X.callN rfl rfl Try.func48 (apart_calls s s hs hs w) fun w kk hw => ?_; have hk := hk.no kk; refine mid_a hk ?_
  rw [a1]
  repeat (first | refine X.r1 ?_ | refine X.r2 ?_ | refine X.r4 ?_ | refine X.r3 ?_ | refine X.rm1 ?_ | refine X.rm2 ?_ | refine X.rm3 ?_ | refine X.rm4 ?_ | refine X.rm5 ?_ | refine X.rl11 ?_ | refine X.rl1 ?_ | refine X.rl2 ?_ | refine X.rl3 ?_ | refine X.rl5 ?_ | refine X.rl6 ?_ | refine X.rm8 ?_ | refine X.re1 ?_ | refine X.re2 ?_ | (simp only [X.df]) | (simp (disch := omega) only [wi]))
  refine X.act ?_; refine X.callN rfl rfl Try.func48 (apart_calls s o hs ho w) fun w kk hw => ?_; have hk := hk.no kk; refine mid_a hk ?_
  repeat (first | refine X.r1 ?_ | refine X.r2 ?_ | refine X.r4 ?_ | refine X.r3 ?_ | refine X.rm1 ?_ | refine X.rm2 ?_ | refine X.rm3 ?_ | refine X.rm4 ?_ | refine X.rm5 ?_ | refine X.rl11 ?_ | refine X.rl1 ?_ | refine X.rl2 ?_ | refine X.rl3 ?_ | refine X.rl5 ?_ | refine X.rl6 ?_ | refine X.rm8 ?_ | refine X.re1 ?_ | refine X.re2 ?_ | (simp only [X.df]) | (simp (disch := omega) only [wi]))
  refine X.act ?_; refine X.callN rfl rfl Try.func48 (apart_calls o s ho hs w) fun w kk hw => ?_; have hk := hk.no kk; refine mid_a hk ?_
  rw [a2]
  repeat (first | refine X.r1 ?_ | refine X.r2 ?_ | refine X.r4 ?_ | refine X.r3 ?_ | refine X.rm1 ?_ | refine X.rm2 ?_ | refine X.rm3 ?_ | refine X.rm4 ?_ | refine X.rm5 ?_ | refine X.rl11 ?_ | refine X.rl1 ?_ | refine X.rl2 ?_ | refine X.rl3 ?_ | refine X.rl5 ?_ | refine X.rl6 ?_ | refine X.rm8 ?_ | refine X.re1 ?_ | refine X.re2 ?_ | (simp only [X.df]) | (simp (disch := omega) only [wi]))
  refine X.act ?_; refine X.callN rfl rfl Try.func48 (apart_calls s p hs hp w) fun w kk hw => ?_; have hk := hk.no kk; refine mid_a hk ?_
  repeat (first | refine X.r1 ?_ | refine X.r2 ?_ | refine X.r4 ?_ | refine X.r3 ?_ | refine X.rm1 ?_ | refine X.rm2 ?_ | refine X.rm3 ?_ | refine X.rm4 ?_ | refine X.rm5 ?_ | refine X.rl11 ?_ | refine X.rl1 ?_ | refine X.rl2 ?_ | refine X.rl3 ?_ | refine X.rl5 ?_ | refine X.rl6 ?_ | refine X.rm8 ?_ | refine X.re1 ?_ | refine X.re2 ?_ | (simp only [X.df]) | (simp (disch := omega) only [wi]))
  refine X.act ?_; refine X.callN rfl rfl Try.func48 (apart_calls s o hs ho w) fun w kk hw => ?_; have hk := hk.no kk; refine mid_a hk ?_
  repeat (first | refine X.r1 ?_ | refine X.r2 ?_ | refine X.r4 ?_ | refine X.r3 ?_ | refine X.rm1 ?_ | refine X.rm2 ?_ | refine X.rm3 ?_ | refine X.rm4 ?_ | refine X.rm5 ?_ | refine X.rl11 ?_ | refine X.rl1 ?_ | refine X.rl2 ?_ | refine X.rl3 ?_ | refine X.rl5 ?_ | refine X.rl6 ?_ | refine X.rm8 ?_ | refine X.re1 ?_ | refine X.re2 ?_ | (simp only [X.df]) | (simp (disch := omega) only [wi]))
  refine X.act ?_; refine X.callN rfl rfl Try.func48 (apart_calls o p ho hp w) fun w kk hw => ?_; have hk := hk.no kk; refine mid_a hk ?_
  have a3' : ¬ (apart s p : Int) > (apart s o : Int) + (apart o p : Int) := by omega
  repeat (first | refine X.r1 ?_ | refine X.r2 ?_ | refine X.r4 ?_ | refine X.r3 ?_ | refine X.rm1 ?_ | refine X.rm2 ?_ | refine X.rm3 ?_ | refine X.rm4 ?_ | refine X.rm5 ?_ | refine X.rl11 ?_ | refine X.rl1 ?_ | refine X.rl2 ?_ | refine X.rl3 ?_ | refine X.rl5 ?_ | refine X.rl6 ?_ | refine X.rm8 ?_ | refine X.re1 ?_ | refine X.re2 ?_ | (simp only [X.df, a3']) | (simp (disch := omega) only [wi]))
  refine mw_any rfl rfl rfl rfl rfl (fun w0 => ow_eqA eqSt rfl rfl (by kernel_rfl) (a := s) (b := o) ⟨hs, fun _ _ => trivial⟩ ⟨ho, fun _ _ => trivial⟩ rfl rfl rfl fin) (fun _ => ⟨_, rfl⟩) ?_
  repeat (first | refine X.r1 ?_ | refine X.r2 ?_ | refine X.r4 ?_ | refine X.r3 ?_ | refine X.rm1 ?_ | refine X.rm2 ?_ | refine X.rm3 ?_ | refine X.rm4 ?_ | refine X.rm5 ?_ | refine X.rl11 ?_ | refine X.rl1 ?_ | refine X.rl2 ?_ | refine X.rl3 ?_ | refine X.rl5 ?_ | refine X.rl6 ?_ | refine X.rm8 ?_ | refine X.re1 ?_ | refine X.re2 ?_ | (simp only [X.df]) | (simp (disch := omega) only [wi]))
  refine X.act ?_; refine X.callN rfl rfl Try.func48 (apart_calls s o hs ho w) fun w kk hw => ?_; have hk := hk.no kk; refine mid_a hk ?_
  have a5 : ((apart s o : Int) == 0) = decide (s = o) := by
    rw [Bool.eq_iff_iff, beq_iff_eq, decide_eq_true_iff, ← a4]; omega
  repeat (first | refine X.r1 ?_ | refine X.r2 ?_ | refine X.r4 ?_ | refine X.r3 ?_ | refine X.rm1 ?_ | refine X.rm2 ?_ | refine X.rm3 ?_ | refine X.rm4 ?_ | refine X.rm5 ?_ | refine X.rl11 ?_ | refine X.rl1 ?_ | refine X.rl2 ?_ | refine X.rl3 ?_ | refine X.rl5 ?_ | refine X.rl6 ?_ | refine X.rm8 ?_ | refine X.re1 ?_ | refine X.re2 ?_ | (simp only [X.df, a5]) | (simp (disch := omega) only [wi]))
  repeat (first | refine X.p1 ?_ | refine X.p2 ?_ | refine X.p6 ?_ | refine X.p7 ?_ | refine X.p0 ?_ | refine X.p3 ?_ | refine X.p4 ?_ | refine X.p5 ?_ | refine X.p8 ?_ | refine X.p9 ?_ | refine X.q1 ?_ | refine X.q2 ?_ | refine X.q3 ?_ | refine X.q4 ?_ | refine X.q5 ?_ | refine X.q6 ?_ | refine X.q7 ?_ | refine X.q8 ?_ | refine X.q9 ?_ | refine X.q0 ?_ | refine X.m1 ?_ | refine X.m2 ?_ | refine X.m3 ?_ | refine X.m4 ?_ | refine X.m5 ?_ | refine X.m6 ?_ | refine X.l11 ?_ | refine X.l1 ?_ | refine X.l2 ?_ | refine X.l3 ?_ | refine X.l4 ?_ | refine X.l5 ?_ | refine X.l10 ?_ | refine X.l6 ?_ | refine X.l7 ?_ | refine X.l8 ?_ | refine X.l9 ?_ | refine X.m7 ?_ | refine X.m8 ?_ | (refine X.s1 ?_; intro w hw) | (refine X.s2 ?_; intro w hw) | refine X.e1 ?_ | refine X.e2 ?_ | (simp only [X.df]) | (simp (disch := omega) only [wi]))
  have r1 := getP o ho 0 (by decide)
  have r2 := getP p hp 0 (by decide)
  refine st_load1 tab hw rfl (by (repeat (first | (with_reducible exact Pick.here) | (with_reducible exact Put.here) | (with_reducible apply Pick.there) | (with_reducible apply Put.there)))) rfl rfl rfl r1 ?_
  repeat (first | refine X.p1 ?_ | refine X.p2 ?_ | refine X.p6 ?_ | refine X.p7 ?_ | refine X.p0 ?_ | refine X.p3 ?_ | refine X.p4 ?_ | refine X.p5 ?_ | refine X.p8 ?_ | refine X.p9 ?_ | refine X.q1 ?_ | refine X.q2 ?_ | refine X.q3 ?_ | refine X.q4 ?_ | refine X.q5 ?_ | refine X.q6 ?_ | refine X.q7 ?_ | refine X.q8 ?_ | refine X.q9 ?_ | refine X.q0 ?_ | refine X.m1 ?_ | refine X.m2 ?_ | refine X.m3 ?_ | refine X.m4 ?_ | refine X.m5 ?_ | refine X.m6 ?_ | refine X.l11 ?_ | refine X.l1 ?_ | refine X.l2 ?_ | refine X.l3 ?_ | refine X.l4 ?_ | refine X.l5 ?_ | refine X.l10 ?_ | refine X.l6 ?_ | refine X.l7 ?_ | refine X.l8 ?_ | refine X.l9 ?_ | refine X.m7 ?_ | refine X.m8 ?_ | (refine X.s1 ?_; intro w hw) | (refine X.s2 ?_; intro w hw) | refine X.e1 ?_ | refine X.e2 ?_ | (simp only [X.df]) | (simp (disch := omega) only [wi]))
  refine ow_rem (z := (((o.getD 0 0).toNat % 512 : Nat) : Int)) rfl rfl rfl (by decide) (Int.ofNat_tmod _ _) ?_
  repeat (first | refine X.p1 ?_ | refine X.p2 ?_ | refine X.p6 ?_ | refine X.p7 ?_ | refine X.p0 ?_ | refine X.p3 ?_ | refine X.p4 ?_ | refine X.p5 ?_ | refine X.p8 ?_ | refine X.p9 ?_ | refine X.q1 ?_ | refine X.q2 ?_ | refine X.q3 ?_ | refine X.q4 ?_ | refine X.q5 ?_ | refine X.q6 ?_ | refine X.q7 ?_ | refine X.q8 ?_ | refine X.q9 ?_ | refine X.q0 ?_ | refine X.m1 ?_ | refine X.m2 ?_ | refine X.m3 ?_ | refine X.m4 ?_ | refine X.m5 ?_ | refine X.m6 ?_ | refine X.l11 ?_ | refine X.l1 ?_ | refine X.l2 ?_ | refine X.l3 ?_ | refine X.l4 ?_ | refine X.l5 ?_ | refine X.l10 ?_ | refine X.l6 ?_ | refine X.l7 ?_ | refine X.l8 ?_ | refine X.l9 ?_ | refine X.m7 ?_ | refine X.m8 ?_ | (refine X.s1 ?_; intro w hw) | (refine X.s2 ?_; intro w hw) | refine X.e1 ?_ | refine X.e2 ?_ | (simp only [X.df]) | (simp (disch := omega) only [wi]))
  refine st_load1 tab hw rfl (by (repeat (first | (with_reducible exact Pick.here) | (with_reducible exact Put.here) | (with_reducible apply Pick.there) | (with_reducible apply Put.there)))) rfl rfl rfl r2 ?_
  repeat (first | refine X.p1 ?_ | refine X.p2 ?_ | refine X.p6 ?_ | refine X.p7 ?_ | refine X.p0 ?_ | refine X.p3 ?_ | refine X.p4 ?_ | refine X.p5 ?_ | refine X.p8 ?_ | refine X.p9 ?_ | refine X.q1 ?_ | refine X.q2 ?_ | refine X.q3 ?_ | refine X.q4 ?_ | refine X.q5 ?_ | refine X.q6 ?_ | refine X.q7 ?_ | refine X.q8 ?_ | refine X.q9 ?_ | refine X.q0 ?_ | refine X.m1 ?_ | refine X.m2 ?_ | refine X.m3 ?_ | refine X.m4 ?_ | refine X.m5 ?_ | refine X.m6 ?_ | refine X.l11 ?_ | refine X.l1 ?_ | refine X.l2 ?_ | refine X.l3 ?_ | refine X.l4 ?_ | refine X.l5 ?_ | refine X.l10 ?_ | refine X.l6 ?_ | refine X.l7 ?_ | refine X.l8 ?_ | refine X.l9 ?_ | refine X.m7 ?_ | refine X.m8 ?_ | (refine X.s1 ?_; intro w hw) | (refine X.s2 ?_; intro w hw) | refine X.e1 ?_ | refine X.e2 ?_ | (simp only [X.df]) | (simp (disch := omega) only [wi]))
  refine ow_rem (z := (((p.getD 0 0).toNat % 20 : Nat) : Int)) rfl rfl rfl (by decide) (Int.ofNat_tmod _ _) ?_
  obtain ⟨b, hb, hb2⟩ : ∃ b, b = (o.getD 0 0).toNat % 512 ∧ b < 512 := ⟨_, rfl, by omega⟩
  obtain ⟨m, hm, hm2⟩ : ∃ m, m = (p.getD 0 0).toNat % 20 ∧ m < 20 := ⟨_, rfl, by omega⟩
  rw [← hb, ← hm]
  repeat (first | refine X.p1 ?_ | refine X.p2 ?_ | refine X.p6 ?_ | refine X.p7 ?_ | refine X.p0 ?_ | refine X.p3 ?_ | refine X.p4 ?_ | refine X.p5 ?_ | refine X.p8 ?_ | refine X.p9 ?_ | refine X.q1 ?_ | refine X.q2 ?_ | refine X.q3 ?_ | refine X.q4 ?_ | refine X.q5 ?_ | refine X.q6 ?_ | refine X.q7 ?_ | refine X.q8 ?_ | refine X.q9 ?_ | refine X.q0 ?_ | refine X.m1 ?_ | refine X.m2 ?_ | refine X.m3 ?_ | refine X.m4 ?_ | refine X.m5 ?_ | refine X.m6 ?_ | refine X.l11 ?_ | refine X.l1 ?_ | refine X.l2 ?_ | refine X.l3 ?_ | refine X.l4 ?_ | refine X.l5 ?_ | refine X.l10 ?_ | refine X.l6 ?_ | refine X.l7 ?_ | refine X.l8 ?_ | refine X.l9 ?_ | refine X.m7 ?_ | refine X.m8 ?_ | (refine X.s1 ?_; intro w hw) | (refine X.s2 ?_; intro w hw) | refine X.e1 ?_ | refine X.e2 ?_ | (simp only [X.df]) | (simp (disch := omega) only [wi]))
  refine X.call rfl rfl Try.func50 (trail_calls s hs b m w) ?_
  rintro _ w1 (⟨hok, u, rfl, hh⟩ | ⟨hbad, rfl, hk⟩)
  · have hw := hw.call .nil hh
    simp only [List.cons_append, List.nil_append, Int.toNat_natCast] at hw
    obtain ⟨A, c, rfl, hrow⟩ := hw.vecRow (v := u) (by (repeat (first | (with_reducible exact Pick.here) | (with_reducible exact Put.here) | (with_reducible apply Pick.there) | (with_reducible apply Put.there))))
    have hw := hw.frz (A := A) (by repeat (first | exact Put.here | apply Put.there))
    have hget : ∀ i, i < m + 1 → (trC s (flip s b) (m + 1))[(i : Int).toNat * 1]? = some (iv (trl s (flip s b) i)) := fun i h => by rw [Int.toNat_natCast, Nat.mul_one]; simp [trC, h]
    have hne : trC s (flip s b) (m + 1) ≠ [] := fun e => by have := congrArg List.length e; rw [trC_len] at this; simp at this
    obtain ⟨g, o', rfl, hat⟩ := hw.rowSome (by (repeat (first | (with_reducible exact Pick.here) | (with_reducible exact Put.here) | (with_reducible apply Pick.there) | (with_reducible apply Put.there)))) hne
    have h00 := hget 0 (by omega)
    rw [trl_zero, flip_one s hs b hb2] at h00
    have hlen : ¬ (((m + 1 : Nat) : Int) = 0) := by omega
    have hlb : (((m + 1 : Nat) : Int) == 0) = false := by simpa using hlen
    repeat (first | refine X.p1 ?_ | refine X.p2 ?_ | refine X.p6 ?_ | refine X.p7 ?_ | refine X.p0 ?_ | refine X.p3 ?_ | refine X.p4 ?_ | refine X.p5 ?_ | refine X.p8 ?_ | refine X.p9 ?_ | refine X.q1 ?_ | refine X.q2 ?_ | refine X.q3 ?_ | refine X.q4 ?_ | refine X.q5 ?_ | refine X.q6 ?_ | refine X.q7 ?_ | refine X.q8 ?_ | refine X.q9 ?_ | refine X.q0 ?_ | refine X.m1 ?_ | refine X.m2 ?_ | refine X.m3 ?_ | refine X.m4 ?_ | refine X.m5 ?_ | refine X.m6 ?_ | refine X.l11 ?_ | refine X.l1 ?_ | refine X.l2 ?_ | refine X.l3 ?_ | refine X.l4 ?_ | refine X.l5 ?_ | refine X.l10 ?_ | refine X.l6 ?_ | refine X.l7 ?_ | refine X.l8 ?_ | refine X.l9 ?_ | refine X.m7 ?_ | refine X.m8 ?_ | (refine X.s1 ?_; intro w hw) | (refine X.s2 ?_; intro w hw) | refine X.e1 ?_ | refine X.e2 ?_ | (simp only [X.df, hlb]) | (simp (disch := omega) only [wi]))
    refine X.loop (fun i : Nat => [(77, .slice (some ⟨g, o', none⟩) (m + 1) c), (78, .int .i64 ((m + 1 : Nat) : Int)), (79, .int .i64 (i : Int))])
      (fun i w' => i ≤ m + 1 ∧ St w0 [] [rowI (some ⟨g, o', none⟩) (trC s (flip s b) (m + 1))] w') (fun i => m + 1 - i) 0 ⟨Nat.zero_le _, hw.sub (by (repeat (first | (with_reducible exact Split.nil) | ((with_reducible apply Split.cons); (next => (repeat (first | (with_reducible exact Pick.here) | (with_reducible exact Put.here) | (with_reducible apply Pick.there) | (with_reducible apply Put.there))))))))⟩ ?_
    rintro i w ⟨hi, hw⟩
    repeat (first | refine X.p1 ?_ | refine X.p2 ?_ | refine X.p6 ?_ | refine X.p7 ?_ | refine X.p0 ?_ | refine X.p3 ?_ | refine X.p4 ?_ | refine X.p5 ?_ | refine X.p8 ?_ | refine X.p9 ?_ | refine X.q1 ?_ | refine X.q2 ?_ | refine X.q3 ?_ | refine X.q4 ?_ | refine X.q5 ?_ | refine X.q6 ?_ | refine X.q7 ?_ | refine X.q8 ?_ | refine X.q9 ?_ | refine X.q0 ?_ | refine X.m1 ?_ | refine X.m2 ?_ | refine X.m3 ?_ | refine X.m4 ?_ | refine X.m5 ?_ | refine X.m6 ?_ | refine X.l11 ?_ | refine X.l1 ?_ | refine X.l2 ?_ | refine X.l3 ?_ | refine X.l4 ?_ | refine X.l5 ?_ | refine X.l10 ?_ | refine X.l6 ?_ | refine X.l7 ?_ | refine X.l8 ?_ | refine X.l9 ?_ | refine X.m7 ?_ | refine X.m8 ?_ | (refine X.s1 ?_; intro w hw) | (refine X.s2 ?_; intro w hw) | refine X.e1 ?_ | refine X.e2 ?_ | (simp only [X.df]) | (simp (disch := omega) only [wi]))
    refine X.cond (fun hlt => ?_) (fun hge => ?_)
    · have hlt : i < m + 1 := by omega
      have hgi := hget i hlt
      have htp := trl_pos s hs b hb2 i
      obtain ⟨x, hx⟩ : ∃ x, x = trl s (flip s b) i := ⟨_, rfl⟩
      rw [← hx] at hgi htp
      have c1 : ¬ (x : Int) < 1 := by omega
      have c2 : ¬ (x : Int) > 512 := by omega
      repeat (first | refine X.p1 ?_ | refine X.p2 ?_ | refine X.p6 ?_ | refine X.p7 ?_ | refine X.p0 ?_ | refine X.p3 ?_ | refine X.p4 ?_ | refine X.p5 ?_ | refine X.p8 ?_ | refine X.p9 ?_ | refine X.q1 ?_ | refine X.q2 ?_ | refine X.q3 ?_ | refine X.q4 ?_ | refine X.q5 ?_ | refine X.q6 ?_ | refine X.q7 ?_ | refine X.q8 ?_ | refine X.q9 ?_ | refine X.q0 ?_ | refine X.m1 ?_ | refine X.m2 ?_ | refine X.m3 ?_ | refine X.m4 ?_ | refine X.m5 ?_ | refine X.m6 ?_ | refine X.l11 ?_ | refine X.l1 ?_ | refine X.l2 ?_ | refine X.l3 ?_ | refine X.l4 ?_ | refine X.l5 ?_ | refine X.l10 ?_ | refine X.l6 ?_ | refine X.l7 ?_ | refine X.l8 ?_ | refine X.l9 ?_ | refine X.m7 ?_ | refine X.m8 ?_ | (refine X.s1 ?_; intro w hw) | (refine X.s2 ?_; intro w hw) | refine X.e1 ?_ | refine X.e2 ?_ | (simp only [X.df, c1, c2]) | (simp (disch := omega) only [wi]))
      exact X.again (i + 1) ⟨by omega, hw⟩ (by omega)
    · obtain rfl : i = m + 1 := by omega
      repeat (first | refine X.p1 ?_ | refine X.p2 ?_ | refine X.p6 ?_ | refine X.p7 ?_ | refine X.p0 ?_ | refine X.p3 ?_ | refine X.p4 ?_ | refine X.p5 ?_ | refine X.p8 ?_ | refine X.p9 ?_ | refine X.q1 ?_ | refine X.q2 ?_ | refine X.q3 ?_ | refine X.q4 ?_ | refine X.q5 ?_ | refine X.q6 ?_ | refine X.q7 ?_ | refine X.q8 ?_ | refine X.q9 ?_ | refine X.q0 ?_ | refine X.m1 ?_ | refine X.m2 ?_ | refine X.m3 ?_ | refine X.m4 ?_ | refine X.m5 ?_ | refine X.m6 ?_ | refine X.l11 ?_ | refine X.l1 ?_ | refine X.l2 ?_ | refine X.l3 ?_ | refine X.l4 ?_ | refine X.l5 ?_ | refine X.l10 ?_ | refine X.l6 ?_ | refine X.l7 ?_ | refine X.l8 ?_ | refine X.l9 ?_ | refine X.m7 ?_ | refine X.m8 ?_ | (refine X.s1 ?_; intro w hw) | (refine X.s2 ?_; intro w hw) | refine X.e1 ?_ | refine X.e2 ?_ | (simp only [X.df]) | (simp (disch := omega) only [wi]))
      exact xw_ret (vs := [_]) Try.results10 ⟨rfl, trivial⟩ ⟨rfl, hw.kpNo ro_nil⟩
  · exact absurd (show TrOk b m from ⟨by omega, by omega, by omega, by omega⟩) hbad
end Go.Proofs.Ytfpikmfonpnicaa.MixR
