/- How far states are apart, walked. -/
import Derived.Test.YtfpikmfonpnicaaMix3
set_option linter.unusedVariables false
set_option linter.unusedSimpArgs false
namespace Go.Proofs.Ytfpikmfonpnicaa.MixR
open Go.RowKit Go.Proofs.Ytfpikmfonpnicaa.Sx Go.Proofs.Ytfpikmfonpnicaa.Mx Go.Proofs.Ytfpikmfonpnicaa.Bw Go.Proofs.Ytfpikmfonpnicaa.By Go.Proofs.Ytfpikmfonpnicaa.Eqs Go.Proofs.Ytfpikmfonpnicaa.Qx Go.Proofs.Ytfpikmfonpnicaa.Ap Go.Proofs.Ytfpikmfonpnicaa.Mi Go.Proofs.Ytfpikmfonpnicaa.Stm Go.Proofs.Ytfpikmfonpnicaa.Fl Go.Proofs.Ytfpikmfonpnicaa.MixQ
attribute [local irreducible] Ow Cw Xw Mw
set_option maxHeartbeats 4000000
/-- How many ones. -/
def popF : Nat → Nat → Nat
  | 0, _ => 0
  | k + 1, n => n % 2 + popF k (n / 2)
theorem popF_add : ∀ (k j a b : Nat), b < 2 ^ k → popF (k + j) (2 ^ k * a + b) = popF k b + popF j a
  | 0, j, a, b, h => by
    have : b = 0 := by omega
    subst this; simp [popF]
  | k + 1, j, a, b, h => by
    have e : (k + 1) + j = (k + j) + 1 := by omega
    rw [e, popF, popF]
    have e1 : (2 ^ (k + 1) * a + b) % 2 = b % 2 := by rw [Nat.pow_succ, Nat.mul_comm (2 ^ k) 2, Nat.mul_assoc]; omega
    have e2 : (2 ^ (k + 1) * a + b) / 2 = 2 ^ k * a + b / 2 := by rw [Nat.pow_succ, Nat.mul_comm (2 ^ k) 2, Nat.mul_assoc]; omega
    rw [e1, e2, popF_add k j a (b / 2) (by rw [Nat.pow_succ] at h; omega)]
    omega
theorem popF_le : ∀ k n, popF k n ≤ k
  | 0, _ => Nat.le_refl _
  | k + 1, n => by have := popF_le k (n / 2); rw [popF]; omega
theorem popF_zero : ∀ k, popF k 0 = 0
  | 0 => rfl
  | k + 1 => by rw [popF, popF_zero k]
def pop (x : BitVec 32) : Nat := popF 32 x.toNat
def pb (n : Nat) : Byte := BitVec.ofNat 8 (popF 8 n)
def tabB : List Byte := (List.range 256).map pb
theorem pb_nat (n : Nat) : (pb n).toNat = popF 8 n := by
  have := popF_le 8 n
  rw [pb, BitVec.toNat_ofNat]; omega
theorem tab_get (n : Nat) (h : n < 256) : tabB[((n : Nat) : Int).toNat]? = some (pb n) := by simp [tabB, h]
theorem and255 (x : BitVec 32) : (x &&& 255).toNat = x.toNat % 256 := by
  rw [BitVec.toNat_and]; exact Nat.and_two_pow_sub_one_eq_mod _ 8
theorem and255i (x : BitVec 32) : bits .and .u32 (x.toNat : Int) 255 = ((x.toNat % 256 : Nat) : Int) := by
  have := and_u32 x (255 : BitVec 32)
  rw [and255] at this
  exact this
theorem shr_nat32 (x : BitVec 32) (n : Nat) : (x >>> n).toNat = x.toNat / 2 ^ n := by rw [BitVec.toNat_ushiftRight, Nat.shiftRight_eq_div_pow]
theorem pop_bytes (x : BitVec 32) : (pb (x.toNat / 2 ^ 24) + pb (x.toNat / 2 ^ 16 % 256) + pb (x.toNat / 2 ^ 8 % 256) + pb (x.toNat % 256)).toNat = pop x := by
  have h := x.isLt
  have h1 := popF_le 8 (x.toNat / 2 ^ 24)
  have h2 := popF_le 8 (x.toNat / 2 ^ 16 % 256)
  have h3 := popF_le 8 (x.toNat / 2 ^ 8 % 256)
  have h4 := popF_le 8 (x.toNat % 256)
  have e1 := popF_add 8 24 (x.toNat / 2 ^ 8) (x.toNat % 256) (by omega)
  have e2 := popF_add 8 16 (x.toNat / 2 ^ 16) (x.toNat / 2 ^ 8 % 256) (by omega)
  have e3 := popF_add 8 8 (x.toNat / 2 ^ 24) (x.toNat / 2 ^ 16 % 256) (by omega)
  rw [show 2 ^ 8 * (x.toNat / 2 ^ 8) + x.toNat % 256 = x.toNat from by omega] at e1
  rw [show 2 ^ 8 * (x.toNat / 2 ^ 16) + x.toNat / 2 ^ 8 % 256 = x.toNat / 2 ^ 8 from by omega] at e2
  rw [show 2 ^ 8 * (x.toNat / 2 ^ 24) + x.toNat / 2 ^ 16 % 256 = x.toNat / 2 ^ 16 from by omega] at e3
  simp only [BitVec.toNat_add, pb_nat]
  rw [pop, e1, e2, e3]
  omega
theorem ones_calls (x : BitVec 32) (w0 : World) : Does Try.prog 68 [u32 x] w0 fun v w' => v = .int .i64 (pop x : Int) ∧ Kp No w0 w' := by
  have hw := St.start (w := w0) .nil
  have hlt := x.isLt
  refine fn_enter Try.func68 rfl Try.ntmps68 rfl ?_
  repeat (first | refine X.p1 ?_ | refine X.p2 ?_ | refine X.p6 ?_ | refine X.p7 ?_ | refine X.p0 ?_ | refine X.p3 ?_ | refine X.p4 ?_ | refine X.p5 ?_ | refine X.p8 ?_ | refine X.p9 ?_ | refine X.q1 ?_ | refine X.q2 ?_ | refine X.q3 ?_ | refine X.q4 ?_ | refine X.q5 ?_ | refine X.q6 ?_ | refine X.q7 ?_ | refine X.q8 ?_ | refine X.q9 ?_ | refine X.q0 ?_ | refine X.m1 ?_ | refine X.m2 ?_ | refine X.m3 ?_ | refine X.m4 ?_ | refine X.m5 ?_ | refine X.m6 ?_ | refine X.l11 ?_ | refine X.l1 ?_ | refine X.l2 ?_ | refine X.l3 ?_ | refine X.l4 ?_ | refine X.l5 ?_ | refine X.l10 ?_ | refine X.l6 ?_ | refine X.l7 ?_ | refine X.l8 ?_ | refine X.l9 ?_ | refine X.m7 ?_ | refine X.m8 ?_ | (refine X.s1 ?_; intro w hw) | (refine X.s2 ?_; intro w hw) | refine X.e1 ?_ | refine X.e2 ?_ | (simp only [X.df]) | (simp (disch := omega) only [wi]))
  refine X.mix [0, 1, 2, 3, 4, 5, 6, 7, 8, 9, 10, 11, 12, 13, 14, 15, 16, 17, 18] [] hw fun w hk hw => ?_
  repeat (first | refine X.r1 ?_ | refine X.r2 ?_ | refine X.r4 ?_ | refine X.r3 ?_ | refine X.rm1 ?_ | refine X.rm2 ?_ | refine X.rm3 ?_ | refine X.rm4 ?_ | refine X.rm5 ?_ | refine X.rl11 ?_ | refine X.rl1 ?_ | refine X.rl2 ?_ | refine X.rl3 ?_ | refine X.rl5 ?_ | refine X.rl6 ?_ | refine X.rm8 ?_ | refine X.re1 ?_ | refine X.re2 ?_ | (simp only [X.df]) | (simp (disch := omega) only [wi]))
  refine mw_any rfl rfl rfl rfl rfl (fun w0 => ow_shr (z := ((x.toNat / 2 ^ 24 : Nat) : Int)) rfl rfl rfl (by decide) (by rw [← shr_nat32]; exact shr_u32 x 24) fin) (fun _ => ⟨_, rfl⟩) ?_
  refine mw_any rfl rfl rfl rfl rfl (fun w0 => ow_indexStr tab (s := tabB) rfl (by kernel_rfl) rfl rfl (by omega) (tab_get _ (by omega)) fin) (fun _ => ⟨_, rfl⟩) ?_
  repeat (first | refine X.r1 ?_ | refine X.r2 ?_ | refine X.r4 ?_ | refine X.r3 ?_ | refine X.rm1 ?_ | refine X.rm2 ?_ | refine X.rm3 ?_ | refine X.rm4 ?_ | refine X.rm5 ?_ | refine X.rl11 ?_ | refine X.rl1 ?_ | refine X.rl2 ?_ | refine X.rl3 ?_ | refine X.rl5 ?_ | refine X.rl6 ?_ | refine X.rm8 ?_ | refine X.re1 ?_ | refine X.re2 ?_ | (simp only [X.df]) | (simp (disch := omega) only [wi]))
  refine mw_any rfl rfl rfl rfl rfl (fun w0 => ow_shr (z := ((x >>> 16).toNat : Int)) rfl rfl rfl (by decide) (shr_u32 x 16) fin) (fun _ => ⟨_, rfl⟩) ?_
  repeat (first | refine X.r1 ?_ | refine X.r2 ?_ | refine X.r4 ?_ | refine X.r3 ?_ | refine X.rm1 ?_ | refine X.rm2 ?_ | refine X.rm3 ?_ | refine X.rm4 ?_ | refine X.rm5 ?_ | refine X.rl11 ?_ | refine X.rl1 ?_ | refine X.rl2 ?_ | refine X.rl3 ?_ | refine X.rl5 ?_ | refine X.rl6 ?_ | refine X.rm8 ?_ | refine X.re1 ?_ | refine X.re2 ?_ | (simp only [X.df, and255i]) | (simp (disch := omega) only [wi]))
  rw [shr_nat32]
  refine mw_any rfl rfl rfl rfl rfl (fun w0 => ow_indexStr tab (s := tabB) rfl (by kernel_rfl) rfl rfl (by omega) (tab_get _ (by omega)) fin) (fun _ => ⟨_, rfl⟩) ?_
  repeat (first | refine X.r1 ?_ | refine X.r2 ?_ | refine X.r4 ?_ | refine X.r3 ?_ | refine X.rm1 ?_ | refine X.rm2 ?_ | refine X.rm3 ?_ | refine X.rm4 ?_ | refine X.rm5 ?_ | refine X.rl11 ?_ | refine X.rl1 ?_ | refine X.rl2 ?_ | refine X.rl3 ?_ | refine X.rl5 ?_ | refine X.rl6 ?_ | refine X.rm8 ?_ | refine X.re1 ?_ | refine X.re2 ?_ | (simp only [X.df, add_u8]) | (simp (disch := omega) only [wi]))
  refine mw_any rfl rfl rfl rfl rfl (fun w0 => ow_shr (z := ((x >>> 8).toNat : Int)) rfl rfl rfl (by decide) (shr_u32 x 8) fin) (fun _ => ⟨_, rfl⟩) ?_
  repeat (first | refine X.r1 ?_ | refine X.r2 ?_ | refine X.r4 ?_ | refine X.r3 ?_ | refine X.rm1 ?_ | refine X.rm2 ?_ | refine X.rm3 ?_ | refine X.rm4 ?_ | refine X.rm5 ?_ | refine X.rl11 ?_ | refine X.rl1 ?_ | refine X.rl2 ?_ | refine X.rl3 ?_ | refine X.rl5 ?_ | refine X.rl6 ?_ | refine X.rm8 ?_ | refine X.re1 ?_ | refine X.re2 ?_ | (simp only [X.df, and255i]) | (simp (disch := omega) only [wi]))
  rw [shr_nat32]
  refine mw_any rfl rfl rfl rfl rfl (fun w0 => ow_indexStr tab (s := tabB) rfl (by kernel_rfl) rfl rfl (by omega) (tab_get _ (by omega)) fin) (fun _ => ⟨_, rfl⟩) ?_
  repeat (first | refine X.r1 ?_ | refine X.r2 ?_ | refine X.r4 ?_ | refine X.r3 ?_ | refine X.rm1 ?_ | refine X.rm2 ?_ | refine X.rm3 ?_ | refine X.rm4 ?_ | refine X.rm5 ?_ | refine X.rl11 ?_ | refine X.rl1 ?_ | refine X.rl2 ?_ | refine X.rl3 ?_ | refine X.rl5 ?_ | refine X.rl6 ?_ | refine X.rm8 ?_ | refine X.re1 ?_ | refine X.re2 ?_ | (simp only [X.df, add_u8, and255i]) | (simp (disch := omega) only [wi]))
  refine mw_any rfl rfl rfl rfl rfl (fun w0 => ow_indexStr tab (s := tabB) rfl (by kernel_rfl) rfl rfl (by omega) (tab_get _ (by omega)) fin) (fun _ => ⟨_, rfl⟩) ?_
  repeat (first | refine X.r1 ?_ | refine X.r2 ?_ | refine X.r4 ?_ | refine X.r3 ?_ | refine X.rm1 ?_ | refine X.rm2 ?_ | refine X.rm3 ?_ | refine X.rm4 ?_ | refine X.rm5 ?_ | refine X.rl11 ?_ | refine X.rl1 ?_ | refine X.rl2 ?_ | refine X.rl3 ?_ | refine X.rl5 ?_ | refine X.rl6 ?_ | refine X.rm8 ?_ | refine X.re1 ?_ | refine X.re2 ?_ | (simp only [X.df, add_u8, i64_u8]) | (simp (disch := omega) only [wi]))
  rw [pop_bytes]
  repeat (first | refine X.p1 ?_ | refine X.p2 ?_ | refine X.p6 ?_ | refine X.p7 ?_ | refine X.p0 ?_ | refine X.p3 ?_ | refine X.p4 ?_ | refine X.p5 ?_ | refine X.p8 ?_ | refine X.p9 ?_ | refine X.q1 ?_ | refine X.q2 ?_ | refine X.q3 ?_ | refine X.q4 ?_ | refine X.q5 ?_ | refine X.q6 ?_ | refine X.q7 ?_ | refine X.q8 ?_ | refine X.q9 ?_ | refine X.q0 ?_ | refine X.m1 ?_ | refine X.m2 ?_ | refine X.m3 ?_ | refine X.m4 ?_ | refine X.m5 ?_ | refine X.m6 ?_ | refine X.l11 ?_ | refine X.l1 ?_ | refine X.l2 ?_ | refine X.l3 ?_ | refine X.l4 ?_ | refine X.l5 ?_ | refine X.l10 ?_ | refine X.l6 ?_ | refine X.l7 ?_ | refine X.l8 ?_ | refine X.l9 ?_ | refine X.m7 ?_ | refine X.m8 ?_ | (refine X.s1 ?_; intro w hw) | (refine X.s2 ?_; intro w hw) | refine X.e1 ?_ | refine X.e2 ?_ | (simp only [X.df]) | (simp (disch := omega) only [wi]))
  exact xw_ret (vs := [_]) Try.results68 ⟨rfl, trivial⟩ ⟨rfl, hw.kpNo ro_nil⟩
/-- At how many bits two states differ, at the first i words. -/
def apartN (a b : Stt) : Nat → Nat
  | 0 => 0
  | i + 1 => apartN a b i + pop (a.getD i 0 ^^^ b.getD i 0)
theorem apartN_le (a b : Stt) : ∀ i, apartN a b i ≤ 32 * i
  | 0 => Nat.le_refl _
  | i + 1 => by have := apartN_le a b i; have := popF_le 32 (a.getD i 0 ^^^ b.getD i 0).toNat; rw [apartN, pop]; omega
def apart (a b : Stt) : Nat := apartN a b 16
theorem apart_le (a b : Stt) : apart a b ≤ 512 := apartN_le a b 16
theorem apart_calls (a b : Stt) (ha : a.length = 16) (hb : b.length = 16) (w0 : World) : Does Try.prog 48 [stV a, stV b] w0 fun v w' => v = .int .i64 (apart a b : Int) ∧ Kp No w0 w' := by
  have hw := St.start (w := w0) .nil
  have hl : (wC a).length = 16 := by rw [List.length_map, ha]
  have hl2 : (wC b).length = 16 := by rw [List.length_map, hb]
  refine fn_enter Try.func48 rfl Try.ntmps48 rfl ?_
  repeat (first | refine X.p1 ?_ | refine X.p2 ?_ | refine X.p6 ?_ | refine X.p7 ?_ | refine X.p0 ?_ | refine X.p3 ?_ | refine X.p4 ?_ | refine X.p5 ?_ | refine X.p8 ?_ | refine X.p9 ?_ | refine X.q1 ?_ | refine X.q2 ?_ | refine X.q3 ?_ | refine X.q4 ?_ | refine X.q5 ?_ | refine X.q6 ?_ | refine X.q7 ?_ | refine X.q8 ?_ | refine X.q9 ?_ | refine X.q0 ?_ | refine X.m1 ?_ | refine X.m2 ?_ | refine X.m3 ?_ | refine X.m4 ?_ | refine X.m5 ?_ | refine X.m6 ?_ | refine X.l11 ?_ | refine X.l1 ?_ | refine X.l2 ?_ | refine X.l3 ?_ | refine X.l4 ?_ | refine X.l5 ?_ | refine X.l10 ?_ | refine X.l6 ?_ | refine X.l7 ?_ | refine X.l8 ?_ | refine X.l9 ?_ | refine X.m7 ?_ | refine X.m8 ?_ | (refine X.s1 ?_; intro w hw) | (refine X.s2 ?_; intro w hw) | refine X.e1 ?_ | refine X.e2 ?_ | (simp only [X.df]) | (simp (disch := omega) only [wi]))
  (first | refine X.nb ?_ | refine X.na ?_); intro g1 w _ hw
  (first | refine X.nb ?_ | refine X.na ?_); intro g2 w _ hw
  repeat (first | refine X.p1 ?_ | refine X.p2 ?_ | refine X.p6 ?_ | refine X.p7 ?_ | refine X.p0 ?_ | refine X.p3 ?_ | refine X.p4 ?_ | refine X.p5 ?_ | refine X.p8 ?_ | refine X.p9 ?_ | refine X.q1 ?_ | refine X.q2 ?_ | refine X.q3 ?_ | refine X.q4 ?_ | refine X.q5 ?_ | refine X.q6 ?_ | refine X.q7 ?_ | refine X.q8 ?_ | refine X.q9 ?_ | refine X.q0 ?_ | refine X.m1 ?_ | refine X.m2 ?_ | refine X.m3 ?_ | refine X.m4 ?_ | refine X.m5 ?_ | refine X.m6 ?_ | refine X.l11 ?_ | refine X.l1 ?_ | refine X.l2 ?_ | refine X.l3 ?_ | refine X.l4 ?_ | refine X.l5 ?_ | refine X.l10 ?_ | refine X.l6 ?_ | refine X.l7 ?_ | refine X.l8 ?_ | refine X.l9 ?_ | refine X.m7 ?_ | refine X.m8 ?_ | (refine X.s1 ?_; intro w hw) | (refine X.s2 ?_; intro w hw) | refine X.e1 ?_ | refine X.e2 ?_ | (simp only [X.df]) | (simp (disch := omega) only [wi]))
  refine X.loop (fun i : Nat => [(2, .pointer (some ⟨g1, 0, none⟩)), (3, .pointer (some ⟨g2, 0, none⟩)), (5, .int .i64 (apartN a b i : Int)), (7, .int .i64 (i : Int))])
    (fun i w' => i ≤ 16 ∧ St w0 [] [blkI g2 80 (wC b), blkI g1 80 (wC a)] w') (fun i => 16 - i) 0 ⟨Nat.zero_le _, hw⟩ ?_
  rintro i w ⟨hi, hw⟩
  repeat (first | refine X.p1 ?_ | refine X.p2 ?_ | refine X.p6 ?_ | refine X.p7 ?_ | refine X.p0 ?_ | refine X.p3 ?_ | refine X.p4 ?_ | refine X.p5 ?_ | refine X.p8 ?_ | refine X.p9 ?_ | refine X.q1 ?_ | refine X.q2 ?_ | refine X.q3 ?_ | refine X.q4 ?_ | refine X.q5 ?_ | refine X.q6 ?_ | refine X.q7 ?_ | refine X.q8 ?_ | refine X.q9 ?_ | refine X.q0 ?_ | refine X.m1 ?_ | refine X.m2 ?_ | refine X.m3 ?_ | refine X.m4 ?_ | refine X.m5 ?_ | refine X.m6 ?_ | refine X.l11 ?_ | refine X.l1 ?_ | refine X.l2 ?_ | refine X.l3 ?_ | refine X.l4 ?_ | refine X.l5 ?_ | refine X.l10 ?_ | refine X.l6 ?_ | refine X.l7 ?_ | refine X.l8 ?_ | refine X.l9 ?_ | refine X.m7 ?_ | refine X.m8 ?_ | (refine X.s1 ?_; intro w hw) | (refine X.s2 ?_; intro w hw) | refine X.e1 ?_ | refine X.e2 ?_ | (simp only [X.df]) | (simp (disch := omega) only [wi]))
  refine X.cond (fun hlt => ?_) (fun hge => ?_)
  · have hlt : i < 16 := by omega
    have r1 := getP a ha i hlt
    have r2 := getP b hb i hlt
    have hal := apartN_le a b i
    have hpl := popF_le 32 (a.getD i 0 ^^^ b.getD i 0).toNat
    repeat (first | refine X.p1 ?_ | refine X.p2 ?_ | refine X.p6 ?_ | refine X.p7 ?_ | refine X.p0 ?_ | refine X.p3 ?_ | refine X.p4 ?_ | refine X.p5 ?_ | refine X.p8 ?_ | refine X.p9 ?_ | refine X.q1 ?_ | refine X.q2 ?_ | refine X.q3 ?_ | refine X.q4 ?_ | refine X.q5 ?_ | refine X.q6 ?_ | refine X.q7 ?_ | refine X.q8 ?_ | refine X.q9 ?_ | refine X.q0 ?_ | refine X.m1 ?_ | refine X.m2 ?_ | refine X.m3 ?_ | refine X.m4 ?_ | refine X.m5 ?_ | refine X.m6 ?_ | refine X.l11 ?_ | refine X.l1 ?_ | refine X.l2 ?_ | refine X.l3 ?_ | refine X.l4 ?_ | refine X.l5 ?_ | refine X.l10 ?_ | refine X.l6 ?_ | refine X.l7 ?_ | refine X.l8 ?_ | refine X.l9 ?_ | refine X.m7 ?_ | refine X.m8 ?_ | (refine X.s1 ?_; intro w hw) | (refine X.s2 ?_; intro w hw) | refine X.e1 ?_ | refine X.e2 ?_ | (simp only [X.df]) | (simp (disch := omega) only [wi]))
    refine X.mix [0, 1, 2, 3, 4, 5, 6, 7, 8, 9, 10] [] hw fun w hk hw => ?_
    repeat (first | refine X.r1 ?_ | refine X.r2 ?_ | refine X.r4 ?_ | refine X.r3 ?_ | refine X.rm1 ?_ | refine X.rm2 ?_ | refine X.rm3 ?_ | refine X.rm4 ?_ | refine X.rm5 ?_ | refine X.rl11 ?_ | refine X.rl1 ?_ | refine X.rl2 ?_ | refine X.rl3 ?_ | refine X.rl5 ?_ | refine X.rl6 ?_ | refine X.rm8 ?_ | refine X.re1 ?_ | refine X.re2 ?_ | (simp only [X.df, xor_u32]) | (simp (disch := omega) only [wi]))
    refine X.act ?_; refine X.callN rfl rfl Try.func68 (ones_calls (a.getD i 0 ^^^ b.getD i 0) w) fun w kk hw => ?_; have hk := hk.no kk; refine mid_a hk ?_
    rw [show (pop (a.getD i 0 ^^^ b.getD i 0) : Int) = ((popF 32 (a.getD i 0 ^^^ b.getD i 0).toNat : Nat) : Int) from rfl]
    repeat (first | refine X.r1 ?_ | refine X.r2 ?_ | refine X.r4 ?_ | refine X.r3 ?_ | refine X.rm1 ?_ | refine X.rm2 ?_ | refine X.rm3 ?_ | refine X.rm4 ?_ | refine X.rm5 ?_ | refine X.rl11 ?_ | refine X.rl1 ?_ | refine X.rl2 ?_ | refine X.rl3 ?_ | refine X.rl5 ?_ | refine X.rl6 ?_ | refine X.rm8 ?_ | refine X.re1 ?_ | refine X.re2 ?_ | (simp only [X.df]) | (simp (disch := omega) only [wi]))
    repeat (first | refine X.p1 ?_ | refine X.p2 ?_ | refine X.p6 ?_ | refine X.p7 ?_ | refine X.p0 ?_ | refine X.p3 ?_ | refine X.p4 ?_ | refine X.p5 ?_ | refine X.p8 ?_ | refine X.p9 ?_ | refine X.q1 ?_ | refine X.q2 ?_ | refine X.q3 ?_ | refine X.q4 ?_ | refine X.q5 ?_ | refine X.q6 ?_ | refine X.q7 ?_ | refine X.q8 ?_ | refine X.q9 ?_ | refine X.q0 ?_ | refine X.m1 ?_ | refine X.m2 ?_ | refine X.m3 ?_ | refine X.m4 ?_ | refine X.m5 ?_ | refine X.m6 ?_ | refine X.l11 ?_ | refine X.l1 ?_ | refine X.l2 ?_ | refine X.l3 ?_ | refine X.l4 ?_ | refine X.l5 ?_ | refine X.l10 ?_ | refine X.l6 ?_ | refine X.l7 ?_ | refine X.l8 ?_ | refine X.l9 ?_ | refine X.m7 ?_ | refine X.m8 ?_ | (refine X.s1 ?_; intro w hw) | (refine X.s2 ?_; intro w hw) | refine X.e1 ?_ | refine X.e2 ?_ | (simp only [X.df]) | (simp (disch := omega) only [wi]))
    exact X.again (i + 1) ⟨by omega, hw⟩ (by omega)
  · obtain rfl : i = 16 := by omega
    repeat (first | refine X.p1 ?_ | refine X.p2 ?_ | refine X.p6 ?_ | refine X.p7 ?_ | refine X.p0 ?_ | refine X.p3 ?_ | refine X.p4 ?_ | refine X.p5 ?_ | refine X.p8 ?_ | refine X.p9 ?_ | refine X.q1 ?_ | refine X.q2 ?_ | refine X.q3 ?_ | refine X.q4 ?_ | refine X.q5 ?_ | refine X.q6 ?_ | refine X.q7 ?_ | refine X.q8 ?_ | refine X.q9 ?_ | refine X.q0 ?_ | refine X.m1 ?_ | refine X.m2 ?_ | refine X.m3 ?_ | refine X.m4 ?_ | refine X.m5 ?_ | refine X.m6 ?_ | refine X.l11 ?_ | refine X.l1 ?_ | refine X.l2 ?_ | refine X.l3 ?_ | refine X.l4 ?_ | refine X.l5 ?_ | refine X.l10 ?_ | refine X.l6 ?_ | refine X.l7 ?_ | refine X.l8 ?_ | refine X.l9 ?_ | refine X.m7 ?_ | refine X.m8 ?_ | (refine X.s1 ?_; intro w hw) | (refine X.s2 ?_; intro w hw) | refine X.e1 ?_ | refine X.e2 ?_ | (simp only [X.df]) | (simp (disch := omega) only [wi]))
    exact xw_ret (vs := [_]) Try.results48 ⟨rfl, trivial⟩ ⟨rfl, hw.kpNo ro_nil⟩
theorem tmod2u (x : BitVec 32) : (x.toNat : Int).tmod 2 = ((x.toNat % 2 : Nat) : Int) := Int.ofNat_tmod _ _
theorem tdiv2u (x : BitVec 32) : IntKind.u32.wrap ((x.toNat : Int).tdiv 2) = ((x / 2).toNat : Int) := by
  have : (x.toNat : Int).tdiv 2 = ((x / 2).toNat : Int) := by rw [BitVec.toNat_udiv]; exact Int.ofNat_tdiv _ _
  rw [this, u32_of _ (by omega) (by have := (x / 2).isLt; omega)]
theorem popF_half (k : Nat) (x : BitVec 32) : popF (k + 1) x.toNat = x.toNat % 2 + popF k (x / 2).toNat := by rw [popF, BitVec.toNat_udiv]; rfl
theorem refApart_calls (a b : Stt) (ha : a.length = 16) (hb : b.length = 16) (w0 : World) : Does Try.prog 49 [stV a, stV b] w0 fun v w' => v = .int .i64 (apart a b : Int) ∧ Kp No w0 w' := by
  have hw := St.start (w := w0) .nil
  have hl : (wC a).length = 16 := by rw [List.length_map, ha]
  have hl2 : (wC b).length = 16 := by rw [List.length_map, hb]
  refine fn_enter Try.func49 rfl Try.ntmps49 rfl ?_
  repeat (first | refine X.p1 ?_ | refine X.p2 ?_ | refine X.p6 ?_ | refine X.p7 ?_ | refine X.p0 ?_ | refine X.p3 ?_ | refine X.p4 ?_ | refine X.p5 ?_ | refine X.p8 ?_ | refine X.p9 ?_ | refine X.q1 ?_ | refine X.q2 ?_ | refine X.q3 ?_ | refine X.q4 ?_ | refine X.q5 ?_ | refine X.q6 ?_ | refine X.q7 ?_ | refine X.q8 ?_ | refine X.q9 ?_ | refine X.q0 ?_ | refine X.m1 ?_ | refine X.m2 ?_ | refine X.m3 ?_ | refine X.m4 ?_ | refine X.m5 ?_ | refine X.m6 ?_ | refine X.l11 ?_ | refine X.l1 ?_ | refine X.l2 ?_ | refine X.l3 ?_ | refine X.l4 ?_ | refine X.l5 ?_ | refine X.l10 ?_ | refine X.l6 ?_ | refine X.l7 ?_ | refine X.l8 ?_ | refine X.l9 ?_ | refine X.m7 ?_ | refine X.m8 ?_ | (refine X.s1 ?_; intro w hw) | (refine X.s2 ?_; intro w hw) | refine X.e1 ?_ | refine X.e2 ?_ | (simp only [X.df]) | (simp (disch := omega) only [wi]))
  (first | refine X.nb ?_ | refine X.na ?_); intro g1 w _ hw
  (first | refine X.nb ?_ | refine X.na ?_); intro g2 w _ hw
  repeat (first | refine X.p1 ?_ | refine X.p2 ?_ | refine X.p6 ?_ | refine X.p7 ?_ | refine X.p0 ?_ | refine X.p3 ?_ | refine X.p4 ?_ | refine X.p5 ?_ | refine X.p8 ?_ | refine X.p9 ?_ | refine X.q1 ?_ | refine X.q2 ?_ | refine X.q3 ?_ | refine X.q4 ?_ | refine X.q5 ?_ | refine X.q6 ?_ | refine X.q7 ?_ | refine X.q8 ?_ | refine X.q9 ?_ | refine X.q0 ?_ | refine X.m1 ?_ | refine X.m2 ?_ | refine X.m3 ?_ | refine X.m4 ?_ | refine X.m5 ?_ | refine X.m6 ?_ | refine X.l11 ?_ | refine X.l1 ?_ | refine X.l2 ?_ | refine X.l3 ?_ | refine X.l4 ?_ | refine X.l5 ?_ | refine X.l10 ?_ | refine X.l6 ?_ | refine X.l7 ?_ | refine X.l8 ?_ | refine X.l9 ?_ | refine X.m7 ?_ | refine X.m8 ?_ | (refine X.s1 ?_; intro w hw) | (refine X.s2 ?_; intro w hw) | refine X.e1 ?_ | refine X.e2 ?_ | (simp only [X.df]) | (simp (disch := omega) only [wi]))
  refine X.loop (fun i : Nat => [(2, .pointer (some ⟨g1, 0, none⟩)), (3, .pointer (some ⟨g2, 0, none⟩)), (5, .int .i64 (apartN a b i : Int)), (6, .int .i64 (i : Int))])
    (fun i w' => i ≤ 16 ∧ St w0 [] [blkI g2 85 (wC b), blkI g1 85 (wC a)] w') (fun i => 16 - i) 0 ⟨Nat.zero_le _, hw⟩ ?_
  rintro i w ⟨hi, hw⟩
  repeat (first | refine X.p1 ?_ | refine X.p2 ?_ | refine X.p6 ?_ | refine X.p7 ?_ | refine X.p0 ?_ | refine X.p3 ?_ | refine X.p4 ?_ | refine X.p5 ?_ | refine X.p8 ?_ | refine X.p9 ?_ | refine X.q1 ?_ | refine X.q2 ?_ | refine X.q3 ?_ | refine X.q4 ?_ | refine X.q5 ?_ | refine X.q6 ?_ | refine X.q7 ?_ | refine X.q8 ?_ | refine X.q9 ?_ | refine X.q0 ?_ | refine X.m1 ?_ | refine X.m2 ?_ | refine X.m3 ?_ | refine X.m4 ?_ | refine X.m5 ?_ | refine X.m6 ?_ | refine X.l11 ?_ | refine X.l1 ?_ | refine X.l2 ?_ | refine X.l3 ?_ | refine X.l4 ?_ | refine X.l5 ?_ | refine X.l10 ?_ | refine X.l6 ?_ | refine X.l7 ?_ | refine X.l8 ?_ | refine X.l9 ?_ | refine X.m7 ?_ | refine X.m8 ?_ | (refine X.s1 ?_; intro w hw) | (refine X.s2 ?_; intro w hw) | refine X.e1 ?_ | refine X.e2 ?_ | (simp only [X.df]) | (simp (disch := omega) only [wi]))
  refine X.cond (fun hlt => ?_) (fun hge => ?_)
  · have hlt : i < 16 := by omega
    have r1 := getP a ha i hlt
    have r2 := getP b hb i hlt
    have hal := apartN_le a b i
    repeat (first | refine X.p1 ?_ | refine X.p2 ?_ | refine X.p6 ?_ | refine X.p7 ?_ | refine X.p0 ?_ | refine X.p3 ?_ | refine X.p4 ?_ | refine X.p5 ?_ | refine X.p8 ?_ | refine X.p9 ?_ | refine X.q1 ?_ | refine X.q2 ?_ | refine X.q3 ?_ | refine X.q4 ?_ | refine X.q5 ?_ | refine X.q6 ?_ | refine X.q7 ?_ | refine X.q8 ?_ | refine X.q9 ?_ | refine X.q0 ?_ | refine X.m1 ?_ | refine X.m2 ?_ | refine X.m3 ?_ | refine X.m4 ?_ | refine X.m5 ?_ | refine X.m6 ?_ | refine X.l11 ?_ | refine X.l1 ?_ | refine X.l2 ?_ | refine X.l3 ?_ | refine X.l4 ?_ | refine X.l5 ?_ | refine X.l10 ?_ | refine X.l6 ?_ | refine X.l7 ?_ | refine X.l8 ?_ | refine X.l9 ?_ | refine X.m7 ?_ | refine X.m8 ?_ | (refine X.s1 ?_; intro w hw) | (refine X.s2 ?_; intro w hw) | refine X.e1 ?_ | refine X.e2 ?_ | (simp only [X.df]) | (simp (disch := omega) only [wi]))
    refine X.mix [0, 1, 2, 3, 4, 5, 6, 7] [] hw fun w hk hw => ?_
    repeat (first | refine X.r1 ?_ | refine X.r2 ?_ | refine X.r4 ?_ | refine X.r3 ?_ | refine X.rm1 ?_ | refine X.rm2 ?_ | refine X.rm3 ?_ | refine X.rm4 ?_ | refine X.rm5 ?_ | refine X.rl11 ?_ | refine X.rl1 ?_ | refine X.rl2 ?_ | refine X.rl3 ?_ | refine X.rl5 ?_ | refine X.rl6 ?_ | refine X.rm8 ?_ | refine X.re1 ?_ | refine X.re2 ?_ | (simp only [X.df, xor_u32]) | (simp (disch := omega) only [wi]))
    repeat (first | refine X.p1 ?_ | refine X.p2 ?_ | refine X.p6 ?_ | refine X.p7 ?_ | refine X.p0 ?_ | refine X.p3 ?_ | refine X.p4 ?_ | refine X.p5 ?_ | refine X.p8 ?_ | refine X.p9 ?_ | refine X.q1 ?_ | refine X.q2 ?_ | refine X.q3 ?_ | refine X.q4 ?_ | refine X.q5 ?_ | refine X.q6 ?_ | refine X.q7 ?_ | refine X.q8 ?_ | refine X.q9 ?_ | refine X.q0 ?_ | refine X.m1 ?_ | refine X.m2 ?_ | refine X.m3 ?_ | refine X.m4 ?_ | refine X.m5 ?_ | refine X.m6 ?_ | refine X.l11 ?_ | refine X.l1 ?_ | refine X.l2 ?_ | refine X.l3 ?_ | refine X.l4 ?_ | refine X.l5 ?_ | refine X.l10 ?_ | refine X.l6 ?_ | refine X.l7 ?_ | refine X.l8 ?_ | refine X.l9 ?_ | refine X.m7 ?_ | refine X.m8 ?_ | (refine X.s1 ?_; intro w hw) | (refine X.s2 ?_; intro w hw) | refine X.e1 ?_ | refine X.e2 ?_ | (simp only [X.df]) | (simp (disch := omega) only [wi]))
    refine X.loop (fun p : Nat × BitVec 32 => [(2, .pointer (some ⟨g1, 0, none⟩)), (3, .pointer (some ⟨g2, 0, none⟩)), (5, .int .i64 ((apartN a b (i + 1) - popF p.1 p.2.toNat : Nat) : Int)), (6, .int .i64 (i : Int)), (7, u32 p.2)])
      (fun p w' => p.1 ≤ 32 ∧ p.2.toNat < 2 ^ p.1 ∧ popF p.1 p.2.toNat ≤ apartN a b (i + 1) ∧ St w0 [] [blkI g2 85 (wC b), blkI g1 85 (wC a)] w') (fun p => p.1) (32, a.getD i 0 ^^^ b.getD i 0)
      ⟨Nat.le_refl _, (a.getD i 0 ^^^ b.getD i 0).isLt, by rw [apartN, pop]; exact Nat.le_add_left _ _, hw⟩ ?_ ⟨rfl, rfl, by rw [apartN, pop, Nat.add_sub_cancel]; rfl, rfl, rfl, trivial⟩
    rintro ⟨k, x⟩ w ⟨hk, hx, hle, hw⟩
    simp only at hk hx hle hw
    have hal2 := apartN_le a b (i + 1)
    repeat (first | refine X.p1 ?_ | refine X.p2 ?_ | refine X.p6 ?_ | refine X.p7 ?_ | refine X.p0 ?_ | refine X.p3 ?_ | refine X.p4 ?_ | refine X.p5 ?_ | refine X.p8 ?_ | refine X.p9 ?_ | refine X.q1 ?_ | refine X.q2 ?_ | refine X.q3 ?_ | refine X.q4 ?_ | refine X.q5 ?_ | refine X.q6 ?_ | refine X.q7 ?_ | refine X.q8 ?_ | refine X.q9 ?_ | refine X.q0 ?_ | refine X.m1 ?_ | refine X.m2 ?_ | refine X.m3 ?_ | refine X.m4 ?_ | refine X.m5 ?_ | refine X.m6 ?_ | refine X.l11 ?_ | refine X.l1 ?_ | refine X.l2 ?_ | refine X.l3 ?_ | refine X.l4 ?_ | refine X.l5 ?_ | refine X.l10 ?_ | refine X.l6 ?_ | refine X.l7 ?_ | refine X.l8 ?_ | refine X.l9 ?_ | refine X.m7 ?_ | refine X.m8 ?_ | (refine X.s1 ?_; intro w hw) | (refine X.s2 ?_; intro w hw) | refine X.e1 ?_ | refine X.e2 ?_ | (simp only [X.df]) | (simp (disch := omega) only [wi]))
    refine X.cond (fun hpos => ?_) (fun hnp => ?_)
    · have hpos : 0 < x.toNat := by omega
      obtain ⟨m, rfl⟩ : ∃ m, k = m + 1 := ⟨k - 1, by
        rcases Nat.eq_zero_or_pos k with h | h
        · subst h; omega
        · omega⟩
      have hh := popF_half m x
      have hx2 : (x / 2).toNat < 2 ^ m := by rw [BitVec.toNat_udiv]; rw [Nat.pow_succ] at hx; show x.toNat / 2 < _; omega
      repeat (first | refine X.p1 ?_ | refine X.p2 ?_ | refine X.p6 ?_ | refine X.p7 ?_ | refine X.p0 ?_ | refine X.p3 ?_ | refine X.p4 ?_ | refine X.p5 ?_ | refine X.p8 ?_ | refine X.p9 ?_ | refine X.q1 ?_ | refine X.q2 ?_ | refine X.q3 ?_ | refine X.q4 ?_ | refine X.q5 ?_ | refine X.q6 ?_ | refine X.q7 ?_ | refine X.q8 ?_ | refine X.q9 ?_ | refine X.q0 ?_ | refine X.m1 ?_ | refine X.m2 ?_ | refine X.m3 ?_ | refine X.m4 ?_ | refine X.m5 ?_ | refine X.m6 ?_ | refine X.l11 ?_ | refine X.l1 ?_ | refine X.l2 ?_ | refine X.l3 ?_ | refine X.l4 ?_ | refine X.l5 ?_ | refine X.l10 ?_ | refine X.l6 ?_ | refine X.l7 ?_ | refine X.l8 ?_ | refine X.l9 ?_ | refine X.m7 ?_ | refine X.m8 ?_ | (refine X.s1 ?_; intro w hw) | (refine X.s2 ?_; intro w hw) | refine X.e1 ?_ | refine X.e2 ?_ | (simp only [X.df]) | (simp (disch := omega) only [wi]))
      refine ow_rem (z := ((x.toNat % 2 : Nat) : Int)) rfl rfl rfl (by decide) (tmod2u x) ?_
      repeat (first | refine X.p1 ?_ | refine X.p2 ?_ | refine X.p6 ?_ | refine X.p7 ?_ | refine X.p0 ?_ | refine X.p3 ?_ | refine X.p4 ?_ | refine X.p5 ?_ | refine X.p8 ?_ | refine X.p9 ?_ | refine X.q1 ?_ | refine X.q2 ?_ | refine X.q3 ?_ | refine X.q4 ?_ | refine X.q5 ?_ | refine X.q6 ?_ | refine X.q7 ?_ | refine X.q8 ?_ | refine X.q9 ?_ | refine X.q0 ?_ | refine X.m1 ?_ | refine X.m2 ?_ | refine X.m3 ?_ | refine X.m4 ?_ | refine X.m5 ?_ | refine X.m6 ?_ | refine X.l11 ?_ | refine X.l1 ?_ | refine X.l2 ?_ | refine X.l3 ?_ | refine X.l4 ?_ | refine X.l5 ?_ | refine X.l10 ?_ | refine X.l6 ?_ | refine X.l7 ?_ | refine X.l8 ?_ | refine X.l9 ?_ | refine X.m7 ?_ | refine X.m8 ?_ | (refine X.s1 ?_; intro w hw) | (refine X.s2 ?_; intro w hw) | refine X.e1 ?_ | refine X.e2 ?_ | (simp only [X.df]) | (simp (disch := omega) only [wi]))
      refine ow_quo (z := ((x / 2).toNat : Int)) rfl rfl rfl (by decide) (tdiv2u x) ?_
      repeat (first | refine X.p1 ?_ | refine X.p2 ?_ | refine X.p6 ?_ | refine X.p7 ?_ | refine X.p0 ?_ | refine X.p3 ?_ | refine X.p4 ?_ | refine X.p5 ?_ | refine X.p8 ?_ | refine X.p9 ?_ | refine X.q1 ?_ | refine X.q2 ?_ | refine X.q3 ?_ | refine X.q4 ?_ | refine X.q5 ?_ | refine X.q6 ?_ | refine X.q7 ?_ | refine X.q8 ?_ | refine X.q9 ?_ | refine X.q0 ?_ | refine X.m1 ?_ | refine X.m2 ?_ | refine X.m3 ?_ | refine X.m4 ?_ | refine X.m5 ?_ | refine X.m6 ?_ | refine X.l11 ?_ | refine X.l1 ?_ | refine X.l2 ?_ | refine X.l3 ?_ | refine X.l4 ?_ | refine X.l5 ?_ | refine X.l10 ?_ | refine X.l6 ?_ | refine X.l7 ?_ | refine X.l8 ?_ | refine X.l9 ?_ | refine X.m7 ?_ | refine X.m8 ?_ | (refine X.s1 ?_; intro w hw) | (refine X.s2 ?_; intro w hw) | refine X.e1 ?_ | refine X.e2 ?_ | (simp only [X.df]) | (simp (disch := omega) only [wi]))
      exact X.again (m, x / 2) ⟨by simp only; omega, hx2, by simp only; omega, hw⟩ (by simp only; omega) ⟨rfl, rfl, by
        rw [show ((apartN a b (i + 1) - popF m (x / 2).toNat : Nat) : Int) = ((apartN a b (i + 1) - popF (m + 1) x.toNat : Nat) : Int) + ((x.toNat % 2 : Nat) : Int) from by omega]; rfl, rfl, rfl, trivial⟩
    · have hz : x.toNat = 0 := by omega
      rw [hz, popF_zero, Nat.sub_zero]
      repeat (first | refine X.p1 ?_ | refine X.p2 ?_ | refine X.p6 ?_ | refine X.p7 ?_ | refine X.p0 ?_ | refine X.p3 ?_ | refine X.p4 ?_ | refine X.p5 ?_ | refine X.p8 ?_ | refine X.p9 ?_ | refine X.q1 ?_ | refine X.q2 ?_ | refine X.q3 ?_ | refine X.q4 ?_ | refine X.q5 ?_ | refine X.q6 ?_ | refine X.q7 ?_ | refine X.q8 ?_ | refine X.q9 ?_ | refine X.q0 ?_ | refine X.m1 ?_ | refine X.m2 ?_ | refine X.m3 ?_ | refine X.m4 ?_ | refine X.m5 ?_ | refine X.m6 ?_ | refine X.l11 ?_ | refine X.l1 ?_ | refine X.l2 ?_ | refine X.l3 ?_ | refine X.l4 ?_ | refine X.l5 ?_ | refine X.l10 ?_ | refine X.l6 ?_ | refine X.l7 ?_ | refine X.l8 ?_ | refine X.l9 ?_ | refine X.m7 ?_ | refine X.m8 ?_ | (refine X.s1 ?_; intro w hw) | (refine X.s2 ?_; intro w hw) | refine X.e1 ?_ | refine X.e2 ?_ | (simp only [X.df]) | (simp (disch := omega) only [wi]))
      exact X.again (i + 1) ⟨by omega, hw⟩ (by omega)
  · obtain rfl : i = 16 := by omega
    repeat (first | refine X.p1 ?_ | refine X.p2 ?_ | refine X.p6 ?_ | refine X.p7 ?_ | refine X.p0 ?_ | refine X.p3 ?_ | refine X.p4 ?_ | refine X.p5 ?_ | refine X.p8 ?_ | refine X.p9 ?_ | refine X.q1 ?_ | refine X.q2 ?_ | refine X.q3 ?_ | refine X.q4 ?_ | refine X.q5 ?_ | refine X.q6 ?_ | refine X.q7 ?_ | refine X.q8 ?_ | refine X.q9 ?_ | refine X.q0 ?_ | refine X.m1 ?_ | refine X.m2 ?_ | refine X.m3 ?_ | refine X.m4 ?_ | refine X.m5 ?_ | refine X.m6 ?_ | refine X.l11 ?_ | refine X.l1 ?_ | refine X.l2 ?_ | refine X.l3 ?_ | refine X.l4 ?_ | refine X.l5 ?_ | refine X.l10 ?_ | refine X.l6 ?_ | refine X.l7 ?_ | refine X.l8 ?_ | refine X.l9 ?_ | refine X.m7 ?_ | refine X.m8 ?_ | (refine X.s1 ?_; intro w hw) | (refine X.s2 ?_; intro w hw) | refine X.e1 ?_ | refine X.e2 ?_ | (simp only [X.df]) | (simp (disch := omega) only [wi]))
    exact xw_ret (vs := [_]) Try.results49 ⟨rfl, trivial⟩ ⟨rfl, hw.kpNo ro_nil⟩
end Go.Proofs.Ytfpikmfonpnicaa.MixR
