/- WordBytes walked. -/
import Derived.Test.YtfpikmfonpnicaaWref
import Derived.Test.YtfpikmfonpnicaaMixQ
set_option linter.unusedVariables false
set_option linter.unusedSimpArgs false
namespace Go.Proofs.Ytfpikmfonpnicaa.Wd
open Go.RowKit Go.Proofs.Ytfpikmfonpnicaa.Sx Go.Proofs.Ytfpikmfonpnicaa.Mx Go.Proofs.Ytfpikmfonpnicaa.Bw Go.Proofs.Ytfpikmfonpnicaa.By Go.Proofs.Ytfpikmfonpnicaa.Eqs Go.Proofs.Ytfpikmfonpnicaa.Qx Go.Proofs.Ytfpikmfonpnicaa.Ap Go.Proofs.Ytfpikmfonpnicaa.Mi Go.Proofs.Ytfpikmfonpnicaa.Stm Go.Proofs.Ytfpikmfonpnicaa.Num Go.Proofs.Ytfpikmfonpnicaa.Fl
attribute [local irreducible] Ow Cw Xw Mw
theorem ext8 (w0 : World) : Does Try.prog 20 [.int .u64 255, .int .i64 8] w0 fun v w' => v = .tuple #[.int .i64 (-1), .int .i64 0] ∧ Kp No w0 w' := by
  have hw := St.start (w := w0) .nil
  refine fn_enter Try.func20 rfl Try.ntmps20 rfl ?_
  repeat (first | refine X.p1 ?_ | refine X.p2 ?_ | refine X.p6 ?_ | refine X.p7 ?_ | refine X.p0 ?_ | refine X.p3 ?_ | refine X.p4 ?_ | refine X.p5 ?_ | refine X.p8 ?_ | refine X.p9 ?_ | refine X.q1 ?_ | refine X.q2 ?_ | refine X.q3 ?_ | refine X.q4 ?_ | refine X.q5 ?_ | refine X.q6 ?_ | refine X.q7 ?_ | refine X.q8 ?_ | refine X.q9 ?_ | refine X.q0 ?_ | refine X.m1 ?_ | refine X.m2 ?_ | refine X.m3 ?_ | refine X.m4 ?_ | refine X.m5 ?_ | refine X.m6 ?_ | refine X.l1 ?_ | refine X.l2 ?_ | refine X.l3 ?_ | refine X.l4 ?_ | refine X.l5 ?_ | refine X.l10 ?_ | refine X.l6 ?_ | refine X.l7 ?_ | refine X.l8 ?_ | refine X.l9 ?_ | refine X.m7 ?_ | refine X.m8 ?_ | (refine X.s1 ?_; intro w hw) | (refine X.s2 ?_; intro w hw) | refine X.e1 ?_ | refine X.e2 ?_ | (simp only [X.df]) | (simp (disch := omega) only [wi]))
  refine ow_shl (z := 18374686479671623680) rfl rfl rfl (by decide) (by decide) ?_
  repeat (first | refine X.p1 ?_ | refine X.p2 ?_ | refine X.p6 ?_ | refine X.p7 ?_ | refine X.p0 ?_ | refine X.p3 ?_ | refine X.p4 ?_ | refine X.p5 ?_ | refine X.p8 ?_ | refine X.p9 ?_ | refine X.q1 ?_ | refine X.q2 ?_ | refine X.q3 ?_ | refine X.q4 ?_ | refine X.q5 ?_ | refine X.q6 ?_ | refine X.q7 ?_ | refine X.q8 ?_ | refine X.q9 ?_ | refine X.q0 ?_ | refine X.m1 ?_ | refine X.m2 ?_ | refine X.m3 ?_ | refine X.m4 ?_ | refine X.m5 ?_ | refine X.m6 ?_ | refine X.l1 ?_ | refine X.l2 ?_ | refine X.l3 ?_ | refine X.l4 ?_ | refine X.l5 ?_ | refine X.l10 ?_ | refine X.l6 ?_ | refine X.l7 ?_ | refine X.l8 ?_ | refine X.l9 ?_ | refine X.m7 ?_ | refine X.m8 ?_ | (refine X.s1 ?_; intro w hw) | (refine X.s2 ?_; intro w hw) | refine X.e1 ?_ | refine X.e2 ?_ | (simp only [X.df]) | (simp (disch := omega) only [wi]))
  refine ow_shr (z := -1) rfl rfl rfl (by decide) (by decide) ?_
  repeat (first | refine X.p1 ?_ | refine X.p2 ?_ | refine X.p6 ?_ | refine X.p7 ?_ | refine X.p0 ?_ | refine X.p3 ?_ | refine X.p4 ?_ | refine X.p5 ?_ | refine X.p8 ?_ | refine X.p9 ?_ | refine X.q1 ?_ | refine X.q2 ?_ | refine X.q3 ?_ | refine X.q4 ?_ | refine X.q5 ?_ | refine X.q6 ?_ | refine X.q7 ?_ | refine X.q8 ?_ | refine X.q9 ?_ | refine X.q0 ?_ | refine X.m1 ?_ | refine X.m2 ?_ | refine X.m3 ?_ | refine X.m4 ?_ | refine X.m5 ?_ | refine X.m6 ?_ | refine X.l1 ?_ | refine X.l2 ?_ | refine X.l3 ?_ | refine X.l4 ?_ | refine X.l5 ?_ | refine X.l10 ?_ | refine X.l6 ?_ | refine X.l7 ?_ | refine X.l8 ?_ | refine X.l9 ?_ | refine X.m7 ?_ | refine X.m8 ?_ | (refine X.s1 ?_; intro w hw) | (refine X.s2 ?_; intro w hw) | refine X.e1 ?_ | refine X.e2 ?_ | (simp only [X.df]) | (simp (disch := omega) only [wi]))
  exact xw_ret (vs := [_, _]) Try.results20 ⟨rfl, rfl, trivial⟩ ⟨rfl, hw.kpNo ro_nil⟩
theorem awake1 (w0 : World) : Does Try.prog 13 [] w0 fun v w' => v = .bool true ∧ Kp No w0 w' := by
  have hw := St.start (w := w0) .nil
  refine fn_enter Try.func13 rfl Try.ntmps13 rfl ?_
  repeat (first | refine X.p1 ?_ | refine X.p2 ?_ | refine X.p6 ?_ | refine X.p7 ?_ | refine X.p0 ?_ | refine X.p3 ?_ | refine X.p4 ?_ | refine X.p5 ?_ | refine X.p8 ?_ | refine X.p9 ?_ | refine X.q1 ?_ | refine X.q2 ?_ | refine X.q3 ?_ | refine X.q4 ?_ | refine X.q5 ?_ | refine X.q6 ?_ | refine X.q7 ?_ | refine X.q8 ?_ | refine X.q9 ?_ | refine X.q0 ?_ | refine X.m1 ?_ | refine X.m2 ?_ | refine X.m3 ?_ | refine X.m4 ?_ | refine X.m5 ?_ | refine X.m6 ?_ | refine X.l1 ?_ | refine X.l2 ?_ | refine X.l3 ?_ | refine X.l4 ?_ | refine X.l5 ?_ | refine X.l10 ?_ | refine X.l6 ?_ | refine X.l7 ?_ | refine X.l8 ?_ | refine X.l9 ?_ | refine X.m7 ?_ | refine X.m8 ?_ | (refine X.s1 ?_; intro w hw) | (refine X.s2 ?_; intro w hw) | refine X.e1 ?_ | refine X.e2 ?_ | (simp only [X.df]) | (simp (disch := omega) only [wi]))
  refine X.callN rfl rfl Try.func20 (ext8 w0) fun w _ hw => ?_
  repeat (first | refine X.p1 ?_ | refine X.p2 ?_ | refine X.p6 ?_ | refine X.p7 ?_ | refine X.p0 ?_ | refine X.p3 ?_ | refine X.p4 ?_ | refine X.p5 ?_ | refine X.p8 ?_ | refine X.p9 ?_ | refine X.q1 ?_ | refine X.q2 ?_ | refine X.q3 ?_ | refine X.q4 ?_ | refine X.q5 ?_ | refine X.q6 ?_ | refine X.q7 ?_ | refine X.q8 ?_ | refine X.q9 ?_ | refine X.q0 ?_ | refine X.m1 ?_ | refine X.m2 ?_ | refine X.m3 ?_ | refine X.m4 ?_ | refine X.m5 ?_ | refine X.m6 ?_ | refine X.l1 ?_ | refine X.l2 ?_ | refine X.l3 ?_ | refine X.l4 ?_ | refine X.l5 ?_ | refine X.l10 ?_ | refine X.l6 ?_ | refine X.l7 ?_ | refine X.l8 ?_ | refine X.l9 ?_ | refine X.m7 ?_ | refine X.m8 ?_ | (refine X.s1 ?_; intro w hw) | (refine X.s2 ?_; intro w hw) | refine X.e1 ?_ | refine X.e2 ?_ | (simp only [X.df]) | (simp (disch := omega) only [wi]))
  refine X.call rfl rfl Try.func14 (MixQ.turn (1 : BitVec 32) 31 w) ?_; rintro _ w ⟨rfl, rfl⟩
  have e : MixQ.turnN 1 (MixQ.tn 31) = 2147483648 := by decide
  rw [e]
  repeat (first | refine X.p1 ?_ | refine X.p2 ?_ | refine X.p6 ?_ | refine X.p7 ?_ | refine X.p0 ?_ | refine X.p3 ?_ | refine X.p4 ?_ | refine X.p5 ?_ | refine X.p8 ?_ | refine X.p9 ?_ | refine X.q1 ?_ | refine X.q2 ?_ | refine X.q3 ?_ | refine X.q4 ?_ | refine X.q5 ?_ | refine X.q6 ?_ | refine X.q7 ?_ | refine X.q8 ?_ | refine X.q9 ?_ | refine X.q0 ?_ | refine X.m1 ?_ | refine X.m2 ?_ | refine X.m3 ?_ | refine X.m4 ?_ | refine X.m5 ?_ | refine X.m6 ?_ | refine X.l1 ?_ | refine X.l2 ?_ | refine X.l3 ?_ | refine X.l4 ?_ | refine X.l5 ?_ | refine X.l10 ?_ | refine X.l6 ?_ | refine X.l7 ?_ | refine X.l8 ?_ | refine X.l9 ?_ | refine X.m7 ?_ | refine X.m8 ?_ | (refine X.s1 ?_; intro w hw) | (refine X.s2 ?_; intro w hw) | refine X.e1 ?_ | refine X.e2 ?_ | (simp only [X.df]) | (simp (disch := omega) only [wi]))
  exact xw_ret (vs := [_]) Try.results13 ⟨rfl, trivial⟩ ⟨rfl, hw.kpNo ro_nil⟩
theorem bytes_calls (A B : Option Addr) (l s : List Byte) (m c k c2 : Nat) (hl : l.length = m) (hs : s.length = k) (w0 : World) (hp : Pre [rowI A (cb l), rowI B (cb s)] w0) :
    Does Try.prog 35 [.slice A m c, .slice B k c2] w0 fun v w' => v = .bool (decide (l = s)) ∧ Kp No w0 w' := by
  have hw := St.start hp
  refine fn_enter Try.func35 rfl Try.ntmps35 rfl ?_
  repeat (first | refine X.p1 ?_ | refine X.p2 ?_ | refine X.p6 ?_ | refine X.p7 ?_ | refine X.p0 ?_ | refine X.p3 ?_ | refine X.p4 ?_ | refine X.p5 ?_ | refine X.p8 ?_ | refine X.p9 ?_ | refine X.q1 ?_ | refine X.q2 ?_ | refine X.q3 ?_ | refine X.q4 ?_ | refine X.q5 ?_ | refine X.q6 ?_ | refine X.q7 ?_ | refine X.q8 ?_ | refine X.q9 ?_ | refine X.q0 ?_ | refine X.m1 ?_ | refine X.m2 ?_ | refine X.m3 ?_ | refine X.m4 ?_ | refine X.m5 ?_ | refine X.m6 ?_ | refine X.l1 ?_ | refine X.l2 ?_ | refine X.l3 ?_ | refine X.l4 ?_ | refine X.l5 ?_ | refine X.l10 ?_ | refine X.l6 ?_ | refine X.l7 ?_ | refine X.l8 ?_ | refine X.l9 ?_ | refine X.m7 ?_ | refine X.m8 ?_ | (refine X.s1 ?_; intro w hw) | (refine X.s2 ?_; intro w hw) | refine X.e1 ?_ | refine X.e2 ?_ | (simp only [X.df]) | (simp (disch := omega) only [wi]))
  exact xw_ret (vs := [_]) Try.results35 ⟨rfl, trivial⟩ ⟨rfl, hw.kpNo (ro_cons rfl (ro_cons rfl ro_nil))⟩
theorem valB_leB (n : BitVec 64) (k : Nat) (hk : k ≤ 8) : (valB (leB n k)).toNat = n.toNat % 256 ^ k := by
  rw [valB_eq, BitVec.toNat_ofNat, leV_leB n k hk]
  exact Nat.mod_eq_of_lt (Nat.lt_of_le_of_lt (Nat.mod_le _ _) n.isLt)
theorem back16 (n : BitVec 64) : (valB (leB ((n.setWidth 16).setWidth 64) 2)).setWidth 16 = n.setWidth 16 := by
  apply BitVec.eq_of_toNat_eq
  rw [BitVec.toNat_setWidth, valB_leB _ 2 (by decide)]
  simp only [BitVec.toNat_setWidth]; omega
theorem back32 (n : BitVec 64) : (valB (leB ((n.setWidth 32).setWidth 64) 4)).setWidth 32 = n.setWidth 32 := by
  apply BitVec.eq_of_toNat_eq
  rw [BitVec.toNat_setWidth, valB_leB _ 4 (by decide)]
  simp only [BitVec.toNat_setWidth]; omega
theorem back64 (n : BitVec 64) : valB (leB n 8) = n := by
  apply BitVec.eq_of_toNat_eq
  rw [valB_leB _ 8 (by decide)]
  have := n.isLt
  omega
theorem leB_low (n m : BitVec 64) (k : Nat) (h : ∀ i, i < k → nbyte n i = nbyte m i) : leB n k = leB m k := by
  unfold leB
  exact List.map_congr_left (fun i hi => h i (by simpa using hi))
theorem nbyte_toNat (n : BitVec 64) (i : Nat) : (nbyte n i).toNat = n.toNat / 256 ^ i % 256 := by
  unfold nbyte
  rw [BitVec.toNat_setWidth, BitVec.toNat_ushiftRight, Nat.shiftRight_eq_div_pow, Nat.pow_mul]
theorem low16 (n : BitVec 64) : leB ((n.setWidth 16).setWidth 64) 2 = leB n 2 := leB_low _ _ _ fun i hi => by
  apply BitVec.eq_of_toNat_eq
  rw [nbyte_toNat, nbyte_toNat]
  simp only [BitVec.toNat_setWidth]
  rcases (by omega : i = 0 ∨ i = 1) with rfl | rfl <;> simp only [Nat.pow_zero, Nat.pow_one] <;> omega
theorem low32 (n : BitVec 64) : leB ((n.setWidth 32).setWidth 64) 4 = leB n 4 := leB_low _ _ _ fun i hi => by
  apply BitVec.eq_of_toNat_eq
  rw [nbyte_toNat, nbyte_toNat]
  simp only [BitVec.toNat_setWidth]
  rcases (by omega : i = 0 ∨ i = 1 ∨ i = 2 ∨ i = 3) with rfl | rfl | rfl | rfl <;> omega
theorem tk16 (s : List Byte) (at_ : Int) : ((tkV s at_ 2).setWidth 16).setWidth 64 = tkV s at_ 2 := by
  unfold tkV
  split
  · rw [valB_eq]
    have := leV_lt ((s.drop at_.toNat).take 2)
    have h2 : 256 ^ ((s.drop at_.toNat).take 2).length ≤ 256 ^ 2 := Nat.pow_le_pow_right (by decide) (by simp; omega)
    apply BitVec.eq_of_toNat_eq
    simp only [BitVec.toNat_setWidth, BitVec.toNat_ofNat]
    omega
  · rfl
theorem tk32 (s : List Byte) (at_ : Int) : ((tkV s at_ 4).setWidth 32).setWidth 64 = tkV s at_ 4 := by
  unfold tkV
  split
  · rw [valB_eq]
    have := leV_lt ((s.drop at_.toNat).take 4)
    have h2 : 256 ^ ((s.drop at_.toNat).take 4).length ≤ 256 ^ 4 := Nat.pow_le_pow_right (by decide) (by simp; omega)
    apply BitVec.eq_of_toNat_eq
    simp only [BitVec.toNat_setWidth, BitVec.toNat_ofNat]
    omega
  · rfl
set_option maxRecDepth 4000 in
theorem wordBytes (n : BitVec 64) (s : List Byte) (at_ : Int) (hat : I64 at_) (hs : s.length ≤ 140737488351232) (w0 : World) : Does Try.prog 7 [u64 n, str s, .int .i64 at_] w0 fun v w' => v = .bool true ∧ Kp No w0 w' := by
  have hw := St.start (w := w0) .nil
  have l2 := leB_ok n 2
  have l4 := leB_ok n 4
  have l8 := leB_ok n 8
  have i2 := leB_len n 2
  have i4 := leB_len n 4
  have i8 := leB_len n 8
  refine fn_enter Try.func7 rfl Try.ntmps7 rfl ?_
  repeat (first | refine X.p1 ?_ | refine X.p2 ?_ | refine X.p6 ?_ | refine X.p7 ?_ | refine X.p0 ?_ | refine X.p3 ?_ | refine X.p4 ?_ | refine X.p5 ?_ | refine X.p8 ?_ | refine X.p9 ?_ | refine X.q1 ?_ | refine X.q2 ?_ | refine X.q3 ?_ | refine X.q4 ?_ | refine X.q5 ?_ | refine X.q6 ?_ | refine X.q7 ?_ | refine X.q8 ?_ | refine X.q9 ?_ | refine X.q0 ?_ | refine X.m1 ?_ | refine X.m2 ?_ | refine X.m3 ?_ | refine X.m4 ?_ | refine X.m5 ?_ | refine X.m6 ?_ | refine X.l1 ?_ | refine X.l2 ?_ | refine X.l3 ?_ | refine X.l4 ?_ | refine X.l5 ?_ | refine X.l10 ?_ | refine X.l6 ?_ | refine X.l7 ?_ | refine X.l8 ?_ | refine X.l9 ?_ | refine X.m7 ?_ | refine X.m8 ?_ | (refine X.s1 ?_; intro w hw) | (refine X.s2 ?_; intro w hw) | refine X.e1 ?_ | refine X.e2 ?_ | (simp only [X.df, u16_u, u32_u]) | (simp (disch := omega) only [wi]))
  refine X.callN rfl rfl Try.func32 (bytes16_calls (n.setWidth 16) w0) fun w _ hw => ?_
  rw [low16]
  repeat (first | refine X.p1 ?_ | refine X.p2 ?_ | refine X.p6 ?_ | refine X.p7 ?_ | refine X.p0 ?_ | refine X.p3 ?_ | refine X.p4 ?_ | refine X.p5 ?_ | refine X.p8 ?_ | refine X.p9 ?_ | refine X.q1 ?_ | refine X.q2 ?_ | refine X.q3 ?_ | refine X.q4 ?_ | refine X.q5 ?_ | refine X.q6 ?_ | refine X.q7 ?_ | refine X.q8 ?_ | refine X.q9 ?_ | refine X.q0 ?_ | refine X.m1 ?_ | refine X.m2 ?_ | refine X.m3 ?_ | refine X.m4 ?_ | refine X.m5 ?_ | refine X.m6 ?_ | refine X.l1 ?_ | refine X.l2 ?_ | refine X.l3 ?_ | refine X.l4 ?_ | refine X.l5 ?_ | refine X.l10 ?_ | refine X.l6 ?_ | refine X.l7 ?_ | refine X.l8 ?_ | refine X.l9 ?_ | refine X.m7 ?_ | refine X.m8 ?_ | (refine X.s1 ?_; intro w hw) | (refine X.s2 ?_; intro w hw) | refine X.e1 ?_ | refine X.e2 ?_ | (simp only [X.df, u16_u, u32_u]) | (simp (disch := omega) only [wi]))
  refine X.callN rfl rfl Try.func33 (bytes32_calls (n.setWidth 32) w) fun w _ hw => ?_
  rw [low32]
  repeat (first | refine X.p1 ?_ | refine X.p2 ?_ | refine X.p6 ?_ | refine X.p7 ?_ | refine X.p0 ?_ | refine X.p3 ?_ | refine X.p4 ?_ | refine X.p5 ?_ | refine X.p8 ?_ | refine X.p9 ?_ | refine X.q1 ?_ | refine X.q2 ?_ | refine X.q3 ?_ | refine X.q4 ?_ | refine X.q5 ?_ | refine X.q6 ?_ | refine X.q7 ?_ | refine X.q8 ?_ | refine X.q9 ?_ | refine X.q0 ?_ | refine X.m1 ?_ | refine X.m2 ?_ | refine X.m3 ?_ | refine X.m4 ?_ | refine X.m5 ?_ | refine X.m6 ?_ | refine X.l1 ?_ | refine X.l2 ?_ | refine X.l3 ?_ | refine X.l4 ?_ | refine X.l5 ?_ | refine X.l10 ?_ | refine X.l6 ?_ | refine X.l7 ?_ | refine X.l8 ?_ | refine X.l9 ?_ | refine X.m7 ?_ | refine X.m8 ?_ | (refine X.s1 ?_; intro w hw) | (refine X.s2 ?_; intro w hw) | refine X.e1 ?_ | refine X.e2 ?_ | (simp only [X.df]) | (simp (disch := omega) only [wi]))
  refine X.callN rfl rfl Try.func34 (bytes64_calls n w) fun w _ hw => ?_
  (first | refine X.nb ?_ | refine X.na ?_); intro g1 w _ hw
  (first | refine X.nb ?_ | refine X.na ?_); intro g2 w _ hw
  (first | refine X.nb ?_ | refine X.na ?_); intro g3 w _ hw
  repeat (first | refine X.p1 ?_ | refine X.p2 ?_ | refine X.p6 ?_ | refine X.p7 ?_ | refine X.p0 ?_ | refine X.p3 ?_ | refine X.p4 ?_ | refine X.p5 ?_ | refine X.p8 ?_ | refine X.p9 ?_ | refine X.q1 ?_ | refine X.q2 ?_ | refine X.q3 ?_ | refine X.q4 ?_ | refine X.q5 ?_ | refine X.q6 ?_ | refine X.q7 ?_ | refine X.q8 ?_ | refine X.q9 ?_ | refine X.q0 ?_ | refine X.m1 ?_ | refine X.m2 ?_ | refine X.m3 ?_ | refine X.m4 ?_ | refine X.m5 ?_ | refine X.m6 ?_ | refine X.l1 ?_ | refine X.l2 ?_ | refine X.l3 ?_ | refine X.l4 ?_ | refine X.l5 ?_ | refine X.l10 ?_ | refine X.l6 ?_ | refine X.l7 ?_ | refine X.l8 ?_ | refine X.l9 ?_ | refine X.m7 ?_ | refine X.m8 ?_ | (refine X.s1 ?_; intro w hw) | (refine X.s2 ?_; intro w hw) | refine X.e1 ?_ | refine X.e2 ?_ | (simp only [X.df]) | (simp (disch := omega) only [wi]))
  refine X.mix [0, 1, 2, 3, 4, 5, 6, 7, 8, 9, 10, 11, 12, 13, 14, 15, 16, 17, 18, 19, 20, 21, 22] [] hw fun w hk hw => ?_
  repeat (first | refine X.r1 ?_ | refine X.r2 ?_ | refine X.r4 ?_ | refine X.r3 ?_ | refine X.rm1 ?_ | refine X.rm2 ?_ | refine X.rm3 ?_ | refine X.rm4 ?_ | refine X.rm5 ?_ | refine X.rl1 ?_ | refine X.rl2 ?_ | refine X.rl3 ?_ | refine X.rl5 ?_ | refine X.rl6 ?_ | refine X.rm8 ?_ | refine X.re1 ?_ | refine X.re2 ?_ | (simp only [X.df]) | (simp (disch := omega) only [wi]))
  refine X.act ?_; refine X.callN rfl rfl Try.func13 (awake1 w) fun w kk hw => ?_; have hk := hk.no kk; refine mid_a hk ?_
  repeat (first | refine X.r1 ?_ | refine X.r2 ?_ | refine X.r4 ?_ | refine X.r3 ?_ | refine X.rm1 ?_ | refine X.rm2 ?_ | refine X.rm3 ?_ | refine X.rm4 ?_ | refine X.rm5 ?_ | refine X.rl1 ?_ | refine X.rl2 ?_ | refine X.rl3 ?_ | refine X.rl5 ?_ | refine X.rl6 ?_ | refine X.rm8 ?_ | refine X.re1 ?_ | refine X.re2 ?_ | (simp only [X.df]) | (simp (disch := omega) only [wi]))
  refine X.act ?_; refine X.call rfl rfl Try.func36 (refBytes_calls n 2 (by decide) w) ?_; rintro v w hh; have kk := hh.kpNo ro_nil; have hw := hw.call .nil hh; simp only [List.cons_append, List.nil_append] at hw; have hk := hk.no kk; refine mid_a hk ?_
  obtain ⟨A, c, rfl, hrow⟩ := hw.vecRow (v := v) (by (repeat (first | (with_reducible exact Pick.here) | (with_reducible exact Put.here) | (with_reducible apply Pick.there) | (with_reducible apply Put.there))))
  repeat (first | refine X.r1 ?_ | refine X.r2 ?_ | refine X.r4 ?_ | refine X.r3 ?_ | refine X.rm1 ?_ | refine X.rm2 ?_ | refine X.rm3 ?_ | refine X.rm4 ?_ | refine X.rm5 ?_ | refine X.rl1 ?_ | refine X.rl2 ?_ | refine X.rl3 ?_ | refine X.rl5 ?_ | refine X.rl6 ?_ | refine X.rm8 ?_ | refine X.re1 ?_ | refine X.re2 ?_ | (simp only [X.df]) | (simp (disch := omega) only [wi]))
  refine X.act ?_; refine X.callN rfl rfl Try.func35 (bytes_calls _ _ (leB n 2) (leB n 2) _ _ _ _ i2 i2 w (Pre.cons_ro (Pre.cons_ro Pre.nil hrow rfl ro_nil) (blk_rowI (hw.blk (by (repeat (first | (with_reducible exact Pick.here) | (with_reducible exact Put.here) | (with_reducible apply Pick.there) | (with_reducible apply Put.there)))))) rfl (ro_cons rfl ro_nil))) fun w kk hw => ?_; have hk := hk.no kk; refine mid_a hk ?_
  repeat (first | refine X.r1 ?_ | refine X.r2 ?_ | refine X.r4 ?_ | refine X.r3 ?_ | refine X.rm1 ?_ | refine X.rm2 ?_ | refine X.rm3 ?_ | refine X.rm4 ?_ | refine X.rm5 ?_ | refine X.rl1 ?_ | refine X.rl2 ?_ | refine X.rl3 ?_ | refine X.rl5 ?_ | refine X.rl6 ?_ | refine X.rm8 ?_ | refine X.re1 ?_ | refine X.re2 ?_ | (simp only [X.df]) | (simp (disch := omega) only [wi]))
  refine X.act ?_; refine X.call rfl rfl Try.func36 (refBytes_calls n 4 (by decide) w) ?_; rintro v w hh; have kk := hh.kpNo ro_nil; have hw := hw.call .nil hh; simp only [List.cons_append, List.nil_append] at hw; have hk := hk.no kk; refine mid_a hk ?_
  obtain ⟨A, c, rfl, hrow⟩ := hw.vecRow (v := v) (by (repeat (first | (with_reducible exact Pick.here) | (with_reducible exact Put.here) | (with_reducible apply Pick.there) | (with_reducible apply Put.there))))
  repeat (first | refine X.r1 ?_ | refine X.r2 ?_ | refine X.r4 ?_ | refine X.r3 ?_ | refine X.rm1 ?_ | refine X.rm2 ?_ | refine X.rm3 ?_ | refine X.rm4 ?_ | refine X.rm5 ?_ | refine X.rl1 ?_ | refine X.rl2 ?_ | refine X.rl3 ?_ | refine X.rl5 ?_ | refine X.rl6 ?_ | refine X.rm8 ?_ | refine X.re1 ?_ | refine X.re2 ?_ | (simp only [X.df]) | (simp (disch := omega) only [wi]))
  refine X.act ?_; refine X.callN rfl rfl Try.func35 (bytes_calls _ _ (leB n 4) (leB n 4) _ _ _ _ i4 i4 w (Pre.cons_ro (Pre.cons_ro Pre.nil hrow rfl ro_nil) (blk_rowI (hw.blk (by (repeat (first | (with_reducible exact Pick.here) | (with_reducible exact Put.here) | (with_reducible apply Pick.there) | (with_reducible apply Put.there)))))) rfl (ro_cons rfl ro_nil))) fun w kk hw => ?_; have hk := hk.no kk; refine mid_a hk ?_
  repeat (first | refine X.r1 ?_ | refine X.r2 ?_ | refine X.r4 ?_ | refine X.r3 ?_ | refine X.rm1 ?_ | refine X.rm2 ?_ | refine X.rm3 ?_ | refine X.rm4 ?_ | refine X.rm5 ?_ | refine X.rl1 ?_ | refine X.rl2 ?_ | refine X.rl3 ?_ | refine X.rl5 ?_ | refine X.rl6 ?_ | refine X.rm8 ?_ | refine X.re1 ?_ | refine X.re2 ?_ | (simp only [X.df]) | (simp (disch := omega) only [wi]))
  refine X.act ?_; refine X.call rfl rfl Try.func36 (refBytes_calls n 8 (by decide) w) ?_; rintro v w hh; have kk := hh.kpNo ro_nil; have hw := hw.call .nil hh; simp only [List.cons_append, List.nil_append] at hw; have hk := hk.no kk; refine mid_a hk ?_
  obtain ⟨A, c, rfl, hrow⟩ := hw.vecRow (v := v) (by (repeat (first | (with_reducible exact Pick.here) | (with_reducible exact Put.here) | (with_reducible apply Pick.there) | (with_reducible apply Put.there))))
  repeat (first | refine X.r1 ?_ | refine X.r2 ?_ | refine X.r4 ?_ | refine X.r3 ?_ | refine X.rm1 ?_ | refine X.rm2 ?_ | refine X.rm3 ?_ | refine X.rm4 ?_ | refine X.rm5 ?_ | refine X.rl1 ?_ | refine X.rl2 ?_ | refine X.rl3 ?_ | refine X.rl5 ?_ | refine X.rl6 ?_ | refine X.rm8 ?_ | refine X.re1 ?_ | refine X.re2 ?_ | (simp only [X.df]) | (simp (disch := omega) only [wi]))
  refine X.act ?_; refine X.callN rfl rfl Try.func35 (bytes_calls _ _ (leB n 8) (leB n 8) _ _ _ _ i8 i8 w (Pre.cons_ro (Pre.cons_ro Pre.nil hrow rfl ro_nil) (blk_rowI (hw.blk (by (repeat (first | (with_reducible exact Pick.here) | (with_reducible exact Put.here) | (with_reducible apply Pick.there) | (with_reducible apply Put.there)))))) rfl (ro_cons rfl ro_nil))) fun w kk hw => ?_; have hk := hk.no kk; refine mid_a hk ?_
  repeat (first | refine X.r1 ?_ | refine X.r2 ?_ | refine X.r4 ?_ | refine X.r3 ?_ | refine X.rm1 ?_ | refine X.rm2 ?_ | refine X.rm3 ?_ | refine X.rm4 ?_ | refine X.rm5 ?_ | refine X.rl1 ?_ | refine X.rl2 ?_ | refine X.rl3 ?_ | refine X.rl5 ?_ | refine X.rl6 ?_ | refine X.rm8 ?_ | refine X.re1 ?_ | refine X.re2 ?_ | (simp only [X.df]) | (simp (disch := omega) only [wi]))
  repeat (first | refine X.p1 ?_ | refine X.p2 ?_ | refine X.p6 ?_ | refine X.p7 ?_ | refine X.p0 ?_ | refine X.p3 ?_ | refine X.p4 ?_ | refine X.p5 ?_ | refine X.p8 ?_ | refine X.p9 ?_ | refine X.q1 ?_ | refine X.q2 ?_ | refine X.q3 ?_ | refine X.q4 ?_ | refine X.q5 ?_ | refine X.q6 ?_ | refine X.q7 ?_ | refine X.q8 ?_ | refine X.q9 ?_ | refine X.q0 ?_ | refine X.m1 ?_ | refine X.m2 ?_ | refine X.m3 ?_ | refine X.m4 ?_ | refine X.m5 ?_ | refine X.m6 ?_ | refine X.l1 ?_ | refine X.l2 ?_ | refine X.l3 ?_ | refine X.l4 ?_ | refine X.l5 ?_ | refine X.l10 ?_ | refine X.l6 ?_ | refine X.l7 ?_ | refine X.l8 ?_ | refine X.l9 ?_ | refine X.m7 ?_ | refine X.m8 ?_ | (refine X.s1 ?_; intro w hw) | (refine X.s2 ?_; intro w hw) | refine X.e1 ?_ | refine X.e2 ?_ | (simp only [X.df]) | (simp (disch := omega) only [wi]))
  refine X.callN rfl rfl Try.func37 (of16_calls (leB n 2) i2 w) fun w _ hw => ?_
  rw [← low16, back16]
  repeat (first | refine X.p1 ?_ | refine X.p2 ?_ | refine X.p6 ?_ | refine X.p7 ?_ | refine X.p0 ?_ | refine X.p3 ?_ | refine X.p4 ?_ | refine X.p5 ?_ | refine X.p8 ?_ | refine X.p9 ?_ | refine X.q1 ?_ | refine X.q2 ?_ | refine X.q3 ?_ | refine X.q4 ?_ | refine X.q5 ?_ | refine X.q6 ?_ | refine X.q7 ?_ | refine X.q8 ?_ | refine X.q9 ?_ | refine X.q0 ?_ | refine X.m1 ?_ | refine X.m2 ?_ | refine X.m3 ?_ | refine X.m4 ?_ | refine X.m5 ?_ | refine X.m6 ?_ | refine X.l1 ?_ | refine X.l2 ?_ | refine X.l3 ?_ | refine X.l4 ?_ | refine X.l5 ?_ | refine X.l10 ?_ | refine X.l6 ?_ | refine X.l7 ?_ | refine X.l8 ?_ | refine X.l9 ?_ | refine X.m7 ?_ | refine X.m8 ?_ | (refine X.s1 ?_; intro w hw) | (refine X.s2 ?_; intro w hw) | refine X.e1 ?_ | refine X.e2 ?_ | (simp only [X.df, u16_u]) | (simp (disch := omega) only [wi]))
  refine X.callN rfl rfl Try.func38 (of32_calls (leB n 4) i4 w) fun w _ hw => ?_
  rw [← low32, back32]
  repeat (first | refine X.p1 ?_ | refine X.p2 ?_ | refine X.p6 ?_ | refine X.p7 ?_ | refine X.p0 ?_ | refine X.p3 ?_ | refine X.p4 ?_ | refine X.p5 ?_ | refine X.p8 ?_ | refine X.p9 ?_ | refine X.q1 ?_ | refine X.q2 ?_ | refine X.q3 ?_ | refine X.q4 ?_ | refine X.q5 ?_ | refine X.q6 ?_ | refine X.q7 ?_ | refine X.q8 ?_ | refine X.q9 ?_ | refine X.q0 ?_ | refine X.m1 ?_ | refine X.m2 ?_ | refine X.m3 ?_ | refine X.m4 ?_ | refine X.m5 ?_ | refine X.m6 ?_ | refine X.l1 ?_ | refine X.l2 ?_ | refine X.l3 ?_ | refine X.l4 ?_ | refine X.l5 ?_ | refine X.l10 ?_ | refine X.l6 ?_ | refine X.l7 ?_ | refine X.l8 ?_ | refine X.l9 ?_ | refine X.m7 ?_ | refine X.m8 ?_ | (refine X.s1 ?_; intro w hw) | (refine X.s2 ?_; intro w hw) | refine X.e1 ?_ | refine X.e2 ?_ | (simp only [X.df, u32_u]) | (simp (disch := omega) only [wi]))
  refine X.callN rfl rfl Try.func39 (of64_calls (leB n 8) i8 w) fun w _ hw => ?_
  rw [back64]
  repeat (first | refine X.p1 ?_ | refine X.p2 ?_ | refine X.p6 ?_ | refine X.p7 ?_ | refine X.p0 ?_ | refine X.p3 ?_ | refine X.p4 ?_ | refine X.p5 ?_ | refine X.p8 ?_ | refine X.p9 ?_ | refine X.q1 ?_ | refine X.q2 ?_ | refine X.q3 ?_ | refine X.q4 ?_ | refine X.q5 ?_ | refine X.q6 ?_ | refine X.q7 ?_ | refine X.q8 ?_ | refine X.q9 ?_ | refine X.q0 ?_ | refine X.m1 ?_ | refine X.m2 ?_ | refine X.m3 ?_ | refine X.m4 ?_ | refine X.m5 ?_ | refine X.m6 ?_ | refine X.l1 ?_ | refine X.l2 ?_ | refine X.l3 ?_ | refine X.l4 ?_ | refine X.l5 ?_ | refine X.l10 ?_ | refine X.l6 ?_ | refine X.l7 ?_ | refine X.l8 ?_ | refine X.l9 ?_ | refine X.m7 ?_ | refine X.m8 ?_ | (refine X.s1 ?_; intro w hw) | (refine X.s2 ?_; intro w hw) | refine X.e1 ?_ | refine X.e2 ?_ | (simp only [X.df]) | (simp (disch := omega) only [wi]))
  refine X.callN rfl rfl Try.func40 (take16_calls s at_ hat hs w) fun w _ hw => ?_
  repeat (first | refine X.p1 ?_ | refine X.p2 ?_ | refine X.p6 ?_ | refine X.p7 ?_ | refine X.p0 ?_ | refine X.p3 ?_ | refine X.p4 ?_ | refine X.p5 ?_ | refine X.p8 ?_ | refine X.p9 ?_ | refine X.q1 ?_ | refine X.q2 ?_ | refine X.q3 ?_ | refine X.q4 ?_ | refine X.q5 ?_ | refine X.q6 ?_ | refine X.q7 ?_ | refine X.q8 ?_ | refine X.q9 ?_ | refine X.q0 ?_ | refine X.m1 ?_ | refine X.m2 ?_ | refine X.m3 ?_ | refine X.m4 ?_ | refine X.m5 ?_ | refine X.m6 ?_ | refine X.l1 ?_ | refine X.l2 ?_ | refine X.l3 ?_ | refine X.l4 ?_ | refine X.l5 ?_ | refine X.l10 ?_ | refine X.l6 ?_ | refine X.l7 ?_ | refine X.l8 ?_ | refine X.l9 ?_ | refine X.m7 ?_ | refine X.m8 ?_ | (refine X.s1 ?_; intro w hw) | (refine X.s2 ?_; intro w hw) | refine X.e1 ?_ | refine X.e2 ?_ | (simp only [X.df]) | (simp (disch := omega) only [wi]))
  refine X.callN rfl rfl Try.func41 (take32_calls s at_ hat hs w) fun w _ hw => ?_
  repeat (first | refine X.p1 ?_ | refine X.p2 ?_ | refine X.p6 ?_ | refine X.p7 ?_ | refine X.p0 ?_ | refine X.p3 ?_ | refine X.p4 ?_ | refine X.p5 ?_ | refine X.p8 ?_ | refine X.p9 ?_ | refine X.q1 ?_ | refine X.q2 ?_ | refine X.q3 ?_ | refine X.q4 ?_ | refine X.q5 ?_ | refine X.q6 ?_ | refine X.q7 ?_ | refine X.q8 ?_ | refine X.q9 ?_ | refine X.q0 ?_ | refine X.m1 ?_ | refine X.m2 ?_ | refine X.m3 ?_ | refine X.m4 ?_ | refine X.m5 ?_ | refine X.m6 ?_ | refine X.l1 ?_ | refine X.l2 ?_ | refine X.l3 ?_ | refine X.l4 ?_ | refine X.l5 ?_ | refine X.l10 ?_ | refine X.l6 ?_ | refine X.l7 ?_ | refine X.l8 ?_ | refine X.l9 ?_ | refine X.m7 ?_ | refine X.m8 ?_ | (refine X.s1 ?_; intro w hw) | (refine X.s2 ?_; intro w hw) | refine X.e1 ?_ | refine X.e2 ?_ | (simp only [X.df]) | (simp (disch := omega) only [wi]))
  refine X.callN rfl rfl Try.func42 (take64_calls s at_ hat hs w) fun w _ hw => ?_
  repeat (first | refine X.p1 ?_ | refine X.p2 ?_ | refine X.p6 ?_ | refine X.p7 ?_ | refine X.p0 ?_ | refine X.p3 ?_ | refine X.p4 ?_ | refine X.p5 ?_ | refine X.p8 ?_ | refine X.p9 ?_ | refine X.q1 ?_ | refine X.q2 ?_ | refine X.q3 ?_ | refine X.q4 ?_ | refine X.q5 ?_ | refine X.q6 ?_ | refine X.q7 ?_ | refine X.q8 ?_ | refine X.q9 ?_ | refine X.q0 ?_ | refine X.m1 ?_ | refine X.m2 ?_ | refine X.m3 ?_ | refine X.m4 ?_ | refine X.m5 ?_ | refine X.m6 ?_ | refine X.l1 ?_ | refine X.l2 ?_ | refine X.l3 ?_ | refine X.l4 ?_ | refine X.l5 ?_ | refine X.l10 ?_ | refine X.l6 ?_ | refine X.l7 ?_ | refine X.l8 ?_ | refine X.l9 ?_ | refine X.m7 ?_ | refine X.m8 ?_ | (refine X.s1 ?_; intro w hw) | (refine X.s2 ?_; intro w hw) | refine X.e1 ?_ | refine X.e2 ?_ | (simp only [X.df]) | (simp (disch := omega) only [wi]))
  refine X.callN rfl rfl Try.func43 (refTake_calls s at_ 2 hat (by decide) (by decide) hs w) fun w _ hw => ?_
  repeat (first | refine X.p1 ?_ | refine X.p2 ?_ | refine X.p6 ?_ | refine X.p7 ?_ | refine X.p0 ?_ | refine X.p3 ?_ | refine X.p4 ?_ | refine X.p5 ?_ | refine X.p8 ?_ | refine X.p9 ?_ | refine X.q1 ?_ | refine X.q2 ?_ | refine X.q3 ?_ | refine X.q4 ?_ | refine X.q5 ?_ | refine X.q6 ?_ | refine X.q7 ?_ | refine X.q8 ?_ | refine X.q9 ?_ | refine X.q0 ?_ | refine X.m1 ?_ | refine X.m2 ?_ | refine X.m3 ?_ | refine X.m4 ?_ | refine X.m5 ?_ | refine X.m6 ?_ | refine X.l1 ?_ | refine X.l2 ?_ | refine X.l3 ?_ | refine X.l4 ?_ | refine X.l5 ?_ | refine X.l10 ?_ | refine X.l6 ?_ | refine X.l7 ?_ | refine X.l8 ?_ | refine X.l9 ?_ | refine X.m7 ?_ | refine X.m8 ?_ | (refine X.s1 ?_; intro w hw) | (refine X.s2 ?_; intro w hw) | refine X.e1 ?_ | refine X.e2 ?_ | (simp only [X.df]) | (simp (disch := omega) only [wi]))
  refine X.callN rfl rfl Try.func43 (refTake_calls s at_ 4 hat (by decide) (by decide) hs w) fun w _ hw => ?_
  repeat (first | refine X.p1 ?_ | refine X.p2 ?_ | refine X.p6 ?_ | refine X.p7 ?_ | refine X.p0 ?_ | refine X.p3 ?_ | refine X.p4 ?_ | refine X.p5 ?_ | refine X.p8 ?_ | refine X.p9 ?_ | refine X.q1 ?_ | refine X.q2 ?_ | refine X.q3 ?_ | refine X.q4 ?_ | refine X.q5 ?_ | refine X.q6 ?_ | refine X.q7 ?_ | refine X.q8 ?_ | refine X.q9 ?_ | refine X.q0 ?_ | refine X.m1 ?_ | refine X.m2 ?_ | refine X.m3 ?_ | refine X.m4 ?_ | refine X.m5 ?_ | refine X.m6 ?_ | refine X.l1 ?_ | refine X.l2 ?_ | refine X.l3 ?_ | refine X.l4 ?_ | refine X.l5 ?_ | refine X.l10 ?_ | refine X.l6 ?_ | refine X.l7 ?_ | refine X.l8 ?_ | refine X.l9 ?_ | refine X.m7 ?_ | refine X.m8 ?_ | (refine X.s1 ?_; intro w hw) | (refine X.s2 ?_; intro w hw) | refine X.e1 ?_ | refine X.e2 ?_ | (simp only [X.df]) | (simp (disch := omega) only [wi]))
  refine X.callN rfl rfl Try.func43 (refTake_calls s at_ 8 hat (by decide) (by decide) hs w) fun w _ hw => ?_
  repeat (first | refine X.p1 ?_ | refine X.p2 ?_ | refine X.p6 ?_ | refine X.p7 ?_ | refine X.p0 ?_ | refine X.p3 ?_ | refine X.p4 ?_ | refine X.p5 ?_ | refine X.p8 ?_ | refine X.p9 ?_ | refine X.q1 ?_ | refine X.q2 ?_ | refine X.q3 ?_ | refine X.q4 ?_ | refine X.q5 ?_ | refine X.q6 ?_ | refine X.q7 ?_ | refine X.q8 ?_ | refine X.q9 ?_ | refine X.q0 ?_ | refine X.m1 ?_ | refine X.m2 ?_ | refine X.m3 ?_ | refine X.m4 ?_ | refine X.m5 ?_ | refine X.m6 ?_ | refine X.l1 ?_ | refine X.l2 ?_ | refine X.l3 ?_ | refine X.l4 ?_ | refine X.l5 ?_ | refine X.l10 ?_ | refine X.l6 ?_ | refine X.l7 ?_ | refine X.l8 ?_ | refine X.l9 ?_ | refine X.m7 ?_ | refine X.m8 ?_ | (refine X.s1 ?_; intro w hw) | (refine X.s2 ?_; intro w hw) | refine X.e1 ?_ | refine X.e2 ?_ | (simp only [X.df, u64_u, tk16, tk32]) | (simp (disch := omega) only [wi]))
  exact xw_ret (vs := [_]) Try.results7 ⟨rfl, trivial⟩ ⟨rfl, hw.kpNo ro_nil⟩
end Go.Proofs.Ytfpikmfonpnicaa.Wd
