/- The walks of the quarter of a round. -/
import Derived.Test.YtbfpgigbakhplaaTab
import Derived.Test.YtbfpgigbakhplaaBw
import Derived.Test.YtbfpgigbakhplaaMx
import Derived.Test.YtbfpgigbakhplaaBy
namespace Go.Proofs.Ytbfpgigbakhplaa.MixQ
open Go.RowKit Go.Proofs.Ytbfpgigbakhplaa.Sx Go.Proofs.Ytbfpgigbakhplaa.Mx Go.Proofs.Ytbfpgigbakhplaa.Bw Go.Proofs.Ytbfpgigbakhplaa.By
set_option linter.unusedVariables false

/-- A word turned to the left. -/
def turnN (X : BitVec 32) (n : Nat) : BitVec 32 := (X <<< n) ||| (X >>> (32 - n))

theorem and31 (m : Nat) (hm : m < 32) : bits .and .u64 (IntKind.u64.wrap (m : Int)) 31 = m := by
  have h := and_u64 (BitVec.ofNat 64 m) (31#64)
  have e1 : (BitVec.ofNat 64 m).toNat = m := by rw [BitVec.toNat_ofNat]; omega
  have e2 : (31#64).toNat = 2 ^ 5 - 1 := by decide
  rw [BitVec.toNat_and, e1, e2, Nat.and_two_pow_sub_one_eq_mod] at h
  rw [u64_of _ (by omega) (by omega)]
  have e3 : (((2 ^ 5 - 1 : Nat)) : Int) = 31 := by decide
  rw [e3] at h
  rw [h]
  omega

theorem rotl (X : BitVec 32) (m : Nat) (hm : m < 32) (w : World) : Does Try.prog 120 [u32 X, .int .i64 m] w fun v w' => v = u32 (turnN X m) ∧ w = w' := by
  refine fn_enter Try.func120 rfl Try.ntmps120 rfl ?_
  repeat (first | ((with_reducible apply ow_pure tab); (next => exact rfl); (next => exact rfl)) | ((with_reducible apply ow_nil)) | ((with_reducible apply xw_then_normal)) | ((with_reducible apply cw_seq)) | ((with_reducible apply cw_region)) | ((with_reducible apply ow_guardY); (next => exact rfl); (next => first | (with_reducible exact rfl) | decide | (simp; done))) | ((with_reducible apply ow_guard_no); (next => exact rfl); (next => exact rfl); (next => first | (with_reducible exact rfl) | decide | (simp; done))) | ((with_reducible apply cw_condT); (next => exact rfl); (next => first | (with_reducible exact rfl) | decide | (simp; done))) | ((with_reducible apply cw_condF); (next => exact rfl); (next => first | (with_reducible exact rfl) | decide | (simp; done))) | ((with_reducible apply cw_block)) | ((with_reducible apply cw_exit)) | ((with_reducible apply cw_ret)) | ((with_reducible apply cw_skip)) | ((with_reducible apply xw_then_exit)) | ((with_reducible apply xw_then_ret)) | ((with_reducible apply xw_block_normal)) | ((with_reducible apply xw_block_ret)) | ((with_reducible apply xw_block_same)) | ((with_reducible apply xw_block_other); (next => exact rfl)))
  rw [and31 m hm]
  refine ow_shl rfl rfl rfl (by omega) (shl_u32 X _) ?_
  repeat (first | ((with_reducible apply ow_pure tab); (next => exact rfl); (next => exact rfl)) | ((with_reducible apply ow_nil)) | ((with_reducible apply xw_then_normal)) | ((with_reducible apply cw_seq)) | ((with_reducible apply cw_region)) | ((with_reducible apply ow_guardY); (next => exact rfl); (next => first | (with_reducible exact rfl) | decide | (simp; done))) | ((with_reducible apply ow_guard_no); (next => exact rfl); (next => exact rfl); (next => first | (with_reducible exact rfl) | decide | (simp; done))) | ((with_reducible apply cw_condT); (next => exact rfl); (next => first | (with_reducible exact rfl) | decide | (simp; done))) | ((with_reducible apply cw_condF); (next => exact rfl); (next => first | (with_reducible exact rfl) | decide | (simp; done))) | ((with_reducible apply cw_block)) | ((with_reducible apply cw_exit)) | ((with_reducible apply cw_ret)) | ((with_reducible apply cw_skip)) | ((with_reducible apply xw_then_exit)) | ((with_reducible apply xw_then_ret)) | ((with_reducible apply xw_block_normal)) | ((with_reducible apply xw_block_ret)) | ((with_reducible apply xw_block_same)) | ((with_reducible apply xw_block_other); (next => exact rfl)))
  refine ow_shr rfl rfl rfl (by rw [u64_of _ (by omega) (by omega)]; omega) (shr_u32 X _) ?_
  repeat (first | ((with_reducible apply ow_pure tab); (next => exact rfl); (next => exact rfl)) | ((with_reducible apply ow_nil)) | ((with_reducible apply xw_then_normal)) | ((with_reducible apply cw_seq)) | ((with_reducible apply cw_region)) | ((with_reducible apply ow_guardY); (next => exact rfl); (next => first | (with_reducible exact rfl) | decide | (simp; done))) | ((with_reducible apply ow_guard_no); (next => exact rfl); (next => exact rfl); (next => first | (with_reducible exact rfl) | decide | (simp; done))) | ((with_reducible apply cw_condT); (next => exact rfl); (next => first | (with_reducible exact rfl) | decide | (simp; done))) | ((with_reducible apply cw_condF); (next => exact rfl); (next => first | (with_reducible exact rfl) | decide | (simp; done))) | ((with_reducible apply cw_block)) | ((with_reducible apply cw_exit)) | ((with_reducible apply cw_ret)) | ((with_reducible apply cw_skip)) | ((with_reducible apply xw_then_exit)) | ((with_reducible apply xw_then_ret)) | ((with_reducible apply xw_block_normal)) | ((with_reducible apply xw_block_ret)) | ((with_reducible apply xw_block_same)) | ((with_reducible apply xw_block_other); (next => exact rfl)))
  refine xw_ret (vs := [_]) Try.results120 ⟨rfl, trivial⟩ ⟨?_, rfl⟩
  rw [u64_of _ (by omega) (by omega), or_u32, show ((32 : Int) - (m : Int)).toNat = 32 - m from by omega, Int.toNat_natCast]
  rfl
/-- How far a number turns. -/
def tn (b : Int) : Nat := (b % 32).toNat
theorem turn (X : BitVec 32) (b : Int) (w : World) : Does Try.prog 119 [u32 X, .int .i64 b] w fun v w' => v = u32 (turnN X (tn b)) ∧ w = w' := by
  have hb : bits .and .i64 b 31 = (tn b : Int) := by
    have h : bits .and .i64 b 31 = b % 32 := mask_i64 b 5 (by omega)
    rw [h]; unfold tn; omega
  refine fn_enter Try.func119 rfl Try.ntmps119 rfl ?_
  repeat (first | ((with_reducible apply ow_pure tab); (next => exact rfl); (next => exact rfl)) | ((with_reducible apply ow_nil)) | ((with_reducible apply xw_then_normal)) | ((with_reducible apply cw_seq)) | ((with_reducible apply cw_region)) | ((with_reducible apply ow_guardY); (next => exact rfl); (next => first | (with_reducible exact rfl) | decide | (simp; done))) | ((with_reducible apply ow_guard_no); (next => exact rfl); (next => exact rfl); (next => first | (with_reducible exact rfl) | decide | (simp; done))) | ((with_reducible apply cw_condT); (next => exact rfl); (next => first | (with_reducible exact rfl) | decide | (simp; done))) | ((with_reducible apply cw_condF); (next => exact rfl); (next => first | (with_reducible exact rfl) | decide | (simp; done))) | ((with_reducible apply cw_block)) | ((with_reducible apply cw_exit)) | ((with_reducible apply cw_ret)) | ((with_reducible apply cw_skip)) | ((with_reducible apply xw_then_exit)) | ((with_reducible apply xw_then_ret)) | ((with_reducible apply xw_block_normal)) | ((with_reducible apply xw_block_ret)) | ((with_reducible apply xw_block_same)) | ((with_reducible apply xw_block_other); (next => exact rfl)))
  rw [hb]
  refine ow_call rfl rfl rfl Try.func120 rfl rfl (rotl X (tn b) (by unfold tn; omega) w) ?_
  rintro v w' ⟨rfl, rfl⟩
  repeat (first | ((with_reducible apply ow_pure tab); (next => exact rfl); (next => exact rfl)) | ((with_reducible apply ow_nil)) | ((with_reducible apply xw_then_normal)) | ((with_reducible apply cw_seq)) | ((with_reducible apply cw_region)) | ((with_reducible apply ow_guardY); (next => exact rfl); (next => first | (with_reducible exact rfl) | decide | (simp; done))) | ((with_reducible apply ow_guard_no); (next => exact rfl); (next => exact rfl); (next => first | (with_reducible exact rfl) | decide | (simp; done))) | ((with_reducible apply cw_condT); (next => exact rfl); (next => first | (with_reducible exact rfl) | decide | (simp; done))) | ((with_reducible apply cw_condF); (next => exact rfl); (next => first | (with_reducible exact rfl) | decide | (simp; done))) | ((with_reducible apply cw_block)) | ((with_reducible apply cw_exit)) | ((with_reducible apply cw_ret)) | ((with_reducible apply cw_skip)) | ((with_reducible apply xw_then_exit)) | ((with_reducible apply xw_then_ret)) | ((with_reducible apply xw_block_normal)) | ((with_reducible apply xw_block_ret)) | ((with_reducible apply xw_block_same)) | ((with_reducible apply xw_block_other); (next => exact rfl)))
  exact xw_ret (vs := [_]) Try.results119 ⟨rfl, trivial⟩ ⟨rfl, rfl⟩
theorem step (a b d : BitVec 32) (k : Int) (w : World) : Does Try.prog 117 [u32 a, u32 b, u32 d, .int .i64 k] w fun v w' => v = .tuple #[u32 (a + b), u32 (turnN (d ^^^ (a + b)) (tn k))] ∧ w = w' := by
  refine fn_enter Try.func117 rfl Try.ntmps117 rfl ?_
  repeat (first | ((with_reducible apply ow_pure tab); (next => exact rfl); (next => exact rfl)) | ((with_reducible apply ow_nil)) | ((with_reducible apply xw_then_normal)) | ((with_reducible apply cw_seq)) | ((with_reducible apply cw_region)) | ((with_reducible apply ow_guardY); (next => exact rfl); (next => first | (with_reducible exact rfl) | decide | (simp; done))) | ((with_reducible apply ow_guard_no); (next => exact rfl); (next => exact rfl); (next => first | (with_reducible exact rfl) | decide | (simp; done))) | ((with_reducible apply cw_condT); (next => exact rfl); (next => first | (with_reducible exact rfl) | decide | (simp; done))) | ((with_reducible apply cw_condF); (next => exact rfl); (next => first | (with_reducible exact rfl) | decide | (simp; done))) | ((with_reducible apply cw_block)) | ((with_reducible apply cw_exit)) | ((with_reducible apply cw_ret)) | ((with_reducible apply cw_skip)) | ((with_reducible apply xw_then_exit)) | ((with_reducible apply xw_then_ret)) | ((with_reducible apply xw_block_normal)) | ((with_reducible apply xw_block_ret)) | ((with_reducible apply xw_block_same)) | ((with_reducible apply xw_block_other); (next => exact rfl)))
  simp only [add_u32, xor_u32]
  refine ow_call rfl rfl rfl Try.func119 rfl rfl (turn _ k w) ?_
  rintro v w' ⟨rfl, rfl⟩
  repeat (first | ((with_reducible apply ow_pure tab); (next => exact rfl); (next => exact rfl)) | ((with_reducible apply ow_nil)) | ((with_reducible apply xw_then_normal)) | ((with_reducible apply cw_seq)) | ((with_reducible apply cw_region)) | ((with_reducible apply ow_guardY); (next => exact rfl); (next => first | (with_reducible exact rfl) | decide | (simp; done))) | ((with_reducible apply ow_guard_no); (next => exact rfl); (next => exact rfl); (next => first | (with_reducible exact rfl) | decide | (simp; done))) | ((with_reducible apply cw_condT); (next => exact rfl); (next => first | (with_reducible exact rfl) | decide | (simp; done))) | ((with_reducible apply cw_condF); (next => exact rfl); (next => first | (with_reducible exact rfl) | decide | (simp; done))) | ((with_reducible apply cw_block)) | ((with_reducible apply cw_exit)) | ((with_reducible apply cw_ret)) | ((with_reducible apply cw_skip)) | ((with_reducible apply xw_then_exit)) | ((with_reducible apply xw_then_ret)) | ((with_reducible apply xw_block_normal)) | ((with_reducible apply xw_block_ret)) | ((with_reducible apply xw_block_same)) | ((with_reducible apply xw_block_other); (next => exact rfl)))
  exact xw_ret (vs := [_, _]) Try.results117 ⟨rfl, rfl, trivial⟩ ⟨rfl, rfl⟩
theorem back (a b d : BitVec 32) (k : Int) (hk : -1000 ≤ k ∧ k ≤ 1000) (w : World) : Does Try.prog 118 [u32 a, u32 b, u32 d, .int .i64 k] w fun v w' => v = .tuple #[u32 (a - b), u32 (turnN d (tn (-k)) ^^^ a)] ∧ w = w' := by
  refine fn_enter Try.func118 rfl Try.ntmps118 rfl ?_
  repeat (first | ((with_reducible apply ow_pure tab); (next => exact rfl); (next => exact rfl)) | ((with_reducible apply ow_nil)) | ((with_reducible apply xw_then_normal)) | ((with_reducible apply cw_seq)) | ((with_reducible apply cw_region)) | ((with_reducible apply ow_guardY); (next => exact rfl); (next => first | (with_reducible exact rfl) | decide | (simp; done))) | ((with_reducible apply ow_guard_no); (next => exact rfl); (next => exact rfl); (next => first | (with_reducible exact rfl) | decide | (simp; done))) | ((with_reducible apply cw_condT); (next => exact rfl); (next => first | (with_reducible exact rfl) | decide | (simp; done))) | ((with_reducible apply cw_condF); (next => exact rfl); (next => first | (with_reducible exact rfl) | decide | (simp; done))) | ((with_reducible apply cw_block)) | ((with_reducible apply cw_exit)) | ((with_reducible apply cw_ret)) | ((with_reducible apply cw_skip)) | ((with_reducible apply xw_then_exit)) | ((with_reducible apply xw_then_ret)) | ((with_reducible apply xw_block_normal)) | ((with_reducible apply xw_block_ret)) | ((with_reducible apply xw_block_same)) | ((with_reducible apply xw_block_other); (next => exact rfl)))
  rw [wi (0 - k) (by omega) (by omega), Int.zero_sub]
  refine ow_call rfl rfl rfl Try.func119 rfl rfl (turn _ (-k) w) ?_
  rintro v w' ⟨rfl, rfl⟩
  repeat (first | ((with_reducible apply ow_pure tab); (next => exact rfl); (next => exact rfl)) | ((with_reducible apply ow_nil)) | ((with_reducible apply xw_then_normal)) | ((with_reducible apply cw_seq)) | ((with_reducible apply cw_region)) | ((with_reducible apply ow_guardY); (next => exact rfl); (next => first | (with_reducible exact rfl) | decide | (simp; done))) | ((with_reducible apply ow_guard_no); (next => exact rfl); (next => exact rfl); (next => first | (with_reducible exact rfl) | decide | (simp; done))) | ((with_reducible apply cw_condT); (next => exact rfl); (next => first | (with_reducible exact rfl) | decide | (simp; done))) | ((with_reducible apply cw_condF); (next => exact rfl); (next => first | (with_reducible exact rfl) | decide | (simp; done))) | ((with_reducible apply cw_block)) | ((with_reducible apply cw_exit)) | ((with_reducible apply cw_ret)) | ((with_reducible apply cw_skip)) | ((with_reducible apply xw_then_exit)) | ((with_reducible apply xw_then_ret)) | ((with_reducible apply xw_block_normal)) | ((with_reducible apply xw_block_ret)) | ((with_reducible apply xw_block_same)) | ((with_reducible apply xw_block_other); (next => exact rfl)))
  simp only [sub_u32, xor_u32]
  exact xw_ret (vs := [_, _]) Try.results118 ⟨rfl, rfl, trivial⟩ ⟨rfl, rfl⟩
/-- A quarter. -/
def quarter (a b c d : BitVec 32) : BitVec 32 × BitVec 32 × BitVec 32 × BitVec 32 :=
  let a1 := a + b
  let d1 := turnN (d ^^^ a1) 16
  let c1 := c + d1
  let b1 := turnN (b ^^^ c1) 12
  let a2 := a1 + b1
  let d2 := turnN (d1 ^^^ a2) 8
  let c2 := c1 + d2
  let b2 := turnN (b1 ^^^ c2) 7
  (a2, b2, c2, d2)
def undo (a b c d : BitVec 32) : BitVec 32 × BitVec 32 × BitVec 32 × BitVec 32 :=
  let b1 := turnN b 25 ^^^ c
  let c1 := c - d
  let d1 := turnN d 24 ^^^ a
  let a1 := a - b1
  let b2 := turnN b1 20 ^^^ c1
  let c2 := c1 - d1
  let d2 := turnN d1 16 ^^^ a1
  let a2 := a1 - b2
  (a2, b2, c2, d2)
def four (q : BitVec 32 × BitVec 32 × BitVec 32 × BitVec 32) : Value := .tuple #[u32 q.1, u32 q.2.1, u32 q.2.2.1, u32 q.2.2.2]

theorem quarter_calls (a b c d : BitVec 32) (w : World) : Does Try.prog 114 [u32 a, u32 b, u32 c, u32 d] w fun v w' => v = four (quarter a b c d) ∧ w = w' := by
  refine fn_enter Try.func114 rfl Try.ntmps114 rfl ?_
  repeat (first | ((with_reducible apply ow_pure tab); (next => exact rfl); (next => exact rfl)) | ((with_reducible apply ow_nil)) | ((with_reducible apply xw_then_normal)) | ((with_reducible apply cw_seq)) | ((with_reducible apply cw_region)) | ((with_reducible apply ow_guardY); (next => exact rfl); (next => first | (with_reducible exact rfl) | decide | (simp; done))) | ((with_reducible apply ow_guard_no); (next => exact rfl); (next => exact rfl); (next => first | (with_reducible exact rfl) | decide | (simp; done))) | ((with_reducible apply cw_condT); (next => exact rfl); (next => first | (with_reducible exact rfl) | decide | (simp; done))) | ((with_reducible apply cw_condF); (next => exact rfl); (next => first | (with_reducible exact rfl) | decide | (simp; done))) | ((with_reducible apply cw_block)) | ((with_reducible apply cw_exit)) | ((with_reducible apply cw_ret)) | ((with_reducible apply cw_skip)) | ((with_reducible apply xw_then_exit)) | ((with_reducible apply xw_then_ret)) | ((with_reducible apply xw_block_normal)) | ((with_reducible apply xw_block_ret)) | ((with_reducible apply xw_block_same)) | ((with_reducible apply xw_block_other); (next => exact rfl)))
  refine ow_call rfl rfl rfl Try.func117 rfl rfl (step _ _ _ 16 w) ?_
  rintro v w' ⟨rfl, rfl⟩
  repeat (first | ((with_reducible apply ow_pure tab); (next => exact rfl); (next => exact rfl)) | ((with_reducible apply ow_nil)) | ((with_reducible apply xw_then_normal)) | ((with_reducible apply cw_seq)) | ((with_reducible apply cw_region)) | ((with_reducible apply ow_guardY); (next => exact rfl); (next => first | (with_reducible exact rfl) | decide | (simp; done))) | ((with_reducible apply ow_guard_no); (next => exact rfl); (next => exact rfl); (next => first | (with_reducible exact rfl) | decide | (simp; done))) | ((with_reducible apply cw_condT); (next => exact rfl); (next => first | (with_reducible exact rfl) | decide | (simp; done))) | ((with_reducible apply cw_condF); (next => exact rfl); (next => first | (with_reducible exact rfl) | decide | (simp; done))) | ((with_reducible apply cw_block)) | ((with_reducible apply cw_exit)) | ((with_reducible apply cw_ret)) | ((with_reducible apply cw_skip)) | ((with_reducible apply xw_then_exit)) | ((with_reducible apply xw_then_ret)) | ((with_reducible apply xw_block_normal)) | ((with_reducible apply xw_block_ret)) | ((with_reducible apply xw_block_same)) | ((with_reducible apply xw_block_other); (next => exact rfl)))
  refine ow_call rfl rfl rfl Try.func117 rfl rfl (step _ _ _ 12 w) ?_
  rintro v w' ⟨rfl, rfl⟩
  repeat (first | ((with_reducible apply ow_pure tab); (next => exact rfl); (next => exact rfl)) | ((with_reducible apply ow_nil)) | ((with_reducible apply xw_then_normal)) | ((with_reducible apply cw_seq)) | ((with_reducible apply cw_region)) | ((with_reducible apply ow_guardY); (next => exact rfl); (next => first | (with_reducible exact rfl) | decide | (simp; done))) | ((with_reducible apply ow_guard_no); (next => exact rfl); (next => exact rfl); (next => first | (with_reducible exact rfl) | decide | (simp; done))) | ((with_reducible apply cw_condT); (next => exact rfl); (next => first | (with_reducible exact rfl) | decide | (simp; done))) | ((with_reducible apply cw_condF); (next => exact rfl); (next => first | (with_reducible exact rfl) | decide | (simp; done))) | ((with_reducible apply cw_block)) | ((with_reducible apply cw_exit)) | ((with_reducible apply cw_ret)) | ((with_reducible apply cw_skip)) | ((with_reducible apply xw_then_exit)) | ((with_reducible apply xw_then_ret)) | ((with_reducible apply xw_block_normal)) | ((with_reducible apply xw_block_ret)) | ((with_reducible apply xw_block_same)) | ((with_reducible apply xw_block_other); (next => exact rfl)))
  refine ow_call rfl rfl rfl Try.func117 rfl rfl (step _ _ _ 8 w) ?_
  rintro v w' ⟨rfl, rfl⟩
  repeat (first | ((with_reducible apply ow_pure tab); (next => exact rfl); (next => exact rfl)) | ((with_reducible apply ow_nil)) | ((with_reducible apply xw_then_normal)) | ((with_reducible apply cw_seq)) | ((with_reducible apply cw_region)) | ((with_reducible apply ow_guardY); (next => exact rfl); (next => first | (with_reducible exact rfl) | decide | (simp; done))) | ((with_reducible apply ow_guard_no); (next => exact rfl); (next => exact rfl); (next => first | (with_reducible exact rfl) | decide | (simp; done))) | ((with_reducible apply cw_condT); (next => exact rfl); (next => first | (with_reducible exact rfl) | decide | (simp; done))) | ((with_reducible apply cw_condF); (next => exact rfl); (next => first | (with_reducible exact rfl) | decide | (simp; done))) | ((with_reducible apply cw_block)) | ((with_reducible apply cw_exit)) | ((with_reducible apply cw_ret)) | ((with_reducible apply cw_skip)) | ((with_reducible apply xw_then_exit)) | ((with_reducible apply xw_then_ret)) | ((with_reducible apply xw_block_normal)) | ((with_reducible apply xw_block_ret)) | ((with_reducible apply xw_block_same)) | ((with_reducible apply xw_block_other); (next => exact rfl)))
  refine ow_call rfl rfl rfl Try.func117 rfl rfl (step _ _ _ 7 w) ?_
  rintro v w' ⟨rfl, rfl⟩
  repeat (first | ((with_reducible apply ow_pure tab); (next => exact rfl); (next => exact rfl)) | ((with_reducible apply ow_nil)) | ((with_reducible apply xw_then_normal)) | ((with_reducible apply cw_seq)) | ((with_reducible apply cw_region)) | ((with_reducible apply ow_guardY); (next => exact rfl); (next => first | (with_reducible exact rfl) | decide | (simp; done))) | ((with_reducible apply ow_guard_no); (next => exact rfl); (next => exact rfl); (next => first | (with_reducible exact rfl) | decide | (simp; done))) | ((with_reducible apply cw_condT); (next => exact rfl); (next => first | (with_reducible exact rfl) | decide | (simp; done))) | ((with_reducible apply cw_condF); (next => exact rfl); (next => first | (with_reducible exact rfl) | decide | (simp; done))) | ((with_reducible apply cw_block)) | ((with_reducible apply cw_exit)) | ((with_reducible apply cw_ret)) | ((with_reducible apply cw_skip)) | ((with_reducible apply xw_then_exit)) | ((with_reducible apply xw_then_ret)) | ((with_reducible apply xw_block_normal)) | ((with_reducible apply xw_block_ret)) | ((with_reducible apply xw_block_same)) | ((with_reducible apply xw_block_other); (next => exact rfl)))
  exact xw_ret (vs := [_, _, _, _]) Try.results114 ⟨rfl, rfl, rfl, rfl, trivial⟩ ⟨rfl, rfl⟩
theorem undo_calls (a b c d : BitVec 32) (w : World) : Does Try.prog 115 [u32 a, u32 b, u32 c, u32 d] w fun v w' => v = four (undo a b c d) ∧ w = w' := by
  refine fn_enter Try.func115 rfl Try.ntmps115 rfl ?_
  repeat (first | ((with_reducible apply ow_pure tab); (next => exact rfl); (next => exact rfl)) | ((with_reducible apply ow_nil)) | ((with_reducible apply xw_then_normal)) | ((with_reducible apply cw_seq)) | ((with_reducible apply cw_region)) | ((with_reducible apply ow_guardY); (next => exact rfl); (next => first | (with_reducible exact rfl) | decide | (simp; done))) | ((with_reducible apply ow_guard_no); (next => exact rfl); (next => exact rfl); (next => first | (with_reducible exact rfl) | decide | (simp; done))) | ((with_reducible apply cw_condT); (next => exact rfl); (next => first | (with_reducible exact rfl) | decide | (simp; done))) | ((with_reducible apply cw_condF); (next => exact rfl); (next => first | (with_reducible exact rfl) | decide | (simp; done))) | ((with_reducible apply cw_block)) | ((with_reducible apply cw_exit)) | ((with_reducible apply cw_ret)) | ((with_reducible apply cw_skip)) | ((with_reducible apply xw_then_exit)) | ((with_reducible apply xw_then_ret)) | ((with_reducible apply xw_block_normal)) | ((with_reducible apply xw_block_ret)) | ((with_reducible apply xw_block_same)) | ((with_reducible apply xw_block_other); (next => exact rfl)))
  refine ow_call rfl rfl rfl Try.func118 rfl rfl (back _ _ _ 7 (by omega) w) ?_
  rintro v w' ⟨rfl, rfl⟩
  repeat (first | ((with_reducible apply ow_pure tab); (next => exact rfl); (next => exact rfl)) | ((with_reducible apply ow_nil)) | ((with_reducible apply xw_then_normal)) | ((with_reducible apply cw_seq)) | ((with_reducible apply cw_region)) | ((with_reducible apply ow_guardY); (next => exact rfl); (next => first | (with_reducible exact rfl) | decide | (simp; done))) | ((with_reducible apply ow_guard_no); (next => exact rfl); (next => exact rfl); (next => first | (with_reducible exact rfl) | decide | (simp; done))) | ((with_reducible apply cw_condT); (next => exact rfl); (next => first | (with_reducible exact rfl) | decide | (simp; done))) | ((with_reducible apply cw_condF); (next => exact rfl); (next => first | (with_reducible exact rfl) | decide | (simp; done))) | ((with_reducible apply cw_block)) | ((with_reducible apply cw_exit)) | ((with_reducible apply cw_ret)) | ((with_reducible apply cw_skip)) | ((with_reducible apply xw_then_exit)) | ((with_reducible apply xw_then_ret)) | ((with_reducible apply xw_block_normal)) | ((with_reducible apply xw_block_ret)) | ((with_reducible apply xw_block_same)) | ((with_reducible apply xw_block_other); (next => exact rfl)))
  refine ow_call rfl rfl rfl Try.func118 rfl rfl (back _ _ _ 8 (by omega) w) ?_
  rintro v w' ⟨rfl, rfl⟩
  repeat (first | ((with_reducible apply ow_pure tab); (next => exact rfl); (next => exact rfl)) | ((with_reducible apply ow_nil)) | ((with_reducible apply xw_then_normal)) | ((with_reducible apply cw_seq)) | ((with_reducible apply cw_region)) | ((with_reducible apply ow_guardY); (next => exact rfl); (next => first | (with_reducible exact rfl) | decide | (simp; done))) | ((with_reducible apply ow_guard_no); (next => exact rfl); (next => exact rfl); (next => first | (with_reducible exact rfl) | decide | (simp; done))) | ((with_reducible apply cw_condT); (next => exact rfl); (next => first | (with_reducible exact rfl) | decide | (simp; done))) | ((with_reducible apply cw_condF); (next => exact rfl); (next => first | (with_reducible exact rfl) | decide | (simp; done))) | ((with_reducible apply cw_block)) | ((with_reducible apply cw_exit)) | ((with_reducible apply cw_ret)) | ((with_reducible apply cw_skip)) | ((with_reducible apply xw_then_exit)) | ((with_reducible apply xw_then_ret)) | ((with_reducible apply xw_block_normal)) | ((with_reducible apply xw_block_ret)) | ((with_reducible apply xw_block_same)) | ((with_reducible apply xw_block_other); (next => exact rfl)))
  refine ow_call rfl rfl rfl Try.func118 rfl rfl (back _ _ _ 12 (by omega) w) ?_
  rintro v w' ⟨rfl, rfl⟩
  repeat (first | ((with_reducible apply ow_pure tab); (next => exact rfl); (next => exact rfl)) | ((with_reducible apply ow_nil)) | ((with_reducible apply xw_then_normal)) | ((with_reducible apply cw_seq)) | ((with_reducible apply cw_region)) | ((with_reducible apply ow_guardY); (next => exact rfl); (next => first | (with_reducible exact rfl) | decide | (simp; done))) | ((with_reducible apply ow_guard_no); (next => exact rfl); (next => exact rfl); (next => first | (with_reducible exact rfl) | decide | (simp; done))) | ((with_reducible apply cw_condT); (next => exact rfl); (next => first | (with_reducible exact rfl) | decide | (simp; done))) | ((with_reducible apply cw_condF); (next => exact rfl); (next => first | (with_reducible exact rfl) | decide | (simp; done))) | ((with_reducible apply cw_block)) | ((with_reducible apply cw_exit)) | ((with_reducible apply cw_ret)) | ((with_reducible apply cw_skip)) | ((with_reducible apply xw_then_exit)) | ((with_reducible apply xw_then_ret)) | ((with_reducible apply xw_block_normal)) | ((with_reducible apply xw_block_ret)) | ((with_reducible apply xw_block_same)) | ((with_reducible apply xw_block_other); (next => exact rfl)))
  refine ow_call rfl rfl rfl Try.func118 rfl rfl (back _ _ _ 16 (by omega) w) ?_
  rintro v w' ⟨rfl, rfl⟩
  repeat (first | ((with_reducible apply ow_pure tab); (next => exact rfl); (next => exact rfl)) | ((with_reducible apply ow_nil)) | ((with_reducible apply xw_then_normal)) | ((with_reducible apply cw_seq)) | ((with_reducible apply cw_region)) | ((with_reducible apply ow_guardY); (next => exact rfl); (next => first | (with_reducible exact rfl) | decide | (simp; done))) | ((with_reducible apply ow_guard_no); (next => exact rfl); (next => exact rfl); (next => first | (with_reducible exact rfl) | decide | (simp; done))) | ((with_reducible apply cw_condT); (next => exact rfl); (next => first | (with_reducible exact rfl) | decide | (simp; done))) | ((with_reducible apply cw_condF); (next => exact rfl); (next => first | (with_reducible exact rfl) | decide | (simp; done))) | ((with_reducible apply cw_block)) | ((with_reducible apply cw_exit)) | ((with_reducible apply cw_ret)) | ((with_reducible apply cw_skip)) | ((with_reducible apply xw_then_exit)) | ((with_reducible apply xw_then_ret)) | ((with_reducible apply xw_block_normal)) | ((with_reducible apply xw_block_ret)) | ((with_reducible apply xw_block_same)) | ((with_reducible apply xw_block_other); (next => exact rfl)))
  exact xw_ret (vs := [_, _, _, _]) Try.results115 ⟨rfl, rfl, rfl, rfl, trivial⟩ ⟨rfl, rfl⟩
theorem turn0 (X : BitVec 32) : turnN X 0 = X := by
  unfold turnN
  have : X >>> (32 - 0) = 0#32 := BitVec.eq_of_getLsbD_eq (fun j hj => by rw [BitVec.getLsbD_ushiftRight, BitVec.getLsbD_of_ge _ _ (by omega)]; simp)
  rw [this]; simp
theorem turn_bit (X : BitVec 32) (n : Nat) (hn : n ≤ 32) (j : Nat) (hj : j < 32) : (turnN X n).getLsbD j = X.getLsbD ((j + 32 - n) % 32) := by
  unfold turnN
  rw [BitVec.getLsbD_or, BitVec.getLsbD_shiftLeft, BitVec.getLsbD_ushiftRight]
  by_cases l : j < n
  · rw [show (j + 32 - n) % 32 = 32 - n + j from by omega]
    simp [l]
  · rw [show (j + 32 - n) % 32 = j - n from by omega, BitVec.getLsbD_of_ge X (32 - n + j) (by omega)]
    simp [l, hj]
theorem turn_turn (X : BitVec 32) (n m : Nat) (h : n + m ≤ 32) : turnN (turnN X n) m = turnN X (n + m) := by
  refine BitVec.eq_of_getLsbD_eq (fun j hj => ?_)
  rw [turn_bit _ m (by omega) j hj, turn_bit X n (by omega) _ (by omega), turn_bit X (n + m) h j hj]
  congr 1
  omega
/-- One bit to the left, as the document does it. -/
def left1 (X : BitVec 32) : BitVec 32 := if 2147483648 ≤ X.toNat then X * 2#32 + 1#32 else X * 2#32
theorem left1_eq (X : BitVec 32) : left1 X = turnN X 1 := by
  have hX := X.isLt
  apply BitVec.eq_of_toNat_eq
  unfold turnN left1
  have hor : (X <<< 1 ||| X >>> (32 - 1)) = X <<< 1 + X >>> 31 := by
    rw [BitVec.add_eq_or_of_and_eq_zero]
    refine BitVec.eq_of_getLsbD_eq (fun j hj => ?_)
    rw [BitVec.getLsbD_and, BitVec.getLsbD_shiftLeft, BitVec.getLsbD_ushiftRight, BitVec.getLsbD_zero]
    by_cases l : j < 1
    · simp [l]
    · rw [BitVec.getLsbD_of_ge X (31 + j) (by omega)]; simp
  rw [hor]
  split
  · have hc : X.toNat / 2147483648 = 1 := by omega
    simp only [BitVec.toNat_add, BitVec.toNat_mul, BitVec.toNat_shiftLeft, BitVec.toNat_ushiftRight, BitVec.toNat_ofNat, Nat.shiftLeft_eq, Nat.shiftRight_eq_div_pow, Nat.reducePow, Nat.reduceMod, hc]
  · have hc : X.toNat / 2147483648 = 0 := by omega
    simp only [BitVec.toNat_mul, BitVec.toNat_add, BitVec.toNat_shiftLeft, BitVec.toNat_ushiftRight, BitVec.toNat_ofNat, Nat.shiftLeft_eq, Nat.shiftRight_eq_div_pow, Nat.reducePow, Nat.reduceMod, hc]
    omega

end Go.Proofs.Ytbfpgigbakhplaa.MixQ
