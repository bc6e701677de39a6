/- A root read from its block. -/
import Derived.Test.YtbgjhmdedillhaaSupE2
set_option linter.unusedVariables false
set_option linter.unusedSimpArgs false
namespace Go.Proofs.Ytbgjhmdedillhaa.Sup
open Go.RowKit Go.Proofs.Ytbgjhmdedillhaa.Sx Go.Proofs.Ytbgjhmdedillhaa.Mx Go.Proofs.Ytbgjhmdedillhaa.Bw Go.Proofs.Ytbgjhmdedillhaa.By Go.Proofs.Ytbgjhmdedillhaa.Eqs Go.Proofs.Ytbgjhmdedillhaa.Qx Go.Proofs.Ytbgjhmdedillhaa.Ap Go.Proofs.Ytbgjhmdedillhaa.Mi Go.Proofs.Ytbgjhmdedillhaa.Stm Go.Proofs.Ytbgjhmdedillhaa.Fl Go.Proofs.Ytbgjhmdedillhaa.TrW Go.Proofs.Ytbgjhmdedillhaa.Ino Go.Proofs.Ytbgjhmdedillhaa.Nd Go.Proofs.Ytbgjhmdedillhaa.Bd Go.Proofs.Ytbgjhmdedillhaa.Wd Go.Proofs.Ytbgjhmdedillhaa.Num
attribute [local irreducible] Ow Cw Xw Mw
set_option maxHeartbeats 4000000
/-! What stands at a place. -/
def gN (s : List Byte) (k : Nat) : BitVec 64 := valB ((s.drop k).take 4)
def gI (s : List Byte) (k : Nat) : Int := ((gN s k).toNat : Int)
def gR (s : List Byte) (k : Nat) : Nd.Ref := decW s k
theorem gN_lt (s : List Byte) (k : Nat) : (gN s k).toNat < 4294967296 := by
  unfold gN
  rw [valB_eq, BitVec.toNat_ofNat]
  have h1 := leV_lt ((s.drop k).take 4)
  have h2 : ((s.drop k).take 4).length ≤ 4 := by simp; omega
  have h3 : 256 ^ ((s.drop k).take 4).length ≤ 256 ^ 4 := Nat.pow_le_pow_right (by decide) h2
  have : leV ((s.drop k).take 4) < 4294967296 := Nat.lt_of_lt_of_le h1 (by simpa using h3)
  omega
theorem gI_b (s : List Byte) (k : Nat) : 0 ≤ gI s k ∧ gI s k < 4294967296 := by have := gN_lt s k; unfold gI; omega
theorem gN32 (s : List Byte) (k : Nat) : (((gN s k).setWidth 32).toNat : Int) = gI s k := by
  have := gN_lt s k
  unfold gI
  rw [BitVec.toNat_setWidth, Nat.mod_eq_of_lt (by omega)]
theorem tkN (s : List Byte) (k : Nat) (h : k + 4 ≤ s.length) : tkV s k 4 = gN s k := by
  rw [tkV, if_pos (by unfold tkOk; omega), Int.toNat_natCast]; rfl
def noSp : Sp := ⟨0, 0, 0, noRef, 0, 0, noRef, 0⟩
theorem noSp_ok : OkS noSp := ⟨noRef_ok, noRef_ok⟩
def rawP (s : List Byte) : Sp := ⟨gI s 8, valB ((s.drop 16).take 8), gI s 24, gR s 32, gI s 28, gI s 68, gR s 72, gI s 108⟩
def prgP (s : List Byte) : Sp := ⟨gI s 8, valB ((s.drop 16).take 8), gI s 24, (decR s 32).1, gI s 28, gI s 68, (decR s 72).1, gI s 108⟩
theorem prgP_ok (s : List Byte) : OkS (prgP s) := ⟨decR_ok s 32, decR_ok s 72⟩
theorem gR_ok {s : List Byte} {k : Nat} (h : k + 36 ≤ s.length) : OkR (gR s k) := by simp [gR, OkR, decW]; omega
theorem rawP_ok {s : List Byte} (h : s.length = 256) : OkS (rawP s) := ⟨gR_ok (by omega), gR_ok (by omega)⟩
/-- The two readings are one, where a root may be. -/
theorem prg_raw {s : List Byte} (h : s.length = 256) (ho : SupOk (rawP s) ∨ SupOk (prgP s)) : prgP s = rawP s := by
  have key : ∀ k : Nat, k + 36 ≤ 256 → (1 ≤ (gR s k).1.toNat ∨ 1 ≤ (decR s k).1.1.toNat) → (decR s k).1 = gR s k := fun k hk hh => by
    have hok : decOk s k := by unfold decOk; omega
    unfold decR gR
    rcases hh with hh | hh
    · rw [if_pos ⟨hok, .inl (fun e => by rw [gR] at hh; rw [e] at hh; exact absurd hh (by decide))⟩]
    · unfold decR at hh
      split at hh
      · rename_i hr; rw [if_pos hr]
      · exact absurd hh (by decide)
  have : ((decR s 32).1 = gR s 32) ∧ ((decR s 72).1 = gR s 72) := by
    rcases ho with ho | ho
    · exact ⟨key 32 (by decide) (.inl ho.2.2.2.2.1.1), key 72 (by decide) (.inl ho.2.2.2.2.2.1.1)⟩
    · exact ⟨key 32 (by decide) (.inr ho.2.2.2.2.1.1), key 72 (by decide) (.inr ho.2.2.2.2.2.1.1)⟩
  simp only [prgP, rawP, this.1, this.2]
/-- Is it a root's block? -/
def GoodB (s : List Byte) : Prop := SupOk (rawP s) ∧ padB (supT (rawP s)) = s
noncomputable def goodB (s : List Byte) : Bool := @decide (GoodB s) (Classical.propDecidable _)
noncomputable def decX (s : List Byte) : Sp := if goodB s then rawP s else noSp
/-! Stores into a root. -/
theorem sp_bl (x : Sp) (k : Int) : splice (spC x) (0 + 0) [i64v k] = spC { x with bl := k } := rfl
theorem sp_ct (x : Sp) (k : BitVec 64) : splice (spC x) (0 + 1) [u64 k] = spC { x with ct := k } := rfl
theorem sp_th (x : Sp) (k : Int) : splice (spC x) (0 + 2 + 0) [i64v k] = spC { x with th := k } := rfl
theorem sp_t (x : Sp) (hx : OkS x) (r : Nd.Ref) (hr : OkR r) : splice (spC x) (0 + 2 + 1) (refC r) = spC { x with t := r } :=
  splice_mid [i64v x.bl, u64 x.ct, i64v x.th] (refC x.t) (refC r) ([i64v x.ino, i64v x.mh] ++ (refC x.m ++ [i64v x.us])) (by rw [refC_len hr, refC_len hx.t])
theorem sp_at {x : Sp} {A B : List Value} {k : Nat} (h : A.length = k) (u v : Value) : splice (A ++ ([u] ++ B)) k [v] = A ++ ([v] ++ B) := by subst h; exact splice_mid A [u] [v] B rfl
theorem spA (x : Sp) : spC x = ([i64v x.bl, u64 x.ct, i64v x.th] ++ refC x.t) ++ ([i64v x.ino] ++ (i64v x.mh :: (refC x.m ++ [i64v x.us]))) := by simp [spC]
theorem spB (x : Sp) : spC x = ([i64v x.bl, u64 x.ct, i64v x.th] ++ refC x.t ++ [i64v x.ino]) ++ ([i64v x.mh] ++ (refC x.m ++ [i64v x.us])) := by simp [spC]
theorem spM (x : Sp) : spC x = ([i64v x.bl, u64 x.ct, i64v x.th] ++ refC x.t ++ [i64v x.ino, i64v x.mh]) ++ (refC x.m ++ [i64v x.us]) := by simp [spC]
theorem spU (x : Sp) : spC x = ([i64v x.bl, u64 x.ct, i64v x.th] ++ refC x.t ++ [i64v x.ino, i64v x.mh] ++ refC x.m) ++ ([i64v x.us] ++ []) := by simp [spC]
theorem sp_ino (x : Sp) (hx : OkS x) (k : Int) : splice (spC x) (0 + 36) [i64v k] = spC { x with ino := k } := by
  rw [spA x, spA { x with ino := k }]; exact sp_at (x := x) (by rw [List.length_append, refC_len hx.t]; rfl) _ _
theorem sp_mh (x : Sp) (hx : OkS x) (k : Int) : splice (spC x) (0 + 37 + 0) [i64v k] = spC { x with mh := k } := by
  rw [spB x, spB { x with mh := k }]; exact sp_at (x := x) (by rw [List.length_append, List.length_append, refC_len hx.t]; rfl) _ _
theorem sp_us (x : Sp) (hx : OkS x) (k : Int) : splice (spC x) (0 + 71) [i64v k] = spC { x with us := k } := by
  rw [spU x, spU { x with us := k }]; exact sp_at (x := x) (by simp only [List.length_append, refC_len hx.t, refC_len hx.m]; rfl) _ _
theorem sp_m (x : Sp) (hx : OkS x) (r : Nd.Ref) (hr : OkR r) : splice (spC x) (0 + 37 + 1) (refC r) = spC { x with m := r } := by
  rw [spM x, spM { x with m := r }]
  have := splice_mid ([i64v x.bl, u64 x.ct, i64v x.th] ++ refC x.t ++ [i64v x.ino, i64v x.mh]) (refC x.m) (refC r) [i64v x.us] (by rw [refC_len hr, refC_len hx.m])
  rw [show ([i64v x.bl, u64 x.ct, i64v x.th] ++ refC x.t ++ [i64v x.ino, i64v x.mh]).length = 0 + 37 + 1 from by simp only [List.length_append, refC_len hx.t]; rfl] at this
  exact this
theorem eqB256 : EqT Try.prog 65 (.array 256 5) cb (fun l => l.length = 256 ∧ ∀ x ∈ l, True) 2 256 := by
  have h := eq_array (P := Try.prog) (t := 65) (n := 256) (sz := 1) Try.underlying65 (tab.sz_ok _ _ rfl) (eq_u (w := 8) .u8 Try.underlying5 (tab.sz_ok _ _ rfl))
  have e : (fun l : List Byte => l.flatMap fun b => [Value.int .u8 b.toNat]) = cb := by
    funext l
    induction l with
    | nil => rfl
    | cons x l ih => rw [List.flatMap_cons, ih]; rfl
  rw [e] at h
  exact h
/-- The closure: a number of four bytes. -/
theorem at_calls (s : List Byte) (hs : s.length = 256) (k : Nat) (hk : k + 4 ≤ 256) (g : Nat) (w0 : World) (hb : Blk w0 g 9 [str s]) : Does Try.prog 70 [.int .i64 (k : Int), .pointer (some ⟨g, 0, none⟩)] w0 fun v w' => v = i64v (gI s k) ∧ Kp No w0 w' := by
  have hw := St.start (w := w0) .nil
  have e := gN32 s k
  refine fn_enter Try.func70 rfl Try.ntmps70 rfl ?_
  repeat (first | refine X.p1 ?_ | refine X.p2 ?_ | refine X.p6 ?_ | refine X.p7 ?_ | refine X.p0 ?_ | refine X.p3 ?_ | refine X.p4 ?_ | refine X.p5 ?_ | refine X.p8 ?_ | refine X.p9 ?_ | refine X.q1 ?_ | refine X.q2 ?_ | refine X.q3 ?_ | refine X.q4 ?_ | refine X.q5 ?_ | refine X.q6 ?_ | refine X.q7 ?_ | refine X.q8 ?_ | refine X.q9 ?_ | refine X.q0 ?_ | refine X.m1 ?_ | refine X.m2 ?_ | refine X.m3 ?_ | refine X.m4 ?_ | refine X.m5 ?_ | refine X.m6 ?_ | refine X.l11 ?_ | refine X.l1 ?_ | refine X.l2 ?_ | refine X.l3 ?_ | refine X.l4 ?_ | refine X.l5 ?_ | refine X.l10 ?_ | refine X.l6 ?_ | refine X.l7 ?_ | refine X.l8 ?_ | refine X.l9 ?_ | refine X.m7 ?_ | refine X.m8 ?_ | (refine X.s1 ?_; intro w hw) | (refine X.s2 ?_; intro w hw) | refine X.e1 ?_ | refine X.e2 ?_ | (simp only [X.df]) | (simp (disch := omega) only [wi]))
  refine ow_load1 tab (hb.no (hw.kpNo ro_nil)) rfl rfl rfl rfl rfl ?_
  repeat (first | refine X.p1 ?_ | refine X.p2 ?_ | refine X.p6 ?_ | refine X.p7 ?_ | refine X.p0 ?_ | refine X.p3 ?_ | refine X.p4 ?_ | refine X.p5 ?_ | refine X.p8 ?_ | refine X.p9 ?_ | refine X.q1 ?_ | refine X.q2 ?_ | refine X.q3 ?_ | refine X.q4 ?_ | refine X.q5 ?_ | refine X.q6 ?_ | refine X.q7 ?_ | refine X.q8 ?_ | refine X.q9 ?_ | refine X.q0 ?_ | refine X.m1 ?_ | refine X.m2 ?_ | refine X.m3 ?_ | refine X.m4 ?_ | refine X.m5 ?_ | refine X.m6 ?_ | refine X.l11 ?_ | refine X.l1 ?_ | refine X.l2 ?_ | refine X.l3 ?_ | refine X.l4 ?_ | refine X.l5 ?_ | refine X.l10 ?_ | refine X.l6 ?_ | refine X.l7 ?_ | refine X.l8 ?_ | refine X.l9 ?_ | refine X.m7 ?_ | refine X.m8 ?_ | (refine X.s1 ?_; intro w hw) | (refine X.s2 ?_; intro w hw) | refine X.e1 ?_ | refine X.e2 ?_ | (simp only [X.df]) | (simp (disch := omega) only [wi]))
  refine X.callN rfl rfl Try.func71 (take32_calls s k (by unfold I64; omega) (by omega) w0) fun w _ hw => ?_
  rw [tkN s k (by omega)]
  repeat (first | refine X.p1 ?_ | refine X.p2 ?_ | refine X.p6 ?_ | refine X.p7 ?_ | refine X.p0 ?_ | refine X.p3 ?_ | refine X.p4 ?_ | refine X.p5 ?_ | refine X.p8 ?_ | refine X.p9 ?_ | refine X.q1 ?_ | refine X.q2 ?_ | refine X.q3 ?_ | refine X.q4 ?_ | refine X.q5 ?_ | refine X.q6 ?_ | refine X.q7 ?_ | refine X.q8 ?_ | refine X.q9 ?_ | refine X.q0 ?_ | refine X.m1 ?_ | refine X.m2 ?_ | refine X.m3 ?_ | refine X.m4 ?_ | refine X.m5 ?_ | refine X.m6 ?_ | refine X.l11 ?_ | refine X.l1 ?_ | refine X.l2 ?_ | refine X.l3 ?_ | refine X.l4 ?_ | refine X.l5 ?_ | refine X.l10 ?_ | refine X.l6 ?_ | refine X.l7 ?_ | refine X.l8 ?_ | refine X.l9 ?_ | refine X.m7 ?_ | refine X.m8 ?_ | (refine X.s1 ?_; intro w hw) | (refine X.s2 ?_; intro w hw) | refine X.e1 ?_ | refine X.e2 ?_ | (simp only [X.df, i64_u32, e]) | (simp (disch := omega) only [wi]))
  exact xw_ret (vs := [_]) Try.results70 ⟨rfl, trivial⟩ ⟨rfl, hw.kpNo ro_nil⟩
end Go.Proofs.Ytbgjhmdedillhaa.Sup
