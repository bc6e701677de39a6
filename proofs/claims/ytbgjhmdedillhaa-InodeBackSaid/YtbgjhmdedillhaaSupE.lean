/- A root's block, as the program and the document have it. -/
import Derived.Test.YtbgjhmdedillhaaSupH
set_option linter.unusedVariables false
set_option linter.unusedSimpArgs false
namespace Go.Proofs.Ytbgjhmdedillhaa.Sup
open Go.RowKit Go.Proofs.Ytbgjhmdedillhaa.Sx Go.Proofs.Ytbgjhmdedillhaa.Mx Go.Proofs.Ytbgjhmdedillhaa.Bw Go.Proofs.Ytbgjhmdedillhaa.By Go.Proofs.Ytbgjhmdedillhaa.Eqs Go.Proofs.Ytbgjhmdedillhaa.Qx Go.Proofs.Ytbgjhmdedillhaa.Ap Go.Proofs.Ytbgjhmdedillhaa.Mi Go.Proofs.Ytbgjhmdedillhaa.Stm Go.Proofs.Ytbgjhmdedillhaa.Fl Go.Proofs.Ytbgjhmdedillhaa.TrW Go.Proofs.Ytbgjhmdedillhaa.Ino Go.Proofs.Ytbgjhmdedillhaa.Nd Go.Proofs.Ytbgjhmdedillhaa.Bd Go.Proofs.Ytbgjhmdedillhaa.Wd Go.Proofs.Ytbgjhmdedillhaa.Num
attribute [local irreducible] Ow Cw Xw Mw
set_option maxHeartbeats 4000000
/-! Blocks. -/
theorem z256 : (zb 256).length = 256 := by rw [zb, List.length_replicate]
/-- A text laid at the head of a block. -/
theorem lay_at (b : List Byte) (hb : b.length = 256) (a : Nat) (s : List Byte) (ha : a < 256) (hs : a + s.length ≤ 256) (w0 : World) : Does Try.prog 61 [blk b, i64v a, str s] w0 fun v w' => v = .tuple #[blk (b.take a ++ s ++ b.drop (a + s.length)), i64v 0] ∧ Kp No w0 w' := by
  have hw := St.start (w := w0) .nil
  have hl : (cb b).length = 256 := by rw [List.length_map, hb]
  have f1 : ¬ (a : Int) < 0 := by omega
  have f2 : ¬ (a : Int) > 256 := by omega
  have f3 : ¬ (s.length : Int) > 256 - (a : Int) := by omega
  have hr : (b.take a ++ s ++ b.drop (a + s.length)).length = 256 := by simp; omega
  refine fn_enter Try.func61 rfl Try.ntmps61 rfl ?_
  repeat (first | refine X.p1 ?_ | refine X.p2 ?_ | refine X.p6 ?_ | refine X.p7 ?_ | refine X.p0 ?_ | refine X.p3 ?_ | refine X.p4 ?_ | refine X.p5 ?_ | refine X.p8 ?_ | refine X.p9 ?_ | refine X.q1 ?_ | refine X.q2 ?_ | refine X.q3 ?_ | refine X.q4 ?_ | refine X.q5 ?_ | refine X.q6 ?_ | refine X.q7 ?_ | refine X.q8 ?_ | refine X.q9 ?_ | refine X.q0 ?_ | refine X.m1 ?_ | refine X.m2 ?_ | refine X.m3 ?_ | refine X.m4 ?_ | refine X.m5 ?_ | refine X.m6 ?_ | refine X.l11 ?_ | refine X.l1 ?_ | refine X.l2 ?_ | refine X.l3 ?_ | refine X.l4 ?_ | refine X.l5 ?_ | refine X.l10 ?_ | refine X.l6 ?_ | refine X.l7 ?_ | refine X.l8 ?_ | refine X.l9 ?_ | refine X.m7 ?_ | refine X.m8 ?_ | (refine X.s1 ?_; intro w hw) | (refine X.s2 ?_; intro w hw) | refine X.e1 ?_ | refine X.e2 ?_ | (simp only [X.df]) | (simp (disch := omega) only [wi]))
  (first | refine X.nb ?_ | refine X.na ?_); intro g1 w _ hw
  (first | refine X.nb ?_ | refine X.na ?_); intro g2 w _ hw
  repeat (first | refine X.p1 ?_ | refine X.p2 ?_ | refine X.p6 ?_ | refine X.p7 ?_ | refine X.p0 ?_ | refine X.p3 ?_ | refine X.p4 ?_ | refine X.p5 ?_ | refine X.p8 ?_ | refine X.p9 ?_ | refine X.q1 ?_ | refine X.q2 ?_ | refine X.q3 ?_ | refine X.q4 ?_ | refine X.q5 ?_ | refine X.q6 ?_ | refine X.q7 ?_ | refine X.q8 ?_ | refine X.q9 ?_ | refine X.q0 ?_ | refine X.m1 ?_ | refine X.m2 ?_ | refine X.m3 ?_ | refine X.m4 ?_ | refine X.m5 ?_ | refine X.m6 ?_ | refine X.l11 ?_ | refine X.l1 ?_ | refine X.l2 ?_ | refine X.l3 ?_ | refine X.l4 ?_ | refine X.l5 ?_ | refine X.l10 ?_ | refine X.l6 ?_ | refine X.l7 ?_ | refine X.l8 ?_ | refine X.l9 ?_ | refine X.m7 ?_ | refine X.m8 ?_ | (refine X.s1 ?_; intro w hw) | (refine X.s2 ?_; intro w hw) | refine X.e1 ?_ | refine X.e2 ?_ | (simp only [X.df, f1, f2, f3]) | (simp (disch := omega) only [wi]))
  refine ow_sliceArr tab (vlo := some (.int .i64 a)) (vhi := none) rfl rfl ⟨_, rfl, rfl⟩ rfl rfl rfl rfl rfl (by omega) (Nat.le_refl _) ?_
  rw [show sAddr g1 0 a 256 1 = ⟨g1, a, none⟩ from by unfold sAddr; rw [if_neg (by omega)]; simp]
  repeat (first | refine X.p1 ?_ | refine X.p2 ?_ | refine X.p6 ?_ | refine X.p7 ?_ | refine X.p0 ?_ | refine X.p3 ?_ | refine X.p4 ?_ | refine X.p5 ?_ | refine X.p8 ?_ | refine X.p9 ?_ | refine X.q1 ?_ | refine X.q2 ?_ | refine X.q3 ?_ | refine X.q4 ?_ | refine X.q5 ?_ | refine X.q6 ?_ | refine X.q7 ?_ | refine X.q8 ?_ | refine X.q9 ?_ | refine X.q0 ?_ | refine X.m1 ?_ | refine X.m2 ?_ | refine X.m3 ?_ | refine X.m4 ?_ | refine X.m5 ?_ | refine X.m6 ?_ | refine X.l11 ?_ | refine X.l1 ?_ | refine X.l2 ?_ | refine X.l3 ?_ | refine X.l4 ?_ | refine X.l5 ?_ | refine X.l10 ?_ | refine X.l6 ?_ | refine X.l7 ?_ | refine X.l8 ?_ | refine X.l9 ?_ | refine X.m7 ?_ | refine X.m8 ?_ | (refine X.s1 ?_; intro w hw) | (refine X.s2 ?_; intro w hw) | refine X.e1 ?_ | refine X.e2 ?_ | (simp only [X.df]) | (simp (disch := omega) only [wi]))
  have hm : Nat.min s.length (256 - a) = s.length := Nat.min_eq_left (by omega)
  refine ow_copyStr tab (hw.pick (i := blkI g1 65 (cb b)) (by (repeat (first | (with_reducible exact Pick.here) | (with_reducible exact Put.here) | (with_reducible apply Pick.there) | (with_reducible apply Put.there))))) rfl rfl rfl rfl rfl (by rw [hm, hl]; omega) (fun w' k' b' _ => ?_)
  rw [hm, List.take_length] at b'
  have hsp : splice (cb b) a (cb s) = cb (b.take a ++ s ++ b.drop (a + s.length)) := by
    simp only [splice, cb, List.map_append, List.map_take, List.map_drop, List.length_map]
  rw [hsp] at b'
  have hw := hw.put (cs := cb b) (by repeat (first | exact Put.here | apply Put.there)) k' b'
  have hl2 : (cb (b.take a ++ s ++ b.drop (a + s.length))).length = 256 := by rw [List.length_map, hr]
  have ho2 := oneCells_cb (b.take a ++ s ++ b.drop (a + s.length))
  repeat (first | refine X.p1 ?_ | refine X.p2 ?_ | refine X.p6 ?_ | refine X.p7 ?_ | refine X.p0 ?_ | refine X.p3 ?_ | refine X.p4 ?_ | refine X.p5 ?_ | refine X.p8 ?_ | refine X.p9 ?_ | refine X.q1 ?_ | refine X.q2 ?_ | refine X.q3 ?_ | refine X.q4 ?_ | refine X.q5 ?_ | refine X.q6 ?_ | refine X.q7 ?_ | refine X.q8 ?_ | refine X.q9 ?_ | refine X.q0 ?_ | refine X.m1 ?_ | refine X.m2 ?_ | refine X.m3 ?_ | refine X.m4 ?_ | refine X.m5 ?_ | refine X.m6 ?_ | refine X.l11 ?_ | refine X.l1 ?_ | refine X.l2 ?_ | refine X.l3 ?_ | refine X.l4 ?_ | refine X.l5 ?_ | refine X.l10 ?_ | refine X.l6 ?_ | refine X.l7 ?_ | refine X.l8 ?_ | refine X.l9 ?_ | refine X.m7 ?_ | refine X.m8 ?_ | (refine X.s1 ?_; intro w hw) | (refine X.s2 ?_; intro w hw) | refine X.e1 ?_ | refine X.e2 ?_ | (simp only [X.df]) | (simp (disch := omega) only [wi]))
  exact xw_ret (vs := [_, _]) Try.results61 ⟨⟨_, rfl, cellA tab (g := g2) hw (by (repeat (first | (with_reducible exact Pick.here) | (with_reducible exact Put.here) | (with_reducible apply Pick.there) | (with_reducible apply Put.there)))) Try.underlying65 rfl rfl hl2⟩, rfl, trivial⟩ ⟨rfl, hw.kpNo ro_nil⟩
def padB (s : List Byte) : List Byte := s ++ zb (256 - s.length)
theorem padB_len {s : List Byte} (h : s.length ≤ 256) : (padB s).length = 256 := by simp [padB]; omega
theorem of_ok (s : List Byte) (hs : s.length ≤ 256) (w0 : World) : Does Try.prog 64 [str s] w0 fun v w' => v = .tuple #[blk (padB s), i64v 0] ∧ Kp No w0 w' := by
  have hw := St.start (w := w0) .nil
  have hp : (zb 256).take 0 ++ s ++ (zb 256).drop (0 + s.length) = padB s := by rw [List.take_zero, List.nil_append, Nat.zero_add, padB, zb, List.drop_replicate]
  have hl := padB_len hs
  have hl2 : (cb (padB s)).length = 256 := by rw [List.length_map, hl]
  have ho := oneCells_cb (padB s)
  refine fn_enter Try.func64 rfl Try.ntmps64 rfl ?_
  repeat (first | refine X.p1 ?_ | refine X.p2 ?_ | refine X.p6 ?_ | refine X.p7 ?_ | refine X.p0 ?_ | refine X.p3 ?_ | refine X.p4 ?_ | refine X.p5 ?_ | refine X.p8 ?_ | refine X.p9 ?_ | refine X.q1 ?_ | refine X.q2 ?_ | refine X.q3 ?_ | refine X.q4 ?_ | refine X.q5 ?_ | refine X.q6 ?_ | refine X.q7 ?_ | refine X.q8 ?_ | refine X.q9 ?_ | refine X.q0 ?_ | refine X.m1 ?_ | refine X.m2 ?_ | refine X.m3 ?_ | refine X.m4 ?_ | refine X.m5 ?_ | refine X.m6 ?_ | refine X.l11 ?_ | refine X.l1 ?_ | refine X.l2 ?_ | refine X.l3 ?_ | refine X.l4 ?_ | refine X.l5 ?_ | refine X.l10 ?_ | refine X.l6 ?_ | refine X.l7 ?_ | refine X.l8 ?_ | refine X.l9 ?_ | refine X.m7 ?_ | refine X.m8 ?_ | (refine X.s1 ?_; intro w hw) | (refine X.s2 ?_; intro w hw) | refine X.e1 ?_ | refine X.e2 ?_ | (simp only [X.df]) | (simp (disch := omega) only [wi]))
  (first | refine X.nb ?_ | refine X.na ?_); intro g2 w _ hw
  repeat (first | refine X.p1 ?_ | refine X.p2 ?_ | refine X.p6 ?_ | refine X.p7 ?_ | refine X.p0 ?_ | refine X.p3 ?_ | refine X.p4 ?_ | refine X.p5 ?_ | refine X.p8 ?_ | refine X.p9 ?_ | refine X.q1 ?_ | refine X.q2 ?_ | refine X.q3 ?_ | refine X.q4 ?_ | refine X.q5 ?_ | refine X.q6 ?_ | refine X.q7 ?_ | refine X.q8 ?_ | refine X.q9 ?_ | refine X.q0 ?_ | refine X.m1 ?_ | refine X.m2 ?_ | refine X.m3 ?_ | refine X.m4 ?_ | refine X.m5 ?_ | refine X.m6 ?_ | refine X.l11 ?_ | refine X.l1 ?_ | refine X.l2 ?_ | refine X.l3 ?_ | refine X.l4 ?_ | refine X.l5 ?_ | refine X.l10 ?_ | refine X.l6 ?_ | refine X.l7 ?_ | refine X.l8 ?_ | refine X.l9 ?_ | refine X.m7 ?_ | refine X.m8 ?_ | (refine X.s1 ?_; intro w hw) | (refine X.s2 ?_; intro w hw) | refine X.e1 ?_ | refine X.e2 ?_ | (simp only [X.df]) | (simp (disch := omega) only [wi]))
  refine X.callN rfl rfl Try.func61 (lay_at (zb 256) z256 0 s (by decide) (by omega) w) fun w _ hw => ?_
  rw [hp]
  repeat (first | refine X.p1 ?_ | refine X.p2 ?_ | refine X.p6 ?_ | refine X.p7 ?_ | refine X.p0 ?_ | refine X.p3 ?_ | refine X.p4 ?_ | refine X.p5 ?_ | refine X.p8 ?_ | refine X.p9 ?_ | refine X.q1 ?_ | refine X.q2 ?_ | refine X.q3 ?_ | refine X.q4 ?_ | refine X.q5 ?_ | refine X.q6 ?_ | refine X.q7 ?_ | refine X.q8 ?_ | refine X.q9 ?_ | refine X.q0 ?_ | refine X.m1 ?_ | refine X.m2 ?_ | refine X.m3 ?_ | refine X.m4 ?_ | refine X.m5 ?_ | refine X.m6 ?_ | refine X.l11 ?_ | refine X.l1 ?_ | refine X.l2 ?_ | refine X.l3 ?_ | refine X.l4 ?_ | refine X.l5 ?_ | refine X.l10 ?_ | refine X.l6 ?_ | refine X.l7 ?_ | refine X.l8 ?_ | refine X.l9 ?_ | refine X.m7 ?_ | refine X.m8 ?_ | (refine X.s1 ?_; intro w hw) | (refine X.s2 ?_; intro w hw) | refine X.e1 ?_ | refine X.e2 ?_ | (simp only [X.df]) | (simp (disch := omega) only [wi]))
  exact xw_ret (vs := [_, _]) Try.results64 ⟨⟨_, rfl, cellA tab (g := g2) hw (by (repeat (first | (with_reducible exact Pick.here) | (with_reducible exact Put.here) | (with_reducible apply Pick.there) | (with_reducible apply Put.there)))) Try.underlying65 rfl rfl hl2⟩, rfl, trivial⟩ ⟨rfl, hw.kpNo ro_nil⟩
theorem text_calls (b : List Byte) (hb : b.length = 256) (w0 : World) : Does Try.prog 69 [blk b] w0 fun v w' => v = str b ∧ Kp No w0 w' := by
  have hw := St.start (w := w0) .nil
  refine fn_enter Try.func69 rfl Try.ntmps69 rfl ?_
  repeat (first | refine X.p1 ?_ | refine X.p2 ?_ | refine X.p6 ?_ | refine X.p7 ?_ | refine X.p0 ?_ | refine X.p3 ?_ | refine X.p4 ?_ | refine X.p5 ?_ | refine X.p8 ?_ | refine X.p9 ?_ | refine X.q1 ?_ | refine X.q2 ?_ | refine X.q3 ?_ | refine X.q4 ?_ | refine X.q5 ?_ | refine X.q6 ?_ | refine X.q7 ?_ | refine X.q8 ?_ | refine X.q9 ?_ | refine X.q0 ?_ | refine X.m1 ?_ | refine X.m2 ?_ | refine X.m3 ?_ | refine X.m4 ?_ | refine X.m5 ?_ | refine X.m6 ?_ | refine X.l11 ?_ | refine X.l1 ?_ | refine X.l2 ?_ | refine X.l3 ?_ | refine X.l4 ?_ | refine X.l5 ?_ | refine X.l10 ?_ | refine X.l6 ?_ | refine X.l7 ?_ | refine X.l8 ?_ | refine X.l9 ?_ | refine X.m7 ?_ | refine X.m8 ?_ | (refine X.s1 ?_; intro w hw) | (refine X.s2 ?_; intro w hw) | refine X.e1 ?_ | refine X.e2 ?_ | (simp only [X.df]) | (simp (disch := omega) only [wi]))
  (first | refine X.nb ?_ | refine X.na ?_); intro g1 w _ hw
  repeat (first | refine X.p1 ?_ | refine X.p2 ?_ | refine X.p6 ?_ | refine X.p7 ?_ | refine X.p0 ?_ | refine X.p3 ?_ | refine X.p4 ?_ | refine X.p5 ?_ | refine X.p8 ?_ | refine X.p9 ?_ | refine X.q1 ?_ | refine X.q2 ?_ | refine X.q3 ?_ | refine X.q4 ?_ | refine X.q5 ?_ | refine X.q6 ?_ | refine X.q7 ?_ | refine X.q8 ?_ | refine X.q9 ?_ | refine X.q0 ?_ | refine X.m1 ?_ | refine X.m2 ?_ | refine X.m3 ?_ | refine X.m4 ?_ | refine X.m5 ?_ | refine X.m6 ?_ | refine X.l11 ?_ | refine X.l1 ?_ | refine X.l2 ?_ | refine X.l3 ?_ | refine X.l4 ?_ | refine X.l5 ?_ | refine X.l10 ?_ | refine X.l6 ?_ | refine X.l7 ?_ | refine X.l8 ?_ | refine X.l9 ?_ | refine X.m7 ?_ | refine X.m8 ?_ | (refine X.s1 ?_; intro w hw) | (refine X.s2 ?_; intro w hw) | refine X.e1 ?_ | refine X.e2 ?_ | (simp only [X.df]) | (simp (disch := omega) only [wi]))
  exact xw_ret (vs := [_]) Try.results69 ⟨rfl, trivial⟩ ⟨rfl, hw.kpNo ro_nil⟩
/-! Numbers. -/
def le4 (n : Int) : List Byte := leB (BitVec.ofInt 64 n) 4
theorem le4_len (n : Int) : (le4 n).length = 4 := leB_len _ _
theorem small_eq (n : Int) (h0 : 0 ≤ n) (h1 : n < 4294967296) : (BitVec.ofInt 32 n).setWidth 64 = BitVec.ofInt 64 n := by
  obtain ⟨m, rfl⟩ : ∃ m : Nat, n = m := ⟨n.toNat, by omega⟩
  apply BitVec.eq_of_toNat_eq
  rw [BitVec.ofInt_natCast, BitVec.ofInt_natCast, BitVec.toNat_setWidth, BitVec.toNat_ofNat, BitVec.toNat_ofNat]
  omega
theorem small_calls (n : Int) (h0 : 0 ≤ n) (h1 : n < 4294967296) (w0 : World) : Does Try.prog 65 [i64v n] w0 fun v w' => v = str (le4 n) ∧ Kp No w0 w' := by
  have hw := St.start (w := w0) .nil
  have e4 := leB_len (BitVec.ofInt 64 n) 4
  have o4 := leB_ok (BitVec.ofInt 64 n) 4
  have hs := small_eq n h0 h1
  refine fn_enter Try.func65 rfl Try.ntmps65 rfl ?_
  repeat (first | refine X.p1 ?_ | refine X.p2 ?_ | refine X.p6 ?_ | refine X.p7 ?_ | refine X.p0 ?_ | refine X.p3 ?_ | refine X.p4 ?_ | refine X.p5 ?_ | refine X.p8 ?_ | refine X.p9 ?_ | refine X.q1 ?_ | refine X.q2 ?_ | refine X.q3 ?_ | refine X.q4 ?_ | refine X.q5 ?_ | refine X.q6 ?_ | refine X.q7 ?_ | refine X.q8 ?_ | refine X.q9 ?_ | refine X.q0 ?_ | refine X.m1 ?_ | refine X.m2 ?_ | refine X.m3 ?_ | refine X.m4 ?_ | refine X.m5 ?_ | refine X.m6 ?_ | refine X.l11 ?_ | refine X.l1 ?_ | refine X.l2 ?_ | refine X.l3 ?_ | refine X.l4 ?_ | refine X.l5 ?_ | refine X.l10 ?_ | refine X.l6 ?_ | refine X.l7 ?_ | refine X.l8 ?_ | refine X.l9 ?_ | refine X.m7 ?_ | refine X.m8 ?_ | (refine X.s1 ?_; intro w hw) | (refine X.s2 ?_; intro w hw) | refine X.e1 ?_ | refine X.e2 ?_ | (simp only [X.df, wrap_u32]) | (simp (disch := omega) only [wi]))
  refine X.callN rfl rfl Try.func75 (bytes32_calls (BitVec.ofInt 32 n) w0) fun w _ hw => ?_
  rw [hs]
  (first | refine X.nb ?_ | refine X.na ?_); intro g3 w _ hw
  repeat (first | refine X.p1 ?_ | refine X.p2 ?_ | refine X.p6 ?_ | refine X.p7 ?_ | refine X.p0 ?_ | refine X.p3 ?_ | refine X.p4 ?_ | refine X.p5 ?_ | refine X.p8 ?_ | refine X.p9 ?_ | refine X.q1 ?_ | refine X.q2 ?_ | refine X.q3 ?_ | refine X.q4 ?_ | refine X.q5 ?_ | refine X.q6 ?_ | refine X.q7 ?_ | refine X.q8 ?_ | refine X.q9 ?_ | refine X.q0 ?_ | refine X.m1 ?_ | refine X.m2 ?_ | refine X.m3 ?_ | refine X.m4 ?_ | refine X.m5 ?_ | refine X.m6 ?_ | refine X.l11 ?_ | refine X.l1 ?_ | refine X.l2 ?_ | refine X.l3 ?_ | refine X.l4 ?_ | refine X.l5 ?_ | refine X.l10 ?_ | refine X.l6 ?_ | refine X.l7 ?_ | refine X.l8 ?_ | refine X.l9 ?_ | refine X.m7 ?_ | refine X.m8 ?_ | (refine X.s1 ?_; intro w hw) | (refine X.s2 ?_; intro w hw) | refine X.e1 ?_ | refine X.e2 ?_ | (simp only [X.df]) | (simp (disch := omega) only [wi]))
  exact xw_ret (vs := [_]) Try.results65 ⟨rfl, trivial⟩ ⟨rfl, hw.kpNo ro_nil⟩
theorem rem_u64 (n : BitVec 64) : (n.toNat : Int).tmod 256 = ((n % 256).toNat : Int) := by rw [BitVec.toNat_umod]; exact Int.ofNat_tmod _ _
theorem byte64 (n : BitVec 64) : (n % 256).setWidth 8 = n.setWidth 8 := by
  apply BitVec.eq_of_toNat_eq
  simp only [BitVec.toNat_setWidth, BitVec.toNat_umod]
  rw [show (256 : BitVec 64).toNat = 256 from rfl]
  omega
theorem number_calls (x : BitVec 64) (n : Nat) (hn : n ≤ 64) (w0 : World) : Does Try.prog 66 [u64 x, .int .i64 (n : Int)] w0 fun v w' => v = str (leB x n) ∧ Kp No w0 w' := by
  have hw := St.start (w := w0) .nil
  refine fn_enter Try.func66 rfl Try.ntmps66 rfl ?_
  repeat (first | refine X.p1 ?_ | refine X.p2 ?_ | refine X.p6 ?_ | refine X.p7 ?_ | refine X.p0 ?_ | refine X.p3 ?_ | refine X.p4 ?_ | refine X.p5 ?_ | refine X.p8 ?_ | refine X.p9 ?_ | refine X.q1 ?_ | refine X.q2 ?_ | refine X.q3 ?_ | refine X.q4 ?_ | refine X.q5 ?_ | refine X.q6 ?_ | refine X.q7 ?_ | refine X.q8 ?_ | refine X.q9 ?_ | refine X.q0 ?_ | refine X.m1 ?_ | refine X.m2 ?_ | refine X.m3 ?_ | refine X.m4 ?_ | refine X.m5 ?_ | refine X.m6 ?_ | refine X.l11 ?_ | refine X.l1 ?_ | refine X.l2 ?_ | refine X.l3 ?_ | refine X.l4 ?_ | refine X.l5 ?_ | refine X.l10 ?_ | refine X.l6 ?_ | refine X.l7 ?_ | refine X.l8 ?_ | refine X.l9 ?_ | refine X.m7 ?_ | refine X.m8 ?_ | (refine X.s1 ?_; intro w hw) | (refine X.s2 ?_; intro w hw) | refine X.e1 ?_ | refine X.e2 ?_ | (simp only [X.df]) | (simp (disch := omega) only [wi]))
  refine X.c0 ?_; intro v w _ hw
  repeat (first | refine X.p1 ?_ | refine X.p2 ?_ | refine X.p6 ?_ | refine X.p7 ?_ | refine X.p0 ?_ | refine X.p3 ?_ | refine X.p4 ?_ | refine X.p5 ?_ | refine X.p8 ?_ | refine X.p9 ?_ | refine X.q1 ?_ | refine X.q2 ?_ | refine X.q3 ?_ | refine X.q4 ?_ | refine X.q5 ?_ | refine X.q6 ?_ | refine X.q7 ?_ | refine X.q8 ?_ | refine X.q9 ?_ | refine X.q0 ?_ | refine X.m1 ?_ | refine X.m2 ?_ | refine X.m3 ?_ | refine X.m4 ?_ | refine X.m5 ?_ | refine X.m6 ?_ | refine X.l11 ?_ | refine X.l1 ?_ | refine X.l2 ?_ | refine X.l3 ?_ | refine X.l4 ?_ | refine X.l5 ?_ | refine X.l10 ?_ | refine X.l6 ?_ | refine X.l7 ?_ | refine X.l8 ?_ | refine X.l9 ?_ | refine X.m7 ?_ | refine X.m8 ?_ | (refine X.s1 ?_; intro w hw) | (refine X.s2 ?_; intro w hw) | refine X.e1 ?_ | refine X.e2 ?_ | (simp only [X.df]) | (simp (disch := omega) only [wi]))
  refine X.loop (fun p : Nat × Value => [(0, u64 (x >>> (8 * p.1))), (1, .int .i64 (n : Int)), (5, p.2), (6, .int .i64 (p.1 : Int))])
    (fun p w' => p.1 ≤ n ∧ St w0 [] [vecI p.2 5 1 p.1 (cb (leB x p.1))] w') (fun p => n - p.1) (0, v) ⟨Nat.zero_le _, hw⟩ ?_
  rintro ⟨i, v⟩ w ⟨hi, hw⟩
  simp only at hi hw
  repeat (first | refine X.p1 ?_ | refine X.p2 ?_ | refine X.p6 ?_ | refine X.p7 ?_ | refine X.p0 ?_ | refine X.p3 ?_ | refine X.p4 ?_ | refine X.p5 ?_ | refine X.p8 ?_ | refine X.p9 ?_ | refine X.q1 ?_ | refine X.q2 ?_ | refine X.q3 ?_ | refine X.q4 ?_ | refine X.q5 ?_ | refine X.q6 ?_ | refine X.q7 ?_ | refine X.q8 ?_ | refine X.q9 ?_ | refine X.q0 ?_ | refine X.m1 ?_ | refine X.m2 ?_ | refine X.m3 ?_ | refine X.m4 ?_ | refine X.m5 ?_ | refine X.m6 ?_ | refine X.l11 ?_ | refine X.l1 ?_ | refine X.l2 ?_ | refine X.l3 ?_ | refine X.l4 ?_ | refine X.l5 ?_ | refine X.l10 ?_ | refine X.l6 ?_ | refine X.l7 ?_ | refine X.l8 ?_ | refine X.l9 ?_ | refine X.m7 ?_ | refine X.m8 ?_ | (refine X.s1 ?_; intro w hw) | (refine X.s2 ?_; intro w hw) | refine X.e1 ?_ | refine X.e2 ?_ | (simp only [X.df]) | (simp (disch := omega) only [wi]))
  refine X.cond (fun hlt => ?_) (fun hge => ?_)
  · have hlt : i < n := by omega
    repeat (first | refine X.p1 ?_ | refine X.p2 ?_ | refine X.p6 ?_ | refine X.p7 ?_ | refine X.p0 ?_ | refine X.p3 ?_ | refine X.p4 ?_ | refine X.p5 ?_ | refine X.p8 ?_ | refine X.p9 ?_ | refine X.q1 ?_ | refine X.q2 ?_ | refine X.q3 ?_ | refine X.q4 ?_ | refine X.q5 ?_ | refine X.q6 ?_ | refine X.q7 ?_ | refine X.q8 ?_ | refine X.q9 ?_ | refine X.q0 ?_ | refine X.m1 ?_ | refine X.m2 ?_ | refine X.m3 ?_ | refine X.m4 ?_ | refine X.m5 ?_ | refine X.m6 ?_ | refine X.l11 ?_ | refine X.l1 ?_ | refine X.l2 ?_ | refine X.l3 ?_ | refine X.l4 ?_ | refine X.l5 ?_ | refine X.l10 ?_ | refine X.l6 ?_ | refine X.l7 ?_ | refine X.l8 ?_ | refine X.l9 ?_ | refine X.m7 ?_ | refine X.m8 ?_ | (refine X.s1 ?_; intro w hw) | (refine X.s2 ?_; intro w hw) | refine X.e1 ?_ | refine X.e2 ?_ | (simp only [X.df]) | (simp (disch := omega) only [wi]))
    refine ow_rem (z := ((x >>> (8 * i) % 256).toNat : Int)) rfl rfl rfl (by decide) (rem_u64 _) ?_
    repeat (first | refine X.p1 ?_ | refine X.p2 ?_ | refine X.p6 ?_ | refine X.p7 ?_ | refine X.p0 ?_ | refine X.p3 ?_ | refine X.p4 ?_ | refine X.p5 ?_ | refine X.p8 ?_ | refine X.p9 ?_ | refine X.q1 ?_ | refine X.q2 ?_ | refine X.q3 ?_ | refine X.q4 ?_ | refine X.q5 ?_ | refine X.q6 ?_ | refine X.q7 ?_ | refine X.q8 ?_ | refine X.q9 ?_ | refine X.q0 ?_ | refine X.m1 ?_ | refine X.m2 ?_ | refine X.m3 ?_ | refine X.m4 ?_ | refine X.m5 ?_ | refine X.m6 ?_ | refine X.l11 ?_ | refine X.l1 ?_ | refine X.l2 ?_ | refine X.l3 ?_ | refine X.l4 ?_ | refine X.l5 ?_ | refine X.l10 ?_ | refine X.l6 ?_ | refine X.l7 ?_ | refine X.l8 ?_ | refine X.l9 ?_ | refine X.m7 ?_ | refine X.m8 ?_ | (refine X.s1 ?_; intro w hw) | (refine X.s2 ?_; intro w hw) | refine X.e1 ?_ | refine X.e2 ?_ | (simp only [X.df, u8_u, byte64]) | (simp (disch := omega) only [wi]))
    refine X.c1 ?_; intro g w _ hw
    (first | refine X.a1 ?_ | refine X.a3 ?_ | refine X.a2 ?_); intro v w hw
    repeat (first | refine X.p1 ?_ | refine X.p2 ?_ | refine X.p6 ?_ | refine X.p7 ?_ | refine X.p0 ?_ | refine X.p3 ?_ | refine X.p4 ?_ | refine X.p5 ?_ | refine X.p8 ?_ | refine X.p9 ?_ | refine X.q1 ?_ | refine X.q2 ?_ | refine X.q3 ?_ | refine X.q4 ?_ | refine X.q5 ?_ | refine X.q6 ?_ | refine X.q7 ?_ | refine X.q8 ?_ | refine X.q9 ?_ | refine X.q0 ?_ | refine X.m1 ?_ | refine X.m2 ?_ | refine X.m3 ?_ | refine X.m4 ?_ | refine X.m5 ?_ | refine X.m6 ?_ | refine X.l11 ?_ | refine X.l1 ?_ | refine X.l2 ?_ | refine X.l3 ?_ | refine X.l4 ?_ | refine X.l5 ?_ | refine X.l10 ?_ | refine X.l6 ?_ | refine X.l7 ?_ | refine X.l8 ?_ | refine X.l9 ?_ | refine X.m7 ?_ | refine X.m8 ?_ | (refine X.s1 ?_; intro w hw) | (refine X.s2 ?_; intro w hw) | refine X.e1 ?_ | refine X.e2 ?_ | (simp only [X.df]) | (simp (disch := omega) only [wi]))
    refine ow_quo (z := ((x >>> (8 * i) / 256).toNat : Int)) rfl rfl rfl (by decide) (div_u64 _) ?_
    repeat (first | refine X.p1 ?_ | refine X.p2 ?_ | refine X.p6 ?_ | refine X.p7 ?_ | refine X.p0 ?_ | refine X.p3 ?_ | refine X.p4 ?_ | refine X.p5 ?_ | refine X.p8 ?_ | refine X.p9 ?_ | refine X.q1 ?_ | refine X.q2 ?_ | refine X.q3 ?_ | refine X.q4 ?_ | refine X.q5 ?_ | refine X.q6 ?_ | refine X.q7 ?_ | refine X.q8 ?_ | refine X.q9 ?_ | refine X.q0 ?_ | refine X.m1 ?_ | refine X.m2 ?_ | refine X.m3 ?_ | refine X.m4 ?_ | refine X.m5 ?_ | refine X.m6 ?_ | refine X.l11 ?_ | refine X.l1 ?_ | refine X.l2 ?_ | refine X.l3 ?_ | refine X.l4 ?_ | refine X.l5 ?_ | refine X.l10 ?_ | refine X.l6 ?_ | refine X.l7 ?_ | refine X.l8 ?_ | refine X.l9 ?_ | refine X.m7 ?_ | refine X.m8 ?_ | (refine X.s1 ?_; intro w hw) | (refine X.s2 ?_; intro w hw) | refine X.e1 ?_ | refine X.e2 ?_ | (simp only [X.df]) | (simp (disch := omega) only [wi]))
    rw [show cb (leB x i) ++ [Value.int .u8 ((x >>> (8 * i)).setWidth 8).toNat] = cb (leB x (i + 1)) from by rw [leB_succ]; simp [nbyte]] at hw
    exact X.again (i + 1, v) ⟨hlt, hw.sub (by (repeat (first | (with_reducible exact Split.nil) | ((with_reducible apply Split.cons); (next => (repeat (first | (with_reducible exact Pick.here) | (with_reducible exact Put.here) | (with_reducible apply Pick.there) | (with_reducible apply Put.there))))))))⟩ (by simp only; omega) ⟨by rw [div256]; rfl, rfl, rfl, rfl, trivial⟩
  · obtain rfl : i = n := by omega
    have e := leB_len x i
    repeat (first | refine X.p1 ?_ | refine X.p2 ?_ | refine X.p6 ?_ | refine X.p7 ?_ | refine X.p0 ?_ | refine X.p3 ?_ | refine X.p4 ?_ | refine X.p5 ?_ | refine X.p8 ?_ | refine X.p9 ?_ | refine X.q1 ?_ | refine X.q2 ?_ | refine X.q3 ?_ | refine X.q4 ?_ | refine X.q5 ?_ | refine X.q6 ?_ | refine X.q7 ?_ | refine X.q8 ?_ | refine X.q9 ?_ | refine X.q0 ?_ | refine X.m1 ?_ | refine X.m2 ?_ | refine X.m3 ?_ | refine X.m4 ?_ | refine X.m5 ?_ | refine X.m6 ?_ | refine X.l11 ?_ | refine X.l1 ?_ | refine X.l2 ?_ | refine X.l3 ?_ | refine X.l4 ?_ | refine X.l5 ?_ | refine X.l10 ?_ | refine X.l6 ?_ | refine X.l7 ?_ | refine X.l8 ?_ | refine X.l9 ?_ | refine X.m7 ?_ | refine X.m8 ?_ | (refine X.s1 ?_; intro w hw) | (refine X.s2 ?_; intro w hw) | refine X.e1 ?_ | refine X.e2 ?_ | (simp only [X.df]) | (simp (disch := omega) only [wi]))
    exact xw_ret (vs := [_]) Try.results66 ⟨rfl, trivial⟩ ⟨rfl, hw.kpNo ro_nil⟩
theorem sum_calls (s : List Byte) (hs : s.length = 32) (w0 : World) : Does Try.prog 67 [.agg (cb s).toArray] w0 fun v w' => v = str s ∧ Kp No w0 w' := by
  have hw := St.start (w := w0) .nil
  have hl : (cb s).length = 32 := by rw [List.length_map, hs]
  refine fn_enter Try.func67 rfl Try.ntmps67 rfl ?_
  repeat (first | refine X.p1 ?_ | refine X.p2 ?_ | refine X.p6 ?_ | refine X.p7 ?_ | refine X.p0 ?_ | refine X.p3 ?_ | refine X.p4 ?_ | refine X.p5 ?_ | refine X.p8 ?_ | refine X.p9 ?_ | refine X.q1 ?_ | refine X.q2 ?_ | refine X.q3 ?_ | refine X.q4 ?_ | refine X.q5 ?_ | refine X.q6 ?_ | refine X.q7 ?_ | refine X.q8 ?_ | refine X.q9 ?_ | refine X.q0 ?_ | refine X.m1 ?_ | refine X.m2 ?_ | refine X.m3 ?_ | refine X.m4 ?_ | refine X.m5 ?_ | refine X.m6 ?_ | refine X.l11 ?_ | refine X.l1 ?_ | refine X.l2 ?_ | refine X.l3 ?_ | refine X.l4 ?_ | refine X.l5 ?_ | refine X.l10 ?_ | refine X.l6 ?_ | refine X.l7 ?_ | refine X.l8 ?_ | refine X.l9 ?_ | refine X.m7 ?_ | refine X.m8 ?_ | (refine X.s1 ?_; intro w hw) | (refine X.s2 ?_; intro w hw) | refine X.e1 ?_ | refine X.e2 ?_ | (simp only [X.df]) | (simp (disch := omega) only [wi]))
  (first | refine X.nb ?_ | refine X.na ?_); intro g1 w _ hw
  repeat (first | refine X.p1 ?_ | refine X.p2 ?_ | refine X.p6 ?_ | refine X.p7 ?_ | refine X.p0 ?_ | refine X.p3 ?_ | refine X.p4 ?_ | refine X.p5 ?_ | refine X.p8 ?_ | refine X.p9 ?_ | refine X.q1 ?_ | refine X.q2 ?_ | refine X.q3 ?_ | refine X.q4 ?_ | refine X.q5 ?_ | refine X.q6 ?_ | refine X.q7 ?_ | refine X.q8 ?_ | refine X.q9 ?_ | refine X.q0 ?_ | refine X.m1 ?_ | refine X.m2 ?_ | refine X.m3 ?_ | refine X.m4 ?_ | refine X.m5 ?_ | refine X.m6 ?_ | refine X.l11 ?_ | refine X.l1 ?_ | refine X.l2 ?_ | refine X.l3 ?_ | refine X.l4 ?_ | refine X.l5 ?_ | refine X.l10 ?_ | refine X.l6 ?_ | refine X.l7 ?_ | refine X.l8 ?_ | refine X.l9 ?_ | refine X.m7 ?_ | refine X.m8 ?_ | (refine X.s1 ?_; intro w hw) | (refine X.s2 ?_; intro w hw) | refine X.e1 ?_ | refine X.e2 ?_ | (simp only [X.df]) | (simp (disch := omega) only [wi]))
  refine X.c0 ?_; intro v w _ hw
  repeat (first | refine X.p1 ?_ | refine X.p2 ?_ | refine X.p6 ?_ | refine X.p7 ?_ | refine X.p0 ?_ | refine X.p3 ?_ | refine X.p4 ?_ | refine X.p5 ?_ | refine X.p8 ?_ | refine X.p9 ?_ | refine X.q1 ?_ | refine X.q2 ?_ | refine X.q3 ?_ | refine X.q4 ?_ | refine X.q5 ?_ | refine X.q6 ?_ | refine X.q7 ?_ | refine X.q8 ?_ | refine X.q9 ?_ | refine X.q0 ?_ | refine X.m1 ?_ | refine X.m2 ?_ | refine X.m3 ?_ | refine X.m4 ?_ | refine X.m5 ?_ | refine X.m6 ?_ | refine X.l11 ?_ | refine X.l1 ?_ | refine X.l2 ?_ | refine X.l3 ?_ | refine X.l4 ?_ | refine X.l5 ?_ | refine X.l10 ?_ | refine X.l6 ?_ | refine X.l7 ?_ | refine X.l8 ?_ | refine X.l9 ?_ | refine X.m7 ?_ | refine X.m8 ?_ | (refine X.s1 ?_; intro w hw) | (refine X.s2 ?_; intro w hw) | refine X.e1 ?_ | refine X.e2 ?_ | (simp only [X.df]) | (simp (disch := omega) only [wi]))
  refine X.loop (fun p : Nat × Value => [(1, .pointer (some ⟨g1, 0, none⟩)), (3, p.2), (4, .int .i64 (p.1 : Int))])
    (fun p w' => p.1 ≤ 32 ∧ St w0 [] [vecI p.2 5 1 p.1 (cb (s.take p.1)), blkI g1 37 (cb s)] w') (fun p => 32 - p.1) (0, v) ⟨Nat.zero_le _, hw⟩ ?_
  rintro ⟨i, v⟩ w ⟨hi, hw⟩
  simp only at hi hw
  repeat (first | refine X.p1 ?_ | refine X.p2 ?_ | refine X.p6 ?_ | refine X.p7 ?_ | refine X.p0 ?_ | refine X.p3 ?_ | refine X.p4 ?_ | refine X.p5 ?_ | refine X.p8 ?_ | refine X.p9 ?_ | refine X.q1 ?_ | refine X.q2 ?_ | refine X.q3 ?_ | refine X.q4 ?_ | refine X.q5 ?_ | refine X.q6 ?_ | refine X.q7 ?_ | refine X.q8 ?_ | refine X.q9 ?_ | refine X.q0 ?_ | refine X.m1 ?_ | refine X.m2 ?_ | refine X.m3 ?_ | refine X.m4 ?_ | refine X.m5 ?_ | refine X.m6 ?_ | refine X.l11 ?_ | refine X.l1 ?_ | refine X.l2 ?_ | refine X.l3 ?_ | refine X.l4 ?_ | refine X.l5 ?_ | refine X.l10 ?_ | refine X.l6 ?_ | refine X.l7 ?_ | refine X.l8 ?_ | refine X.l9 ?_ | refine X.m7 ?_ | refine X.m8 ?_ | (refine X.s1 ?_; intro w hw) | (refine X.s2 ?_; intro w hw) | refine X.e1 ?_ | refine X.e2 ?_ | (simp only [X.df]) | (simp (disch := omega) only [wi]))
  refine X.cond (fun hlt => ?_) (fun hge => ?_)
  · have hlt : i < 32 := by omega
    have hb : nth (cb s) (0 + (i : Int).toNat * 1) = some (by8 (s[i]'(by omega))) := by rw [nth_eq]; simp only [cb, List.getElem?_map, Int.toNat_natCast, Nat.mul_one, Nat.zero_add, List.getElem?_eq_getElem (show i < s.length by omega), Option.map_some]
    repeat (first | refine X.p1 ?_ | refine X.p2 ?_ | refine X.p6 ?_ | refine X.p7 ?_ | refine X.p0 ?_ | refine X.p3 ?_ | refine X.p4 ?_ | refine X.p5 ?_ | refine X.p8 ?_ | refine X.p9 ?_ | refine X.q1 ?_ | refine X.q2 ?_ | refine X.q3 ?_ | refine X.q4 ?_ | refine X.q5 ?_ | refine X.q6 ?_ | refine X.q7 ?_ | refine X.q8 ?_ | refine X.q9 ?_ | refine X.q0 ?_ | refine X.m1 ?_ | refine X.m2 ?_ | refine X.m3 ?_ | refine X.m4 ?_ | refine X.m5 ?_ | refine X.m6 ?_ | refine X.l11 ?_ | refine X.l1 ?_ | refine X.l2 ?_ | refine X.l3 ?_ | refine X.l4 ?_ | refine X.l5 ?_ | refine X.l10 ?_ | refine X.l6 ?_ | refine X.l7 ?_ | refine X.l8 ?_ | refine X.l9 ?_ | refine X.m7 ?_ | refine X.m8 ?_ | (refine X.s1 ?_; intro w hw) | (refine X.s2 ?_; intro w hw) | refine X.e1 ?_ | refine X.e2 ?_ | (simp only [X.df]) | (simp (disch := omega) only [wi]))
    refine X.c1 ?_; intro g w _ hw
    (first | refine X.a1 ?_ | refine X.a3 ?_ | refine X.a2 ?_); intro v w hw
    repeat (first | refine X.p1 ?_ | refine X.p2 ?_ | refine X.p6 ?_ | refine X.p7 ?_ | refine X.p0 ?_ | refine X.p3 ?_ | refine X.p4 ?_ | refine X.p5 ?_ | refine X.p8 ?_ | refine X.p9 ?_ | refine X.q1 ?_ | refine X.q2 ?_ | refine X.q3 ?_ | refine X.q4 ?_ | refine X.q5 ?_ | refine X.q6 ?_ | refine X.q7 ?_ | refine X.q8 ?_ | refine X.q9 ?_ | refine X.q0 ?_ | refine X.m1 ?_ | refine X.m2 ?_ | refine X.m3 ?_ | refine X.m4 ?_ | refine X.m5 ?_ | refine X.m6 ?_ | refine X.l11 ?_ | refine X.l1 ?_ | refine X.l2 ?_ | refine X.l3 ?_ | refine X.l4 ?_ | refine X.l5 ?_ | refine X.l10 ?_ | refine X.l6 ?_ | refine X.l7 ?_ | refine X.l8 ?_ | refine X.l9 ?_ | refine X.m7 ?_ | refine X.m8 ?_ | (refine X.s1 ?_; intro w hw) | (refine X.s2 ?_; intro w hw) | refine X.e1 ?_ | refine X.e2 ?_ | (simp only [X.df]) | (simp (disch := omega) only [wi]))
    rw [show cb (s.take i) ++ [Value.int .u8 (s[i]'(by omega)).toNat] = cb (s.take (i + 1)) from by rw [List.take_add_one, List.getElem?_eq_getElem (by omega)]; simp only [Option.toList, cb, List.map_append, List.map_cons, List.map_nil]] at hw
    exact X.again (i + 1, v) ⟨by omega, hw.sub (by (repeat (first | (with_reducible exact Split.nil) | ((with_reducible apply Split.cons); (next => (repeat (first | (with_reducible exact Pick.here) | (with_reducible exact Put.here) | (with_reducible apply Pick.there) | (with_reducible apply Put.there))))))))⟩ (by simp only; omega)
  · obtain rfl : i = 32 := by omega
    rw [List.take_of_length_le (Nat.le_of_eq hs)] at hw
    repeat (first | refine X.p1 ?_ | refine X.p2 ?_ | refine X.p6 ?_ | refine X.p7 ?_ | refine X.p0 ?_ | refine X.p3 ?_ | refine X.p4 ?_ | refine X.p5 ?_ | refine X.p8 ?_ | refine X.p9 ?_ | refine X.q1 ?_ | refine X.q2 ?_ | refine X.q3 ?_ | refine X.q4 ?_ | refine X.q5 ?_ | refine X.q6 ?_ | refine X.q7 ?_ | refine X.q8 ?_ | refine X.q9 ?_ | refine X.q0 ?_ | refine X.m1 ?_ | refine X.m2 ?_ | refine X.m3 ?_ | refine X.m4 ?_ | refine X.m5 ?_ | refine X.m6 ?_ | refine X.l11 ?_ | refine X.l1 ?_ | refine X.l2 ?_ | refine X.l3 ?_ | refine X.l4 ?_ | refine X.l5 ?_ | refine X.l10 ?_ | refine X.l6 ?_ | refine X.l7 ?_ | refine X.l8 ?_ | refine X.l9 ?_ | refine X.m7 ?_ | refine X.m8 ?_ | (refine X.s1 ?_; intro w hw) | (refine X.s2 ?_; intro w hw) | refine X.e1 ?_ | refine X.e2 ?_ | (simp only [X.df]) | (simp (disch := omega) only [wi]))
    exact xw_ret (vs := [_]) Try.results67 ⟨rfl, trivial⟩ ⟨rfl, hw.kpNo ro_nil⟩
/-! A root's text. -/
def mag : List Byte := [115, 105, 103, 110, 101, 116, 48, 49]
def sup1 (x : Sp) : List Byte := mag ++ le4 x.bl ++ le4 0 ++ leB x.ct 8
def sup2 (x : Sp) : List Byte := le4 x.th ++ le4 x.ino ++ leB (x.t.1.setWidth 64) 4 ++ x.t.2
def sup3 (x : Sp) : List Byte := le4 x.mh ++ leB (x.m.1.setWidth 64) 4 ++ x.m.2 ++ le4 x.us
def supT (x : Sp) : List Byte := sup1 x ++ sup2 x ++ sup3 x
theorem sup1_len (x : Sp) : (sup1 x).length = 24 := by simp only [sup1, List.length_append, le4_len, leB_len]; rfl
theorem sup2_len {x : Sp} (h : OkS x) : (sup2 x).length = 44 := by
  have : x.t.2.length = 32 := h.t
  simp only [sup2, List.length_append, le4_len, leB_len]; omega
theorem sup3_len {x : Sp} (h : OkS x) : (sup3 x).length = 44 := by
  have : x.m.2.length = 32 := h.m
  simp only [sup3, List.length_append, le4_len, leB_len]; omega
theorem supT_len {x : Sp} (h : OkS x) : (supT x).length = 112 := by simp only [supT, List.length_append, sup1_len, sup2_len h, sup3_len h]
theorem zB : (zb 256).length = 256 := z256
/-- The bounds that a right root keeps. -/
theorem SupOk.bds {x : Sp} (h : SupOk x) : (0 ≤ x.bl ∧ x.bl < 4294967296) ∧ (0 ≤ x.th ∧ x.th < 4294967296) ∧ (0 ≤ x.ino ∧ x.ino < 4294967296) ∧ (0 ≤ x.mh ∧ x.mh < 4294967296) ∧ (0 ≤ x.us ∧ x.us < 4294967296) := by
  obtain ⟨h1, h2, ⟨a, ⟨_, _, ha⟩, ha'⟩, ⟨b, ⟨_, _, hb⟩, hb'⟩, _, _, _, h8, h9⟩ := h
  omega
noncomputable def encV (x : Sp) : List Byte := if supB x then padB (supT x) else zb 256
theorem encV_len {x : Sp} (h : OkS x) : (encV x).length = 256 := by
  unfold encV
  split
  · exact padB_len (by rw [supT_len h]; decide)
  · exact z256
set_option maxRecDepth 20000 in
theorem encode_calls' (x : Sp) (hx : OkS x) (hi : I64 x.ino) (w0 : World) : Does Try.prog 42 [.agg (spC x).toArray] w0 fun v w' => v = .tuple #[blk (encV x), .int .i64 (cond (supB x) 0 200)] ∧ Kp No w0 w' := by
  have hw := St.start (w := w0) .nil
  have hch := check_calls x hx hi
  have hel := encV_len hx
  have hel2 : (cb (encV x)).length = 256 := by rw [List.length_map, hel]
  have heo := oneCells_cb (encV x)
  have hb8 := leB_len x.ct 8
  have ho8 := leB_ok x.ct 8
  have hbd : SupOk x → _ := SupOk.bds
  have hx' := hx
  have htl := supT_len hx
  obtain ⟨bl, ct, th, t, ino, mh, m, us⟩ := x
  have hl := spC_len hx
  have e36 : nth (spC ⟨bl, ct, th, t, ino, mh, m, us⟩) (0 + 36) = some (i64v ino) := n36 hx
  have e37 : nth (spC ⟨bl, ct, th, t, ino, mh, m, us⟩) (0 + 37 + 0) = some (i64v mh) := n37 hx
  have e38 : nth (spC ⟨bl, ct, th, t, ino, mh, m, us⟩) (0 + 37 + 1 + 0) = some (u32 m.1) := n38 hx
  have e71 : nth (spC ⟨bl, ct, th, t, ino, mh, m, us⟩) (0 + 71) = some (i64v us) := n71 hx
  have e0 : nth (spC ⟨bl, ct, th, t, ino, mh, m, us⟩) (0 + 0) = some (i64v bl) := rfl
  have e1 : nth (spC ⟨bl, ct, th, t, ino, mh, m, us⟩) (0 + 1) = some (u64 ct) := rfl
  have e2 : nth (spC ⟨bl, ct, th, t, ino, mh, m, us⟩) (0 + 2 + 0) = some (i64v th) := rfl
  have e3 : nth (spC ⟨bl, ct, th, t, ino, mh, m, us⟩) (0 + 2 + 1 + 0) = some (u32 t.1) := rfl
  have a2 : ((spC ⟨bl, ct, th, t, ino, mh, m, us⟩).drop (0 + 2)).take 34 = trC th t := d2 hx
  have a37 : ((spC ⟨bl, ct, th, t, ino, mh, m, us⟩).drop (0 + 37)).take 34 = trC mh m := d37 hx
  have a3 : ((spC ⟨bl, ct, th, t, ino, mh, m, us⟩).drop (0 + 2 + 1)).take 33 = refC t := d3 hx
  have a38 : ((spC ⟨bl, ct, th, t, ino, mh, m, us⟩).drop (0 + 37 + 1)).take 33 = refC m := d38 hx
  have hone := spC_one ⟨bl, ct, th, t, ino, mh, m, us⟩
  obtain ⟨ht, hm⟩ := hx
  simp only at ht hm hbd hb8 ho8
  generalize hC : spC ⟨bl, ct, th, t, ino, mh, m, us⟩ = C at *
  refine fn_enter Try.func42 rfl Try.ntmps42 rfl ?_
  repeat (first | refine X.p1 ?_ | refine X.p2 ?_ | refine X.p6 ?_ | refine X.p7 ?_ | refine X.p0 ?_ | refine X.p3 ?_ | refine X.p4 ?_ | refine X.p5 ?_ | refine X.p8 ?_ | refine X.p9 ?_ | refine X.q1 ?_ | refine X.q2 ?_ | refine X.q3 ?_ | refine X.q4 ?_ | refine X.q5 ?_ | refine X.q6 ?_ | refine X.q7 ?_ | refine X.q8 ?_ | refine X.q9 ?_ | refine X.q0 ?_ | refine X.m1 ?_ | refine X.m2 ?_ | refine X.m3 ?_ | refine X.m4 ?_ | refine X.m5 ?_ | refine X.m6 ?_ | refine X.l11 ?_ | refine X.l1 ?_ | refine X.l2 ?_ | refine X.l3 ?_ | refine X.l4 ?_ | refine X.l5 ?_ | refine X.l10 ?_ | refine X.l6 ?_ | refine X.l7 ?_ | refine X.l8 ?_ | refine X.l9 ?_ | refine X.m7 ?_ | refine X.m8 ?_ | (refine X.s1 ?_; intro w hw) | (refine X.s2 ?_; intro w hw) | refine X.e1 ?_ | refine X.e2 ?_ | (simp only [X.df]) | (simp (disch := omega) only [wi]))
  (first | refine X.nb ?_ | refine X.na ?_); intro g1 w _ hw
  (first | refine X.nb ?_ | refine X.na ?_); intro g2 w _ hw
  repeat (first | refine X.p1 ?_ | refine X.p2 ?_ | refine X.p6 ?_ | refine X.p7 ?_ | refine X.p0 ?_ | refine X.p3 ?_ | refine X.p4 ?_ | refine X.p5 ?_ | refine X.p8 ?_ | refine X.p9 ?_ | refine X.q1 ?_ | refine X.q2 ?_ | refine X.q3 ?_ | refine X.q4 ?_ | refine X.q5 ?_ | refine X.q6 ?_ | refine X.q7 ?_ | refine X.q8 ?_ | refine X.q9 ?_ | refine X.q0 ?_ | refine X.m1 ?_ | refine X.m2 ?_ | refine X.m3 ?_ | refine X.m4 ?_ | refine X.m5 ?_ | refine X.m6 ?_ | refine X.l11 ?_ | refine X.l1 ?_ | refine X.l2 ?_ | refine X.l3 ?_ | refine X.l4 ?_ | refine X.l5 ?_ | refine X.l10 ?_ | refine X.l6 ?_ | refine X.l7 ?_ | refine X.l8 ?_ | refine X.l9 ?_ | refine X.m7 ?_ | refine X.m8 ?_ | (refine X.s1 ?_; intro w hw) | (refine X.s2 ?_; intro w hw) | refine X.e1 ?_ | refine X.e2 ?_ | (simp only [X.df]) | (simp (disch := omega) only [wi]))
  refine X.callN rfl rfl Try.func44 (hch w) fun w _ hw => ?_
  by_cases c0 : SupOk ⟨bl, ct, th, t, ino, mh, m, us⟩
  rotate_left
  · rw [supB_f c0, cf1]
    repeat (first | refine X.p1 ?_ | refine X.p2 ?_ | refine X.p6 ?_ | refine X.p7 ?_ | refine X.p0 ?_ | refine X.p3 ?_ | refine X.p4 ?_ | refine X.p5 ?_ | refine X.p8 ?_ | refine X.p9 ?_ | refine X.q1 ?_ | refine X.q2 ?_ | refine X.q3 ?_ | refine X.q4 ?_ | refine X.q5 ?_ | refine X.q6 ?_ | refine X.q7 ?_ | refine X.q8 ?_ | refine X.q9 ?_ | refine X.q0 ?_ | refine X.m1 ?_ | refine X.m2 ?_ | refine X.m3 ?_ | refine X.m4 ?_ | refine X.m5 ?_ | refine X.m6 ?_ | refine X.l11 ?_ | refine X.l1 ?_ | refine X.l2 ?_ | refine X.l3 ?_ | refine X.l4 ?_ | refine X.l5 ?_ | refine X.l10 ?_ | refine X.l6 ?_ | refine X.l7 ?_ | refine X.l8 ?_ | refine X.l9 ?_ | refine X.m7 ?_ | refine X.m8 ?_ | (refine X.s1 ?_; intro w hw) | (refine X.s2 ?_; intro w hw) | refine X.e1 ?_ | refine X.e2 ?_ | (simp only [X.df]) | (simp (disch := omega) only [wi]))
    refine xw_ret (vs := [_, _]) Try.results42 ⟨⟨_, rfl, cellA tab (g := g2) hw (by (repeat (first | (with_reducible exact Pick.here) | (with_reducible exact Put.here) | (with_reducible apply Pick.there) | (with_reducible apply Put.there)))) Try.underlying65 rfl rfl (by rw [List.length_map, z256])⟩, rfl, trivial⟩ ⟨?_, hw.kpNo ro_nil⟩
    rw [encV, supB_f c0]; rfl
  obtain ⟨⟨p1, p2⟩, ⟨p3, p4⟩, ⟨p5, p6⟩, ⟨p7, p8⟩, ⟨p9, p10⟩⟩ := hbd c0
  rw [supB_t c0, ct1]
  have l1 := le4_len bl
  have l2 := le4_len 0
  have l3 := le4_len th
  have l4 := le4_len ino
  have l5 := le4_len mh
  have l6 := le4_len us
  have l7 := encR_len ht
  have l8 := encR_len hm
  have l9 : mag.length = 8 := rfl
  repeat (first | refine X.p1 ?_ | refine X.p2 ?_ | refine X.p6 ?_ | refine X.p7 ?_ | refine X.p0 ?_ | refine X.p3 ?_ | refine X.p4 ?_ | refine X.p5 ?_ | refine X.p8 ?_ | refine X.p9 ?_ | refine X.q1 ?_ | refine X.q2 ?_ | refine X.q3 ?_ | refine X.q4 ?_ | refine X.q5 ?_ | refine X.q6 ?_ | refine X.q7 ?_ | refine X.q8 ?_ | refine X.q9 ?_ | refine X.q0 ?_ | refine X.m1 ?_ | refine X.m2 ?_ | refine X.m3 ?_ | refine X.m4 ?_ | refine X.m5 ?_ | refine X.m6 ?_ | refine X.l11 ?_ | refine X.l1 ?_ | refine X.l2 ?_ | refine X.l3 ?_ | refine X.l4 ?_ | refine X.l5 ?_ | refine X.l10 ?_ | refine X.l6 ?_ | refine X.l7 ?_ | refine X.l8 ?_ | refine X.l9 ?_ | refine X.m7 ?_ | refine X.m8 ?_ | (refine X.s1 ?_; intro w hw) | (refine X.s2 ?_; intro w hw) | refine X.e1 ?_ | refine X.e2 ?_ | (simp only [X.df]) | (simp (disch := omega) only [wi]))
  refine X.callN rfl rfl Try.func51 (bytes64_calls ct w) fun w _ hw => ?_
  (first | refine X.nb ?_ | refine X.na ?_); intro g5 w _ hw
  repeat (first | refine X.p1 ?_ | refine X.p2 ?_ | refine X.p6 ?_ | refine X.p7 ?_ | refine X.p0 ?_ | refine X.p3 ?_ | refine X.p4 ?_ | refine X.p5 ?_ | refine X.p8 ?_ | refine X.p9 ?_ | refine X.q1 ?_ | refine X.q2 ?_ | refine X.q3 ?_ | refine X.q4 ?_ | refine X.q5 ?_ | refine X.q6 ?_ | refine X.q7 ?_ | refine X.q8 ?_ | refine X.q9 ?_ | refine X.q0 ?_ | refine X.m1 ?_ | refine X.m2 ?_ | refine X.m3 ?_ | refine X.m4 ?_ | refine X.m5 ?_ | refine X.m6 ?_ | refine X.l11 ?_ | refine X.l1 ?_ | refine X.l2 ?_ | refine X.l3 ?_ | refine X.l4 ?_ | refine X.l5 ?_ | refine X.l10 ?_ | refine X.l6 ?_ | refine X.l7 ?_ | refine X.l8 ?_ | refine X.l9 ?_ | refine X.m7 ?_ | refine X.m8 ?_ | (refine X.s1 ?_; intro w hw) | (refine X.s2 ?_; intro w hw) | refine X.e1 ?_ | refine X.e2 ?_ | (simp only [X.df]) | (simp (disch := omega) only [wi]))
  refine Y.mix [0, 1, 6, 7, 9, 10, 11, 14, 15, 18, 19, 20, 23, 24, 25, 28, 29, 30, 33, 34] [2, 3, 4, 5, 8, 12, 13, 16, 17, 21, 22, 26, 27, 31, 32, 35, 36, 37, 38, 39, 40, 41, 42, 43] [(1, .o), (7, .r), (11, .o), (15, .o), (20, .o), (25, .o), (30, .o), (34, .o), (41, .f), (42, .n)] [] (R := []) hw fun w K hw hF => ?_; have hz := hw
  repeat (first | refine Y.r1 ?_ | refine Y.r2 ?_ | refine Y.r4 ?_ | refine Y.rm1 ?_ | refine Y.rm2 ?_ | refine Y.rm3 ?_ | refine Y.rm4 ?_ | refine Y.rm5 ?_ | refine Y.rl11 ?_ | refine Y.rl1 ?_ | refine Y.rl2 ?_ | refine Y.rl3 ?_ | refine Y.rl5 ?_ | refine Y.rl6 ?_ | refine Y.ro11 ?_ | refine Y.ro1 ?_ | refine Y.ro2 ?_ | refine Y.ro3 ?_ | refine Y.ro5 ?_ | refine Y.ro6 ?_ | refine Y.rm8 ?_ | (refine Y.r3 ?_; intro w hw) | (refine Y.beg0 ?_) | refine Y.re1 ?_ | refine Y.re2 ?_ | (simp only [X.df]) | (simp (disch := omega) only [wi]))
  refine Y.act hw fun w hw0 hw => ?_; refine X.callN rfl rfl Try.func65 (small_calls bl p1 p2 w) fun w kk hw => ?_; refine Y.midA hw0 hF hw kk fun K hw hF => ?_
  repeat (first | refine Y.r1 ?_ | refine Y.r2 ?_ | refine Y.r4 ?_ | refine Y.rm1 ?_ | refine Y.rm2 ?_ | refine Y.rm3 ?_ | refine Y.rm4 ?_ | refine Y.rm5 ?_ | refine Y.rl11 ?_ | refine Y.rl1 ?_ | refine Y.rl2 ?_ | refine Y.rl3 ?_ | refine Y.rl5 ?_ | refine Y.rl6 ?_ | refine Y.ro11 ?_ | refine Y.ro1 ?_ | refine Y.ro2 ?_ | refine Y.ro3 ?_ | refine Y.ro5 ?_ | refine Y.ro6 ?_ | refine Y.rm8 ?_ | (refine Y.r3 ?_; intro w hw) | (refine Y.beg0 ?_) | refine Y.re1 ?_ | refine Y.re2 ?_ | (simp only [X.df]) | (simp (disch := omega) only [wi]))
  refine Y.rm8 (a := mag) (c := le4 bl) ?_ (hl := by rw [le4_len]; decide)
  repeat (first | refine Y.r1 ?_ | refine Y.r2 ?_ | refine Y.r4 ?_ | refine Y.rm1 ?_ | refine Y.rm2 ?_ | refine Y.rm3 ?_ | refine Y.rm4 ?_ | refine Y.rm5 ?_ | refine Y.rl11 ?_ | refine Y.rl1 ?_ | refine Y.rl2 ?_ | refine Y.rl3 ?_ | refine Y.rl5 ?_ | refine Y.rl6 ?_ | refine Y.ro11 ?_ | refine Y.ro1 ?_ | refine Y.ro2 ?_ | refine Y.ro3 ?_ | refine Y.ro5 ?_ | refine Y.ro6 ?_ | refine Y.rm8 ?_ | (refine Y.r3 ?_; intro w hw) | (refine Y.beg0 ?_) | refine Y.re1 ?_ | refine Y.re2 ?_ | (simp only [X.df]) | (simp (disch := omega) only [wi]))
  refine Y.act hw fun w hw0 hw => ?_; refine X.callN rfl rfl Try.func65 (small_calls 0 (by decide) (by decide) w) fun w kk hw => ?_; refine Y.midA hw0 hF hw kk fun K hw hF => ?_
  repeat (first | refine Y.r1 ?_ | refine Y.r2 ?_ | refine Y.r4 ?_ | refine Y.rm1 ?_ | refine Y.rm2 ?_ | refine Y.rm3 ?_ | refine Y.rm4 ?_ | refine Y.rm5 ?_ | refine Y.rl11 ?_ | refine Y.rl1 ?_ | refine Y.rl2 ?_ | refine Y.rl3 ?_ | refine Y.rl5 ?_ | refine Y.rl6 ?_ | refine Y.ro11 ?_ | refine Y.ro1 ?_ | refine Y.ro2 ?_ | refine Y.ro3 ?_ | refine Y.ro5 ?_ | refine Y.ro6 ?_ | refine Y.rm8 ?_ | (refine Y.r3 ?_; intro w hw) | (refine Y.beg0 ?_) | refine Y.re1 ?_ | refine Y.re2 ?_ | (simp only [X.df]) | (simp (disch := omega) only [wi]))
  refine Y.act hw fun w hw0 hw => ?_; refine X.callN rfl rfl Try.func65 (small_calls th p3 p4 w) fun w kk hw => ?_; refine Y.midA hw0 hF hw kk fun K hw hF => ?_
  repeat (first | refine Y.r1 ?_ | refine Y.r2 ?_ | refine Y.r4 ?_ | refine Y.rm1 ?_ | refine Y.rm2 ?_ | refine Y.rm3 ?_ | refine Y.rm4 ?_ | refine Y.rm5 ?_ | refine Y.rl11 ?_ | refine Y.rl1 ?_ | refine Y.rl2 ?_ | refine Y.rl3 ?_ | refine Y.rl5 ?_ | refine Y.rl6 ?_ | refine Y.ro11 ?_ | refine Y.ro1 ?_ | refine Y.ro2 ?_ | refine Y.ro3 ?_ | refine Y.ro5 ?_ | refine Y.ro6 ?_ | refine Y.rm8 ?_ | (refine Y.r3 ?_; intro w hw) | (refine Y.beg0 ?_) | refine Y.re1 ?_ | refine Y.re2 ?_ | (simp only [X.df]) | (simp (disch := omega) only [wi]))
  refine Y.act hw fun w hw0 hw => ?_; refine X.callN rfl rfl Try.func65 (small_calls ino p5 p6 w) fun w kk hw => ?_; refine Y.midA hw0 hF hw kk fun K hw hF => ?_
  repeat (first | refine Y.r1 ?_ | refine Y.r2 ?_ | refine Y.r4 ?_ | refine Y.rm1 ?_ | refine Y.rm2 ?_ | refine Y.rm3 ?_ | refine Y.rm4 ?_ | refine Y.rm5 ?_ | refine Y.rl11 ?_ | refine Y.rl1 ?_ | refine Y.rl2 ?_ | refine Y.rl3 ?_ | refine Y.rl5 ?_ | refine Y.rl6 ?_ | refine Y.ro11 ?_ | refine Y.ro1 ?_ | refine Y.ro2 ?_ | refine Y.ro3 ?_ | refine Y.ro5 ?_ | refine Y.ro6 ?_ | refine Y.rm8 ?_ | (refine Y.r3 ?_; intro w hw) | (refine Y.beg0 ?_) | refine Y.re1 ?_ | refine Y.re2 ?_ | (simp only [X.df]) | (simp (disch := omega) only [wi]))
  refine Y.act hw fun w hw0 hw => ?_; refine X.callN rfl rfl Try.func52 (encode_calls t ht w) fun w kk hw => ?_; refine Y.midA hw0 hF hw kk fun K hw hF => ?_
  repeat (first | refine Y.r1 ?_ | refine Y.r2 ?_ | refine Y.r4 ?_ | refine Y.rm1 ?_ | refine Y.rm2 ?_ | refine Y.rm3 ?_ | refine Y.rm4 ?_ | refine Y.rm5 ?_ | refine Y.rl11 ?_ | refine Y.rl1 ?_ | refine Y.rl2 ?_ | refine Y.rl3 ?_ | refine Y.rl5 ?_ | refine Y.rl6 ?_ | refine Y.ro11 ?_ | refine Y.ro1 ?_ | refine Y.ro2 ?_ | refine Y.ro3 ?_ | refine Y.ro5 ?_ | refine Y.ro6 ?_ | refine Y.rm8 ?_ | (refine Y.r3 ?_; intro w hw) | (refine Y.beg0 ?_) | refine Y.re1 ?_ | refine Y.re2 ?_ | (simp only [X.df]) | (simp (disch := omega) only [wi]))
  refine Y.act hw fun w hw0 hw => ?_; refine X.callN rfl rfl Try.func65 (small_calls mh p7 p8 w) fun w kk hw => ?_; refine Y.midA hw0 hF hw kk fun K hw hF => ?_
  repeat (first | refine Y.r1 ?_ | refine Y.r2 ?_ | refine Y.r4 ?_ | refine Y.rm1 ?_ | refine Y.rm2 ?_ | refine Y.rm3 ?_ | refine Y.rm4 ?_ | refine Y.rm5 ?_ | refine Y.rl11 ?_ | refine Y.rl1 ?_ | refine Y.rl2 ?_ | refine Y.rl3 ?_ | refine Y.rl5 ?_ | refine Y.rl6 ?_ | refine Y.ro11 ?_ | refine Y.ro1 ?_ | refine Y.ro2 ?_ | refine Y.ro3 ?_ | refine Y.ro5 ?_ | refine Y.ro6 ?_ | refine Y.rm8 ?_ | (refine Y.r3 ?_; intro w hw) | (refine Y.beg0 ?_) | refine Y.re1 ?_ | refine Y.re2 ?_ | (simp only [X.df]) | (simp (disch := omega) only [wi]))
  refine Y.act hw fun w hw0 hw => ?_; refine X.callN rfl rfl Try.func52 (encode_calls m hm w) fun w kk hw => ?_; refine Y.midA hw0 hF hw kk fun K hw hF => ?_
  repeat (first | refine Y.r1 ?_ | refine Y.r2 ?_ | refine Y.r4 ?_ | refine Y.rm1 ?_ | refine Y.rm2 ?_ | refine Y.rm3 ?_ | refine Y.rm4 ?_ | refine Y.rm5 ?_ | refine Y.rl11 ?_ | refine Y.rl1 ?_ | refine Y.rl2 ?_ | refine Y.rl3 ?_ | refine Y.rl5 ?_ | refine Y.rl6 ?_ | refine Y.ro11 ?_ | refine Y.ro1 ?_ | refine Y.ro2 ?_ | refine Y.ro3 ?_ | refine Y.ro5 ?_ | refine Y.ro6 ?_ | refine Y.rm8 ?_ | (refine Y.r3 ?_; intro w hw) | (refine Y.beg0 ?_) | refine Y.re1 ?_ | refine Y.re2 ?_ | (simp only [X.df]) | (simp (disch := omega) only [wi]))
  refine Y.act hw fun w hw0 hw => ?_; refine X.callN rfl rfl Try.func65 (small_calls us p9 p10 w) fun w kk hw => ?_; refine Y.midA hw0 hF hw kk fun K hw hF => ?_
  repeat (first | refine Y.r1 ?_ | refine Y.r2 ?_ | refine Y.r4 ?_ | refine Y.rm1 ?_ | refine Y.rm2 ?_ | refine Y.rm3 ?_ | refine Y.rm4 ?_ | refine Y.rm5 ?_ | refine Y.rl11 ?_ | refine Y.rl1 ?_ | refine Y.rl2 ?_ | refine Y.rl3 ?_ | refine Y.rl5 ?_ | refine Y.rl6 ?_ | refine Y.ro11 ?_ | refine Y.ro1 ?_ | refine Y.ro2 ?_ | refine Y.ro3 ?_ | refine Y.ro5 ?_ | refine Y.ro6 ?_ | refine Y.rm8 ?_ | (refine Y.r3 ?_; intro w hw) | (refine Y.beg0 ?_) | refine Y.re1 ?_ | refine Y.re2 ?_ | (simp only [X.df]) | (simp (disch := omega) only [wi]))
  have hT : mag ++ le4 bl ++ le4 0 ++ leB ct 8 ++ le4 th ++ le4 ino ++ encR t ++ le4 mh ++ encR m ++ le4 us = supT ⟨bl, ct, th, t, ino, mh, m, us⟩ := by simp only [supT, sup1, sup2, sup3, encR, List.append_assoc]
  rw [hT]
  refine Y.act hw fun w hw0 hw => ?_; refine X.callN rfl rfl Try.func64 (of_ok (supT ⟨bl, ct, th, t, ino, mh, m, us⟩) (by rw [htl]; decide) w) fun w kk hw => ?_; refine Y.midA hw0 hF hw kk fun K hw hF => ?_
  have hE : padB (supT ⟨bl, ct, th, t, ino, mh, m, us⟩) = encV ⟨bl, ct, th, t, ino, mh, m, us⟩ := by rw [encV, supB_t c0]; rfl
  rw [hE]
  repeat (first | refine Y.r1 ?_ | refine Y.r2 ?_ | refine Y.r4 ?_ | refine Y.rm1 ?_ | refine Y.rm2 ?_ | refine Y.rm3 ?_ | refine Y.rm4 ?_ | refine Y.rm5 ?_ | refine Y.rl11 ?_ | refine Y.rl1 ?_ | refine Y.rl2 ?_ | refine Y.rl3 ?_ | refine Y.rl5 ?_ | refine Y.rl6 ?_ | refine Y.ro11 ?_ | refine Y.ro1 ?_ | refine Y.ro2 ?_ | refine Y.ro3 ?_ | refine Y.ro5 ?_ | refine Y.ro6 ?_ | refine Y.rm8 ?_ | (refine Y.r3 ?_; intro w hw) | (refine Y.beg0 ?_) | refine Y.re1 ?_ | refine Y.re2 ?_ | (simp only [X.df]) | (simp (disch := omega) only [wi]))
  refine Y.newA hw hF fun g6 w K hw hF new_g6 => ?_
  repeat (first | refine Y.r1 ?_ | refine Y.r2 ?_ | refine Y.r4 ?_ | refine Y.rm1 ?_ | refine Y.rm2 ?_ | refine Y.rm3 ?_ | refine Y.rm4 ?_ | refine Y.rm5 ?_ | refine Y.rl11 ?_ | refine Y.rl1 ?_ | refine Y.rl2 ?_ | refine Y.rl3 ?_ | refine Y.rl5 ?_ | refine Y.rl6 ?_ | refine Y.ro11 ?_ | refine Y.ro1 ?_ | refine Y.ro2 ?_ | refine Y.ro3 ?_ | refine Y.ro5 ?_ | refine Y.ro6 ?_ | refine Y.rm8 ?_ | (refine Y.r3 ?_; intro w hw) | (refine Y.beg0 ?_) | refine Y.re1 ?_ | refine Y.re2 ?_ | (simp only [X.df]) | (simp (disch := omega) only [wi]))
  refine Y.act hw fun w hw0 hw => ?_; (first | refine X.s1K ?_ | refine Y.s2K ?_); intro w kk hw; refine Y.midN hw0 hF hw kk new_g6 fun K hw hF => ?_
  repeat (first | refine Y.r1 ?_ | refine Y.r2 ?_ | refine Y.r4 ?_ | refine Y.rm1 ?_ | refine Y.rm2 ?_ | refine Y.rm3 ?_ | refine Y.rm4 ?_ | refine Y.rm5 ?_ | refine Y.rl11 ?_ | refine Y.rl1 ?_ | refine Y.rl2 ?_ | refine Y.rl3 ?_ | refine Y.rl5 ?_ | refine Y.rl6 ?_ | refine Y.ro11 ?_ | refine Y.ro1 ?_ | refine Y.ro2 ?_ | refine Y.ro3 ?_ | refine Y.ro5 ?_ | refine Y.ro6 ?_ | refine Y.rm8 ?_ | (refine Y.r3 ?_; intro w hw) | (refine Y.beg0 ?_) | refine Y.re1 ?_ | refine Y.re2 ?_ | (simp only [X.df]) | (simp (disch := omega) only [wi]))
  repeat (first | refine X.p1 ?_ | refine X.p2 ?_ | refine X.p6 ?_ | refine X.p7 ?_ | refine X.p0 ?_ | refine X.p3 ?_ | refine X.p4 ?_ | refine X.p5 ?_ | refine X.p8 ?_ | refine X.p9 ?_ | refine X.q1 ?_ | refine X.q2 ?_ | refine X.q3 ?_ | refine X.q4 ?_ | refine X.q5 ?_ | refine X.q6 ?_ | refine X.q7 ?_ | refine X.q8 ?_ | refine X.q9 ?_ | refine X.q0 ?_ | refine X.m1 ?_ | refine X.m2 ?_ | refine X.m3 ?_ | refine X.m4 ?_ | refine X.m5 ?_ | refine X.m6 ?_ | refine X.l11 ?_ | refine X.l1 ?_ | refine X.l2 ?_ | refine X.l3 ?_ | refine X.l4 ?_ | refine X.l5 ?_ | refine X.l10 ?_ | refine X.l6 ?_ | refine X.l7 ?_ | refine X.l8 ?_ | refine X.l9 ?_ | refine X.m7 ?_ | refine X.m8 ?_ | (refine X.s1 ?_; intro w hw) | (refine X.s2 ?_; intro w hw) | refine X.e1 ?_ | refine X.e2 ?_ | (simp only [X.df]) | (simp (disch := omega) only [wi]))
  exact xw_ret (vs := [_, _]) Try.results42 ⟨⟨_, rfl, cellA tab (g := g2) hw (by (repeat (first | (with_reducible exact Pick.here) | (with_reducible exact Put.here) | (with_reducible apply Pick.there) | (with_reducible apply Put.there)))) Try.underlying65 rfl rfl hel2⟩, rfl, trivial⟩ ⟨rfl, hw.kpNo ro_nil⟩
end Go.Proofs.Ytbgjhmdedillhaa.Sup
