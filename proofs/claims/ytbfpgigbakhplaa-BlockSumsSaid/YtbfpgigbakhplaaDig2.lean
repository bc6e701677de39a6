/- A hasher that is written to: walked. -/
import Derived.Test.YtbfpgigbakhplaaDig1
set_option linter.unusedVariables false
set_option linter.unusedSimpArgs false
namespace Go.Proofs.Ytbfpgigbakhplaa.Dig
open Go.RowKit Go.Proofs.Ytbfpgigbakhplaa.Sx Go.Proofs.Ytbfpgigbakhplaa.Mx Go.Proofs.Ytbfpgigbakhplaa.Bw Go.Proofs.Ytbfpgigbakhplaa.By Go.Proofs.Ytbfpgigbakhplaa.Eqs Go.Proofs.Ytbfpgigbakhplaa.Qx Go.Proofs.Ytbfpgigbakhplaa.Ap Go.Proofs.Ytbfpgigbakhplaa.Mi Go.Proofs.Ytbfpgigbakhplaa.Stm Go.Proofs.Ytbfpgigbakhplaa.Fl Go.Proofs.Ytbfpgigbakhplaa.Wd Go.Proofs.Ytbfpgigbakhplaa.Num Go.Proofs.Ytbfpgigbakhplaa.MixR Go.Proofs.Ytbfpgigbakhplaa.Mf Go.Proofs.Ytbfpgigbakhplaa.Dp Go.Proofs.Ytbfpgigbakhplaa.Sc
attribute [local irreducible] Ow Cw Xw Mw
set_option maxHeartbeats 4000000
attribute [local irreducible] mx6 mixIn wd wds sAt hAt
/-- All whole pieces taken in. -/
def absK (h : Stt) (b : List Byte) : Nat → Stt
  | 0 => h
  | k + 1 => mixIn (absK h b k) ((b.drop (32 * k)).take 32)
theorem absK_len {h : Stt} (hh : h.length = 8) (b : List Byte) : ∀ k, (absK h b k).length = 8
  | 0 => hh
  | k + 1 => mixIn_len _ _
theorem absK_cut (h : Stt) (s p : List Byte) : ∀ k, 32 * k ≤ s.length → absK h (s ++ p) k = absK h s k
  | 0, _ => rfl
  | k + 1, hk => by
    rw [absK, absK, absK_cut h s p k (by omega), List.drop_append_of_le_length (by omega), List.take_append_of_le_length (by rw [List.length_drop]; omega)]
theorem absK_add (h : Stt) (s p : List Byte) (K1 : Nat) (hk : 32 * K1 ≤ s.length) : ∀ K2, absK h (s ++ p) (K1 + K2) = absK (absK h s K1) (s.drop (32 * K1) ++ p) K2
  | 0 => absK_cut h s p K1 hk
  | K2 + 1 => by
    rw [← Nat.add_assoc, absK, absK, absK_add h s p K1 hk K2]
    congr 2
    have : s ++ p = s.take (32 * K1) ++ (s.drop (32 * K1) ++ p) := by rw [← List.append_assoc, List.take_append_drop]
    rw [this, show 32 * (K1 + K2) = (s.take (32 * K1)).length + 32 * K2 from by rw [List.length_take]; omega, List.drop_append, List.drop_of_length_le (by omega), List.nil_append]
    rw [show (s.take (32 * K1)).length + 32 * K2 - (s.take (32 * K1)).length = 32 * K2 from by omega]
theorem take_foot {A : Option Addr} {cs : List Value} (m : Nat) : ∀ g, (rowI A (cs.take m)).foot g → (rowI A cs).foot g := by
  rintro g ⟨hne, a, h1, h2⟩
  exact ⟨fun e => hne (by rw [e]; exact List.take_nil), a, h1, h2⟩
theorem pieces_calls (g : Nat) (h : Stt) (hh : h.length = 8) (v : Value) (n : Int) (A : Option Addr) (b : List Byte) (m c : Nat) (hm : b.length = m) (hmc : m ≤ c) (hmx : m ≤ 140737488355328) (w0 : World) (hp : Pre [blkI g 161 (hC h v n), rowI A (cb b)] w0) :
    Does Try.prog 87 [.pointer (some ⟨g, 0, none⟩), .slice A m c] w0 fun r w' => ∃ A' c', m - 32 * (m / 32) ≤ c' ∧ r = .slice A' (m - 32 * (m / 32)) c' ∧ St w0 [blkI g 161 (hC h v n), rowI A (cb b)] [blkI g 161 (hC (absK h b (m / 32)) v n), rowI A' (cb (b.drop (32 * (m / 32))))] w' := by
  have hw := St.start hp
  refine fn_enter Try.func87 rfl Try.ntmps87 rfl ?_
  repeat (first | refine X.p1 ?_ | refine X.p2 ?_ | refine X.p6 ?_ | refine X.p7 ?_ | refine X.p0 ?_ | refine X.p3 ?_ | refine X.p4 ?_ | refine X.p5 ?_ | refine X.p8 ?_ | refine X.p9 ?_ | refine X.q1 ?_ | refine X.q2 ?_ | refine X.q3 ?_ | refine X.q4 ?_ | refine X.q5 ?_ | refine X.q6 ?_ | refine X.q7 ?_ | refine X.q8 ?_ | refine X.q9 ?_ | refine X.q0 ?_ | refine X.m1 ?_ | refine X.m2 ?_ | refine X.m3 ?_ | refine X.m4 ?_ | refine X.m5 ?_ | refine X.m6 ?_ | refine X.l11 ?_ | refine X.l1 ?_ | refine X.l2 ?_ | refine X.l3 ?_ | refine X.l4 ?_ | refine X.l5 ?_ | refine X.l10 ?_ | refine X.l6 ?_ | refine X.l7 ?_ | refine X.l8 ?_ | refine X.l9 ?_ | refine X.m7 ?_ | refine X.m8 ?_ | (refine X.s1 ?_; intro w hw) | (refine X.s2 ?_; intro w hw) | refine X.e1 ?_ | refine X.e2 ?_ | (simp only [X.df]) | (simp (disch := omega) only [wi]))
  refine X.loop (fun p : Nat × Option Addr × Nat => [(0, .pointer (some ⟨g, 0, none⟩)), (1, .slice p.2.1 (m - 32 * p.1) p.2.2)])
    (fun p w' => 32 * p.1 ≤ m ∧ m - 32 * p.1 ≤ p.2.2 ∧ St w0 [blkI g 161 (hC h v n), rowI A (cb b)] [blkI g 161 (hC (absK h b p.1) v n), rowI p.2.1 (cb (b.drop (32 * p.1)))] w') (fun p => m - 32 * p.1) (0, A, c) ⟨Nat.zero_le _, hmc, hw⟩ ?_
  rintro ⟨k, B, d⟩ w ⟨hk, hkd, hw⟩
  simp only at hk hkd hw
  have hbl : (b.drop (32 * k)).length = m - 32 * k := by rw [List.length_drop, hm]
  repeat (first | refine X.p1 ?_ | refine X.p2 ?_ | refine X.p6 ?_ | refine X.p7 ?_ | refine X.p0 ?_ | refine X.p3 ?_ | refine X.p4 ?_ | refine X.p5 ?_ | refine X.p8 ?_ | refine X.p9 ?_ | refine X.q1 ?_ | refine X.q2 ?_ | refine X.q3 ?_ | refine X.q4 ?_ | refine X.q5 ?_ | refine X.q6 ?_ | refine X.q7 ?_ | refine X.q8 ?_ | refine X.q9 ?_ | refine X.q0 ?_ | refine X.m1 ?_ | refine X.m2 ?_ | refine X.m3 ?_ | refine X.m4 ?_ | refine X.m5 ?_ | refine X.m6 ?_ | refine X.l11 ?_ | refine X.l1 ?_ | refine X.l2 ?_ | refine X.l3 ?_ | refine X.l4 ?_ | refine X.l5 ?_ | refine X.l10 ?_ | refine X.l6 ?_ | refine X.l7 ?_ | refine X.l8 ?_ | refine X.l9 ?_ | refine X.m7 ?_ | refine X.m8 ?_ | (refine X.s1 ?_; intro w hw) | (refine X.s2 ?_; intro w hw) | refine X.e1 ?_ | refine X.e2 ?_ | (simp only [X.df]) | (simp (disch := omega) only [wi]))
  refine X.cond (fun hlt => ?_) (fun hge => ?_)
  · have hlt : 32 ≤ m - 32 * k := by omega
    have hne : cb (b.drop (32 * k)) ≠ [] := fun e => by have := congrArg List.length e; rw [List.length_map, hbl] at this; simp at this; omega
    obtain ⟨ga, oa, rfl, hat⟩ := hw.rowSome (A := B) (cs := cb (b.drop (32 * k))) (by (repeat (first | (with_reducible exact Pick.here) | (with_reducible exact Put.here) | (with_reducible apply Pick.there) | (with_reducible apply Put.there)))) hne
    have htl : ((b.drop (32 * k)).take 32).length = 32 := by rw [List.length_take, hbl]; omega
    have htk : (cb (b.drop (32 * k))).take 32 = cb ((b.drop (32 * k)).take 32) := by simp only [cb, List.map_take]
    have hdk : (cb (b.drop (32 * k))).drop (32 * 1) = cb (b.drop (32 * (k + 1))) := by rw [cb, cb, ← List.map_drop, List.drop_drop]; congr 2
    have hr : Row w (some ⟨ga, oa, none⟩) (cb (b.drop (32 * k))) := hw.pick (i := rowI (some ⟨ga, oa, none⟩) (cb (b.drop (32 * k)))) (by (repeat (first | (with_reducible exact Pick.here) | (with_reducible exact Put.here) | (with_reducible apply Pick.there) | (with_reducible apply Put.there))))
    repeat (first | refine X.p1 ?_ | refine X.p2 ?_ | refine X.p6 ?_ | refine X.p7 ?_ | refine X.p0 ?_ | refine X.p3 ?_ | refine X.p4 ?_ | refine X.p5 ?_ | refine X.p8 ?_ | refine X.p9 ?_ | refine X.q1 ?_ | refine X.q2 ?_ | refine X.q3 ?_ | refine X.q4 ?_ | refine X.q5 ?_ | refine X.q6 ?_ | refine X.q7 ?_ | refine X.q8 ?_ | refine X.q9 ?_ | refine X.q0 ?_ | refine X.m1 ?_ | refine X.m2 ?_ | refine X.m3 ?_ | refine X.m4 ?_ | refine X.m5 ?_ | refine X.m6 ?_ | refine X.l11 ?_ | refine X.l1 ?_ | refine X.l2 ?_ | refine X.l3 ?_ | refine X.l4 ?_ | refine X.l5 ?_ | refine X.l10 ?_ | refine X.l6 ?_ | refine X.l7 ?_ | refine X.l8 ?_ | refine X.l9 ?_ | refine X.m7 ?_ | refine X.m8 ?_ | (refine X.s1 ?_; intro w hw) | (refine X.s2 ?_; intro w hw) | refine X.e1 ?_ | refine X.e2 ?_ | (simp only [X.df]) | (simp (disch := omega) only [wi]))
    refine ow_sliceSl tab (vlo := none) (vhi := some (.int .i64 32)) (l := 0) (h := 32) rfl rfl rfl ⟨_, rfl, rfl⟩ rfl rfl rfl rfl (by omega) (by omega) (by omega) ?_
    rw [sA_zero, Nat.sub_zero, Nat.sub_zero]
    have hw := St_more hw (A := some ⟨ga, oa, none⟩) (cs := cb (b.drop (32 * k))) (A' := some ⟨ga, oa, none⟩) (cs' := cb ((b.drop (32 * k)).take 32)) (by (repeat (first | (with_reducible exact Pick.here) | (with_reducible exact Put.here) | (with_reducible apply Pick.there) | (with_reducible apply Put.there)))) (htk ▸ row_take hr 32) (htk ▸ take_foot 32)
    refine X.call rfl rfl Try.func94 (piece_calls g ga oa (absK h b k) (absK_len hh b k) v n ((b.drop (32 * k)).take 32) htl d (by omega) w (hw.pre.split (by (repeat (first | (with_reducible exact Split.nil) | ((with_reducible apply Split.cons); (next => (repeat (first | (with_reducible exact Pick.here) | (with_reducible exact Put.here) | (with_reducible apply Pick.there) | (with_reducible apply Put.there)))))))))) ?_
    rintro _ w ⟨rfl, hh2⟩
    have hw := hw.call (by (repeat (first | (with_reducible exact Split.nil) | ((with_reducible apply Split.cons); (next => (repeat (first | (with_reducible exact Pick.here) | (with_reducible exact Put.here) | (with_reducible apply Pick.there) | (with_reducible apply Put.there)))))))) hh2
    simp only [List.cons_append, List.nil_append] at hw
    have hr : Row w (some ⟨ga, oa, none⟩) (cb (b.drop (32 * k))) := hw.pick (i := rowI (some ⟨ga, oa, none⟩) (cb (b.drop (32 * k)))) (by (repeat (first | (with_reducible exact Pick.here) | (with_reducible exact Put.here) | (with_reducible apply Pick.there) | (with_reducible apply Put.there))))
    repeat (first | refine X.p1 ?_ | refine X.p2 ?_ | refine X.p6 ?_ | refine X.p7 ?_ | refine X.p0 ?_ | refine X.p3 ?_ | refine X.p4 ?_ | refine X.p5 ?_ | refine X.p8 ?_ | refine X.p9 ?_ | refine X.q1 ?_ | refine X.q2 ?_ | refine X.q3 ?_ | refine X.q4 ?_ | refine X.q5 ?_ | refine X.q6 ?_ | refine X.q7 ?_ | refine X.q8 ?_ | refine X.q9 ?_ | refine X.q0 ?_ | refine X.m1 ?_ | refine X.m2 ?_ | refine X.m3 ?_ | refine X.m4 ?_ | refine X.m5 ?_ | refine X.m6 ?_ | refine X.l11 ?_ | refine X.l1 ?_ | refine X.l2 ?_ | refine X.l3 ?_ | refine X.l4 ?_ | refine X.l5 ?_ | refine X.l10 ?_ | refine X.l6 ?_ | refine X.l7 ?_ | refine X.l8 ?_ | refine X.l9 ?_ | refine X.m7 ?_ | refine X.m8 ?_ | (refine X.s1 ?_; intro w hw) | (refine X.s2 ?_; intro w hw) | refine X.e1 ?_ | refine X.e2 ?_ | (simp only [X.df]) | (simp (disch := omega) only [wi]))
    refine ow_sliceSl tab (vlo := some (.int .i64 32)) (vhi := none) (l := 32) (h := m - 32 * k) rfl rfl ⟨_, rfl, rfl⟩ rfl rfl rfl rfl rfl (by omega) (by omega) (by omega) ?_
    have hw := St_more hw (A := some ⟨ga, oa, none⟩) (cs := cb (b.drop (32 * k))) (A' := sA (some ⟨ga, oa, none⟩) 32 d 1) (cs' := cb (b.drop (32 * (k + 1)))) (by (repeat (first | (with_reducible exact Pick.here) | (with_reducible exact Put.here) | (with_reducible apply Pick.there) | (with_reducible apply Put.there)))) (hdk ▸ sA_row hr (fun e => by rw [List.length_map, hbl]; omega)) (hdk ▸ sA_foot)
    rw [show m - 32 * k - 32 = m - 32 * (k + 1) from by omega]
    repeat (first | refine X.p1 ?_ | refine X.p2 ?_ | refine X.p6 ?_ | refine X.p7 ?_ | refine X.p0 ?_ | refine X.p3 ?_ | refine X.p4 ?_ | refine X.p5 ?_ | refine X.p8 ?_ | refine X.p9 ?_ | refine X.q1 ?_ | refine X.q2 ?_ | refine X.q3 ?_ | refine X.q4 ?_ | refine X.q5 ?_ | refine X.q6 ?_ | refine X.q7 ?_ | refine X.q8 ?_ | refine X.q9 ?_ | refine X.q0 ?_ | refine X.m1 ?_ | refine X.m2 ?_ | refine X.m3 ?_ | refine X.m4 ?_ | refine X.m5 ?_ | refine X.m6 ?_ | refine X.l11 ?_ | refine X.l1 ?_ | refine X.l2 ?_ | refine X.l3 ?_ | refine X.l4 ?_ | refine X.l5 ?_ | refine X.l10 ?_ | refine X.l6 ?_ | refine X.l7 ?_ | refine X.l8 ?_ | refine X.l9 ?_ | refine X.m7 ?_ | refine X.m8 ?_ | (refine X.s1 ?_; intro w hw) | (refine X.s2 ?_; intro w hw) | refine X.e1 ?_ | refine X.e2 ?_ | (simp only [X.df]) | (simp (disch := omega) only [wi]))
    have hw : St w0 [blkI g 161 (hC h v n), rowI A (cb b)] [blkI g 161 (hC (mixIn (absK h b k) ((b.drop (32 * k)).take 32)) v n), rowI (sA (some ⟨ga, oa, none⟩) 32 d 1) (cb (b.drop (32 * (k + 1))))] w := hw.sub (by (repeat (first | (with_reducible exact Split.nil) | ((with_reducible apply Split.cons); (next => (repeat (first | (with_reducible exact Pick.here) | (with_reducible exact Put.here) | (with_reducible apply Pick.there) | (with_reducible apply Put.there))))))))
    exact X.again (k + 1, sA (some ⟨ga, oa, none⟩) 32 d 1, d - 32) ⟨by omega, by simp only; omega, hw⟩ (by simp only; omega)
  obtain rfl : k = m / 32 := by omega
  repeat (first | refine X.p1 ?_ | refine X.p2 ?_ | refine X.p6 ?_ | refine X.p7 ?_ | refine X.p0 ?_ | refine X.p3 ?_ | refine X.p4 ?_ | refine X.p5 ?_ | refine X.p8 ?_ | refine X.p9 ?_ | refine X.q1 ?_ | refine X.q2 ?_ | refine X.q3 ?_ | refine X.q4 ?_ | refine X.q5 ?_ | refine X.q6 ?_ | refine X.q7 ?_ | refine X.q8 ?_ | refine X.q9 ?_ | refine X.q0 ?_ | refine X.m1 ?_ | refine X.m2 ?_ | refine X.m3 ?_ | refine X.m4 ?_ | refine X.m5 ?_ | refine X.m6 ?_ | refine X.l11 ?_ | refine X.l1 ?_ | refine X.l2 ?_ | refine X.l3 ?_ | refine X.l4 ?_ | refine X.l5 ?_ | refine X.l10 ?_ | refine X.l6 ?_ | refine X.l7 ?_ | refine X.l8 ?_ | refine X.l9 ?_ | refine X.m7 ?_ | refine X.m8 ?_ | (refine X.s1 ?_; intro w hw) | (refine X.s2 ?_; intro w hw) | refine X.e1 ?_ | refine X.e2 ?_ | (simp only [X.df]) | (simp (disch := omega) only [wi]))
  exact xw_ret (vs := [_]) Try.results87 ⟨rfl, trivial⟩ ⟨B, d, hkd, rfl, hw⟩
/-! A new hasher. -/
def h0 (tag : Byte) (i : Nat) : BitVec 32 := 2654435769#32 * BitVec.ofNat 32 (i + 1) ^^^ (tag.setWidth 32 <<< 24)
def h0s (tag : Byte) : Stt := (List.range 8).map (h0 tag)
theorem h0s_len (tag : Byte) : (h0s tag).length = 8 := by simp [h0s]
def z8 : Stt := List.replicate 8 0
def h0At (tag : Byte) (i : Nat) : Stt := (h0s tag).take i ++ z8.drop i
theorem h0At_len (tag : Byte) (i : Nat) (hi : i ≤ 8) : (h0At tag i).length = 8 := by simp [h0At, h0s_len, z8]; omega
theorem h0At_step (tag : Byte) (i : Nat) (hi : i < 8) : (h0At tag i).set i (h0 tag i) = h0At tag (i + 1) := by
  have hl : ((h0s tag).take i).length = i := by simp [h0s_len]; omega
  have hr : z8.drop i = 0 :: z8.drop (i + 1) := by
    have e : z8[i]'(by simp [z8]; omega) = 0 := List.getElem_replicate ..
    rw [List.drop_eq_getElem_cons (by simp [z8]; omega), e]
  have hx : (h0s tag)[i]? = some (h0 tag i) := by simp [h0s, hi]
  rw [h0At, h0At, hr, List.set_append_right _ _ (by omega), hl, Nat.sub_self, List.set_cons_zero, List.take_add_one, hx]
  simp
theorem mulG (X : BitVec 32) : IntKind.u32.wrap ((2654435769 : Int) * (X.toNat : Int)) = ((2654435769#32 * X).toNat : Int) := mul_u32 (2654435769#32) X
theorem shl24 (X : BitVec 32) : IntKind.u32.wrap ((X.toNat : Int) * 2 ^ min ((24 : Int)).toNat (IntKind.bits .u32)) = ((X <<< 24).toNat : Int) := shl_u32 X 24
theorem ofN (i : Nat) : IntKind.u32.wrap ((i : Int) + 1) = ((BitVec.ofNat 32 (i + 1)).toNat : Int) := by rw [wrap_u32, show ((i : Int) + 1) = ((i + 1 : Nat) : Int) from rfl, BitVec.ofInt_natCast]
theorem new_calls (tag : Byte) (w0 : World) : Does Try.prog 74 [by8 tag] w0 fun v w' => ∃ g, v = .pointer (some ⟨g, 0, none⟩) ∧ St w0 [] [blkI g 161 (hC (h0s tag) (.slice none 0 0) 0)] w' := by
  have hw := St.start (w := w0) .nil
  refine fn_enter Try.func74 rfl Try.ntmps74 rfl ?_
  repeat (first | refine X.p1 ?_ | refine X.p2 ?_ | refine X.p6 ?_ | refine X.p7 ?_ | refine X.p0 ?_ | refine X.p3 ?_ | refine X.p4 ?_ | refine X.p5 ?_ | refine X.p8 ?_ | refine X.p9 ?_ | refine X.q1 ?_ | refine X.q2 ?_ | refine X.q3 ?_ | refine X.q4 ?_ | refine X.q5 ?_ | refine X.q6 ?_ | refine X.q7 ?_ | refine X.q8 ?_ | refine X.q9 ?_ | refine X.q0 ?_ | refine X.m1 ?_ | refine X.m2 ?_ | refine X.m3 ?_ | refine X.m4 ?_ | refine X.m5 ?_ | refine X.m6 ?_ | refine X.l11 ?_ | refine X.l1 ?_ | refine X.l2 ?_ | refine X.l3 ?_ | refine X.l4 ?_ | refine X.l5 ?_ | refine X.l10 ?_ | refine X.l6 ?_ | refine X.l7 ?_ | refine X.l8 ?_ | refine X.l9 ?_ | refine X.m7 ?_ | refine X.m8 ?_ | (refine X.s1 ?_; intro w hw) | (refine X.s2 ?_; intro w hw) | refine X.e1 ?_ | refine X.e2 ?_ | (simp only [X.df]) | (simp (disch := omega) only [wi]))
  (first | refine X.nb ?_ | refine X.na ?_); intro g3 w _ hw
  change St w0 [] [blkI g3 161 (hC (h0At tag 0) (.slice none 0 0) 0)] w at hw
  repeat (first | refine X.p1 ?_ | refine X.p2 ?_ | refine X.p6 ?_ | refine X.p7 ?_ | refine X.p0 ?_ | refine X.p3 ?_ | refine X.p4 ?_ | refine X.p5 ?_ | refine X.p8 ?_ | refine X.p9 ?_ | refine X.q1 ?_ | refine X.q2 ?_ | refine X.q3 ?_ | refine X.q4 ?_ | refine X.q5 ?_ | refine X.q6 ?_ | refine X.q7 ?_ | refine X.q8 ?_ | refine X.q9 ?_ | refine X.q0 ?_ | refine X.m1 ?_ | refine X.m2 ?_ | refine X.m3 ?_ | refine X.m4 ?_ | refine X.m5 ?_ | refine X.m6 ?_ | refine X.l11 ?_ | refine X.l1 ?_ | refine X.l2 ?_ | refine X.l3 ?_ | refine X.l4 ?_ | refine X.l5 ?_ | refine X.l10 ?_ | refine X.l6 ?_ | refine X.l7 ?_ | refine X.l8 ?_ | refine X.l9 ?_ | refine X.m7 ?_ | refine X.m8 ?_ | (refine X.s1 ?_; intro w hw) | (refine X.s2 ?_; intro w hw) | refine X.e1 ?_ | refine X.e2 ?_ | (simp only [X.df]) | (simp (disch := omega) only [wi]))
  refine X.loop (fun i : Nat => [(0, by8 tag), (3, .pointer (some ⟨g3, 0, none⟩)), (7, iv i)])
    (fun i w' => i ≤ 8 ∧ St w0 [] [blkI g3 161 (hC (h0At tag i) (.slice none 0 0) 0)] w') (fun i => 8 - i) 0 ⟨Nat.zero_le _, hw⟩ ?_
  rintro i w ⟨hi, hw⟩
  have hhl := h0At_len tag i hi
  have hhl2 := hC_len hhl (.slice none 0 0) 0
  repeat (first | refine X.p1 ?_ | refine X.p2 ?_ | refine X.p6 ?_ | refine X.p7 ?_ | refine X.p0 ?_ | refine X.p3 ?_ | refine X.p4 ?_ | refine X.p5 ?_ | refine X.p8 ?_ | refine X.p9 ?_ | refine X.q1 ?_ | refine X.q2 ?_ | refine X.q3 ?_ | refine X.q4 ?_ | refine X.q5 ?_ | refine X.q6 ?_ | refine X.q7 ?_ | refine X.q8 ?_ | refine X.q9 ?_ | refine X.q0 ?_ | refine X.m1 ?_ | refine X.m2 ?_ | refine X.m3 ?_ | refine X.m4 ?_ | refine X.m5 ?_ | refine X.m6 ?_ | refine X.l11 ?_ | refine X.l1 ?_ | refine X.l2 ?_ | refine X.l3 ?_ | refine X.l4 ?_ | refine X.l5 ?_ | refine X.l10 ?_ | refine X.l6 ?_ | refine X.l7 ?_ | refine X.l8 ?_ | refine X.l9 ?_ | refine X.m7 ?_ | refine X.m8 ?_ | (refine X.s1 ?_; intro w hw) | (refine X.s2 ?_; intro w hw) | refine X.e1 ?_ | refine X.e2 ?_ | (simp only [X.df]) | (simp (disch := omega) only [wi]))
  refine X.cond (fun hlt => ?_) (fun hge => ?_)
  · have hlt : i < 8 := by omega
    have hof := ofN i
    have hst := setH hhl (.slice none 0 0) 0 i hlt (h0 tag i)
    rw [h0At_step tag i hlt] at hst
    repeat (first | refine X.p1 ?_ | refine X.p2 ?_ | refine X.p6 ?_ | refine X.p7 ?_ | refine X.p0 ?_ | refine X.p3 ?_ | refine X.p4 ?_ | refine X.p5 ?_ | refine X.p8 ?_ | refine X.p9 ?_ | refine X.q1 ?_ | refine X.q2 ?_ | refine X.q3 ?_ | refine X.q4 ?_ | refine X.q5 ?_ | refine X.q6 ?_ | refine X.q7 ?_ | refine X.q8 ?_ | refine X.q9 ?_ | refine X.q0 ?_ | refine X.m1 ?_ | refine X.m2 ?_ | refine X.m3 ?_ | refine X.m4 ?_ | refine X.m5 ?_ | refine X.m6 ?_ | refine X.l11 ?_ | refine X.l1 ?_ | refine X.l2 ?_ | refine X.l3 ?_ | refine X.l4 ?_ | refine X.l5 ?_ | refine X.l10 ?_ | refine X.l6 ?_ | refine X.l7 ?_ | refine X.l8 ?_ | refine X.l9 ?_ | refine X.m7 ?_ | refine X.m8 ?_ | (refine X.s1 ?_; intro w hw) | (refine X.s2 ?_; intro w hw) | refine X.e1 ?_ | refine X.e2 ?_ | (simp only [X.df, hof, mulG, u32_u]) | (simp (disch := omega) only [wi]))
    refine ow_shl rfl rfl rfl (by decide) (shl24 _) ?_
    repeat (first | refine X.p1 ?_ | refine X.p2 ?_ | refine X.p6 ?_ | refine X.p7 ?_ | refine X.p0 ?_ | refine X.p3 ?_ | refine X.p4 ?_ | refine X.p5 ?_ | refine X.p8 ?_ | refine X.p9 ?_ | refine X.q1 ?_ | refine X.q2 ?_ | refine X.q3 ?_ | refine X.q4 ?_ | refine X.q5 ?_ | refine X.q6 ?_ | refine X.q7 ?_ | refine X.q8 ?_ | refine X.q9 ?_ | refine X.q0 ?_ | refine X.m1 ?_ | refine X.m2 ?_ | refine X.m3 ?_ | refine X.m4 ?_ | refine X.m5 ?_ | refine X.m6 ?_ | refine X.l11 ?_ | refine X.l1 ?_ | refine X.l2 ?_ | refine X.l3 ?_ | refine X.l4 ?_ | refine X.l5 ?_ | refine X.l10 ?_ | refine X.l6 ?_ | refine X.l7 ?_ | refine X.l8 ?_ | refine X.l9 ?_ | refine X.m7 ?_ | refine X.m8 ?_ | (refine X.s1 ?_; intro w hw) | (refine X.s2 ?_; intro w hw) | refine X.e1 ?_ | refine X.e2 ?_ | (simp only [X.df, xor_u32]) | (simp (disch := omega) only [wi]))
    rw [xor_u32] at hw
    have hw : St w0 [] [blkI g3 161 (hC (h0At tag (i + 1)) (.slice none 0 0) 0)] w := by rw [← hst]; exact hw
    exact X.again (i + 1) ⟨by omega, hw⟩ (by omega)
  obtain rfl : i = 8 := by omega
  repeat (first | refine X.p1 ?_ | refine X.p2 ?_ | refine X.p6 ?_ | refine X.p7 ?_ | refine X.p0 ?_ | refine X.p3 ?_ | refine X.p4 ?_ | refine X.p5 ?_ | refine X.p8 ?_ | refine X.p9 ?_ | refine X.q1 ?_ | refine X.q2 ?_ | refine X.q3 ?_ | refine X.q4 ?_ | refine X.q5 ?_ | refine X.q6 ?_ | refine X.q7 ?_ | refine X.q8 ?_ | refine X.q9 ?_ | refine X.q0 ?_ | refine X.m1 ?_ | refine X.m2 ?_ | refine X.m3 ?_ | refine X.m4 ?_ | refine X.m5 ?_ | refine X.m6 ?_ | refine X.l11 ?_ | refine X.l1 ?_ | refine X.l2 ?_ | refine X.l3 ?_ | refine X.l4 ?_ | refine X.l5 ?_ | refine X.l10 ?_ | refine X.l6 ?_ | refine X.l7 ?_ | refine X.l8 ?_ | refine X.l9 ?_ | refine X.m7 ?_ | refine X.m8 ?_ | (refine X.s1 ?_; intro w hw) | (refine X.s2 ?_; intro w hw) | refine X.e1 ?_ | refine X.e2 ?_ | (simp only [X.df]) | (simp (disch := omega) only [wi]))
  have h8 : h0At tag 8 = h0s tag := by rw [h0At, List.take_of_length_le (by rw [h0s_len]; exact Nat.le_refl _)]; exact List.append_nil _
  rw [h8] at hw
  exact xw_ret (vs := [_]) Try.results74 ⟨rfl, trivial⟩ ⟨g3, rfl, hw⟩
end Go.Proofs.Ytbfpgigbakhplaa.Dig
