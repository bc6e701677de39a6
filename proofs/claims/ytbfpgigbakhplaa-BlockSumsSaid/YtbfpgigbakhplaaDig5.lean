/- The digest of a tag and a text, the program's and the document's: walked. -/
import Derived.Test.YtbfpgigbakhplaaDig4
import Derived.Test.YtbfpgigbakhplaaE3
import Derived.Test.YtbfpgigbakhplaaVg
set_option linter.unusedVariables false
set_option linter.unusedSimpArgs false
namespace Go.Proofs.Ytbfpgigbakhplaa.Dig
open Go.RowKit Go.Proofs.Ytbfpgigbakhplaa.Sx Go.Proofs.Ytbfpgigbakhplaa.Mx Go.Proofs.Ytbfpgigbakhplaa.Bw Go.Proofs.Ytbfpgigbakhplaa.By Go.Proofs.Ytbfpgigbakhplaa.Eqs Go.Proofs.Ytbfpgigbakhplaa.Qx Go.Proofs.Ytbfpgigbakhplaa.Ap Go.Proofs.Ytbfpgigbakhplaa.Mi Go.Proofs.Ytbfpgigbakhplaa.Stm Go.Proofs.Ytbfpgigbakhplaa.Fl Go.Proofs.Ytbfpgigbakhplaa.Wd Go.Proofs.Ytbfpgigbakhplaa.Num Go.Proofs.Ytbfpgigbakhplaa.MixR Go.Proofs.Ytbfpgigbakhplaa.Mf Go.Proofs.Ytbfpgigbakhplaa.Dp Go.Proofs.Ytbfpgigbakhplaa.Sc Go.Proofs.Ytbfpgigbakhplaa.Vg
attribute [local irreducible] Ow Cw Xw Mw
set_option maxHeartbeats 4000000
theorem mx6_eq (h : Stt) (b : List Byte) : roundsS (h ++ wds b) 6 = mx6 h b := rfl
theorem wd_eq' (b : List Byte) (i : Nat) (p : List Byte) (hp : p = (b.drop (4 * i)).take 4) : (valB p).setWidth 32 = wd b i := by rw [hp]; rfl
theorem wds_get (b : List Byte) (i : Nat) (hi : i < 8) : (wds b)[i]? = some (wd b i) := by simp [wds, hi]
attribute [local irreducible] mx6 mixIn wd wds sAt hAt absK h0s
/-- The digest. -/
def dg (tag : Byte) (s : List Byte) : List Byte := outW (absK (h0s tag) (padL s s.length) ((padL s s.length).length / 32))
theorem dg_len (tag : Byte) (s : List Byte) : (dg tag s).length = 32 := by rw [dg, outW_len, absK_len (h0s_len tag)]
/-- What a hasher to which a text was written knows. -/
theorem dg_eq (tag : Byte) (s : List Byte) : outW (absK (absK (h0s tag) s (s.length / 32)) (padL (s.drop (32 * (s.length / 32))) s.length) ((padL (s.drop (32 * (s.length / 32))) s.length).length / 32)) = dg tag s := by
  have hk : 32 * (s.length / 32) ≤ s.length := by omega
  have hz : zN (s.drop (32 * (s.length / 32))).length = zN s.length := by rw [List.length_drop]; unfold zN; omega
  have e1 : ∀ d, padL (d ++ s.drop (32 * (s.length / 32))) s.length = (d ++ s.drop (32 * (s.length / 32))) ++ (128 :: List.replicate (zN (d ++ s.drop (32 * (s.length / 32))).length) 0 ++ leB (BitVec.ofNat 64 s.length) 8) := fun d => by rw [padL, tailL, List.append_assoc]
  have e2 : padL s s.length = s ++ (128 :: List.replicate (zN s.length) 0 ++ leB (BitVec.ofNat 64 s.length) 8) := by rw [padL, tailL, List.append_assoc]
  have e3 : padL (s.drop (32 * (s.length / 32))) s.length = s.drop (32 * (s.length / 32)) ++ (128 :: List.replicate (zN s.length) 0 ++ leB (BitVec.ofNat 64 s.length) 8) := by rw [padL, tailL, List.append_assoc, hz]
  have l2 := padL_len s s.length
  have l3 := padL_len (s.drop (32 * (s.length / 32))) s.length
  rw [hz, List.length_drop] at l3
  have hm := zN_mod s.length
  rw [dg, l2, l3, e2, e3, ← absK_add (h0s tag) s _ (s.length / 32) hk]
  congr 2
  omega
theorem of_calls (tag : Byte) (s : List Byte) (hs : s.length ≤ 140737488355328) (w0 : World) : Does Try.prog 42 [by8 tag, str s] w0 fun v w' => v = blk (dg tag s) ∧ Kp No w0 w' := by
  have hw := St.start (w := w0) .nil
  refine fn_enter Try.func42 rfl Try.ntmps42 rfl ?_
  repeat (first | refine X.p1 ?_ | refine X.p2 ?_ | refine X.p6 ?_ | refine X.p7 ?_ | refine X.p0 ?_ | refine X.p3 ?_ | refine X.p4 ?_ | refine X.p5 ?_ | refine X.p8 ?_ | refine X.p9 ?_ | refine X.q1 ?_ | refine X.q2 ?_ | refine X.q3 ?_ | refine X.q4 ?_ | refine X.q5 ?_ | refine X.q6 ?_ | refine X.q7 ?_ | refine X.q8 ?_ | refine X.q9 ?_ | refine X.q0 ?_ | refine X.m1 ?_ | refine X.m2 ?_ | refine X.m3 ?_ | refine X.m4 ?_ | refine X.m5 ?_ | refine X.m6 ?_ | refine X.l11 ?_ | refine X.l1 ?_ | refine X.l2 ?_ | refine X.l3 ?_ | refine X.l4 ?_ | refine X.l5 ?_ | refine X.l10 ?_ | refine X.l6 ?_ | refine X.l7 ?_ | refine X.l8 ?_ | refine X.l9 ?_ | refine X.m7 ?_ | refine X.m8 ?_ | (refine X.s1 ?_; intro w hw) | (refine X.s2 ?_; intro w hw) | refine X.e1 ?_ | refine X.e2 ?_ | (simp only [X.df]) | (simp (disch := omega) only [wi]))
  (first | refine X.nb ?_ | refine X.na ?_); intro g1 w _ hw
  repeat (first | refine X.p1 ?_ | refine X.p2 ?_ | refine X.p6 ?_ | refine X.p7 ?_ | refine X.p0 ?_ | refine X.p3 ?_ | refine X.p4 ?_ | refine X.p5 ?_ | refine X.p8 ?_ | refine X.p9 ?_ | refine X.q1 ?_ | refine X.q2 ?_ | refine X.q3 ?_ | refine X.q4 ?_ | refine X.q5 ?_ | refine X.q6 ?_ | refine X.q7 ?_ | refine X.q8 ?_ | refine X.q9 ?_ | refine X.q0 ?_ | refine X.m1 ?_ | refine X.m2 ?_ | refine X.m3 ?_ | refine X.m4 ?_ | refine X.m5 ?_ | refine X.m6 ?_ | refine X.l11 ?_ | refine X.l1 ?_ | refine X.l2 ?_ | refine X.l3 ?_ | refine X.l4 ?_ | refine X.l5 ?_ | refine X.l10 ?_ | refine X.l6 ?_ | refine X.l7 ?_ | refine X.l8 ?_ | refine X.l9 ?_ | refine X.m7 ?_ | refine X.m8 ?_ | (refine X.s1 ?_; intro w hw) | (refine X.s2 ?_; intro w hw) | refine X.e1 ?_ | refine X.e2 ?_ | (simp only [X.df]) | (simp (disch := omega) only [wi]))
  refine X.call rfl rfl Try.func74 (new_calls tag w) ?_
  rintro _ w ⟨g, rfl, hh⟩
  have hw := hw.call .nil hh
  simp only [List.cons_append, List.nil_append] at hw
  have hw := hw.new (i := rowI none (cb [])) Kp.refl (.inl rfl) (fun _ h => absurd rfl h.1)
  repeat (first | refine X.p1 ?_ | refine X.p2 ?_ | refine X.p6 ?_ | refine X.p7 ?_ | refine X.p0 ?_ | refine X.p3 ?_ | refine X.p4 ?_ | refine X.p5 ?_ | refine X.p8 ?_ | refine X.p9 ?_ | refine X.q1 ?_ | refine X.q2 ?_ | refine X.q3 ?_ | refine X.q4 ?_ | refine X.q5 ?_ | refine X.q6 ?_ | refine X.q7 ?_ | refine X.q8 ?_ | refine X.q9 ?_ | refine X.q0 ?_ | refine X.m1 ?_ | refine X.m2 ?_ | refine X.m3 ?_ | refine X.m4 ?_ | refine X.m5 ?_ | refine X.m6 ?_ | refine X.l11 ?_ | refine X.l1 ?_ | refine X.l2 ?_ | refine X.l3 ?_ | refine X.l4 ?_ | refine X.l5 ?_ | refine X.l10 ?_ | refine X.l6 ?_ | refine X.l7 ?_ | refine X.l8 ?_ | refine X.l9 ?_ | refine X.m7 ?_ | refine X.m8 ?_ | (refine X.s1 ?_; intro w hw) | (refine X.s2 ?_; intro w hw) | refine X.e1 ?_ | refine X.e2 ?_ | (simp only [X.df]) | (simp (disch := omega) only [wi]))
  refine X.call rfl rfl Try.func75 (write_calls g (h0s tag) (h0s_len tag) none 0 0 0 [] s rfl (by omega) (Nat.le_refl _) (Int.le_refl _) (by omega) w (hw.pre.split (by (repeat (first | (with_reducible exact Split.nil) | ((with_reducible apply Split.cons); (next => (repeat (first | (with_reducible exact Pick.here) | (with_reducible exact Put.here) | (with_reducible apply Pick.there) | (with_reducible apply Put.there)))))))))) ?_
  rintro _ w ⟨A2, c2, hc2, rfl, hh2⟩
  have hw := hw.call (by (repeat (first | (with_reducible exact Split.nil) | ((with_reducible apply Split.cons); (next => (repeat (first | (with_reducible exact Pick.here) | (with_reducible exact Put.here) | (with_reducible apply Pick.there) | (with_reducible apply Put.there)))))))) hh2
  simp only [List.cons_append, List.nil_append] at hw
  rw [Nat.zero_add] at hw hc2 
  rw [Int.zero_add] at hw
  have hal := absK_len (h0s_len tag) s (s.length / 32)
  repeat (first | refine X.p1 ?_ | refine X.p2 ?_ | refine X.p6 ?_ | refine X.p7 ?_ | refine X.p0 ?_ | refine X.p3 ?_ | refine X.p4 ?_ | refine X.p5 ?_ | refine X.p8 ?_ | refine X.p9 ?_ | refine X.q1 ?_ | refine X.q2 ?_ | refine X.q3 ?_ | refine X.q4 ?_ | refine X.q5 ?_ | refine X.q6 ?_ | refine X.q7 ?_ | refine X.q8 ?_ | refine X.q9 ?_ | refine X.q0 ?_ | refine X.m1 ?_ | refine X.m2 ?_ | refine X.m3 ?_ | refine X.m4 ?_ | refine X.m5 ?_ | refine X.m6 ?_ | refine X.l11 ?_ | refine X.l1 ?_ | refine X.l2 ?_ | refine X.l3 ?_ | refine X.l4 ?_ | refine X.l5 ?_ | refine X.l10 ?_ | refine X.l6 ?_ | refine X.l7 ?_ | refine X.l8 ?_ | refine X.l9 ?_ | refine X.m7 ?_ | refine X.m8 ?_ | (refine X.s1 ?_; intro w hw) | (refine X.s2 ?_; intro w hw) | refine X.e1 ?_ | refine X.e2 ?_ | (simp only [X.df]) | (simp (disch := omega) only [wi]))
  refine X.call rfl rfl Try.func76 (sum_calls g _ hal A2 (s.length - 32 * (s.length / 32)) c2 s.length _ (by rw [List.length_drop]) hc2 (by omega) (by omega) w (hw.pre.split (by (repeat (first | (with_reducible exact Split.nil) | ((with_reducible apply Split.cons); (next => (repeat (first | (with_reducible exact Pick.here) | (with_reducible exact Put.here) | (with_reducible apply Pick.there) | (with_reducible apply Put.there)))))))))) ?_
  rintro _ w ⟨rfl, hh3⟩
  have hw := hw.call (by (repeat (first | (with_reducible exact Split.nil) | ((with_reducible apply Split.cons); (next => (repeat (first | (with_reducible exact Pick.here) | (with_reducible exact Put.here) | (with_reducible apply Pick.there) | (with_reducible apply Put.there)))))))) hh3
  simp only [List.cons_append, List.nil_append] at hw
  rw [dg_eq]
  have hdl := dg_len tag s
  have hdl2 : (cb (dg tag s)).length = 32 := by rw [List.length_map, hdl]
  repeat (first | refine X.p1 ?_ | refine X.p2 ?_ | refine X.p6 ?_ | refine X.p7 ?_ | refine X.p0 ?_ | refine X.p3 ?_ | refine X.p4 ?_ | refine X.p5 ?_ | refine X.p8 ?_ | refine X.p9 ?_ | refine X.q1 ?_ | refine X.q2 ?_ | refine X.q3 ?_ | refine X.q4 ?_ | refine X.q5 ?_ | refine X.q6 ?_ | refine X.q7 ?_ | refine X.q8 ?_ | refine X.q9 ?_ | refine X.q0 ?_ | refine X.m1 ?_ | refine X.m2 ?_ | refine X.m3 ?_ | refine X.m4 ?_ | refine X.m5 ?_ | refine X.m6 ?_ | refine X.l11 ?_ | refine X.l1 ?_ | refine X.l2 ?_ | refine X.l3 ?_ | refine X.l4 ?_ | refine X.l5 ?_ | refine X.l10 ?_ | refine X.l6 ?_ | refine X.l7 ?_ | refine X.l8 ?_ | refine X.l9 ?_ | refine X.m7 ?_ | refine X.m8 ?_ | (refine X.s1 ?_; intro w hw) | (refine X.s2 ?_; intro w hw) | refine X.e1 ?_ | refine X.e2 ?_ | (simp only [X.df]) | (simp (disch := omega) only [wi]))
  exact xw_ret (vs := [_]) Try.results42 ⟨⟨_, rfl, cellA tab (g := g1) hw (by (repeat (first | (with_reducible exact Pick.here) | (with_reducible exact Put.here) | (with_reducible apply Pick.there) | (with_reducible apply Put.there)))) Try.underlying79 rfl rfl hdl2⟩, trivial⟩ ⟨rfl, hw.kpNo ro_nil⟩
/-! The document's. -/
theorem getW (s : Stt) (i : Nat) (hi : i < s.length) : nth (wC s) (0 + (i : Int).toNat * 1) = some (u32 (s.getD i 0)) := by
  rw [nth_eq, show 0 + (i : Int).toNat * 1 = i from by simp, List.getElem?_map, List.getElem?_eq_getElem hi, List.getD_eq_getElem?_getD, List.getElem?_eq_getElem hi]
  rfl
theorem setW (s : Stt) (i : Nat) (hi : i < s.length) (x : BitVec 32) : splice (wC s) (0 + (i : Int).toNat * 1) [u32 x] = wC (s.set i x) := by
  rw [show 0 + (i : Int).toNat * 1 = i from by simp]
  unfold splice
  rw [List.set_eq_take_append_cons_drop, if_pos hi]
  simp [List.map_take, List.map_drop]
def wAt (h : Stt) (b : List Byte) (i : Nat) : Stt := (h.take i ++ List.replicate (8 - i) 0) ++ ((wds b).take i ++ List.replicate (8 - i) 0)
theorem wAt_len {h : Stt} (hh : h.length = 8) (b : List Byte) (i : Nat) (hi : i ≤ 8) : (wAt h b i).length = 16 := by simp [wAt, hh, wds_len]; omega
theorem take_set {h : Stt} (i : Nat) (hi : i < 8) (x : BitVec 32) (hl : h.length = 8) (hx : h[i]? = some x) : (h.take i ++ List.replicate (8 - i) 0).set i x = h.take (i + 1) ++ List.replicate (8 - (i + 1)) 0 := by
  have hl2 : (h.take i).length = i := by rw [List.length_take]; omega
  have hr : List.replicate (8 - i) (0 : BitVec 32) = 0 :: List.replicate (8 - (i + 1)) 0 := by rw [show 8 - i = (8 - (i + 1)) + 1 from by omega]; rfl
  rw [hr, List.set_append_right _ _ (by omega), hl2, Nat.sub_self, List.set_cons_zero, List.take_add_one, hx]
  simp
theorem wAt_step {h : Stt} (hh : h.length = 8) (b : List Byte) (i : Nat) (hi : i < 8) : ((wAt h b i).set i (h.getD i 0)).set (8 + i) (wd b i) = wAt h b (i + 1) := by
  have l1 : (h.take i ++ List.replicate (8 - i) (0 : BitVec 32)).length = 8 := by simp [hh]; omega
  have l2 : (h.take (i + 1) ++ List.replicate (8 - (i + 1)) (0 : BitVec 32)).length = 8 := by simp [hh]; omega
  have hx : h[i]? = some (h.getD i 0) := by rw [List.getD_eq_getElem?_getD, List.getElem?_eq_getElem (by omega)]; rfl
  rw [wAt, List.set_append_left _ _ (by omega), take_set i hi _ hh hx, List.set_append_right _ _ (by omega), l2, show 8 + i - 8 = i from by omega, take_set i hi _ (wds_len b) (wds_get b i hi)]
  rfl
theorem wAt8 {h : Stt} (hh : h.length = 8) (b : List Byte) : wAt h b 8 = h ++ wds b := by
  rw [wAt, List.take_of_length_le (by omega), List.take_of_length_le (by rw [wds_len]; exact Nat.le_refl _)]
  simp
theorem mixIn_get' (h : Stt) (b : List Byte) (i : Nat) (hi : i < 8) : (mixIn h b)[i]? = some ((h.getD i 0 ^^^ (mx6 h b).getD i 0) ^^^ (mx6 h b).getD (8 + i) 0) := by rw [mixIn_get h b i hi, BitVec.xor_assoc]
def zAt (P : List Byte) (j : Nat) : List Byte := P.take j ++ List.replicate (32 - j) 0
theorem zAt_len (P : List Byte) (hP : P.length = 32) (j : Nat) (hj : j ≤ 32) : (zAt P j).length = 32 := by simp [zAt, hP]; omega
theorem zAt_step (P : List Byte) (hP : P.length = 32) (i k j : Nat) (hj : 4 * i + k = j) (h : j < 32) (x : Byte) (hx : P[j]? = some x) : splice (cb (zAt P j)) (0 + (4 * (i : Int) + (k : Int)).toNat * 1) [by8 x] = cb (zAt P (j + 1)) := by
  have hl : (cb (P.take j)).length = j := by simp [hP]; omega
  have hr : List.replicate (32 - j) (0 : Byte) = [0] ++ List.replicate (32 - (j + 1)) 0 := by rw [show 32 - j = (32 - (j + 1)) + 1 from by omega]; rfl
  have h1 := splice_mid (cb (P.take j)) (cb [0]) [by8 x] (cb (List.replicate (32 - (j + 1)) 0)) rfl
  rw [hl] at h1
  rw [show 0 + (4 * (i : Int) + (k : Int)).toNat * 1 = j from by omega, zAt, hr]
  have e1 : cb (P.take j ++ ([0] ++ List.replicate (32 - (j + 1)) 0)) = cb (P.take j) ++ (cb [0] ++ cb (List.replicate (32 - (j + 1)) 0)) := by simp only [cb, List.map_append]
  rw [e1, h1, zAt, List.take_add_one, hx]
  simp [cb]
theorem outW_get : ∀ (h : Stt) (i k : Nat), i < h.length → k < 4 → (outW h)[4 * i + k]? = (leB ((h.getD i 0).setWidth 64) 4)[k]?
  | [], i, k, hi, _ => by simp at hi
  | x :: h, 0, k, _, hk => by
    rw [outW, List.flatMap_cons, List.getElem?_append_left (by rw [leB_len]; omega), Nat.mul_zero, Nat.zero_add]
    rfl
  | x :: h, i + 1, k, hi, hk => by
    have ih := outW_get h i k (by simpa using hi) hk
    rw [outW] at ih ⊢
    rw [List.flatMap_cons, List.getElem?_append_right (by rw [leB_len]; omega), leB_len, show 4 * (i + 1) + k - 4 = 4 * i + k from by omega, ih]
    rfl
end Go.Proofs.Ytbfpgigbakhplaa.Dig
