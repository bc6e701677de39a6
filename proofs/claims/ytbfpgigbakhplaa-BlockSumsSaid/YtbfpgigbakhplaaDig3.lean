/- A hasher that is written to: walked. -/
import Derived.Test.YtbfpgigbakhplaaDig2
set_option linter.unusedVariables false
set_option linter.unusedSimpArgs false
namespace Go.Proofs.Ytbfpgigbakhplaa.Dig
open Go.RowKit Go.Proofs.Ytbfpgigbakhplaa.Sx Go.Proofs.Ytbfpgigbakhplaa.Mx Go.Proofs.Ytbfpgigbakhplaa.Bw Go.Proofs.Ytbfpgigbakhplaa.By Go.Proofs.Ytbfpgigbakhplaa.Eqs Go.Proofs.Ytbfpgigbakhplaa.Qx Go.Proofs.Ytbfpgigbakhplaa.Ap Go.Proofs.Ytbfpgigbakhplaa.Mi Go.Proofs.Ytbfpgigbakhplaa.Stm Go.Proofs.Ytbfpgigbakhplaa.Fl Go.Proofs.Ytbfpgigbakhplaa.Wd Go.Proofs.Ytbfpgigbakhplaa.Num Go.Proofs.Ytbfpgigbakhplaa.MixR Go.Proofs.Ytbfpgigbakhplaa.Mf Go.Proofs.Ytbfpgigbakhplaa.Dp Go.Proofs.Ytbfpgigbakhplaa.Sc
attribute [local irreducible] Ow Cw Xw Mw
set_option maxHeartbeats 4000000
attribute [local irreducible] mx6 mixIn wd wds sAt hAt absK h0s
theorem nthV {h : Stt} (hh : h.length = 8) (v : Value) (n : Int) : nth (hC h v n) (0 + 8) = some v := by
  rw [nth_eq, hC, List.getElem?_append_right (by simp [hh])]; simp [hh]
theorem nthN {h : Stt} (hh : h.length = 8) (v : Value) (n : Int) : nth (hC h v n) (0 + 9) = some (i64v n) := by
  rw [nth_eq, hC, List.getElem?_append_right (by simp [hh])]; simp [hh]
theorem setN {h : Stt} (hh : h.length = 8) (v : Value) (n m : Int) : splice (hC h v n) (0 + 9) [i64v m] = hC h v m := by
  have := splice_end (wC h ++ [v]) [i64v n] [i64v m] rfl
  have hl : (wC h ++ [v]).length = 0 + 9 := by simp [hh]
  rw [hl] at this
  simpa [hC] using this
theorem setV {h : Stt} (hh : h.length = 8) (v u : Value) (n : Int) : splice (hC h v n) (0 + 8) [u] = hC h u n := by
  have := splice_mid (wC h) [v] [u] [i64v n] rfl
  have hl : (wC h).length = 0 + 8 := by simp [hh]
  rw [hl] at this
  simpa [hC] using this
theorem write_calls (g : Nat) (h : Stt) (hh : h.length = 8) (A : Option Addr) (k c : Nat) (n : Int) (held s : List Byte) (hk : held.length = k) (hs : k + s.length ≤ 140737488355328) (hkc : k ≤ c) (h0 : 0 ≤ n) (hn : n + s.length < 9223372036854775808) (w0 : World)
    (hp : Pre [blkI g 161 (hC h (.slice A k c) n), rowI A (cb held)] w0) :
    Does Try.prog 75 [.pointer (some ⟨g, 0, none⟩), str s] w0 fun r w' => ∃ A' c', (k + s.length) - 32 * ((k + s.length) / 32) ≤ c' ∧ r = .tuple #[] ∧ St w0 [blkI g 161 (hC h (.slice A k c) n), rowI A (cb held)]
      [blkI g 161 (hC (absK h (held ++ s) ((k + s.length) / 32)) (.slice A' ((k + s.length) - 32 * ((k + s.length) / 32)) c') (n + s.length)), rowI A' (cb ((held ++ s).drop (32 * ((k + s.length) / 32))))] w' := by
  have hw := St.start hp
  have hl := hC_len hh (.slice A k c) n
  have r1 := nthN hh (.slice A k c) n
  have r2 := setN hh (.slice A k c) n (n + s.length)
  have r3 := nthV hh (.slice A k c) (n + s.length)
  have hl2 := hC_len hh (.slice A k c) (n + s.length)
  refine fn_enter Try.func75 rfl Try.ntmps75 rfl ?_
  repeat (first | refine X.p1 ?_ | refine X.p2 ?_ | refine X.p6 ?_ | refine X.p7 ?_ | refine X.p0 ?_ | refine X.p3 ?_ | refine X.p4 ?_ | refine X.p5 ?_ | refine X.p8 ?_ | refine X.p9 ?_ | refine X.q1 ?_ | refine X.q2 ?_ | refine X.q3 ?_ | refine X.q4 ?_ | refine X.q5 ?_ | refine X.q6 ?_ | refine X.q7 ?_ | refine X.q8 ?_ | refine X.q9 ?_ | refine X.q0 ?_ | refine X.m1 ?_ | refine X.m2 ?_ | refine X.m3 ?_ | refine X.m4 ?_ | refine X.m5 ?_ | refine X.m6 ?_ | refine X.l11 ?_ | refine X.l1 ?_ | refine X.l2 ?_ | refine X.l3 ?_ | refine X.l4 ?_ | refine X.l5 ?_ | refine X.l10 ?_ | refine X.l6 ?_ | refine X.l7 ?_ | refine X.l8 ?_ | refine X.l9 ?_ | refine X.m7 ?_ | refine X.m8 ?_ | (refine X.s1 ?_; intro w hw) | (refine X.s2 ?_; intro w hw) | refine X.e1 ?_ | refine X.e2 ?_ | (simp only [X.df]) | (simp (disch := omega) only [wi]))
  refine pn1 ?_
  repeat (first | refine X.p1 ?_ | refine X.p2 ?_ | refine X.p6 ?_ | refine X.p7 ?_ | refine X.p0 ?_ | refine X.p3 ?_ | refine X.p4 ?_ | refine X.p5 ?_ | refine X.p8 ?_ | refine X.p9 ?_ | refine X.q1 ?_ | refine X.q2 ?_ | refine X.q3 ?_ | refine X.q4 ?_ | refine X.q5 ?_ | refine X.q6 ?_ | refine X.q7 ?_ | refine X.q8 ?_ | refine X.q9 ?_ | refine X.q0 ?_ | refine X.m1 ?_ | refine X.m2 ?_ | refine X.m3 ?_ | refine X.m4 ?_ | refine X.m5 ?_ | refine X.m6 ?_ | refine X.l11 ?_ | refine X.l1 ?_ | refine X.l2 ?_ | refine X.l3 ?_ | refine X.l4 ?_ | refine X.l5 ?_ | refine X.l10 ?_ | refine X.l6 ?_ | refine X.l7 ?_ | refine X.l8 ?_ | refine X.l9 ?_ | refine X.m7 ?_ | refine X.m8 ?_ | (refine X.s1 ?_; intro w hw) | (refine X.s2 ?_; intro w hw) | refine X.e1 ?_ | refine X.e2 ?_ | (simp only [X.df, is1]) | (simp (disch := omega) only [wi]))
  simp only [bs_size] at hw
  rw [wi _ (by omega) (by omega), r2] at hw
  repeat (first | refine X.p1 ?_ | refine X.p2 ?_ | refine X.p6 ?_ | refine X.p7 ?_ | refine X.p0 ?_ | refine X.p3 ?_ | refine X.p4 ?_ | refine X.p5 ?_ | refine X.p8 ?_ | refine X.p9 ?_ | refine X.q1 ?_ | refine X.q2 ?_ | refine X.q3 ?_ | refine X.q4 ?_ | refine X.q5 ?_ | refine X.q6 ?_ | refine X.q7 ?_ | refine X.q8 ?_ | refine X.q9 ?_ | refine X.q0 ?_ | refine X.m1 ?_ | refine X.m2 ?_ | refine X.m3 ?_ | refine X.m4 ?_ | refine X.m5 ?_ | refine X.m6 ?_ | refine X.l11 ?_ | refine X.l1 ?_ | refine X.l2 ?_ | refine X.l3 ?_ | refine X.l4 ?_ | refine X.l5 ?_ | refine X.l10 ?_ | refine X.l6 ?_ | refine X.l7 ?_ | refine X.l8 ?_ | refine X.l9 ?_ | refine X.m7 ?_ | refine X.m8 ?_ | (refine X.s1 ?_; intro w hw) | (refine X.s2 ?_; intro w hw) | refine X.e1 ?_ | refine X.e2 ?_ | (simp only [X.df]) | (simp (disch := omega) only [wi]))
  refine ow_slice3 tab (h := k) (m := k) rfl rfl rfl rfl rfl rfl (Nat.le_refl _) hkc ?_
  repeat (first | refine X.p1 ?_ | refine X.p2 ?_ | refine X.p6 ?_ | refine X.p7 ?_ | refine X.p0 ?_ | refine X.p3 ?_ | refine X.p4 ?_ | refine X.p5 ?_ | refine X.p8 ?_ | refine X.p9 ?_ | refine X.q1 ?_ | refine X.q2 ?_ | refine X.q3 ?_ | refine X.q4 ?_ | refine X.q5 ?_ | refine X.q6 ?_ | refine X.q7 ?_ | refine X.q8 ?_ | refine X.q9 ?_ | refine X.q0 ?_ | refine X.m1 ?_ | refine X.m2 ?_ | refine X.m3 ?_ | refine X.m4 ?_ | refine X.m5 ?_ | refine X.m6 ?_ | refine X.l11 ?_ | refine X.l1 ?_ | refine X.l2 ?_ | refine X.l3 ?_ | refine X.l4 ?_ | refine X.l5 ?_ | refine X.l10 ?_ | refine X.l6 ?_ | refine X.l7 ?_ | refine X.l8 ?_ | refine X.l9 ?_ | refine X.m7 ?_ | refine X.m8 ?_ | (refine X.s1 ?_; intro w hw) | (refine X.s2 ?_; intro w hw) | refine X.e1 ?_ | refine X.e2 ?_ | (simp only [X.df]) | (simp (disch := omega) only [wi]))
  refine st_appFullStr tab (A := A) (olds := cb held) (l := s) hw rfl (by (repeat (first | (with_reducible exact Pick.here) | (with_reducible exact Put.here) | (with_reducible apply Pick.there) | (with_reducible apply Put.there)))) rfl rfl rfl (by kernel_rfl) rfl (by rw [List.length_map, hk]) hs (fun A' c' w' hc' kp hw => ?_)
  have hw : St w0 [blkI g 161 (hC h (.slice A k c) n), rowI A (cb held)] [rowI A' (cb (held ++ s)), blkI g 161 (hC h (.slice A k c) (n + s.length)), rowI A (cb held)] w' := by
    rw [show cb (held ++ s) = cb held ++ cb s from List.map_append]; exact hw
  refine X.call rfl rfl Try.func87 (pieces_calls g h hh (.slice A k c) (n + s.length) A' (held ++ s) (k + s.length) c' (by rw [List.length_append, hk]) hc' hs w' (hw.pre.split (by (repeat (first | (with_reducible exact Split.nil) | ((with_reducible apply Split.cons); (next => (repeat (first | (with_reducible exact Pick.here) | (with_reducible exact Put.here) | (with_reducible apply Pick.there) | (with_reducible apply Put.there)))))))))) ?_
  rintro _ w ⟨A2, c2, hc2, rfl, hh2⟩
  have hw := hw.call (by (repeat (first | (with_reducible exact Split.nil) | ((with_reducible apply Split.cons); (next => (repeat (first | (with_reducible exact Pick.here) | (with_reducible exact Put.here) | (with_reducible apply Pick.there) | (with_reducible apply Put.there)))))))) hh2
  simp only [List.cons_append, List.nil_append] at hw
  have hal := absK_len hh (held ++ s) ((k + s.length) / 32)
  have r4 := setV hal (.slice A k c) (.slice A2 (k + s.length - 32 * ((k + s.length) / 32)) c2) (n + s.length)
  have hl4 := hC_len hal (.slice A k c) (n + s.length)
  repeat (first | refine X.p1 ?_ | refine X.p2 ?_ | refine X.p6 ?_ | refine X.p7 ?_ | refine X.p0 ?_ | refine X.p3 ?_ | refine X.p4 ?_ | refine X.p5 ?_ | refine X.p8 ?_ | refine X.p9 ?_ | refine X.q1 ?_ | refine X.q2 ?_ | refine X.q3 ?_ | refine X.q4 ?_ | refine X.q5 ?_ | refine X.q6 ?_ | refine X.q7 ?_ | refine X.q8 ?_ | refine X.q9 ?_ | refine X.q0 ?_ | refine X.m1 ?_ | refine X.m2 ?_ | refine X.m3 ?_ | refine X.m4 ?_ | refine X.m5 ?_ | refine X.m6 ?_ | refine X.l11 ?_ | refine X.l1 ?_ | refine X.l2 ?_ | refine X.l3 ?_ | refine X.l4 ?_ | refine X.l5 ?_ | refine X.l10 ?_ | refine X.l6 ?_ | refine X.l7 ?_ | refine X.l8 ?_ | refine X.l9 ?_ | refine X.m7 ?_ | refine X.m8 ?_ | (refine X.s1 ?_; intro w hw) | (refine X.s2 ?_; intro w hw) | refine X.e1 ?_ | refine X.e2 ?_ | (simp only [X.df]) | (simp (disch := omega) only [wi]))
  refine xw_end ?_
  exact xw_ret (rs := []) (vs := []) Try.results75 trivial ⟨A2, c2, hc2, rfl, hw.sub (by (repeat (first | (with_reducible exact Split.nil) | ((with_reducible apply Split.cons); (next => (repeat (first | (with_reducible exact Pick.here) | (with_reducible exact Put.here) | (with_reducible apply Pick.there) | (with_reducible apply Put.there))))))))⟩
theorem writeNil_calls (s : List Byte) (w0 : World) : Does Try.prog 75 [.pointer none, str s] w0 fun r w' => r = .tuple #[] ∧ w0 = w' := by
  refine fn_enter Try.func75 rfl Try.ntmps75 rfl ?_
  repeat (first | refine X.p1 ?_ | refine X.p2 ?_ | refine X.p6 ?_ | refine X.p7 ?_ | refine X.p0 ?_ | refine X.p3 ?_ | refine X.p4 ?_ | refine X.p5 ?_ | refine X.p8 ?_ | refine X.p9 ?_ | refine X.q1 ?_ | refine X.q2 ?_ | refine X.q3 ?_ | refine X.q4 ?_ | refine X.q5 ?_ | refine X.q6 ?_ | refine X.q7 ?_ | refine X.q8 ?_ | refine X.q9 ?_ | refine X.q0 ?_ | refine X.m1 ?_ | refine X.m2 ?_ | refine X.m3 ?_ | refine X.m4 ?_ | refine X.m5 ?_ | refine X.m6 ?_ | refine X.l11 ?_ | refine X.l1 ?_ | refine X.l2 ?_ | refine X.l3 ?_ | refine X.l4 ?_ | refine X.l5 ?_ | refine X.l10 ?_ | refine X.l6 ?_ | refine X.l7 ?_ | refine X.l8 ?_ | refine X.l9 ?_ | refine X.m7 ?_ | refine X.m8 ?_ | (refine X.s1 ?_; intro w hw) | (refine X.s2 ?_; intro w hw) | refine X.e1 ?_ | refine X.e2 ?_ | (simp only [X.df]) | (simp (disch := omega) only [wi]))
  refine pn1 ?_
  repeat (first | refine X.p1 ?_ | refine X.p2 ?_ | refine X.p6 ?_ | refine X.p7 ?_ | refine X.p0 ?_ | refine X.p3 ?_ | refine X.p4 ?_ | refine X.p5 ?_ | refine X.p8 ?_ | refine X.p9 ?_ | refine X.q1 ?_ | refine X.q2 ?_ | refine X.q3 ?_ | refine X.q4 ?_ | refine X.q5 ?_ | refine X.q6 ?_ | refine X.q7 ?_ | refine X.q8 ?_ | refine X.q9 ?_ | refine X.q0 ?_ | refine X.m1 ?_ | refine X.m2 ?_ | refine X.m3 ?_ | refine X.m4 ?_ | refine X.m5 ?_ | refine X.m6 ?_ | refine X.l11 ?_ | refine X.l1 ?_ | refine X.l2 ?_ | refine X.l3 ?_ | refine X.l4 ?_ | refine X.l5 ?_ | refine X.l10 ?_ | refine X.l6 ?_ | refine X.l7 ?_ | refine X.l8 ?_ | refine X.l9 ?_ | refine X.m7 ?_ | refine X.m8 ?_ | (refine X.s1 ?_; intro w hw) | (refine X.s2 ?_; intro w hw) | refine X.e1 ?_ | refine X.e2 ?_ | (simp only [X.df, is0]) | (simp (disch := omega) only [wi]))
  exact xw_ret (rs := []) (vs := []) Try.results75 trivial ⟨rfl, rfl⟩
end Go.Proofs.Ytbfpgigbakhplaa.Dig
