/- A root's block as the document has it. -/
import Derived.Test.YtbgjhmdedillhaaSupE
set_option linter.unusedVariables false
set_option linter.unusedSimpArgs false
namespace Go.Proofs.Ytbgjhmdedillhaa.Sup
open Go.RowKit Go.Proofs.Ytbgjhmdedillhaa.Sx Go.Proofs.Ytbgjhmdedillhaa.Mx Go.Proofs.Ytbgjhmdedillhaa.Bw Go.Proofs.Ytbgjhmdedillhaa.By Go.Proofs.Ytbgjhmdedillhaa.Eqs Go.Proofs.Ytbgjhmdedillhaa.Qx Go.Proofs.Ytbgjhmdedillhaa.Ap Go.Proofs.Ytbgjhmdedillhaa.Mi Go.Proofs.Ytbgjhmdedillhaa.Stm Go.Proofs.Ytbgjhmdedillhaa.Fl Go.Proofs.Ytbgjhmdedillhaa.TrW Go.Proofs.Ytbgjhmdedillhaa.Ino Go.Proofs.Ytbgjhmdedillhaa.Nd Go.Proofs.Ytbgjhmdedillhaa.Bd Go.Proofs.Ytbgjhmdedillhaa.Wd Go.Proofs.Ytbgjhmdedillhaa.Num
attribute [local irreducible] Ow Cw Xw Mw
set_option maxHeartbeats 4000000
noncomputable def encT (x : Sp) : List Byte := if supB x then padB (supT x) else []
theorem a41 {x : Sp} (h : OkS x) : ((spC x).drop (0 + 2 + 1 + 1)).take 32 = cb x.t.2 := by
  have h1 : x.t.2.length = 32 := h.t
  have : (spC x).drop (0 + 2 + 1 + 1) = cb x.t.2 ++ ([i64v x.ino, i64v x.mh] ++ (refC x.m ++ [i64v x.us])) := rfl
  rw [this, List.take_append_of_le_length (by rw [List.length_map]; omega), List.take_of_length_le (by rw [List.length_map]; omega)]
theorem a42 {x : Sp} (h : OkS x) : ((spC x).drop (0 + 37 + 1 + 1)).take 32 = cb x.m.2 := by
  have h1 := refC_len h.t
  have h2 : x.m.2.length = 32 := h.m
  have : (spC x).drop (0 + 37 + 1 + 1) = cb x.m.2 ++ [i64v x.us] := by
    rw [spC, show 0 + 37 + 1 + 1 = 3 + (33 + 3) from rfl, drop_app (k := 3) rfl, drop_app h1]; rfl
  rw [this, List.take_append_of_le_length (by rw [List.length_map]; omega), List.take_of_length_le (by rw [List.length_map]; omega)]
theorem ofI32 (a : BitVec 32) : BitVec.ofInt 64 (a.toNat : Int) = a.setWidth 64 := by
  apply BitVec.eq_of_toNat_eq
  rw [BitVec.ofInt_natCast, BitVec.toNat_ofNat, BitVec.toNat_setWidth]
theorem leB0 (k : Nat) : leB 0 k = zb k := by
  induction k with
  | zero => rfl
  | succ k ih => rw [leB_succ, ih]; simp [nbyte, zb, List.replicate_succ']
set_option maxRecDepth 20000 in
theorem refEncode_calls' (x : Sp) (hx : OkS x) (hi : I64 x.ino) (w0 : World) : Does Try.prog 43 [.agg (spC x).toArray] w0 fun v w' => v = .tuple #[str (encT x), .bool (supB x)] ∧ Kp No w0 w' := by
  have hw := St.start (w := w0) .nil
  have hch := refCheck_calls x hx hi
  have hx' := hx
  have htl := supT_len hx
  have s1l := sup1_len x
  have s2l := sup2_len hx
  have s3l := sup3_len hx
  have b41 := a41 hx
  have b42 := a42 hx
  obtain ⟨bl, ct, th, t, ino, mh, m, us⟩ := x
  have hl := spC_len hx
  have e36 : nth (spC ⟨bl, ct, th, t, ino, mh, m, us⟩) (0 + 36) = some (i64v ino) := n36 hx
  have e37 : nth (spC ⟨bl, ct, th, t, ino, mh, m, us⟩) (0 + 37 + 0) = some (i64v mh) := n37 hx
  have e38 : nth (spC ⟨bl, ct, th, t, ino, mh, m, us⟩) (0 + 37 + 1 + 0) = some (u32 m.1) := n38 hx
  have e71 : nth (spC ⟨bl, ct, th, t, ino, mh, m, us⟩) (0 + 71) = some (i64v us) := n71 hx
  have e0 : nth (spC ⟨bl, ct, th, t, ino, mh, m, us⟩) (0 + 0) = some (i64v bl) := rfl
  have e1 : nth (spC ⟨bl, ct, th, t, ino, mh, m, us⟩) (0 + 1) = some (u64 ct) := rfl
  have e2 : nth (spC ⟨bl, ct, th, t, ino, mh, m, us⟩) (0 + 2 + 0) = some (i64v th) := rfl
  have e3 : nth (spC ⟨bl, ct, th, t, ino, mh, m, us⟩) (0 + 2 + 1 + 0) = some (u32 t.1) := rfl
  have a2 : ((spC ⟨bl, ct, th, t, ino, mh, m, us⟩).drop (0 + 2)).take 34 = trC th t := d2 hx
  have a37 : ((spC ⟨bl, ct, th, t, ino, mh, m, us⟩).drop (0 + 37)).take 34 = trC mh m := d37 hx
  have a3 : ((spC ⟨bl, ct, th, t, ino, mh, m, us⟩).drop (0 + 2 + 1)).take 33 = refC t := d3 hx
  have a38 : ((spC ⟨bl, ct, th, t, ino, mh, m, us⟩).drop (0 + 37 + 1)).take 33 = refC m := d38 hx
  have hone := spC_one ⟨bl, ct, th, t, ino, mh, m, us⟩
  obtain ⟨ht, hm⟩ := hx
  simp only at ht hm b41 b42
  have ht2 : t.2.length = 32 := ht
  have hm2 : m.2.length = 32 := hm
  have l1 : (leB (BitVec.ofInt 64 bl) 4).length = 4 := leB_len _ _
  have l2 : (leB 0 4).length = 4 := leB_len _ _
  have l3 : (leB (BitVec.ofInt 64 th) 4).length = 4 := leB_len _ _
  have l4 : (leB (BitVec.ofInt 64 ino) 4).length = 4 := leB_len _ _
  have l5 : (leB (BitVec.ofInt 64 mh) 4).length = 4 := leB_len _ _
  have l6 : (leB (BitVec.ofInt 64 us) 4).length = 4 := leB_len _ _
  have l7 : (leB (t.1.setWidth 64) 4).length = 4 := leB_len _ _
  have l8 : (leB (m.1.setWidth 64) 4).length = 4 := leB_len _ _
  have l9 : mag.length = 8 := rfl
  have l10 : (leB ct 8).length = 8 := leB_len _ _
  generalize hC : spC ⟨bl, ct, th, t, ino, mh, m, us⟩ = C at *
  refine fn_enter Try.func43 rfl Try.ntmps43 rfl ?_
  repeat (first | refine X.p1 ?_ | refine X.p2 ?_ | refine X.p6 ?_ | refine X.p7 ?_ | refine X.p0 ?_ | refine X.p3 ?_ | refine X.p4 ?_ | refine X.p5 ?_ | refine X.p8 ?_ | refine X.p9 ?_ | refine X.q1 ?_ | refine X.q2 ?_ | refine X.q3 ?_ | refine X.q4 ?_ | refine X.q5 ?_ | refine X.q6 ?_ | refine X.q7 ?_ | refine X.q8 ?_ | refine X.q9 ?_ | refine X.q0 ?_ | refine X.m1 ?_ | refine X.m2 ?_ | refine X.m3 ?_ | refine X.m4 ?_ | refine X.m5 ?_ | refine X.m6 ?_ | refine X.l11 ?_ | refine X.l1 ?_ | refine X.l2 ?_ | refine X.l3 ?_ | refine X.l4 ?_ | refine X.l5 ?_ | refine X.l10 ?_ | refine X.l6 ?_ | refine X.l7 ?_ | refine X.l8 ?_ | refine X.l9 ?_ | refine X.m7 ?_ | refine X.m8 ?_ | (refine X.s1 ?_; intro w hw) | (refine X.s2 ?_; intro w hw) | refine X.e1 ?_ | refine X.e2 ?_ | (simp only [X.df]) | (simp (disch := omega) only [wi]))
  (first | refine X.nb ?_ | refine X.na ?_); intro g1 w _ hw
  repeat (first | refine X.p1 ?_ | refine X.p2 ?_ | refine X.p6 ?_ | refine X.p7 ?_ | refine X.p0 ?_ | refine X.p3 ?_ | refine X.p4 ?_ | refine X.p5 ?_ | refine X.p8 ?_ | refine X.p9 ?_ | refine X.q1 ?_ | refine X.q2 ?_ | refine X.q3 ?_ | refine X.q4 ?_ | refine X.q5 ?_ | refine X.q6 ?_ | refine X.q7 ?_ | refine X.q8 ?_ | refine X.q9 ?_ | refine X.q0 ?_ | refine X.m1 ?_ | refine X.m2 ?_ | refine X.m3 ?_ | refine X.m4 ?_ | refine X.m5 ?_ | refine X.m6 ?_ | refine X.l11 ?_ | refine X.l1 ?_ | refine X.l2 ?_ | refine X.l3 ?_ | refine X.l4 ?_ | refine X.l5 ?_ | refine X.l10 ?_ | refine X.l6 ?_ | refine X.l7 ?_ | refine X.l8 ?_ | refine X.l9 ?_ | refine X.m7 ?_ | refine X.m8 ?_ | (refine X.s1 ?_; intro w hw) | (refine X.s2 ?_; intro w hw) | refine X.e1 ?_ | refine X.e2 ?_ | (simp only [X.df]) | (simp (disch := omega) only [wi]))
  refine X.callN rfl rfl Try.func62 (hch w) fun w _ hw => ?_
  by_cases c0 : SupOk ⟨bl, ct, th, t, ino, mh, m, us⟩
  rotate_left
  · rw [supB_f c0]
    repeat (first | refine X.p1 ?_ | refine X.p2 ?_ | refine X.p6 ?_ | refine X.p7 ?_ | refine X.p0 ?_ | refine X.p3 ?_ | refine X.p4 ?_ | refine X.p5 ?_ | refine X.p8 ?_ | refine X.p9 ?_ | refine X.q1 ?_ | refine X.q2 ?_ | refine X.q3 ?_ | refine X.q4 ?_ | refine X.q5 ?_ | refine X.q6 ?_ | refine X.q7 ?_ | refine X.q8 ?_ | refine X.q9 ?_ | refine X.q0 ?_ | refine X.m1 ?_ | refine X.m2 ?_ | refine X.m3 ?_ | refine X.m4 ?_ | refine X.m5 ?_ | refine X.m6 ?_ | refine X.l11 ?_ | refine X.l1 ?_ | refine X.l2 ?_ | refine X.l3 ?_ | refine X.l4 ?_ | refine X.l5 ?_ | refine X.l10 ?_ | refine X.l6 ?_ | refine X.l7 ?_ | refine X.l8 ?_ | refine X.l9 ?_ | refine X.m7 ?_ | refine X.m8 ?_ | (refine X.s1 ?_; intro w hw) | (refine X.s2 ?_; intro w hw) | refine X.e1 ?_ | refine X.e2 ?_ | (simp only [X.df]) | (simp (disch := omega) only [wi]))
    refine xw_ret (vs := [_, _]) Try.results43 ⟨rfl, rfl, trivial⟩ ⟨?_, hw.kpNo ro_nil⟩
    rw [encT, supB_f c0]; rfl
  rw [supB_t c0]
  repeat (first | refine X.p1 ?_ | refine X.p2 ?_ | refine X.p6 ?_ | refine X.p7 ?_ | refine X.p0 ?_ | refine X.p3 ?_ | refine X.p4 ?_ | refine X.p5 ?_ | refine X.p8 ?_ | refine X.p9 ?_ | refine X.q1 ?_ | refine X.q2 ?_ | refine X.q3 ?_ | refine X.q4 ?_ | refine X.q5 ?_ | refine X.q6 ?_ | refine X.q7 ?_ | refine X.q8 ?_ | refine X.q9 ?_ | refine X.q0 ?_ | refine X.m1 ?_ | refine X.m2 ?_ | refine X.m3 ?_ | refine X.m4 ?_ | refine X.m5 ?_ | refine X.m6 ?_ | refine X.l11 ?_ | refine X.l1 ?_ | refine X.l2 ?_ | refine X.l3 ?_ | refine X.l4 ?_ | refine X.l5 ?_ | refine X.l10 ?_ | refine X.l6 ?_ | refine X.l7 ?_ | refine X.l8 ?_ | refine X.l9 ?_ | refine X.m7 ?_ | refine X.m8 ?_ | (refine X.s1 ?_; intro w hw) | (refine X.s2 ?_; intro w hw) | refine X.e1 ?_ | refine X.e2 ?_ | (simp only [X.df]) | (simp (disch := omega) only [wi]))
  refine Y.mix [0, 1, 2, 7, 8] [3, 4, 5, 6, 9, 10, 11] [(1, .o), (8, .o)] [] (R := []) hw fun w K hw hF => ?_; have hz := hw
  repeat (first | refine Y.r1 ?_ | refine Y.r2 ?_ | refine Y.r4 ?_ | refine Y.rm1 ?_ | refine Y.rm2 ?_ | refine Y.rm3 ?_ | refine Y.rm4 ?_ | refine Y.rm5 ?_ | refine Y.rl11 ?_ | refine Y.rl1 ?_ | refine Y.rl2 ?_ | refine Y.rl3 ?_ | refine Y.rl5 ?_ | refine Y.rl6 ?_ | refine Y.ro11 ?_ | refine Y.ro1 ?_ | refine Y.ro2 ?_ | refine Y.ro3 ?_ | refine Y.ro5 ?_ | refine Y.ro6 ?_ | refine Y.rm8 ?_ | (refine Y.r3 ?_; intro w hw) | (refine Y.beg0 ?_) | refine Y.re1 ?_ | refine Y.re2 ?_ | (simp only [X.df, wrap_u64]) | (simp (disch := omega) only [wi]))
  refine Y.act hw fun w hw0 hw => ?_; refine X.callN rfl rfl Try.func66 (number_calls (BitVec.ofInt 64 bl) 4 (by decide) w) fun w kk hw => ?_; refine Y.midA hw0 hF hw kk fun K hw hF => ?_
  repeat (first | refine Y.r1 ?_ | refine Y.r2 ?_ | refine Y.r4 ?_ | refine Y.rm1 ?_ | refine Y.rm2 ?_ | refine Y.rm3 ?_ | refine Y.rm4 ?_ | refine Y.rm5 ?_ | refine Y.rl11 ?_ | refine Y.rl1 ?_ | refine Y.rl2 ?_ | refine Y.rl3 ?_ | refine Y.rl5 ?_ | refine Y.rl6 ?_ | refine Y.ro11 ?_ | refine Y.ro1 ?_ | refine Y.ro2 ?_ | refine Y.ro3 ?_ | refine Y.ro5 ?_ | refine Y.ro6 ?_ | refine Y.rm8 ?_ | (refine Y.r3 ?_; intro w hw) | (refine Y.beg0 ?_) | refine Y.re1 ?_ | refine Y.re2 ?_ | (simp only [X.df]) | (simp (disch := omega) only [wi]))
  refine Y.rm8 (a := mag) (c := leB (BitVec.ofInt 64 bl) 4) ?_
  repeat (first | refine Y.r1 ?_ | refine Y.r2 ?_ | refine Y.r4 ?_ | refine Y.rm1 ?_ | refine Y.rm2 ?_ | refine Y.rm3 ?_ | refine Y.rm4 ?_ | refine Y.rm5 ?_ | refine Y.rl11 ?_ | refine Y.rl1 ?_ | refine Y.rl2 ?_ | refine Y.rl3 ?_ | refine Y.rl5 ?_ | refine Y.rl6 ?_ | refine Y.ro11 ?_ | refine Y.ro1 ?_ | refine Y.ro2 ?_ | refine Y.ro3 ?_ | refine Y.ro5 ?_ | refine Y.ro6 ?_ | refine Y.rm8 ?_ | (refine Y.r3 ?_; intro w hw) | (refine Y.beg0 ?_) | refine Y.re1 ?_ | refine Y.re2 ?_ | (simp only [X.df]) | (simp (disch := omega) only [wi]))
  refine Y.act hw fun w hw0 hw => ?_; refine X.callN rfl rfl Try.func66 (number_calls 0 4 (by decide) w) fun w kk hw => ?_; refine Y.midA hw0 hF hw kk fun K hw hF => ?_
  repeat (first | refine Y.r1 ?_ | refine Y.r2 ?_ | refine Y.r4 ?_ | refine Y.rm1 ?_ | refine Y.rm2 ?_ | refine Y.rm3 ?_ | refine Y.rm4 ?_ | refine Y.rm5 ?_ | refine Y.rl11 ?_ | refine Y.rl1 ?_ | refine Y.rl2 ?_ | refine Y.rl3 ?_ | refine Y.rl5 ?_ | refine Y.rl6 ?_ | refine Y.ro11 ?_ | refine Y.ro1 ?_ | refine Y.ro2 ?_ | refine Y.ro3 ?_ | refine Y.ro5 ?_ | refine Y.ro6 ?_ | refine Y.rm8 ?_ | (refine Y.r3 ?_; intro w hw) | (refine Y.beg0 ?_) | refine Y.re1 ?_ | refine Y.re2 ?_ | (simp only [X.df]) | (simp (disch := omega) only [wi]))
  refine Y.act hw fun w hw0 hw => ?_; refine X.callN rfl rfl Try.func66 (number_calls ct 8 (by decide) w) fun w kk hw => ?_; refine Y.midA hw0 hF hw kk fun K hw hF => ?_
  repeat (first | refine Y.r1 ?_ | refine Y.r2 ?_ | refine Y.r4 ?_ | refine Y.rm1 ?_ | refine Y.rm2 ?_ | refine Y.rm3 ?_ | refine Y.rm4 ?_ | refine Y.rm5 ?_ | refine Y.rl11 ?_ | refine Y.rl1 ?_ | refine Y.rl2 ?_ | refine Y.rl3 ?_ | refine Y.rl5 ?_ | refine Y.rl6 ?_ | refine Y.ro11 ?_ | refine Y.ro1 ?_ | refine Y.ro2 ?_ | refine Y.ro3 ?_ | refine Y.ro5 ?_ | refine Y.ro6 ?_ | refine Y.rm8 ?_ | (refine Y.r3 ?_; intro w hw) | (refine Y.beg0 ?_) | refine Y.re1 ?_ | refine Y.re2 ?_ | (simp only [X.df]) | (simp (disch := omega) only [wi]))
  repeat (first | refine X.p1 ?_ | refine X.p2 ?_ | refine X.p6 ?_ | refine X.p7 ?_ | refine X.p0 ?_ | refine X.p3 ?_ | refine X.p4 ?_ | refine X.p5 ?_ | refine X.p8 ?_ | refine X.p9 ?_ | refine X.q1 ?_ | refine X.q2 ?_ | refine X.q3 ?_ | refine X.q4 ?_ | refine X.q5 ?_ | refine X.q6 ?_ | refine X.q7 ?_ | refine X.q8 ?_ | refine X.q9 ?_ | refine X.q0 ?_ | refine X.m1 ?_ | refine X.m2 ?_ | refine X.m3 ?_ | refine X.m4 ?_ | refine X.m5 ?_ | refine X.m6 ?_ | refine X.l11 ?_ | refine X.l1 ?_ | refine X.l2 ?_ | refine X.l3 ?_ | refine X.l4 ?_ | refine X.l5 ?_ | refine X.l10 ?_ | refine X.l6 ?_ | refine X.l7 ?_ | refine X.l8 ?_ | refine X.l9 ?_ | refine X.m7 ?_ | refine X.m8 ?_ | (refine X.s1 ?_; intro w hw) | (refine X.s2 ?_; intro w hw) | refine X.e1 ?_ | refine X.e2 ?_ | (simp only [X.df]) | (simp (disch := omega) only [wi]))
  refine Y.mix [0, 1, 2, 3, 4, 6, 7, 8, 11, 12, 13, 14, 15, 18, 19, 20, 21] [5, 9, 10, 16, 17, 22, 23, 24, 25] [(3, .o), (7, .o), (14, .o), (21, .o)] [] (R := []) hw fun w K hw hF => ?_; have hz := hw
  repeat (first | refine Y.r1 ?_ | refine Y.r2 ?_ | refine Y.r4 ?_ | refine Y.rm1 ?_ | refine Y.rm2 ?_ | refine Y.rm3 ?_ | refine Y.rm4 ?_ | refine Y.rm5 ?_ | refine Y.rl11 ?_ | refine Y.rl1 ?_ | refine Y.rl2 ?_ | refine Y.rl3 ?_ | refine Y.rl5 ?_ | refine Y.rl6 ?_ | refine Y.ro11 ?_ | refine Y.ro1 ?_ | refine Y.ro2 ?_ | refine Y.ro3 ?_ | refine Y.ro5 ?_ | refine Y.ro6 ?_ | refine Y.rm8 ?_ | (refine Y.r3 ?_; intro w hw) | (refine Y.beg0 ?_) | refine Y.re1 ?_ | refine Y.re2 ?_ | (simp only [X.df, wrap_u64, ofI32]) | (simp (disch := omega) only [wi]))
  refine Y.act hw fun w hw0 hw => ?_; refine X.callN rfl rfl Try.func66 (number_calls (BitVec.ofInt 64 th) 4 (by decide) w) fun w kk hw => ?_; refine Y.midA hw0 hF hw kk fun K hw hF => ?_
  repeat (first | refine Y.r1 ?_ | refine Y.r2 ?_ | refine Y.r4 ?_ | refine Y.rm1 ?_ | refine Y.rm2 ?_ | refine Y.rm3 ?_ | refine Y.rm4 ?_ | refine Y.rm5 ?_ | refine Y.rl11 ?_ | refine Y.rl1 ?_ | refine Y.rl2 ?_ | refine Y.rl3 ?_ | refine Y.rl5 ?_ | refine Y.rl6 ?_ | refine Y.ro11 ?_ | refine Y.ro1 ?_ | refine Y.ro2 ?_ | refine Y.ro3 ?_ | refine Y.ro5 ?_ | refine Y.ro6 ?_ | refine Y.rm8 ?_ | (refine Y.r3 ?_; intro w hw) | (refine Y.beg0 ?_) | refine Y.re1 ?_ | refine Y.re2 ?_ | (simp only [X.df]) | (simp (disch := omega) only [wi]))
  refine Y.act hw fun w hw0 hw => ?_; refine X.callN rfl rfl Try.func66 (number_calls (BitVec.ofInt 64 ino) 4 (by decide) w) fun w kk hw => ?_; refine Y.midA hw0 hF hw kk fun K hw hF => ?_
  repeat (first | refine Y.r1 ?_ | refine Y.r2 ?_ | refine Y.r4 ?_ | refine Y.rm1 ?_ | refine Y.rm2 ?_ | refine Y.rm3 ?_ | refine Y.rm4 ?_ | refine Y.rm5 ?_ | refine Y.rl11 ?_ | refine Y.rl1 ?_ | refine Y.rl2 ?_ | refine Y.rl3 ?_ | refine Y.rl5 ?_ | refine Y.rl6 ?_ | refine Y.ro11 ?_ | refine Y.ro1 ?_ | refine Y.ro2 ?_ | refine Y.ro3 ?_ | refine Y.ro5 ?_ | refine Y.ro6 ?_ | refine Y.rm8 ?_ | (refine Y.r3 ?_; intro w hw) | (refine Y.beg0 ?_) | refine Y.re1 ?_ | refine Y.re2 ?_ | (simp only [X.df]) | (simp (disch := omega) only [wi]))
  refine Y.act hw fun w hw0 hw => ?_; refine X.callN rfl rfl Try.func66 (number_calls (t.1.setWidth 64) 4 (by decide) w) fun w kk hw => ?_; refine Y.midA hw0 hF hw kk fun K hw hF => ?_
  repeat (first | refine Y.r1 ?_ | refine Y.r2 ?_ | refine Y.r4 ?_ | refine Y.rm1 ?_ | refine Y.rm2 ?_ | refine Y.rm3 ?_ | refine Y.rm4 ?_ | refine Y.rm5 ?_ | refine Y.rl11 ?_ | refine Y.rl1 ?_ | refine Y.rl2 ?_ | refine Y.rl3 ?_ | refine Y.rl5 ?_ | refine Y.rl6 ?_ | refine Y.ro11 ?_ | refine Y.ro1 ?_ | refine Y.ro2 ?_ | refine Y.ro3 ?_ | refine Y.ro5 ?_ | refine Y.ro6 ?_ | refine Y.rm8 ?_ | (refine Y.r3 ?_; intro w hw) | (refine Y.beg0 ?_) | refine Y.re1 ?_ | refine Y.re2 ?_ | (simp only [X.df]) | (simp (disch := omega) only [wi]))
  refine Y.act hw fun w hw0 hw => ?_; refine X.callN rfl rfl Try.func67 (sum_calls t.2 ht w) fun w kk hw => ?_; refine Y.midA hw0 hF hw kk fun K hw hF => ?_
  repeat (first | refine Y.r1 ?_ | refine Y.r2 ?_ | refine Y.r4 ?_ | refine Y.rm1 ?_ | refine Y.rm2 ?_ | refine Y.rm3 ?_ | refine Y.rm4 ?_ | refine Y.rm5 ?_ | refine Y.rl11 ?_ | refine Y.rl1 ?_ | refine Y.rl2 ?_ | refine Y.rl3 ?_ | refine Y.rl5 ?_ | refine Y.rl6 ?_ | refine Y.ro11 ?_ | refine Y.ro1 ?_ | refine Y.ro2 ?_ | refine Y.ro3 ?_ | refine Y.ro5 ?_ | refine Y.ro6 ?_ | refine Y.rm8 ?_ | (refine Y.r3 ?_; intro w hw) | (refine Y.beg0 ?_) | refine Y.re1 ?_ | refine Y.re2 ?_ | (simp only [X.df]) | (simp (disch := omega) only [wi]))
  repeat (first | refine X.p1 ?_ | refine X.p2 ?_ | refine X.p6 ?_ | refine X.p7 ?_ | refine X.p0 ?_ | refine X.p3 ?_ | refine X.p4 ?_ | refine X.p5 ?_ | refine X.p8 ?_ | refine X.p9 ?_ | refine X.q1 ?_ | refine X.q2 ?_ | refine X.q3 ?_ | refine X.q4 ?_ | refine X.q5 ?_ | refine X.q6 ?_ | refine X.q7 ?_ | refine X.q8 ?_ | refine X.q9 ?_ | refine X.q0 ?_ | refine X.m1 ?_ | refine X.m2 ?_ | refine X.m3 ?_ | refine X.m4 ?_ | refine X.m5 ?_ | refine X.m6 ?_ | refine X.l11 ?_ | refine X.l1 ?_ | refine X.l2 ?_ | refine X.l3 ?_ | refine X.l4 ?_ | refine X.l5 ?_ | refine X.l10 ?_ | refine X.l6 ?_ | refine X.l7 ?_ | refine X.l8 ?_ | refine X.l9 ?_ | refine X.m7 ?_ | refine X.m8 ?_ | (refine X.s1 ?_; intro w hw) | (refine X.s2 ?_; intro w hw) | refine X.e1 ?_ | refine X.e2 ?_ | (simp only [X.df]) | (simp (disch := omega) only [wi]))
  refine Y.mix [0, 1, 2, 3, 4, 6, 7, 8, 9, 10, 13, 14, 15, 16, 19, 20, 21] [5, 11, 12, 17, 18, 22, 23, 24, 25] [(3, .o), (9, .o), (16, .o), (20, .o)] [] (R := []) hw fun w K hw hF => ?_; have hz := hw
  repeat (first | refine Y.r1 ?_ | refine Y.r2 ?_ | refine Y.r4 ?_ | refine Y.rm1 ?_ | refine Y.rm2 ?_ | refine Y.rm3 ?_ | refine Y.rm4 ?_ | refine Y.rm5 ?_ | refine Y.rl11 ?_ | refine Y.rl1 ?_ | refine Y.rl2 ?_ | refine Y.rl3 ?_ | refine Y.rl5 ?_ | refine Y.rl6 ?_ | refine Y.ro11 ?_ | refine Y.ro1 ?_ | refine Y.ro2 ?_ | refine Y.ro3 ?_ | refine Y.ro5 ?_ | refine Y.ro6 ?_ | refine Y.rm8 ?_ | (refine Y.r3 ?_; intro w hw) | (refine Y.beg0 ?_) | refine Y.re1 ?_ | refine Y.re2 ?_ | (simp only [X.df, wrap_u64, ofI32]) | (simp (disch := omega) only [wi]))
  refine Y.act hw fun w hw0 hw => ?_; refine X.callN rfl rfl Try.func66 (number_calls (BitVec.ofInt 64 mh) 4 (by decide) w) fun w kk hw => ?_; refine Y.midA hw0 hF hw kk fun K hw hF => ?_
  repeat (first | refine Y.r1 ?_ | refine Y.r2 ?_ | refine Y.r4 ?_ | refine Y.rm1 ?_ | refine Y.rm2 ?_ | refine Y.rm3 ?_ | refine Y.rm4 ?_ | refine Y.rm5 ?_ | refine Y.rl11 ?_ | refine Y.rl1 ?_ | refine Y.rl2 ?_ | refine Y.rl3 ?_ | refine Y.rl5 ?_ | refine Y.rl6 ?_ | refine Y.ro11 ?_ | refine Y.ro1 ?_ | refine Y.ro2 ?_ | refine Y.ro3 ?_ | refine Y.ro5 ?_ | refine Y.ro6 ?_ | refine Y.rm8 ?_ | (refine Y.r3 ?_; intro w hw) | (refine Y.beg0 ?_) | refine Y.re1 ?_ | refine Y.re2 ?_ | (simp only [X.df]) | (simp (disch := omega) only [wi]))
  refine Y.act hw fun w hw0 hw => ?_; refine X.callN rfl rfl Try.func66 (number_calls (m.1.setWidth 64) 4 (by decide) w) fun w kk hw => ?_; refine Y.midA hw0 hF hw kk fun K hw hF => ?_
  repeat (first | refine Y.r1 ?_ | refine Y.r2 ?_ | refine Y.r4 ?_ | refine Y.rm1 ?_ | refine Y.rm2 ?_ | refine Y.rm3 ?_ | refine Y.rm4 ?_ | refine Y.rm5 ?_ | refine Y.rl11 ?_ | refine Y.rl1 ?_ | refine Y.rl2 ?_ | refine Y.rl3 ?_ | refine Y.rl5 ?_ | refine Y.rl6 ?_ | refine Y.ro11 ?_ | refine Y.ro1 ?_ | refine Y.ro2 ?_ | refine Y.ro3 ?_ | refine Y.ro5 ?_ | refine Y.ro6 ?_ | refine Y.rm8 ?_ | (refine Y.r3 ?_; intro w hw) | (refine Y.beg0 ?_) | refine Y.re1 ?_ | refine Y.re2 ?_ | (simp only [X.df]) | (simp (disch := omega) only [wi]))
  refine Y.act hw fun w hw0 hw => ?_; refine X.callN rfl rfl Try.func67 (sum_calls m.2 hm w) fun w kk hw => ?_; refine Y.midA hw0 hF hw kk fun K hw hF => ?_
  repeat (first | refine Y.r1 ?_ | refine Y.r2 ?_ | refine Y.r4 ?_ | refine Y.rm1 ?_ | refine Y.rm2 ?_ | refine Y.rm3 ?_ | refine Y.rm4 ?_ | refine Y.rm5 ?_ | refine Y.rl11 ?_ | refine Y.rl1 ?_ | refine Y.rl2 ?_ | refine Y.rl3 ?_ | refine Y.rl5 ?_ | refine Y.rl6 ?_ | refine Y.ro11 ?_ | refine Y.ro1 ?_ | refine Y.ro2 ?_ | refine Y.ro3 ?_ | refine Y.ro5 ?_ | refine Y.ro6 ?_ | refine Y.rm8 ?_ | (refine Y.r3 ?_; intro w hw) | (refine Y.beg0 ?_) | refine Y.re1 ?_ | refine Y.re2 ?_ | (simp only [X.df]) | (simp (disch := omega) only [wi]))
  refine Y.act hw fun w hw0 hw => ?_; refine X.callN rfl rfl Try.func66 (number_calls (BitVec.ofInt 64 us) 4 (by decide) w) fun w kk hw => ?_; refine Y.midA hw0 hF hw kk fun K hw hF => ?_
  repeat (first | refine Y.r1 ?_ | refine Y.r2 ?_ | refine Y.r4 ?_ | refine Y.rm1 ?_ | refine Y.rm2 ?_ | refine Y.rm3 ?_ | refine Y.rm4 ?_ | refine Y.rm5 ?_ | refine Y.rl11 ?_ | refine Y.rl1 ?_ | refine Y.rl2 ?_ | refine Y.rl3 ?_ | refine Y.rl5 ?_ | refine Y.rl6 ?_ | refine Y.ro11 ?_ | refine Y.ro1 ?_ | refine Y.ro2 ?_ | refine Y.ro3 ?_ | refine Y.ro5 ?_ | refine Y.ro6 ?_ | refine Y.rm8 ?_ | (refine Y.r3 ?_; intro w hw) | (refine Y.beg0 ?_) | refine Y.re1 ?_ | refine Y.re2 ?_ | (simp only [X.df]) | (simp (disch := omega) only [wi]))
  have hT : mag ++ leB (BitVec.ofInt 64 bl) 4 ++ leB 0 4 ++ leB ct 8 ++ (leB (BitVec.ofInt 64 th) 4 ++ leB (BitVec.ofInt 64 ino) 4 ++ leB (t.1.setWidth 64) 4 ++ t.2) ++ (leB (BitVec.ofInt 64 mh) 4 ++ leB (m.1.setWidth 64) 4 ++ m.2 ++ leB (BitVec.ofInt 64 us) 4) = supT ⟨bl, ct, th, t, ino, mh, m, us⟩ := rfl
  rw [hT]
  repeat (first | refine X.p1 ?_ | refine X.p2 ?_ | refine X.p6 ?_ | refine X.p7 ?_ | refine X.p0 ?_ | refine X.p3 ?_ | refine X.p4 ?_ | refine X.p5 ?_ | refine X.p8 ?_ | refine X.p9 ?_ | refine X.q1 ?_ | refine X.q2 ?_ | refine X.q3 ?_ | refine X.q4 ?_ | refine X.q5 ?_ | refine X.q6 ?_ | refine X.q7 ?_ | refine X.q8 ?_ | refine X.q9 ?_ | refine X.q0 ?_ | refine X.m1 ?_ | refine X.m2 ?_ | refine X.m3 ?_ | refine X.m4 ?_ | refine X.m5 ?_ | refine X.m6 ?_ | refine X.l11 ?_ | refine X.l1 ?_ | refine X.l2 ?_ | refine X.l3 ?_ | refine X.l4 ?_ | refine X.l5 ?_ | refine X.l10 ?_ | refine X.l6 ?_ | refine X.l7 ?_ | refine X.l8 ?_ | refine X.l9 ?_ | refine X.m7 ?_ | refine X.m8 ?_ | (refine X.s1 ?_; intro w hw) | (refine X.s2 ?_; intro w hw) | refine X.e1 ?_ | refine X.e2 ?_ | (simp only [X.df]) | (simp (disch := omega) only [wi]))
  generalize hST : supT ⟨bl, ct, th, t, ino, mh, m, us⟩ = T at *
  refine X.loop (fun j : Nat => [(4, str (T ++ zb j))]) (fun j w' => j ≤ 144 ∧ St w0 [] [blkI g1 84 C] w') (fun j => 144 - j) 0 ⟨Nat.zero_le _, hw⟩ ?_ ⟨by rw [show zb 0 = [] from rfl, List.append_nil]; rfl, trivial⟩
  rintro j w ⟨hj, hw⟩
  have hzj : (zb j).length = j := by simp
  have hlen : (T ++ zb j).length = 112 + j := by simp only [List.length_append, htl, hzj]
  repeat (first | refine X.p1 ?_ | refine X.p2 ?_ | refine X.p6 ?_ | refine X.p7 ?_ | refine X.p0 ?_ | refine X.p3 ?_ | refine X.p4 ?_ | refine X.p5 ?_ | refine X.p8 ?_ | refine X.p9 ?_ | refine X.q1 ?_ | refine X.q2 ?_ | refine X.q3 ?_ | refine X.q4 ?_ | refine X.q5 ?_ | refine X.q6 ?_ | refine X.q7 ?_ | refine X.q8 ?_ | refine X.q9 ?_ | refine X.q0 ?_ | refine X.m1 ?_ | refine X.m2 ?_ | refine X.m3 ?_ | refine X.m4 ?_ | refine X.m5 ?_ | refine X.m6 ?_ | refine X.l11 ?_ | refine X.l1 ?_ | refine X.l2 ?_ | refine X.l3 ?_ | refine X.l4 ?_ | refine X.l5 ?_ | refine X.l10 ?_ | refine X.l6 ?_ | refine X.l7 ?_ | refine X.l8 ?_ | refine X.l9 ?_ | refine X.m7 ?_ | refine X.m8 ?_ | (refine X.s1 ?_; intro w hw) | (refine X.s2 ?_; intro w hw) | refine X.e1 ?_ | refine X.e2 ?_ | (simp only [X.df, hlen]) | (simp (disch := omega) only [wi]))
  refine X.cond (fun hlt => ?_) (fun hge => ?_)
  · have hlt : j < 144 := by omega
    repeat (first | refine X.p1 ?_ | refine X.p2 ?_ | refine X.p6 ?_ | refine X.p7 ?_ | refine X.p0 ?_ | refine X.p3 ?_ | refine X.p4 ?_ | refine X.p5 ?_ | refine X.p8 ?_ | refine X.p9 ?_ | refine X.q1 ?_ | refine X.q2 ?_ | refine X.q3 ?_ | refine X.q4 ?_ | refine X.q5 ?_ | refine X.q6 ?_ | refine X.q7 ?_ | refine X.q8 ?_ | refine X.q9 ?_ | refine X.q0 ?_ | refine X.m1 ?_ | refine X.m2 ?_ | refine X.m3 ?_ | refine X.m4 ?_ | refine X.m5 ?_ | refine X.m6 ?_ | refine X.l11 ?_ | refine X.l1 ?_ | refine X.l2 ?_ | refine X.l3 ?_ | refine X.l4 ?_ | refine X.l5 ?_ | refine X.l10 ?_ | refine X.l6 ?_ | refine X.l7 ?_ | refine X.l8 ?_ | refine X.l9 ?_ | refine X.m7 ?_ | refine X.m8 ?_ | (refine X.s1 ?_; intro w hw) | (refine X.s2 ?_; intro w hw) | refine X.e1 ?_ | refine X.e2 ?_ | (simp only [X.df]) | (simp (disch := omega) only [wi]))
    refine X.callN rfl rfl Try.func66 (number_calls 0 1 (by decide) w) fun w _ hw => ?_
    have l0 : (leB (0 : BitVec 64) 1).length = 1 := leB_len _ _
    repeat (first | refine X.p1 ?_ | refine X.p2 ?_ | refine X.p6 ?_ | refine X.p7 ?_ | refine X.p0 ?_ | refine X.p3 ?_ | refine X.p4 ?_ | refine X.p5 ?_ | refine X.p8 ?_ | refine X.p9 ?_ | refine X.q1 ?_ | refine X.q2 ?_ | refine X.q3 ?_ | refine X.q4 ?_ | refine X.q5 ?_ | refine X.q6 ?_ | refine X.q7 ?_ | refine X.q8 ?_ | refine X.q9 ?_ | refine X.q0 ?_ | refine X.m1 ?_ | refine X.m2 ?_ | refine X.m3 ?_ | refine X.m4 ?_ | refine X.m5 ?_ | refine X.m6 ?_ | refine X.l11 ?_ | refine X.l1 ?_ | refine X.l2 ?_ | refine X.l3 ?_ | refine X.l4 ?_ | refine X.l5 ?_ | refine X.l10 ?_ | refine X.l6 ?_ | refine X.l7 ?_ | refine X.l8 ?_ | refine X.l9 ?_ | refine X.m7 ?_ | refine X.m8 ?_ | (refine X.s1 ?_; intro w hw) | (refine X.s2 ?_; intro w hw) | refine X.e1 ?_ | refine X.e2 ?_ | (simp only [X.df]) | (simp (disch := omega) only [wi]))
    exact X.again (j + 1) ⟨by omega, hw⟩ (by omega) ⟨by rw [List.append_assoc, show zb j ++ leB 0 1 = zb (j + 1) from by rw [leB0]; simp [zb, List.replicate_succ']]; rfl, trivial⟩
  · obtain rfl : j = 144 := by omega
    repeat (first | refine X.p1 ?_ | refine X.p2 ?_ | refine X.p6 ?_ | refine X.p7 ?_ | refine X.p0 ?_ | refine X.p3 ?_ | refine X.p4 ?_ | refine X.p5 ?_ | refine X.p8 ?_ | refine X.p9 ?_ | refine X.q1 ?_ | refine X.q2 ?_ | refine X.q3 ?_ | refine X.q4 ?_ | refine X.q5 ?_ | refine X.q6 ?_ | refine X.q7 ?_ | refine X.q8 ?_ | refine X.q9 ?_ | refine X.q0 ?_ | refine X.m1 ?_ | refine X.m2 ?_ | refine X.m3 ?_ | refine X.m4 ?_ | refine X.m5 ?_ | refine X.m6 ?_ | refine X.l11 ?_ | refine X.l1 ?_ | refine X.l2 ?_ | refine X.l3 ?_ | refine X.l4 ?_ | refine X.l5 ?_ | refine X.l10 ?_ | refine X.l6 ?_ | refine X.l7 ?_ | refine X.l8 ?_ | refine X.l9 ?_ | refine X.m7 ?_ | refine X.m8 ?_ | (refine X.s1 ?_; intro w hw) | (refine X.s2 ?_; intro w hw) | refine X.e1 ?_ | refine X.e2 ?_ | (simp only [X.df]) | (simp (disch := omega) only [wi]))
    refine xw_ret (vs := [_, _]) Try.results43 ⟨rfl, rfl, trivial⟩ ⟨?_, hw.kpNo ro_nil⟩
    rw [encT, supB_t c0, if_pos rfl, padB, hST, htl]; rfl
end Go.Proofs.Ytbgjhmdedillhaa.Sup
