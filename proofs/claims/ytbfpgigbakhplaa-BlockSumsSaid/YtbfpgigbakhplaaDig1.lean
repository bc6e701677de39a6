/- Pieces of a text, taken in: walked. -/
import Derived.Test.YtbfpgigbakhplaaMix4
import Derived.Test.YtbfpgigbakhplaaWref
import Derived.Test.YtbfpgigbakhplaaDp
import Derived.Test.YtbfpgigbakhplaaSc
set_option linter.unusedVariables false
set_option linter.unusedSimpArgs false
namespace Go.Proofs.Ytbfpgigbakhplaa.Dig
open Go.RowKit Go.Proofs.Ytbfpgigbakhplaa.Sx Go.Proofs.Ytbfpgigbakhplaa.Mx Go.Proofs.Ytbfpgigbakhplaa.Bw Go.Proofs.Ytbfpgigbakhplaa.By Go.Proofs.Ytbfpgigbakhplaa.Eqs Go.Proofs.Ytbfpgigbakhplaa.Qx Go.Proofs.Ytbfpgigbakhplaa.Ap Go.Proofs.Ytbfpgigbakhplaa.Mi Go.Proofs.Ytbfpgigbakhplaa.Stm Go.Proofs.Ytbfpgigbakhplaa.Fl Go.Proofs.Ytbfpgigbakhplaa.Wd Go.Proofs.Ytbfpgigbakhplaa.Num Go.Proofs.Ytbfpgigbakhplaa.MixR Go.Proofs.Ytbfpgigbakhplaa.Mf Go.Proofs.Ytbfpgigbakhplaa.Dp Go.Proofs.Ytbfpgigbakhplaa.Sc
attribute [local irreducible] Ow Cw Xw Mw
set_option maxHeartbeats 4000000
abbrev i64v (n : Int) : Value := .int .i64 n
abbrev iv (n : Nat) : Value := .int .i64 (n : Int)
def wd (b : List Byte) (i : Nat) : BitVec 32 := (valB ((b.drop (4 * i)).take 4)).setWidth 32
def wds (b : List Byte) : Stt := (List.range 8).map (wd b)
theorem wds_len (b : List Byte) : (wds b).length = 8 := by simp [wds]
def mx6 (h : Stt) (b : List Byte) : Stt := roundsS (h ++ wds b) 6
theorem mx6_len {h : Stt} (hh : h.length = 8) (b : List Byte) : (mx6 h b).length = 16 := by rw [mx6, roundsS_len, List.length_append, hh, wds_len]
def mixIn (h : Stt) (b : List Byte) : Stt := (List.range 8).map fun i => h.getD i 0 ^^^ ((mx6 h b).getD i 0 ^^^ (mx6 h b).getD (8 + i) 0)
theorem mixIn_len (h : Stt) (b : List Byte) : (mixIn h b).length = 8 := by simp [mixIn]
/-- A hasher. -/
def hC (h : Stt) (v : Value) (n : Int) : List Value := wC h ++ [v, i64v n]
theorem hC_len {h : Stt} (hh : h.length = 8) (v : Value) (n : Int) : (hC h v n).length = 10 := by simp [hC, hh]
theorem nthH {h : Stt} (hh : h.length = 8) (v : Value) (n : Int) (i : Nat) (hi : i < 8) : nth (hC h v n) (0 + 0 + (i : Int).toNat * 1) = some (u32 (h.getD i 0)) := by
  rw [nth_eq, show 0 + 0 + (i : Int).toNat * 1 = i from by simp, hC, List.getElem?_append_left (by simp; omega), List.getElem?_map, List.getElem?_eq_getElem (by omega), List.getD_eq_getElem?_getD, List.getElem?_eq_getElem (by omega)]
  rfl
theorem setH {h : Stt} (hh : h.length = 8) (v : Value) (n : Int) (i : Nat) (hi : i < 8) (x : BitVec 32) : splice (hC h v n) (0 + 0 + (i : Int).toNat * 1) [u32 x] = hC (h.set i x) v n := by
  rw [show 0 + 0 + (i : Int).toNat * 1 = i from by simp]
  unfold splice hC
  rw [List.set_eq_take_append_cons_drop, if_pos (by omega), List.take_append_of_le_length (by simp; omega), List.drop_append_of_le_length (by simp; omega)]
  simp [List.map_take, List.map_drop]
def sAt (h : Stt) (b : List Byte) (i : Nat) : Stt := (h ++ (wds b).take i) ++ List.replicate (8 - i) 0
theorem sAt_len {h : Stt} (hh : h.length = 8) (b : List Byte) (i : Nat) (hi : i ≤ 8) : (sAt h b i).length = 16 := by simp [sAt, hh, wds_len]; omega
theorem sAt_step {h : Stt} (hh : h.length = 8) (b : List Byte) (i : Nat) (hi : i < 8) : (sAt h b i).set (8 + i) (wd b i) = sAt h b (i + 1) := by
  have hl : (h ++ (wds b).take i).length = 8 + i := by simp [hh, wds_len]; omega
  have hr : List.replicate (8 - i) (0 : BitVec 32) = 0 :: List.replicate (8 - (i + 1)) 0 := by rw [show 8 - i = (8 - (i + 1)) + 1 from by omega]; rfl
  have ht : (wds b).take (i + 1) = (wds b).take i ++ [wd b i] := by
    rw [List.take_add_one, List.getElem?_eq_getElem (by rw [wds_len]; exact hi)]
    simp [wds]
  rw [sAt, sAt, hr, ht, List.set_append_right _ _ (by omega), hl, show 8 + i - (8 + i) = 0 from by omega]
  simp
def hAt (h m : Stt) (i : Nat) : Stt := m.take i ++ h.drop i
theorem hAt_len {h m : Stt} (hh : h.length = 8) (hm : m.length = 8) (i : Nat) (hi : i ≤ 8) : (hAt h m i).length = 8 := by simp [hAt, hh, hm]; omega
theorem hAt_get {h m : Stt} (hh : h.length = 8) (hm : m.length = 8) (i : Nat) (hi : i < 8) : (hAt h m i).getD i 0 = h.getD i 0 := by
  have hl : (m.take i).length = i := by simp [hm]; omega
  rw [hAt, List.getD_eq_getElem?_getD, List.getElem?_append_right (by omega), hl, Nat.sub_self, List.getElem?_drop, Nat.add_zero, ← List.getD_eq_getElem?_getD]
theorem hAt_step {h m : Stt} (hh : h.length = 8) (hm : m.length = 8) (i : Nat) (hi : i < 8) (x : BitVec 32) (hx : m[i]? = some x) : (hAt h m i).set i x = hAt h m (i + 1) := by
  have hl : (m.take i).length = i := by simp [hm]; omega
  have hr : h.drop i = h[i]'(by omega) :: h.drop (i + 1) := List.drop_eq_getElem_cons (by omega)
  rw [hAt, hAt, hr, List.set_append_right _ _ (by omega), hl, Nat.sub_self, List.set_cons_zero, List.take_add_one, hx]
  simp
theorem mixIn_get (h : Stt) (b : List Byte) (i : Nat) (hi : i < 8) : (mixIn h b)[i]? = some (h.getD i 0 ^^^ ((mx6 h b).getD i 0 ^^^ (mx6 h b).getD (8 + i) 0)) := by simp [mixIn, hi]
theorem cp8 (h : Stt) (hh : h.length = 8) (b : List Byte) : splice (wC z16) 0 (wC h) = wC (sAt h b 0) := by
  unfold splice
  rw [List.take_zero, List.nil_append, sAt, List.take_zero, List.append_nil, wC, wC, wC, List.map_append, List.length_map, hh]
  rfl
theorem sAt8 (h : Stt) (b : List Byte) : sAt h b 8 = h ++ wds b := by rw [sAt, List.take_of_length_le (by rw [wds_len]; exact Nat.le_refl _)]; exact List.append_nil _
theorem hAt8 {h m : Stt} (hh : h.length = 8) (hm : m.length = 8) : hAt h m 8 = m := by rw [hAt, List.take_of_length_le (by omega), List.drop_of_length_le (by omega), List.append_nil]
theorem hAt0 (h m : Stt) : hAt h m 0 = h := rfl
theorem rounds6 (h : Stt) (b : List Byte) : roundsR (h ++ wds b) 6 = (mx6 h b, 0) := if_pos (by decide)
theorem wd_eq (b : List Byte) (i : Nat) : (valB ((b.drop (4 * i)).take 4)).setWidth 32 = wd b i := rfl
attribute [local irreducible] mx6 mixIn wd wds sAt hAt
theorem addA (g o j : Nat) : (⟨g, o, none⟩ : Addr).add j = ⟨g, o + j, none⟩ := add_plain' g o j
set_option maxRecDepth 8000 in
theorem piece_calls (g ga oa : Nat) (h : Stt) (hh : h.length = 8) (v : Value) (n : Int) (b : List Byte) (hb : b.length = 32) (c : Nat) (hc : 32 ≤ c) (w0 : World) (hp : Pre [blkI g 161 (hC h v n), rowI (some ⟨ga, oa, none⟩) (cb b)] w0) :
    Does Try.prog 94 [.pointer (some ⟨g, 0, none⟩), .slice (some ⟨ga, oa, none⟩) 32 c] w0 fun r w' => r = .tuple #[] ∧ St w0 [blkI g 161 (hC h v n), rowI (some ⟨ga, oa, none⟩) (cb b)] [blkI g 161 (hC (mixIn h b) v n), rowI (some ⟨ga, oa, none⟩) (cb b)] w' := by
  have hw := St.start hp
  have hl := hC_len hh v n
  have hcp := cp8 h hh b
  refine fn_enter Try.func94 rfl Try.ntmps94 rfl ?_
  repeat (first | refine X.p1 ?_ | refine X.p2 ?_ | refine X.p6 ?_ | refine X.p7 ?_ | refine X.p0 ?_ | refine X.p3 ?_ | refine X.p4 ?_ | refine X.p5 ?_ | refine X.p8 ?_ | refine X.p9 ?_ | refine X.q1 ?_ | refine X.q2 ?_ | refine X.q3 ?_ | refine X.q4 ?_ | refine X.q5 ?_ | refine X.q6 ?_ | refine X.q7 ?_ | refine X.q8 ?_ | refine X.q9 ?_ | refine X.q0 ?_ | refine X.m1 ?_ | refine X.m2 ?_ | refine X.m3 ?_ | refine X.m4 ?_ | refine X.m5 ?_ | refine X.m6 ?_ | refine X.l11 ?_ | refine X.l1 ?_ | refine X.l2 ?_ | refine X.l3 ?_ | refine X.l4 ?_ | refine X.l5 ?_ | refine X.l10 ?_ | refine X.l6 ?_ | refine X.l7 ?_ | refine X.l8 ?_ | refine X.l9 ?_ | refine X.m7 ?_ | refine X.m8 ?_ | (refine X.s1 ?_; intro w hw) | (refine X.s2 ?_; intro w hw) | refine X.e1 ?_ | refine X.e2 ?_ | (simp only [X.df]) | (simp (disch := omega) only [wi]))
  (first | refine X.nb ?_ | refine X.na ?_); intro g4 w _ hw
  change St w0 _ [blkI g4 180 (wC z16), _, _] w at hw
  repeat (first | refine X.p1 ?_ | refine X.p2 ?_ | refine X.p6 ?_ | refine X.p7 ?_ | refine X.p0 ?_ | refine X.p3 ?_ | refine X.p4 ?_ | refine X.p5 ?_ | refine X.p8 ?_ | refine X.p9 ?_ | refine X.q1 ?_ | refine X.q2 ?_ | refine X.q3 ?_ | refine X.q4 ?_ | refine X.q5 ?_ | refine X.q6 ?_ | refine X.q7 ?_ | refine X.q8 ?_ | refine X.q9 ?_ | refine X.q0 ?_ | refine X.m1 ?_ | refine X.m2 ?_ | refine X.m3 ?_ | refine X.m4 ?_ | refine X.m5 ?_ | refine X.m6 ?_ | refine X.l11 ?_ | refine X.l1 ?_ | refine X.l2 ?_ | refine X.l3 ?_ | refine X.l4 ?_ | refine X.l5 ?_ | refine X.l10 ?_ | refine X.l6 ?_ | refine X.l7 ?_ | refine X.l8 ?_ | refine X.l9 ?_ | refine X.m7 ?_ | refine X.m8 ?_ | (refine X.s1 ?_; intro w hw) | (refine X.s2 ?_; intro w hw) | refine X.e1 ?_ | refine X.e2 ?_ | (simp only [X.df]) | (simp (disch := omega) only [wi]))
  refine Y.mix [0, 1, 2, 3, 4] [5] [] [] (R := []) hw fun w K hw hF => ?_; have hz := hw
  repeat (first | refine Y.r1 ?_ | refine Y.r2 ?_ | refine Y.r4 ?_ | refine Y.rm1 ?_ | refine Y.rm2 ?_ | refine Y.rm3 ?_ | refine Y.rm4 ?_ | refine Y.rm5 ?_ | refine Y.rl11 ?_ | refine Y.rl1 ?_ | refine Y.rl2 ?_ | refine Y.rl3 ?_ | refine Y.rl5 ?_ | refine Y.rl6 ?_ | refine Y.ro11 ?_ | refine Y.ro1 ?_ | refine Y.ro2 ?_ | refine Y.ro3 ?_ | refine Y.ro5 ?_ | refine Y.ro6 ?_ | refine Y.rm8 ?_ | (refine Y.r3 ?_; intro w hw) | (refine Y.beg0 ?_) | refine Y.re1 ?_ | refine Y.re2 ?_ | (simp only [X.df]) | (simp (disch := omega) only [wi]))
  refine Y.act hw fun w hw0 hw => ?_
  have hat : At w g 0 (wC h) := by
    have := (Blk.at_ (hw.pick (i := blkI g 161 (hC h v n)) (by (repeat (first | (with_reducible exact Pick.here) | (with_reducible exact Put.here) | (with_reducible apply Pick.there) | (with_reducible apply Put.there))))) 0).take 8
    rwa [List.drop_zero, hC, List.take_left' (by simp [hh])] at this
  refine ow_copyAt tab (hw.pick (i := blkI g4 180 (wC z16)) (by (repeat (first | (with_reducible exact Pick.here) | (with_reducible exact Put.here) | (with_reducible apply Pick.there) | (with_reducible apply Put.there))))) hat rfl rfl rfl rfl rfl (by simp [hh]) (by rw [List.length_map, hh, zC_len]; decide) (wC_one h) (fun w' k' b' _ => ?_)
  rw [hcp] at b'
  have hw := hw.put (cs := wC z16) (by repeat (first | exact Put.here | apply Put.there)) k' b'
  refine Y.midS hw0 hF hw fun K hw hF => ?_
  repeat (first | refine Y.r1 ?_ | refine Y.r2 ?_ | refine Y.r4 ?_ | refine Y.rm1 ?_ | refine Y.rm2 ?_ | refine Y.rm3 ?_ | refine Y.rm4 ?_ | refine Y.rm5 ?_ | refine Y.rl11 ?_ | refine Y.rl1 ?_ | refine Y.rl2 ?_ | refine Y.rl3 ?_ | refine Y.rl5 ?_ | refine Y.rl6 ?_ | refine Y.ro11 ?_ | refine Y.ro1 ?_ | refine Y.ro2 ?_ | refine Y.ro3 ?_ | refine Y.ro5 ?_ | refine Y.ro6 ?_ | refine Y.rm8 ?_ | (refine Y.r3 ?_; intro w hw) | (refine Y.beg0 ?_) | refine Y.re1 ?_ | refine Y.re2 ?_ | (simp only [X.df]) | (simp (disch := omega) only [wi]))
  repeat (first | refine X.p1 ?_ | refine X.p2 ?_ | refine X.p6 ?_ | refine X.p7 ?_ | refine X.p0 ?_ | refine X.p3 ?_ | refine X.p4 ?_ | refine X.p5 ?_ | refine X.p8 ?_ | refine X.p9 ?_ | refine X.q1 ?_ | refine X.q2 ?_ | refine X.q3 ?_ | refine X.q4 ?_ | refine X.q5 ?_ | refine X.q6 ?_ | refine X.q7 ?_ | refine X.q8 ?_ | refine X.q9 ?_ | refine X.q0 ?_ | refine X.m1 ?_ | refine X.m2 ?_ | refine X.m3 ?_ | refine X.m4 ?_ | refine X.m5 ?_ | refine X.m6 ?_ | refine X.l11 ?_ | refine X.l1 ?_ | refine X.l2 ?_ | refine X.l3 ?_ | refine X.l4 ?_ | refine X.l5 ?_ | refine X.l10 ?_ | refine X.l6 ?_ | refine X.l7 ?_ | refine X.l8 ?_ | refine X.l9 ?_ | refine X.m7 ?_ | refine X.m8 ?_ | (refine X.s1 ?_; intro w hw) | (refine X.s2 ?_; intro w hw) | refine X.e1 ?_ | refine X.e2 ?_ | (simp only [X.df]) | (simp (disch := omega) only [wi]))
  refine X.loop (fun i : Nat => [(0, .pointer (some ⟨g, 0, none⟩)), (1, .slice (some ⟨ga, oa, none⟩) 32 c), (4, .pointer (some ⟨g4, 0, none⟩)), (13, iv i)])
    (fun i w' => i ≤ 8 ∧ St w0 [blkI g 161 (hC h v n), rowI (some ⟨ga, oa, none⟩) (cb b)] [blkI g4 180 (wC (sAt h b i)), blkI g 161 (hC h v n), rowI (some ⟨ga, oa, none⟩) (cb b)] w') (fun i => 8 - i) 0 ⟨Nat.zero_le _, hw⟩ ?_
  rintro i w ⟨hi, hw⟩
  have hsl := sAt_len hh b i hi
  have hsl2 : (wC (sAt h b i)).length = 16 := by rw [List.length_map, hsl]
  repeat (first | refine X.p1 ?_ | refine X.p2 ?_ | refine X.p6 ?_ | refine X.p7 ?_ | refine X.p0 ?_ | refine X.p3 ?_ | refine X.p4 ?_ | refine X.p5 ?_ | refine X.p8 ?_ | refine X.p9 ?_ | refine X.q1 ?_ | refine X.q2 ?_ | refine X.q3 ?_ | refine X.q4 ?_ | refine X.q5 ?_ | refine X.q6 ?_ | refine X.q7 ?_ | refine X.q8 ?_ | refine X.q9 ?_ | refine X.q0 ?_ | refine X.m1 ?_ | refine X.m2 ?_ | refine X.m3 ?_ | refine X.m4 ?_ | refine X.m5 ?_ | refine X.m6 ?_ | refine X.l11 ?_ | refine X.l1 ?_ | refine X.l2 ?_ | refine X.l3 ?_ | refine X.l4 ?_ | refine X.l5 ?_ | refine X.l10 ?_ | refine X.l6 ?_ | refine X.l7 ?_ | refine X.l8 ?_ | refine X.l9 ?_ | refine X.m7 ?_ | refine X.m8 ?_ | (refine X.s1 ?_; intro w hw) | (refine X.s2 ?_; intro w hw) | refine X.e1 ?_ | refine X.e2 ?_ | (simp only [X.df]) | (simp (disch := omega) only [wi]))
  refine X.cond (fun hlt => ?_) (fun hge => ?_)
  · have hlt : i < 8 := by omega
    have hst : splice (wC (sAt h b i)) (0 + ((8 : Int) + (i : Int)).toNat * 1) [u32 (wd b i)] = wC (sAt h b (i + 1)) := by
      rw [← sAt_step hh b i hlt]; exact setP (sAt h b i) hsl (8 + i) (by omega) (wd b i)
    have hpl : ((b.drop (4 * i)).take 4).length = 4 := by rw [List.length_take, List.length_drop]; omega
    have hpv : ((cb b).drop (4 * i)).take 4 = cb ((b.drop (4 * i)).take 4) := by simp only [cb, List.map_take, List.map_drop]
    have hpc : (cb ((b.drop (4 * i)).take 4)).length = 4 := by rw [List.length_map, hpl]
    repeat (first | refine X.p1 ?_ | refine X.p2 ?_ | refine X.p6 ?_ | refine X.p7 ?_ | refine X.p0 ?_ | refine X.p3 ?_ | refine X.p4 ?_ | refine X.p5 ?_ | refine X.p8 ?_ | refine X.p9 ?_ | refine X.q1 ?_ | refine X.q2 ?_ | refine X.q3 ?_ | refine X.q4 ?_ | refine X.q5 ?_ | refine X.q6 ?_ | refine X.q7 ?_ | refine X.q8 ?_ | refine X.q9 ?_ | refine X.q0 ?_ | refine X.m1 ?_ | refine X.m2 ?_ | refine X.m3 ?_ | refine X.m4 ?_ | refine X.m5 ?_ | refine X.m6 ?_ | refine X.l11 ?_ | refine X.l1 ?_ | refine X.l2 ?_ | refine X.l3 ?_ | refine X.l4 ?_ | refine X.l5 ?_ | refine X.l10 ?_ | refine X.l6 ?_ | refine X.l7 ?_ | refine X.l8 ?_ | refine X.l9 ?_ | refine X.m7 ?_ | refine X.m8 ?_ | (refine X.s1 ?_; intro w hw) | (refine X.s2 ?_; intro w hw) | refine X.e1 ?_ | refine X.e2 ?_ | (simp only [X.df]) | (simp (disch := omega) only [wi]))
    refine ow_sliceSl tab (vlo := some (.int .i64 (4 * (i : Int)))) (vhi := some (.int .i64 (4 * (i : Int) + 4))) (l := 4 * i) (h := 4 * i + 4) rfl rfl ⟨_, rfl, rfl⟩ ⟨_, rfl, rfl⟩ rfl rfl rfl rfl (by omega) (by omega) (by omega) ?_
    rw [show sA (some ⟨ga, oa, none⟩) (4 * i) c 1 = some ⟨ga, oa + 4 * i, none⟩ from by unfold sA; rw [if_neg (by omega), Option.map_some, addA, Nat.mul_one], show 4 * i + 4 - 4 * i = 4 from by omega]
    repeat (first | refine X.p1 ?_ | refine X.p2 ?_ | refine X.p6 ?_ | refine X.p7 ?_ | refine X.p0 ?_ | refine X.p3 ?_ | refine X.p4 ?_ | refine X.p5 ?_ | refine X.p8 ?_ | refine X.p9 ?_ | refine X.q1 ?_ | refine X.q2 ?_ | refine X.q3 ?_ | refine X.q4 ?_ | refine X.q5 ?_ | refine X.q6 ?_ | refine X.q7 ?_ | refine X.q8 ?_ | refine X.q9 ?_ | refine X.q0 ?_ | refine X.m1 ?_ | refine X.m2 ?_ | refine X.m3 ?_ | refine X.m4 ?_ | refine X.m5 ?_ | refine X.m6 ?_ | refine X.l11 ?_ | refine X.l1 ?_ | refine X.l2 ?_ | refine X.l3 ?_ | refine X.l4 ?_ | refine X.l5 ?_ | refine X.l10 ?_ | refine X.l6 ?_ | refine X.l7 ?_ | refine X.l8 ?_ | refine X.l9 ?_ | refine X.m7 ?_ | refine X.m8 ?_ | (refine X.s1 ?_; intro w hw) | (refine X.s2 ?_; intro w hw) | refine X.e1 ?_ | refine X.e2 ?_ | (simp only [X.df]) | (simp (disch := omega) only [wi]))
    refine X.callN rfl rfl Try.func106 (of32_calls ((b.drop (4 * i)).take 4) hpl w) fun w _ hw => ?_
    rw [wd_eq]
    repeat (first | refine X.p1 ?_ | refine X.p2 ?_ | refine X.p6 ?_ | refine X.p7 ?_ | refine X.p0 ?_ | refine X.p3 ?_ | refine X.p4 ?_ | refine X.p5 ?_ | refine X.p8 ?_ | refine X.p9 ?_ | refine X.q1 ?_ | refine X.q2 ?_ | refine X.q3 ?_ | refine X.q4 ?_ | refine X.q5 ?_ | refine X.q6 ?_ | refine X.q7 ?_ | refine X.q8 ?_ | refine X.q9 ?_ | refine X.q0 ?_ | refine X.m1 ?_ | refine X.m2 ?_ | refine X.m3 ?_ | refine X.m4 ?_ | refine X.m5 ?_ | refine X.m6 ?_ | refine X.l11 ?_ | refine X.l1 ?_ | refine X.l2 ?_ | refine X.l3 ?_ | refine X.l4 ?_ | refine X.l5 ?_ | refine X.l10 ?_ | refine X.l6 ?_ | refine X.l7 ?_ | refine X.l8 ?_ | refine X.l9 ?_ | refine X.m7 ?_ | refine X.m8 ?_ | (refine X.s1 ?_; intro w hw) | (refine X.s2 ?_; intro w hw) | refine X.e1 ?_ | refine X.e2 ?_ | (simp only [X.df]) | (simp (disch := omega) only [wi]))
    exact X.again (i + 1) ⟨by omega, hw⟩ (by omega)
  obtain rfl : i = 8 := by omega
  rw [sAt8] at hw hsl hsl2
  have hwo := wC_one (h ++ wds b)
  repeat (first | refine X.p1 ?_ | refine X.p2 ?_ | refine X.p6 ?_ | refine X.p7 ?_ | refine X.p0 ?_ | refine X.p3 ?_ | refine X.p4 ?_ | refine X.p5 ?_ | refine X.p8 ?_ | refine X.p9 ?_ | refine X.q1 ?_ | refine X.q2 ?_ | refine X.q3 ?_ | refine X.q4 ?_ | refine X.q5 ?_ | refine X.q6 ?_ | refine X.q7 ?_ | refine X.q8 ?_ | refine X.q9 ?_ | refine X.q0 ?_ | refine X.m1 ?_ | refine X.m2 ?_ | refine X.m3 ?_ | refine X.m4 ?_ | refine X.m5 ?_ | refine X.m6 ?_ | refine X.l11 ?_ | refine X.l1 ?_ | refine X.l2 ?_ | refine X.l3 ?_ | refine X.l4 ?_ | refine X.l5 ?_ | refine X.l10 ?_ | refine X.l6 ?_ | refine X.l7 ?_ | refine X.l8 ?_ | refine X.l9 ?_ | refine X.m7 ?_ | refine X.m8 ?_ | (refine X.s1 ?_; intro w hw) | (refine X.s2 ?_; intro w hw) | refine X.e1 ?_ | refine X.e2 ?_ | (simp only [X.df]) | (simp (disch := omega) only [wi]))
  refine X.callN rfl rfl Try.func107 (rounds_calls (h ++ wds b) hsl 6 (by unfold I64; omega) w) fun w _ hw => ?_
  rw [rounds6]
  have hml := mx6_len hh b
  have hml2 : (wC (mx6 h b)).length = 16 := by rw [List.length_map, hml]
  have hmo := wC_one (mx6 h b)
  repeat (first | refine X.p1 ?_ | refine X.p2 ?_ | refine X.p6 ?_ | refine X.p7 ?_ | refine X.p0 ?_ | refine X.p3 ?_ | refine X.p4 ?_ | refine X.p5 ?_ | refine X.p8 ?_ | refine X.p9 ?_ | refine X.q1 ?_ | refine X.q2 ?_ | refine X.q3 ?_ | refine X.q4 ?_ | refine X.q5 ?_ | refine X.q6 ?_ | refine X.q7 ?_ | refine X.q8 ?_ | refine X.q9 ?_ | refine X.q0 ?_ | refine X.m1 ?_ | refine X.m2 ?_ | refine X.m3 ?_ | refine X.m4 ?_ | refine X.m5 ?_ | refine X.m6 ?_ | refine X.l11 ?_ | refine X.l1 ?_ | refine X.l2 ?_ | refine X.l3 ?_ | refine X.l4 ?_ | refine X.l5 ?_ | refine X.l10 ?_ | refine X.l6 ?_ | refine X.l7 ?_ | refine X.l8 ?_ | refine X.l9 ?_ | refine X.m7 ?_ | refine X.m8 ?_ | (refine X.s1 ?_; intro w hw) | (refine X.s2 ?_; intro w hw) | refine X.e1 ?_ | refine X.e2 ?_ | (simp only [X.df]) | (simp (disch := omega) only [wi]))
  have hmi := mixIn_len h b
  refine X.loop (fun i : Nat => [(0, .pointer (some ⟨g, 0, none⟩)), (4, .pointer (some ⟨g4, 0, none⟩)), (35, iv i)])
    (fun i w' => i ≤ 8 ∧ St w0 [blkI g 161 (hC h v n), rowI (some ⟨ga, oa, none⟩) (cb b)] [blkI g4 180 (wC (mx6 h b)), blkI g 161 (hC (hAt h (mixIn h b) i) v n), rowI (some ⟨ga, oa, none⟩) (cb b)] w') (fun i => 8 - i) 0 ⟨Nat.zero_le _, by rw [hAt0]; exact hw⟩ ?_
  rintro i w ⟨hi, hw⟩
  have hhl := hAt_len hh hmi i hi
  have hhl2 := hC_len hhl v n
  repeat (first | refine X.p1 ?_ | refine X.p2 ?_ | refine X.p6 ?_ | refine X.p7 ?_ | refine X.p0 ?_ | refine X.p3 ?_ | refine X.p4 ?_ | refine X.p5 ?_ | refine X.p8 ?_ | refine X.p9 ?_ | refine X.q1 ?_ | refine X.q2 ?_ | refine X.q3 ?_ | refine X.q4 ?_ | refine X.q5 ?_ | refine X.q6 ?_ | refine X.q7 ?_ | refine X.q8 ?_ | refine X.q9 ?_ | refine X.q0 ?_ | refine X.m1 ?_ | refine X.m2 ?_ | refine X.m3 ?_ | refine X.m4 ?_ | refine X.m5 ?_ | refine X.m6 ?_ | refine X.l11 ?_ | refine X.l1 ?_ | refine X.l2 ?_ | refine X.l3 ?_ | refine X.l4 ?_ | refine X.l5 ?_ | refine X.l10 ?_ | refine X.l6 ?_ | refine X.l7 ?_ | refine X.l8 ?_ | refine X.l9 ?_ | refine X.m7 ?_ | refine X.m8 ?_ | (refine X.s1 ?_; intro w hw) | (refine X.s2 ?_; intro w hw) | refine X.e1 ?_ | refine X.e2 ?_ | (simp only [X.df]) | (simp (disch := omega) only [wi]))
  refine X.cond (fun hlt => ?_) (fun hge => ?_)
  · have hlt : i < 8 := by omega
    have r1 := nthH hhl v n i hlt
    rw [hAt_get hh hmi i hlt] at r1
    have r2 := getP (mx6 h b) hml i (by omega)
    have r3 : nth (wC (mx6 h b)) (0 + ((i : Int) + 8).toNat * 1) = some (u32 ((mx6 h b).getD (8 + i) 0)) := by
      have := getP (mx6 h b) hml (8 + i) (by omega)
      rwa [show (((8 + i : Nat)) : Int) = (i : Int) + 8 from by omega] at this
    have hst := setH hhl v n i hlt (h.getD i 0 ^^^ ((mx6 h b).getD i 0 ^^^ (mx6 h b).getD (8 + i) 0))
    rw [hAt_step hh hmi i hlt _ (mixIn_get h b i hlt)] at hst
    repeat (first | refine X.p1 ?_ | refine X.p2 ?_ | refine X.p6 ?_ | refine X.p7 ?_ | refine X.p0 ?_ | refine X.p3 ?_ | refine X.p4 ?_ | refine X.p5 ?_ | refine X.p8 ?_ | refine X.p9 ?_ | refine X.q1 ?_ | refine X.q2 ?_ | refine X.q3 ?_ | refine X.q4 ?_ | refine X.q5 ?_ | refine X.q6 ?_ | refine X.q7 ?_ | refine X.q8 ?_ | refine X.q9 ?_ | refine X.q0 ?_ | refine X.m1 ?_ | refine X.m2 ?_ | refine X.m3 ?_ | refine X.m4 ?_ | refine X.m5 ?_ | refine X.m6 ?_ | refine X.l11 ?_ | refine X.l1 ?_ | refine X.l2 ?_ | refine X.l3 ?_ | refine X.l4 ?_ | refine X.l5 ?_ | refine X.l10 ?_ | refine X.l6 ?_ | refine X.l7 ?_ | refine X.l8 ?_ | refine X.l9 ?_ | refine X.m7 ?_ | refine X.m8 ?_ | (refine X.s1 ?_; intro w hw) | (refine X.s2 ?_; intro w hw) | refine X.e1 ?_ | refine X.e2 ?_ | (simp only [X.df]) | (simp (disch := omega) only [wi]))
    refine Y.mix [0, 1, 2, 3, 4, 5, 6, 7, 8, 9, 10, 11, 12, 13, 14, 15, 16, 17] [18] [(5, .o), (8, .o), (12, .o)] [] (R := []) hw fun w K hw hF => ?_; have hz := hw
    repeat (first | refine Y.r1 ?_ | refine Y.r2 ?_ | refine Y.r4 ?_ | refine Y.rm1 ?_ | refine Y.rm2 ?_ | refine Y.rm3 ?_ | refine Y.rm4 ?_ | refine Y.rm5 ?_ | refine Y.rl11 ?_ | refine Y.rl1 ?_ | refine Y.rl2 ?_ | refine Y.rl3 ?_ | refine Y.rl5 ?_ | refine Y.rl6 ?_ | refine Y.ro11 ?_ | refine Y.ro1 ?_ | refine Y.ro2 ?_ | refine Y.ro3 ?_ | refine Y.ro5 ?_ | refine Y.ro6 ?_ | refine Y.rm8 ?_ | (refine Y.r3 ?_; intro w hw) | (refine Y.beg0 ?_) | refine Y.re1 ?_ | refine Y.re2 ?_ | (simp only [X.df, xor_u32]) | (simp (disch := omega) only [wi]))
    refine Y.act hw fun w hw0 hw => ?_; (first | (refine X.s1 ?_; intro w hw) | (refine X.s2 ?_; intro w hw)); refine Y.midS hw0 hF hw fun K hw hF => ?_
    repeat (first | refine Y.r1 ?_ | refine Y.r2 ?_ | refine Y.r4 ?_ | refine Y.rm1 ?_ | refine Y.rm2 ?_ | refine Y.rm3 ?_ | refine Y.rm4 ?_ | refine Y.rm5 ?_ | refine Y.rl11 ?_ | refine Y.rl1 ?_ | refine Y.rl2 ?_ | refine Y.rl3 ?_ | refine Y.rl5 ?_ | refine Y.rl6 ?_ | refine Y.ro11 ?_ | refine Y.ro1 ?_ | refine Y.ro2 ?_ | refine Y.ro3 ?_ | refine Y.ro5 ?_ | refine Y.ro6 ?_ | refine Y.rm8 ?_ | (refine Y.r3 ?_; intro w hw) | (refine Y.beg0 ?_) | refine Y.re1 ?_ | refine Y.re2 ?_ | (simp only [X.df]) | (simp (disch := omega) only [wi]))
    repeat (first | refine X.p1 ?_ | refine X.p2 ?_ | refine X.p6 ?_ | refine X.p7 ?_ | refine X.p0 ?_ | refine X.p3 ?_ | refine X.p4 ?_ | refine X.p5 ?_ | refine X.p8 ?_ | refine X.p9 ?_ | refine X.q1 ?_ | refine X.q2 ?_ | refine X.q3 ?_ | refine X.q4 ?_ | refine X.q5 ?_ | refine X.q6 ?_ | refine X.q7 ?_ | refine X.q8 ?_ | refine X.q9 ?_ | refine X.q0 ?_ | refine X.m1 ?_ | refine X.m2 ?_ | refine X.m3 ?_ | refine X.m4 ?_ | refine X.m5 ?_ | refine X.m6 ?_ | refine X.l11 ?_ | refine X.l1 ?_ | refine X.l2 ?_ | refine X.l3 ?_ | refine X.l4 ?_ | refine X.l5 ?_ | refine X.l10 ?_ | refine X.l6 ?_ | refine X.l7 ?_ | refine X.l8 ?_ | refine X.l9 ?_ | refine X.m7 ?_ | refine X.m8 ?_ | (refine X.s1 ?_; intro w hw) | (refine X.s2 ?_; intro w hw) | refine X.e1 ?_ | refine X.e2 ?_ | (simp only [X.df]) | (simp (disch := omega) only [wi]))
    exact X.again (i + 1) ⟨by omega, hw⟩ (by omega)
  obtain rfl : i = 8 := by omega
  rw [hAt8 hh hmi] at hw
  repeat (first | refine X.p1 ?_ | refine X.p2 ?_ | refine X.p6 ?_ | refine X.p7 ?_ | refine X.p0 ?_ | refine X.p3 ?_ | refine X.p4 ?_ | refine X.p5 ?_ | refine X.p8 ?_ | refine X.p9 ?_ | refine X.q1 ?_ | refine X.q2 ?_ | refine X.q3 ?_ | refine X.q4 ?_ | refine X.q5 ?_ | refine X.q6 ?_ | refine X.q7 ?_ | refine X.q8 ?_ | refine X.q9 ?_ | refine X.q0 ?_ | refine X.m1 ?_ | refine X.m2 ?_ | refine X.m3 ?_ | refine X.m4 ?_ | refine X.m5 ?_ | refine X.m6 ?_ | refine X.l11 ?_ | refine X.l1 ?_ | refine X.l2 ?_ | refine X.l3 ?_ | refine X.l4 ?_ | refine X.l5 ?_ | refine X.l10 ?_ | refine X.l6 ?_ | refine X.l7 ?_ | refine X.l8 ?_ | refine X.l9 ?_ | refine X.m7 ?_ | refine X.m8 ?_ | (refine X.s1 ?_; intro w hw) | (refine X.s2 ?_; intro w hw) | refine X.e1 ?_ | refine X.e2 ?_ | (simp only [X.df]) | (simp (disch := omega) only [wi]))
  refine xw_end ?_
  refine xw_ret (rs := []) (vs := []) Try.results94 trivial ?_
  exact ⟨rfl, hw.sub (by (repeat (first | (with_reducible exact Split.nil) | ((with_reducible apply Split.cons); (next => (repeat (first | (with_reducible exact Pick.here) | (with_reducible exact Put.here) | (with_reducible apply Pick.there) | (with_reducible apply Put.there))))))))⟩
end Go.Proofs.Ytbfpgigbakhplaa.Dig
