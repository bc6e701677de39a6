/- Four inodes out of a leaf: walked. -/
import Derived.Test.YtbgjhmdedillhaaInoD1
set_option linter.unusedVariables false
set_option linter.unusedSimpArgs false
namespace Go.Proofs.Ytbgjhmdedillhaa.Ind
open Go.RowKit Go.Proofs.Ytbgjhmdedillhaa.Sx Go.Proofs.Ytbgjhmdedillhaa.Mx Go.Proofs.Ytbgjhmdedillhaa.Bw Go.Proofs.Ytbgjhmdedillhaa.By Go.Proofs.Ytbgjhmdedillhaa.Eqs Go.Proofs.Ytbgjhmdedillhaa.Qx Go.Proofs.Ytbgjhmdedillhaa.Ap Go.Proofs.Ytbgjhmdedillhaa.Mi Go.Proofs.Ytbgjhmdedillhaa.Stm Go.Proofs.Ytbgjhmdedillhaa.Fl Go.Proofs.Ytbgjhmdedillhaa.TrW Go.Proofs.Ytbgjhmdedillhaa.Ino Go.Proofs.Ytbgjhmdedillhaa.Nd Go.Proofs.Ytbgjhmdedillhaa.Wd Go.Proofs.Ytbgjhmdedillhaa.Num Go.Proofs.Ytbgjhmdedillhaa.As Go.Proofs.Ytbgjhmdedillhaa.Mf Go.Proofs.Ytbgjhmdedillhaa.Bd
attribute [local irreducible] Ow Cw Xw Mw
set_option maxHeartbeats 4000000
/-- A piece of a leaf; all four. -/
def pc (b : List Byte) (i : Nat) : List Byte := (b.drop (i * 64)).take 64
def pcs (b : List Byte) : List (List Byte) := [pc b 0, pc b 1, pc b 2, pc b 3]
theorem pcs_get (b : List Byte) (i : Nat) (hi : i < (pcs b).length) : (pcs b)[i] = pc b i := by
  have hi : i < 4 := hi
  rcases (by omega : i = 0 ∨ i = 1 ∨ i = 2 ∨ i = 3) with rfl | rfl | rfl | rfl <;> rfl
theorem pc_len {b : List Byte} (h : b.length = 256) (i : Nat) (hi : i < 4) : (pc b i).length = 64 := by rw [pc, List.length_take, List.length_drop]; omega
noncomputable def kF (b : List Byte) : Nat := (pcs b).findIdx fun s => !goodB s
theorem kF_ok {b : List Byte} {i : Nat} (h : i < kF b) (hi : i < 4) : GoodB (pc b i) := by
  have := List.not_of_lt_findIdx (xs := pcs b) h
  have this : (!goodB (pc b i)) = false := by rw [← pcs_get b i hi]; exact this
  by_cases c : GoodB (pc b i)
  · exact c
  · rw [goodB_f c] at this; exact absurd this (by decide)
theorem kF_bad {b : List Byte} {i : Nat} (h : i = kF b) (hi : i < 4) : ¬ GoodB (pc b i) := fun c => by
  have h2 : (pcs b).findIdx (fun s => !goodB s) < (pcs b).length := by show kF b < 4; omega
  have := List.findIdx_getElem (xs := pcs b) (p := fun x => !goodB x) (w := h2)
  have e : goodB ((pcs b)[(pcs b).findIdx (fun s => !goodB s)]'h2) = true := by
    have : (pcs b)[(pcs b).findIdx (fun s => !goodB s)]'h2 = pc b i := by rw [pcs_get b _ h2]; rw [h]; rfl
    rw [this]; exact goodB_t c
  rw [e] at this
  exact absurd this (by decide)
theorem kF_step {b : List Byte} {i : Nat} (hi : i < 4) (h : i ≤ kF b) (c : GoodB (pc b i)) : i + 1 ≤ kF b := by
  have : i ≠ kF b := fun e => kF_bad e hi c
  omega
theorem kF_here {b : List Byte} {i : Nat} (hi : i < 4) (h : i ≤ kF b) (c : ¬ GoodB (pc b i)) : kF b = i := by
  by_cases e : i < kF b
  · exact absurd (kF_ok e hi) c
  · omega
def no4 : List In := [noIn, noIn, noIn, noIn]
theorem no4_ok : Ok4 no4 := ⟨rfl, fun x hx => by simp [no4] at hx; rw [hx]; exact noIn_ok⟩
noncomputable def flI (b : List Byte) (i : Nat) : List In := ((pcs b).take i).map decX ++ no4.drop i
theorem flI_ok (b : List Byte) (i : Nat) (hi : i ≤ 4) : Ok4 (flI b i) := by
  refine ⟨by simp only [flI, List.length_append, List.length_map, List.length_take, List.length_drop, pcs, no4, List.length_cons, List.length_nil]; omega, fun x hx => ?_⟩
  rcases List.mem_append.1 hx with h | h
  · obtain ⟨s, _, rfl⟩ := List.mem_map.1 h; exact decX_ok s
  · exact no4_ok.2 x (List.mem_of_mem_drop h)
theorem splice_cat (A B C D : List Value) (k : Nat) (h : A.length = k) (hd : D.length = B.length) : splice (A ++ (B ++ C)) k D = A ++ (D ++ C) := by subst h; exact splice_mid A B D C hd
theorem flI_step (b : List Byte) (i : Nat) (hi : i < 4) : splice (inCs (flI b i)) (0 + (i : Int).toNat * 38) (inC (decX (pc b i))) = inCs (flI b (i + 1)) := by
  have e1 : flI b i = ((pcs b).take i).map decX ++ (noIn :: no4.drop (i + 1)) := by
    rcases (by omega : i = 0 ∨ i = 1 ∨ i = 2 ∨ i = 3) with rfl | rfl | rfl | rfl <;> rfl
  have e2 : flI b (i + 1) = ((pcs b).take i).map decX ++ (decX (pc b i) :: no4.drop (i + 1)) := by
    rcases (by omega : i = 0 ∨ i = 1 ∨ i = 2 ∨ i = 3) with rfl | rfl | rfl | rfl <;> rfl
  have hl : (inCs (((pcs b).take i).map decX)).length = 0 + (i : Int).toNat * 38 := by
    rw [inCs, flat_len (sz := 38) _ (fun x hx => by obtain ⟨s, _, rfl⟩ := List.mem_map.1 hx; exact inC_len (decX_ok s)), List.length_map, List.length_take]
    simp only [pcs, List.length_cons, List.length_nil]; omega
  rw [e1, e2, inCs, inCs, List.flatMap_append, List.flatMap_append, List.flatMap_cons, List.flatMap_cons]
  exact splice_cat _ _ _ _ _ hl (by rw [inC_len (decX_ok _), inC_len noIn_ok])
noncomputable def flX (b : List Byte) : List In := if kF b < 4 then no4 else (pcs b).map decX
noncomputable def flA (b : List Byte) : Nat := if kF b < 4 then kF b else 0
noncomputable def flE (b : List Byte) : Int := if kF b < 4 then 140 else 0
noncomputable def flR (b : List Byte) : Int := if kF b < 4 then (kF b : Int) else -1
theorem flX_ok (b : List Byte) : Ok4 (flX b) := by
  unfold flX
  split
  · exact no4_ok
  · have := flI_ok b 4 (Nat.le_refl _)
    rwa [show flI b 4 = (pcs b).map decX from List.append_nil _] at this
theorem pc_row {w w0 : World} {M0 M M' : List Stm.Item} {g : Nat} {t : TypeId} {b : List Byte} (hw : St w0 M0 M w) (hp : Pick (blkI g t (cb b)) M M') (hb : b.length = 256) (i : Nat) (hi : i < 4) : Pre [rowI (some ⟨g, i * 64, none⟩) (cb (pc b i))] w := by
  refine .cons_ro .nil ?_ rfl (fun j hj => nomatch hj)
  refine .inr ⟨g, i * 64, rfl, ?_⟩
  have h1 := At.take (Blk.at_ (hw.pick hp) (i * 64)) 64
  rwa [show ((cb b).drop (i * 64)).take 64 = cb (pc b i) from by simp only [pc, cb, List.map_take, List.map_drop]] at h1
set_option maxRecDepth 20000 in
theorem fromLeaf_calls (b : List Byte) (hb : b.length = 256) (w0 : World) : Does Try.prog 33 [blk b] w0 fun v w' => v = .tuple #[.agg (inCs (flX b)).toArray, i64v (flA b), i64v (flE b)] ∧ Kp No w0 w' := by
  have hw := St.start (w := w0) .nil
  have hbl : (cb b).length = 256 := by rw [List.length_map, hb]
  refine fn_enter Try.func33 rfl Try.ntmps33 rfl ?_
  repeat (first | refine X.p1 ?_ | refine X.p2 ?_ | refine X.p6 ?_ | refine X.p7 ?_ | refine X.p0 ?_ | refine X.p3 ?_ | refine X.p4 ?_ | refine X.p5 ?_ | refine X.p8 ?_ | refine X.p9 ?_ | refine X.q1 ?_ | refine X.q2 ?_ | refine X.q3 ?_ | refine X.q4 ?_ | refine X.q5 ?_ | refine X.q6 ?_ | refine X.q7 ?_ | refine X.q8 ?_ | refine X.q9 ?_ | refine X.q0 ?_ | refine X.m1 ?_ | refine X.m2 ?_ | refine X.m3 ?_ | refine X.m4 ?_ | refine X.m5 ?_ | refine X.m6 ?_ | refine X.l11 ?_ | refine X.l1 ?_ | refine X.l2 ?_ | refine X.l3 ?_ | refine X.l4 ?_ | refine X.l5 ?_ | refine X.l10 ?_ | refine X.l6 ?_ | refine X.l7 ?_ | refine X.l8 ?_ | refine X.l9 ?_ | refine X.m7 ?_ | refine X.m8 ?_ | (refine X.s1 ?_; intro w hw) | (refine X.s2 ?_; intro w hw) | refine X.e1 ?_ | refine X.e2 ?_ | (simp only [X.df]) | (simp (disch := omega) only [wi]))
  (first | refine X.nb ?_ | refine X.na ?_); intro g1 w _ hw
  repeat (first | refine X.p1 ?_ | refine X.p2 ?_ | refine X.p6 ?_ | refine X.p7 ?_ | refine X.p0 ?_ | refine X.p3 ?_ | refine X.p4 ?_ | refine X.p5 ?_ | refine X.p8 ?_ | refine X.p9 ?_ | refine X.q1 ?_ | refine X.q2 ?_ | refine X.q3 ?_ | refine X.q4 ?_ | refine X.q5 ?_ | refine X.q6 ?_ | refine X.q7 ?_ | refine X.q8 ?_ | refine X.q9 ?_ | refine X.q0 ?_ | refine X.m1 ?_ | refine X.m2 ?_ | refine X.m3 ?_ | refine X.m4 ?_ | refine X.m5 ?_ | refine X.m6 ?_ | refine X.l11 ?_ | refine X.l1 ?_ | refine X.l2 ?_ | refine X.l3 ?_ | refine X.l4 ?_ | refine X.l5 ?_ | refine X.l10 ?_ | refine X.l6 ?_ | refine X.l7 ?_ | refine X.l8 ?_ | refine X.l9 ?_ | refine X.m7 ?_ | refine X.m8 ?_ | (refine X.s1 ?_; intro w hw) | (refine X.s2 ?_; intro w hw) | refine X.e1 ?_ | refine X.e2 ?_ | (simp only [X.df]) | (simp (disch := omega) only [wi]))
  (first | refine X.nb ?_ | refine X.na ?_); intro g2 w _ hw
  repeat (first | refine X.p1 ?_ | refine X.p2 ?_ | refine X.p6 ?_ | refine X.p7 ?_ | refine X.p0 ?_ | refine X.p3 ?_ | refine X.p4 ?_ | refine X.p5 ?_ | refine X.p8 ?_ | refine X.p9 ?_ | refine X.q1 ?_ | refine X.q2 ?_ | refine X.q3 ?_ | refine X.q4 ?_ | refine X.q5 ?_ | refine X.q6 ?_ | refine X.q7 ?_ | refine X.q8 ?_ | refine X.q9 ?_ | refine X.q0 ?_ | refine X.m1 ?_ | refine X.m2 ?_ | refine X.m3 ?_ | refine X.m4 ?_ | refine X.m5 ?_ | refine X.m6 ?_ | refine X.l11 ?_ | refine X.l1 ?_ | refine X.l2 ?_ | refine X.l3 ?_ | refine X.l4 ?_ | refine X.l5 ?_ | refine X.l10 ?_ | refine X.l6 ?_ | refine X.l7 ?_ | refine X.l8 ?_ | refine X.l9 ?_ | refine X.m7 ?_ | refine X.m8 ?_ | (refine X.s1 ?_; intro w hw) | (refine X.s2 ?_; intro w hw) | refine X.e1 ?_ | refine X.e2 ?_ | (simp only [X.df]) | (simp (disch := omega) only [wi]))
  (first | refine X.nb ?_ | refine X.na ?_); intro g5 w _ hw
  repeat (first | refine X.p1 ?_ | refine X.p2 ?_ | refine X.p6 ?_ | refine X.p7 ?_ | refine X.p0 ?_ | refine X.p3 ?_ | refine X.p4 ?_ | refine X.p5 ?_ | refine X.p8 ?_ | refine X.p9 ?_ | refine X.q1 ?_ | refine X.q2 ?_ | refine X.q3 ?_ | refine X.q4 ?_ | refine X.q5 ?_ | refine X.q6 ?_ | refine X.q7 ?_ | refine X.q8 ?_ | refine X.q9 ?_ | refine X.q0 ?_ | refine X.m1 ?_ | refine X.m2 ?_ | refine X.m3 ?_ | refine X.m4 ?_ | refine X.m5 ?_ | refine X.m6 ?_ | refine X.l11 ?_ | refine X.l1 ?_ | refine X.l2 ?_ | refine X.l3 ?_ | refine X.l4 ?_ | refine X.l5 ?_ | refine X.l10 ?_ | refine X.l6 ?_ | refine X.l7 ?_ | refine X.l8 ?_ | refine X.l9 ?_ | refine X.m7 ?_ | refine X.m8 ?_ | (refine X.s1 ?_; intro w hw) | (refine X.s2 ?_; intro w hw) | refine X.e1 ?_ | refine X.e2 ?_ | (simp only [X.df]) | (simp (disch := omega) only [wi]))
  have hw : St w0 [] [blkI g5 63 (inCs (flI b 0)), blkI g2 63 (inCs no4), blkI g1 65 (cb b)] w := hw
  refine X.loop (fun i : Nat => [(1, .pointer (some ⟨g1, 0, none⟩)), (2, .pointer (some ⟨g2, 0, none⟩)), (5, .pointer (some ⟨g5, 0, none⟩)), (9, iv i)])
    (fun i w' => i ≤ 4 ∧ i ≤ kF b ∧ St w0 [] [blkI g5 63 (inCs (flI b i)), blkI g2 63 (inCs no4), blkI g1 65 (cb b)] w') (fun i => 4 - i) 0 ⟨Nat.zero_le _, Nat.zero_le _, hw⟩ ?_
  rintro i w ⟨hi, hik, hw⟩
  have hfl := inCs_len (flI_ok b i hi)
  repeat (first | refine X.p1 ?_ | refine X.p2 ?_ | refine X.p6 ?_ | refine X.p7 ?_ | refine X.p0 ?_ | refine X.p3 ?_ | refine X.p4 ?_ | refine X.p5 ?_ | refine X.p8 ?_ | refine X.p9 ?_ | refine X.q1 ?_ | refine X.q2 ?_ | refine X.q3 ?_ | refine X.q4 ?_ | refine X.q5 ?_ | refine X.q6 ?_ | refine X.q7 ?_ | refine X.q8 ?_ | refine X.q9 ?_ | refine X.q0 ?_ | refine X.m1 ?_ | refine X.m2 ?_ | refine X.m3 ?_ | refine X.m4 ?_ | refine X.m5 ?_ | refine X.m6 ?_ | refine X.l11 ?_ | refine X.l1 ?_ | refine X.l2 ?_ | refine X.l3 ?_ | refine X.l4 ?_ | refine X.l5 ?_ | refine X.l10 ?_ | refine X.l6 ?_ | refine X.l7 ?_ | refine X.l8 ?_ | refine X.l9 ?_ | refine X.m7 ?_ | refine X.m8 ?_ | (refine X.s1 ?_; intro w hw) | (refine X.s2 ?_; intro w hw) | refine X.e1 ?_ | refine X.e2 ?_ | (simp only [X.df]) | (simp (disch := omega) only [wi]))
  refine X.cond (fun hlt => ?_) (fun hge => ?_)
  · have hlt : i < 4 := by omega
    have hst := flI_step b i hlt
    have hk1 := kF_step hlt hik
    have hk2 := kF_here hlt hik
    have hpl := pc_len hb i hlt
    have hpr : ∀ {w : World}, _ → Pre [rowI (some ⟨g1, i * 64, none⟩) (cb (pc b i))] w := fun {w} (hw : St w0 [] [blkI g5 63 (inCs (flI b i)), blkI g2 63 (inCs no4), blkI g1 65 (cb b)] w) => pc_row hw (by (repeat (first | (with_reducible exact Pick.here) | (with_reducible exact Put.here) | (with_reducible apply Pick.there) | (with_reducible apply Put.there)))) hb i hlt
    have hdo := decX_ok (pc b i)
    have hdl := inC_len hdo
    have hdn := inC_one (decX (pc b i))
    repeat (first | refine X.p1 ?_ | refine X.p2 ?_ | refine X.p6 ?_ | refine X.p7 ?_ | refine X.p0 ?_ | refine X.p3 ?_ | refine X.p4 ?_ | refine X.p5 ?_ | refine X.p8 ?_ | refine X.p9 ?_ | refine X.q1 ?_ | refine X.q2 ?_ | refine X.q3 ?_ | refine X.q4 ?_ | refine X.q5 ?_ | refine X.q6 ?_ | refine X.q7 ?_ | refine X.q8 ?_ | refine X.q9 ?_ | refine X.q0 ?_ | refine X.m1 ?_ | refine X.m2 ?_ | refine X.m3 ?_ | refine X.m4 ?_ | refine X.m5 ?_ | refine X.m6 ?_ | refine X.l11 ?_ | refine X.l1 ?_ | refine X.l2 ?_ | refine X.l3 ?_ | refine X.l4 ?_ | refine X.l5 ?_ | refine X.l10 ?_ | refine X.l6 ?_ | refine X.l7 ?_ | refine X.l8 ?_ | refine X.l9 ?_ | refine X.m7 ?_ | refine X.m8 ?_ | (refine X.s1 ?_; intro w hw) | (refine X.s2 ?_; intro w hw) | refine X.e1 ?_ | refine X.e2 ?_ | (simp only [X.df]) | (simp (disch := omega) only [wi]))
    refine ow_sliceArr tab (vlo := some (.int .i64 ((i : Int) * 64))) (vhi := some (.int .i64 (((i : Int) + 1) * 64))) (l := i * 64) (h := (i + 1) * 64) rfl rfl ⟨_, rfl, rfl⟩ ⟨_, rfl, rfl⟩ rfl rfl rfl rfl (by omega) (by omega) ?_
    rw [show sAddr g1 0 (i * 64) 256 1 = ⟨g1, i * 64, none⟩ from by unfold sAddr; rw [if_neg (by omega)]; simp, show (i + 1) * 64 - i * 64 = 64 from by omega]
    refine X.callN rfl rfl Try.func30 (decode_ino (some ⟨g1, i * 64, none⟩) (pc b i) 64 (256 - i * 64) hpl (by decide) w (hpr hw)) fun w _ hw => ?_
    generalize hX : decX (pc b i) = x at *
    repeat (first | refine X.p1 ?_ | refine X.p2 ?_ | refine X.p6 ?_ | refine X.p7 ?_ | refine X.p0 ?_ | refine X.p3 ?_ | refine X.p4 ?_ | refine X.p5 ?_ | refine X.p8 ?_ | refine X.p9 ?_ | refine X.q1 ?_ | refine X.q2 ?_ | refine X.q3 ?_ | refine X.q4 ?_ | refine X.q5 ?_ | refine X.q6 ?_ | refine X.q7 ?_ | refine X.q8 ?_ | refine X.q9 ?_ | refine X.q0 ?_ | refine X.m1 ?_ | refine X.m2 ?_ | refine X.m3 ?_ | refine X.m4 ?_ | refine X.m5 ?_ | refine X.m6 ?_ | refine X.l11 ?_ | refine X.l1 ?_ | refine X.l2 ?_ | refine X.l3 ?_ | refine X.l4 ?_ | refine X.l5 ?_ | refine X.l10 ?_ | refine X.l6 ?_ | refine X.l7 ?_ | refine X.l8 ?_ | refine X.l9 ?_ | refine X.m7 ?_ | refine X.m8 ?_ | (refine X.s1 ?_; intro w hw) | (refine X.s2 ?_; intro w hw) | refine X.e1 ?_ | refine X.e2 ?_ | (simp only [X.df]) | (simp (disch := omega) only [wi]))
    (first | refine X.nb ?_ | refine X.na ?_); intro g7 w _ hw
    by_cases c : GoodB (pc b i)
    · rw [goodB_t c, ct1]
      repeat (first | refine X.p1 ?_ | refine X.p2 ?_ | refine X.p6 ?_ | refine X.p7 ?_ | refine X.p0 ?_ | refine X.p3 ?_ | refine X.p4 ?_ | refine X.p5 ?_ | refine X.p8 ?_ | refine X.p9 ?_ | refine X.q1 ?_ | refine X.q2 ?_ | refine X.q3 ?_ | refine X.q4 ?_ | refine X.q5 ?_ | refine X.q6 ?_ | refine X.q7 ?_ | refine X.q8 ?_ | refine X.q9 ?_ | refine X.q0 ?_ | refine X.m1 ?_ | refine X.m2 ?_ | refine X.m3 ?_ | refine X.m4 ?_ | refine X.m5 ?_ | refine X.m6 ?_ | refine X.l11 ?_ | refine X.l1 ?_ | refine X.l2 ?_ | refine X.l3 ?_ | refine X.l4 ?_ | refine X.l5 ?_ | refine X.l10 ?_ | refine X.l6 ?_ | refine X.l7 ?_ | refine X.l8 ?_ | refine X.l9 ?_ | refine X.m7 ?_ | refine X.m8 ?_ | (refine X.s1 ?_; intro w hw) | (refine X.s2 ?_; intro w hw) | refine X.e1 ?_ | refine X.e2 ?_ | (simp only [X.df]) | (simp (disch := omega) only [wi]))
      exact X.again (i + 1) ⟨by omega, hk1 c, hw.sub (by (repeat (first | (with_reducible exact Split.nil) | ((with_reducible apply Split.cons); (next => (repeat (first | (with_reducible exact Pick.here) | (with_reducible exact Put.here) | (with_reducible apply Pick.there) | (with_reducible apply Put.there))))))))⟩ (by omega)
    · have hk := hk2 c
      have hlt4 : kF b < 4 := by omega
      rw [goodB_f c, cf1]
      repeat (first | refine X.p1 ?_ | refine X.p2 ?_ | refine X.p6 ?_ | refine X.p7 ?_ | refine X.p0 ?_ | refine X.p3 ?_ | refine X.p4 ?_ | refine X.p5 ?_ | refine X.p8 ?_ | refine X.p9 ?_ | refine X.q1 ?_ | refine X.q2 ?_ | refine X.q3 ?_ | refine X.q4 ?_ | refine X.q5 ?_ | refine X.q6 ?_ | refine X.q7 ?_ | refine X.q8 ?_ | refine X.q9 ?_ | refine X.q0 ?_ | refine X.m1 ?_ | refine X.m2 ?_ | refine X.m3 ?_ | refine X.m4 ?_ | refine X.m5 ?_ | refine X.m6 ?_ | refine X.l11 ?_ | refine X.l1 ?_ | refine X.l2 ?_ | refine X.l3 ?_ | refine X.l4 ?_ | refine X.l5 ?_ | refine X.l10 ?_ | refine X.l6 ?_ | refine X.l7 ?_ | refine X.l8 ?_ | refine X.l9 ?_ | refine X.m7 ?_ | refine X.m8 ?_ | (refine X.s1 ?_; intro w hw) | (refine X.s2 ?_; intro w hw) | refine X.e1 ?_ | refine X.e2 ?_ | (simp only [X.df]) | (simp (disch := omega) only [wi]))
      change St w0 [] [_, _, blkI g2 63 (inCs no4), _] w at hw
      refine xw_ret (vs := [_, _, _]) Try.results33 ⟨⟨_, rfl, cellA tab (g := g2) hw (by (repeat (first | (with_reducible exact Pick.here) | (with_reducible exact Put.here) | (with_reducible apply Pick.there) | (with_reducible apply Put.there)))) Try.underlying63 rfl rfl (inCs_len no4_ok)⟩, rfl, rfl, trivial⟩ ⟨?_, hw.kpNo ro_nil⟩
      rw [flX, flA, flE, if_pos hlt4, if_pos hlt4, if_pos hlt4, hk]; rfl
  obtain rfl : i = 4 := by omega
  have hge4 : ¬ kF b < 4 := by omega
  have e4 : flI b 4 = (pcs b).map decX := List.append_nil _
  rw [e4] at hw hfl
  have hn4 := inCs_len no4_ok
  have hno := inCs_one ((pcs b).map decX)
  repeat (first | refine X.p1 ?_ | refine X.p2 ?_ | refine X.p6 ?_ | refine X.p7 ?_ | refine X.p0 ?_ | refine X.p3 ?_ | refine X.p4 ?_ | refine X.p5 ?_ | refine X.p8 ?_ | refine X.p9 ?_ | refine X.q1 ?_ | refine X.q2 ?_ | refine X.q3 ?_ | refine X.q4 ?_ | refine X.q5 ?_ | refine X.q6 ?_ | refine X.q7 ?_ | refine X.q8 ?_ | refine X.q9 ?_ | refine X.q0 ?_ | refine X.m1 ?_ | refine X.m2 ?_ | refine X.m3 ?_ | refine X.m4 ?_ | refine X.m5 ?_ | refine X.m6 ?_ | refine X.l11 ?_ | refine X.l1 ?_ | refine X.l2 ?_ | refine X.l3 ?_ | refine X.l4 ?_ | refine X.l5 ?_ | refine X.l10 ?_ | refine X.l6 ?_ | refine X.l7 ?_ | refine X.l8 ?_ | refine X.l9 ?_ | refine X.m7 ?_ | refine X.m8 ?_ | (refine X.s1 ?_; intro w hw) | (refine X.s2 ?_; intro w hw) | refine X.e1 ?_ | refine X.e2 ?_ | (simp only [X.df]) | (simp (disch := omega) only [wi]))
  refine xw_ret (vs := [_, _, _]) Try.results33 ⟨⟨_, rfl, cellA tab (g := g2) hw (by (repeat (first | (with_reducible exact Pick.here) | (with_reducible exact Put.here) | (with_reducible apply Pick.there) | (with_reducible apply Put.there)))) Try.underlying63 rfl rfl hfl⟩, rfl, rfl, trivial⟩ ⟨?_, hw.kpNo ro_nil⟩
  rw [flX, flA, flE, if_neg hge4, if_neg hge4, if_neg hge4]; rfl
end Go.Proofs.Ytbgjhmdedillhaa.Ind
