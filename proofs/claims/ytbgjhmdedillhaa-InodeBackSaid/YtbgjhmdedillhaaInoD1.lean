/- A leaf of four inodes: walked. -/
import Derived.Test.YtbgjhmdedillhaaInoC6
set_option linter.unusedVariables false
set_option linter.unusedSimpArgs false
namespace Go.Proofs.Ytbgjhmdedillhaa.Ind
open Go.RowKit Go.Proofs.Ytbgjhmdedillhaa.Sx Go.Proofs.Ytbgjhmdedillhaa.Mx Go.Proofs.Ytbgjhmdedillhaa.Bw Go.Proofs.Ytbgjhmdedillhaa.By Go.Proofs.Ytbgjhmdedillhaa.Eqs Go.Proofs.Ytbgjhmdedillhaa.Qx Go.Proofs.Ytbgjhmdedillhaa.Ap Go.Proofs.Ytbgjhmdedillhaa.Mi Go.Proofs.Ytbgjhmdedillhaa.Stm Go.Proofs.Ytbgjhmdedillhaa.Fl Go.Proofs.Ytbgjhmdedillhaa.TrW Go.Proofs.Ytbgjhmdedillhaa.Ino Go.Proofs.Ytbgjhmdedillhaa.Nd Go.Proofs.Ytbgjhmdedillhaa.Wd Go.Proofs.Ytbgjhmdedillhaa.Num Go.Proofs.Ytbgjhmdedillhaa.As Go.Proofs.Ytbgjhmdedillhaa.Mf Go.Proofs.Ytbgjhmdedillhaa.Bd
attribute [local irreducible] Ow Cw Xw Mw
set_option maxHeartbeats 4000000
/-- Four inodes. -/
def Ok4 (l : List In) : Prop := l.length = 4 ∧ ∀ x ∈ l, OkI x
abbrev inCs (l : List In) : List Value := l.flatMap inC
theorem Ok4.all {l : List In} (h : Ok4 l) : ∀ x ∈ l, (inC x).length = 38 := fun x hx => inC_len (h.2 x hx)
theorem inCs_len {l : List In} (h : Ok4 l) : (inCs l).length = 152 := by rw [inCs, flat_len l h.all, h.1]
theorem inCs_get {l : List In} (h : Ok4 l) (i : Nat) (hi : i < l.length) : ((inCs l).drop (i * 38)).take 38 = inC l[i] := piece_get l h.all i hi
theorem inCs_one (l : List In) : oneCells (inCs l) = true := by
  induction l with
  | nil => rfl
  | cons x l ih => rw [inCs, List.flatMap_cons]; exact Sup.oneApp _ _ (inC_one x) ih
/-- The first that may not be. -/
noncomputable def kL (l : List In) : Nat := l.findIdx fun x => !okB x
theorem kL_ok {l : List In} {i : Nat} (h : i < kL l) (hi : i < l.length) : InOk l[i] := by
  have := List.not_of_lt_findIdx h
  by_cases c : InOk l[i]
  · exact c
  · rw [okB_f c] at this; exact absurd this (by decide)
theorem kL_bad {l : List In} {i : Nat} (h : i = kL l) (hi : i < l.length) : ¬ InOk l[i] := fun c => by
  subst h
  have := List.findIdx_getElem (xs := l) (p := fun x => !okB x) (w := hi)
  have e : okB l[kL l] = true := okB_t c
  unfold kL at e
  rw [e] at this
  exact absurd this (by decide)
theorem kL_step {l : List In} {i : Nat} (hi : i < l.length) (h : i ≤ kL l) (c : InOk l[i]) : i + 1 ≤ kL l := by
  have : i ≠ kL l := fun e => kL_bad e hi c
  omega
theorem kL_here {l : List In} {i : Nat} (hi : i < l.length) (h : i ≤ kL l) (c : ¬ InOk l[i]) : kL l = i := by
  by_cases e : i < kL l
  · exact absurd (kL_ok e hi) c
  · omega
noncomputable def lfB (l : List In) : List Byte := if kL l < 4 then zb 256 else l.flatMap inT
noncomputable def lfA (l : List In) : Nat := if kL l < 4 then kL l else 0
noncomputable def lfE (l : List In) : Int := if kL l < 4 then 140 else 0
def lfT (l : List In) (i : Nat) : List Byte := (l.take i).flatMap inT ++ zb (256 - i * 64)
theorem Ok4.allT {l : List In} (h : Ok4 l) : ∀ x ∈ l, (inT x).length = 64 := fun x hx => inT_len (h.2 x hx)
theorem flatT_len {l : List In} (h : Ok4 l) (i : Nat) (hi : i ≤ 4) : ((l.take i).flatMap inT).length = i * 64 := by
  have : ∀ m : List In, (∀ x ∈ m, (inT x).length = 64) → (m.flatMap inT).length = m.length * 64 := by
    intro m hm
    induction m with
    | nil => rfl
    | cons x m ih => rw [List.flatMap_cons, List.length_append, hm x (by simp), ih (fun y hy => hm y (by simp [hy])), List.length_cons]; omega
  rw [this _ (fun x hx => h.allT x (List.mem_of_mem_take hx)), List.length_take, h.1, Nat.min_eq_left hi]
theorem lfT_len {l : List In} (h : Ok4 l) (i : Nat) (hi : i ≤ 4) : (lfT l i).length = 256 := by
  rw [lfT, List.length_append, flatT_len h i hi, zb, List.length_replicate]; omega
theorem lfT_step {l : List In} (h : Ok4 l) (i : Nat) (hi : i < 4) : (lfT l i).take (i * 64) ++ inT (l[i]'(by have := h.1; omega)) ++ (lfT l i).drop (i * 64 + (inT (l[i]'(by have := h.1; omega))).length) = lfT l (i + 1) := by
  have h1 := flatT_len h i (by omega)
  have h2 := h.allT _ (List.getElem_mem (show i < l.length by have := h.1; omega))
  rw [h2, lfT, lfT, flat_succ l inT i (by have := h.1; omega), List.take_left' h1, ← h1, List.drop_append, List.drop_of_length_le (by omega), List.nil_append, h1]
  congr 1
  rw [zb, List.drop_replicate, zb]
  congr 1
  omega
set_option maxRecDepth 20000 in
theorem leaf_calls (l : List In) (hl : Ok4 l) (w0 : World) : Does Try.prog 32 [.agg (inCs l).toArray] w0 fun v w' => v = .tuple #[blk (lfB l), i64v (lfA l), i64v (lfE l)] ∧ Kp No w0 w' := by
  have hw := St.start (w := w0) .nil
  have hcl := inCs_len hl
  have hco := inCs_one l
  have hln := hl.1
  have hget := inCs_get hl
  generalize hC : inCs l = C at *
  refine fn_enter Try.func32 rfl Try.ntmps32 rfl ?_
  repeat (first | refine X.p1 ?_ | refine X.p2 ?_ | refine X.p6 ?_ | refine X.p7 ?_ | refine X.p0 ?_ | refine X.p3 ?_ | refine X.p4 ?_ | refine X.p5 ?_ | refine X.p8 ?_ | refine X.p9 ?_ | refine X.q1 ?_ | refine X.q2 ?_ | refine X.q3 ?_ | refine X.q4 ?_ | refine X.q5 ?_ | refine X.q6 ?_ | refine X.q7 ?_ | refine X.q8 ?_ | refine X.q9 ?_ | refine X.q0 ?_ | refine X.m1 ?_ | refine X.m2 ?_ | refine X.m3 ?_ | refine X.m4 ?_ | refine X.m5 ?_ | refine X.m6 ?_ | refine X.l11 ?_ | refine X.l1 ?_ | refine X.l2 ?_ | refine X.l3 ?_ | refine X.l4 ?_ | refine X.l5 ?_ | refine X.l10 ?_ | refine X.l6 ?_ | refine X.l7 ?_ | refine X.l8 ?_ | refine X.l9 ?_ | refine X.m7 ?_ | refine X.m8 ?_ | (refine X.s1 ?_; intro w hw) | (refine X.s2 ?_; intro w hw) | refine X.e1 ?_ | refine X.e2 ?_ | (simp only [X.df]) | (simp (disch := omega) only [wi]))
  (first | refine X.nb ?_ | refine X.na ?_); intro g1 w _ hw
  repeat (first | refine X.p1 ?_ | refine X.p2 ?_ | refine X.p6 ?_ | refine X.p7 ?_ | refine X.p0 ?_ | refine X.p3 ?_ | refine X.p4 ?_ | refine X.p5 ?_ | refine X.p8 ?_ | refine X.p9 ?_ | refine X.q1 ?_ | refine X.q2 ?_ | refine X.q3 ?_ | refine X.q4 ?_ | refine X.q5 ?_ | refine X.q6 ?_ | refine X.q7 ?_ | refine X.q8 ?_ | refine X.q9 ?_ | refine X.q0 ?_ | refine X.m1 ?_ | refine X.m2 ?_ | refine X.m3 ?_ | refine X.m4 ?_ | refine X.m5 ?_ | refine X.m6 ?_ | refine X.l11 ?_ | refine X.l1 ?_ | refine X.l2 ?_ | refine X.l3 ?_ | refine X.l4 ?_ | refine X.l5 ?_ | refine X.l10 ?_ | refine X.l6 ?_ | refine X.l7 ?_ | refine X.l8 ?_ | refine X.l9 ?_ | refine X.m7 ?_ | refine X.m8 ?_ | (refine X.s1 ?_; intro w hw) | (refine X.s2 ?_; intro w hw) | refine X.e1 ?_ | refine X.e2 ?_ | (simp only [X.df]) | (simp (disch := omega) only [wi]))
  (first | refine X.nb ?_ | refine X.na ?_); intro g2 w _ hw
  repeat (first | refine X.p1 ?_ | refine X.p2 ?_ | refine X.p6 ?_ | refine X.p7 ?_ | refine X.p0 ?_ | refine X.p3 ?_ | refine X.p4 ?_ | refine X.p5 ?_ | refine X.p8 ?_ | refine X.p9 ?_ | refine X.q1 ?_ | refine X.q2 ?_ | refine X.q3 ?_ | refine X.q4 ?_ | refine X.q5 ?_ | refine X.q6 ?_ | refine X.q7 ?_ | refine X.q8 ?_ | refine X.q9 ?_ | refine X.q0 ?_ | refine X.m1 ?_ | refine X.m2 ?_ | refine X.m3 ?_ | refine X.m4 ?_ | refine X.m5 ?_ | refine X.m6 ?_ | refine X.l11 ?_ | refine X.l1 ?_ | refine X.l2 ?_ | refine X.l3 ?_ | refine X.l4 ?_ | refine X.l5 ?_ | refine X.l10 ?_ | refine X.l6 ?_ | refine X.l7 ?_ | refine X.l8 ?_ | refine X.l9 ?_ | refine X.m7 ?_ | refine X.m8 ?_ | (refine X.s1 ?_; intro w hw) | (refine X.s2 ?_; intro w hw) | refine X.e1 ?_ | refine X.e2 ?_ | (simp only [X.df]) | (simp (disch := omega) only [wi]))
  (first | refine X.nb ?_ | refine X.na ?_); intro g5 w _ hw
  repeat (first | refine X.p1 ?_ | refine X.p2 ?_ | refine X.p6 ?_ | refine X.p7 ?_ | refine X.p0 ?_ | refine X.p3 ?_ | refine X.p4 ?_ | refine X.p5 ?_ | refine X.p8 ?_ | refine X.p9 ?_ | refine X.q1 ?_ | refine X.q2 ?_ | refine X.q3 ?_ | refine X.q4 ?_ | refine X.q5 ?_ | refine X.q6 ?_ | refine X.q7 ?_ | refine X.q8 ?_ | refine X.q9 ?_ | refine X.q0 ?_ | refine X.m1 ?_ | refine X.m2 ?_ | refine X.m3 ?_ | refine X.m4 ?_ | refine X.m5 ?_ | refine X.m6 ?_ | refine X.l11 ?_ | refine X.l1 ?_ | refine X.l2 ?_ | refine X.l3 ?_ | refine X.l4 ?_ | refine X.l5 ?_ | refine X.l10 ?_ | refine X.l6 ?_ | refine X.l7 ?_ | refine X.l8 ?_ | refine X.l9 ?_ | refine X.m7 ?_ | refine X.m8 ?_ | (refine X.s1 ?_; intro w hw) | (refine X.s2 ?_; intro w hw) | refine X.e1 ?_ | refine X.e2 ?_ | (simp only [X.df]) | (simp (disch := omega) only [wi]))
  have hw : St w0 [] [blkI g5 65 (cb (lfT l 0)), blkI g2 65 (cb (zb 256)), blkI g1 63 C] w := hw
  refine X.loop (fun i : Nat => [(2, .pointer (some ⟨g2, 0, none⟩)), (5, .pointer (some ⟨g5, 0, none⟩)), (10, .agg C.toArray), (11, iv i)])
    (fun i w' => i ≤ 4 ∧ i ≤ kL l ∧ St w0 [] [blkI g5 65 (cb (lfT l i)), blkI g2 65 (cb (zb 256)), blkI g1 63 C] w') (fun i => 4 - i) 0 ⟨Nat.zero_le _, Nat.zero_le _, hw⟩ ?_
  rintro i w ⟨hi, hik, hw⟩
  have hbl := lfT_len hl i hi
  have hbl2 : (cb (lfT l i)).length = 256 := by rw [List.length_map, hbl]
  repeat (first | refine X.p1 ?_ | refine X.p2 ?_ | refine X.p6 ?_ | refine X.p7 ?_ | refine X.p0 ?_ | refine X.p3 ?_ | refine X.p4 ?_ | refine X.p5 ?_ | refine X.p8 ?_ | refine X.p9 ?_ | refine X.q1 ?_ | refine X.q2 ?_ | refine X.q3 ?_ | refine X.q4 ?_ | refine X.q5 ?_ | refine X.q6 ?_ | refine X.q7 ?_ | refine X.q8 ?_ | refine X.q9 ?_ | refine X.q0 ?_ | refine X.m1 ?_ | refine X.m2 ?_ | refine X.m3 ?_ | refine X.m4 ?_ | refine X.m5 ?_ | refine X.m6 ?_ | refine X.l11 ?_ | refine X.l1 ?_ | refine X.l2 ?_ | refine X.l3 ?_ | refine X.l4 ?_ | refine X.l5 ?_ | refine X.l10 ?_ | refine X.l6 ?_ | refine X.l7 ?_ | refine X.l8 ?_ | refine X.l9 ?_ | refine X.m7 ?_ | refine X.m8 ?_ | (refine X.s1 ?_; intro w hw) | (refine X.s2 ?_; intro w hw) | refine X.e1 ?_ | refine X.e2 ?_ | (simp only [X.df]) | (simp (disch := omega) only [wi]))
  refine X.cond (fun hlt => ?_) (fun hge => ?_)
  · have hlt : i < 4 := by omega
    have hil : i < l.length := by omega
    have hox : OkI l[i] := hl.2 _ (List.getElem_mem hil)
    have hg : (C.drop ((i : Int).toNat * 38)).take 38 = inC l[i] := by rw [Int.toNat_natCast]; exact hget i hil
    have hxl := inC_len hox
    have hxo := inC_one l[i]
    have hst := lfT_step hl i hlt
    have hk1 := kL_step hil hik
    have hk2 := kL_here hil hik
    generalize l[i]'hil = x at *
    repeat (first | refine X.p1 ?_ | refine X.p2 ?_ | refine X.p6 ?_ | refine X.p7 ?_ | refine X.p0 ?_ | refine X.p3 ?_ | refine X.p4 ?_ | refine X.p5 ?_ | refine X.p8 ?_ | refine X.p9 ?_ | refine X.q1 ?_ | refine X.q2 ?_ | refine X.q3 ?_ | refine X.q4 ?_ | refine X.q5 ?_ | refine X.q6 ?_ | refine X.q7 ?_ | refine X.q8 ?_ | refine X.q9 ?_ | refine X.q0 ?_ | refine X.m1 ?_ | refine X.m2 ?_ | refine X.m3 ?_ | refine X.m4 ?_ | refine X.m5 ?_ | refine X.m6 ?_ | refine X.l11 ?_ | refine X.l1 ?_ | refine X.l2 ?_ | refine X.l3 ?_ | refine X.l4 ?_ | refine X.l5 ?_ | refine X.l10 ?_ | refine X.l6 ?_ | refine X.l7 ?_ | refine X.l8 ?_ | refine X.l9 ?_ | refine X.m7 ?_ | refine X.m8 ?_ | (refine X.s1 ?_; intro w hw) | (refine X.s2 ?_; intro w hw) | refine X.e1 ?_ | refine X.e2 ?_ | (simp only [X.df]) | (simp (disch := omega) only [wi]))
    (first | refine X.nb ?_ | refine X.na ?_); intro g7 w _ hw
    repeat (first | refine X.p1 ?_ | refine X.p2 ?_ | refine X.p6 ?_ | refine X.p7 ?_ | refine X.p0 ?_ | refine X.p3 ?_ | refine X.p4 ?_ | refine X.p5 ?_ | refine X.p8 ?_ | refine X.p9 ?_ | refine X.q1 ?_ | refine X.q2 ?_ | refine X.q3 ?_ | refine X.q4 ?_ | refine X.q5 ?_ | refine X.q6 ?_ | refine X.q7 ?_ | refine X.q8 ?_ | refine X.q9 ?_ | refine X.q0 ?_ | refine X.m1 ?_ | refine X.m2 ?_ | refine X.m3 ?_ | refine X.m4 ?_ | refine X.m5 ?_ | refine X.m6 ?_ | refine X.l11 ?_ | refine X.l1 ?_ | refine X.l2 ?_ | refine X.l3 ?_ | refine X.l4 ?_ | refine X.l5 ?_ | refine X.l10 ?_ | refine X.l6 ?_ | refine X.l7 ?_ | refine X.l8 ?_ | refine X.l9 ?_ | refine X.m7 ?_ | refine X.m8 ?_ | (refine X.s1 ?_; intro w hw) | (refine X.s2 ?_; intro w hw) | refine X.e1 ?_ | refine X.e2 ?_ | (simp only [X.df]) | (simp (disch := omega) only [wi]))
    refine X.call rfl rfl Try.func26 (encode_ino x hox w) ?_
    rintro _ w ⟨u, rfl, hh⟩
    have hw := hw.call .nil hh
    simp only [List.cons_append, List.nil_append] at hw
    by_cases c : InOk x
    · have hTl := inT_len hox
      rw [okB_t c, ct1]
      rw [encI_t c, hTl] at hw
      repeat (first | refine X.p1 ?_ | refine X.p2 ?_ | refine X.p6 ?_ | refine X.p7 ?_ | refine X.p0 ?_ | refine X.p3 ?_ | refine X.p4 ?_ | refine X.p5 ?_ | refine X.p8 ?_ | refine X.p9 ?_ | refine X.q1 ?_ | refine X.q2 ?_ | refine X.q3 ?_ | refine X.q4 ?_ | refine X.q5 ?_ | refine X.q6 ?_ | refine X.q7 ?_ | refine X.q8 ?_ | refine X.q9 ?_ | refine X.q0 ?_ | refine X.m1 ?_ | refine X.m2 ?_ | refine X.m3 ?_ | refine X.m4 ?_ | refine X.m5 ?_ | refine X.m6 ?_ | refine X.l11 ?_ | refine X.l1 ?_ | refine X.l2 ?_ | refine X.l3 ?_ | refine X.l4 ?_ | refine X.l5 ?_ | refine X.l10 ?_ | refine X.l6 ?_ | refine X.l7 ?_ | refine X.l8 ?_ | refine X.l9 ?_ | refine X.m7 ?_ | refine X.m8 ?_ | (refine X.s1 ?_; intro w hw) | (refine X.s2 ?_; intro w hw) | refine X.e1 ?_ | refine X.e2 ?_ | (simp only [X.df]) | (simp (disch := omega) only [wi]))
      refine X.callN rfl rfl Try.func61 (Sup.lay_at (lfT l i) hbl (i * 64) (inT x) (by omega) (by omega) w) fun w _ hw => ?_
      rw [hst]
      have hbl3 := lfT_len hl (i + 1) hlt
      repeat (first | refine X.p1 ?_ | refine X.p2 ?_ | refine X.p6 ?_ | refine X.p7 ?_ | refine X.p0 ?_ | refine X.p3 ?_ | refine X.p4 ?_ | refine X.p5 ?_ | refine X.p8 ?_ | refine X.p9 ?_ | refine X.q1 ?_ | refine X.q2 ?_ | refine X.q3 ?_ | refine X.q4 ?_ | refine X.q5 ?_ | refine X.q6 ?_ | refine X.q7 ?_ | refine X.q8 ?_ | refine X.q9 ?_ | refine X.q0 ?_ | refine X.m1 ?_ | refine X.m2 ?_ | refine X.m3 ?_ | refine X.m4 ?_ | refine X.m5 ?_ | refine X.m6 ?_ | refine X.l11 ?_ | refine X.l1 ?_ | refine X.l2 ?_ | refine X.l3 ?_ | refine X.l4 ?_ | refine X.l5 ?_ | refine X.l10 ?_ | refine X.l6 ?_ | refine X.l7 ?_ | refine X.l8 ?_ | refine X.l9 ?_ | refine X.m7 ?_ | refine X.m8 ?_ | (refine X.s1 ?_; intro w hw) | (refine X.s2 ?_; intro w hw) | refine X.e1 ?_ | refine X.e2 ?_ | (simp only [X.df]) | (simp (disch := omega) only [wi]))
      exact X.again (i + 1) ⟨by omega, hk1 c, hw.sub (by (repeat (first | (with_reducible exact Split.nil) | ((with_reducible apply Split.cons); (next => (repeat (first | (with_reducible exact Pick.here) | (with_reducible exact Put.here) | (with_reducible apply Pick.there) | (with_reducible apply Put.there))))))))⟩ (by omega)
    · have hk := hk2 c
      have hlt4 : kL l < 4 := by omega
      rw [okB_f c, cf1]
      repeat (first | refine X.p1 ?_ | refine X.p2 ?_ | refine X.p6 ?_ | refine X.p7 ?_ | refine X.p0 ?_ | refine X.p3 ?_ | refine X.p4 ?_ | refine X.p5 ?_ | refine X.p8 ?_ | refine X.p9 ?_ | refine X.q1 ?_ | refine X.q2 ?_ | refine X.q3 ?_ | refine X.q4 ?_ | refine X.q5 ?_ | refine X.q6 ?_ | refine X.q7 ?_ | refine X.q8 ?_ | refine X.q9 ?_ | refine X.q0 ?_ | refine X.m1 ?_ | refine X.m2 ?_ | refine X.m3 ?_ | refine X.m4 ?_ | refine X.m5 ?_ | refine X.m6 ?_ | refine X.l11 ?_ | refine X.l1 ?_ | refine X.l2 ?_ | refine X.l3 ?_ | refine X.l4 ?_ | refine X.l5 ?_ | refine X.l10 ?_ | refine X.l6 ?_ | refine X.l7 ?_ | refine X.l8 ?_ | refine X.l9 ?_ | refine X.m7 ?_ | refine X.m8 ?_ | (refine X.s1 ?_; intro w hw) | (refine X.s2 ?_; intro w hw) | refine X.e1 ?_ | refine X.e2 ?_ | (simp only [X.df]) | (simp (disch := omega) only [wi]))
      change St w0 [] [_, _, _, blkI g2 65 (cb (zb 256)), _] w at hw
      refine xw_ret (vs := [_, _, _]) Try.results32 ⟨⟨_, rfl, cellA tab (g := g2) hw (by (repeat (first | (with_reducible exact Pick.here) | (with_reducible exact Put.here) | (with_reducible apply Pick.there) | (with_reducible apply Put.there)))) Try.underlying65 rfl rfl (by rw [List.length_map, Sup.z256])⟩, rfl, rfl, trivial⟩ ⟨?_, hw.kpNo ro_nil⟩
      rw [lfB, lfA, lfE, if_pos hlt4, if_pos hlt4, if_pos hlt4, hk]; rfl
  obtain rfl : i = 4 := by omega
  have hge4 : ¬ kL l < 4 := by omega
  have e4 : lfT l 4 = l.flatMap inT := by rw [lfT, List.take_of_length_le (by omega)]; exact List.append_nil _
  rw [e4] at hw hbl2
  repeat (first | refine X.p1 ?_ | refine X.p2 ?_ | refine X.p6 ?_ | refine X.p7 ?_ | refine X.p0 ?_ | refine X.p3 ?_ | refine X.p4 ?_ | refine X.p5 ?_ | refine X.p8 ?_ | refine X.p9 ?_ | refine X.q1 ?_ | refine X.q2 ?_ | refine X.q3 ?_ | refine X.q4 ?_ | refine X.q5 ?_ | refine X.q6 ?_ | refine X.q7 ?_ | refine X.q8 ?_ | refine X.q9 ?_ | refine X.q0 ?_ | refine X.m1 ?_ | refine X.m2 ?_ | refine X.m3 ?_ | refine X.m4 ?_ | refine X.m5 ?_ | refine X.m6 ?_ | refine X.l11 ?_ | refine X.l1 ?_ | refine X.l2 ?_ | refine X.l3 ?_ | refine X.l4 ?_ | refine X.l5 ?_ | refine X.l10 ?_ | refine X.l6 ?_ | refine X.l7 ?_ | refine X.l8 ?_ | refine X.l9 ?_ | refine X.m7 ?_ | refine X.m8 ?_ | (refine X.s1 ?_; intro w hw) | (refine X.s2 ?_; intro w hw) | refine X.e1 ?_ | refine X.e2 ?_ | (simp only [X.df]) | (simp (disch := omega) only [wi]))
  refine xw_ret (vs := [_, _, _]) Try.results32 ⟨⟨_, rfl, cellA tab (g := g2) hw (by (repeat (first | (with_reducible exact Pick.here) | (with_reducible exact Put.here) | (with_reducible apply Pick.there) | (with_reducible apply Put.there)))) Try.underlying65 rfl rfl hbl2⟩, rfl, rfl, trivial⟩ ⟨?_, hw.kpNo ro_nil⟩
  rw [lfB, lfA, lfE, if_neg hge4, if_neg hge4, if_neg hge4]; rfl
end Go.Proofs.Ytbgjhmdedillhaa.Ind
