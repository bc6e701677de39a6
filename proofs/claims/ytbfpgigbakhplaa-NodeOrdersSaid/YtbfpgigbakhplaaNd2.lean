/- Nodes, walked. -/
import Derived.Test.YtbfpgigbakhplaaNd1
import Derived.Test.YtbfpgigbakhplaaBlk2
set_option linter.unusedVariables false
set_option linter.unusedSimpArgs false
namespace Go.Proofs.Ytbfpgigbakhplaa.Nd
open Go.RowKit Go.Proofs.Ytbfpgigbakhplaa.Sx Go.Proofs.Ytbfpgigbakhplaa.Mx Go.Proofs.Ytbfpgigbakhplaa.Bw Go.Proofs.Ytbfpgigbakhplaa.By Go.Proofs.Ytbfpgigbakhplaa.Eqs Go.Proofs.Ytbfpgigbakhplaa.Qx Go.Proofs.Ytbfpgigbakhplaa.Ap Go.Proofs.Ytbfpgigbakhplaa.Mi Go.Proofs.Ytbfpgigbakhplaa.Stm Go.Proofs.Ytbfpgigbakhplaa.Num Go.Proofs.Ytbfpgigbakhplaa.Fl Go.Proofs.Ytbfpgigbakhplaa.Wd
attribute [local irreducible] Ow Cw Xw Mw
set_option maxHeartbeats 4000000
abbrev Node := Int × List Ref
abbrev kidsC (l : List Ref) : List Value := l.flatMap refC
abbrev nodeC (n : Node) : List Value := .int .i64 n.1 :: kidsC n.2
abbrev nodeV (n : Node) : Value := .agg (nodeC n).toArray
structure OkN (n : Node) : Prop where
  lev : I64 n.1
  len : n.2.length = 4
  ok : ∀ r ∈ n.2, OkR r
theorem kids_len {l : List Ref} (hl : l.length = 4) (h : ∀ r ∈ l, OkR r) : (kidsC l).length = 132 := by
  rw [flat_len (sz := 33) l (fun r hr => refC_len (h r hr)), hl]
theorem nodeC_len {n : Node} (h : OkN n) : (nodeC n).length = 133 := by rw [List.length_cons, kids_len h.len h.ok]
theorem kidsC_one (l : List Ref) : oneCells (kidsC l) = true := by
  simp only [oneCells, List.all_eq_true, List.mem_flatMap]
  rintro x ⟨r, _, hx⟩
  have := refC_one r
  simp only [oneCells, List.all_eq_true] at this
  exact this x hx
theorem nodeC_one (n : Node) : oneCells (nodeC n) = true := by
  have := kidsC_one n.2
  simp only [oneCells, nodeC, List.all_cons, Bool.and_eq_true]
  exact ⟨rfl, this⟩
theorem kid_val {l : List Ref} (h : ∀ r ∈ l, OkR r) (i : Nat) (hi : i < l.length) : ((kidsC l).drop ((i : Int).toNat * 33)).take 33 = refC l[i] :=
  piece_get (sz := 33) l (fun r hr => refC_len (h r hr)) i hi
theorem kid_at {n : Node} (h : OkN n) (i : Nat) (hi : i < n.2.length) : ((nodeC n).drop (0 + 1 + (i : Int).toNat * 33)).take 33 = refC n.2[i] := by
  rw [show 0 + 1 + (i : Int).toNat * 33 = i * 33 + 1 from by simp; omega, List.drop_succ_cons]
  exact kid_val h.ok i hi
theorem kids_at (n : Node) (h : OkN n) : ((nodeC n).drop (0 + 1)).take 132 = kidsC n.2 := by
  show (kidsC n.2).take 132 = _
  exact List.take_of_length_le (by rw [kids_len h.len h.ok]; exact Nat.le_refl _)
theorem flat_set {l : List Ref} (h : ∀ r ∈ l, OkR r) (i : Nat) (hi : i < l.length) (r : Ref) (hr : OkR r) : splice (kidsC l) (i * 33) (refC r) = kidsC (l.set i r) := by
  have e : l = l.take i ++ (l[i] :: l.drop (i + 1)) := by rw [← List.drop_eq_getElem_cons hi, List.take_append_drop]
  have hl : (kidsC (l.take i)).length = i * 33 := by rw [flat_len (sz := 33) _ (fun r hr => refC_len (h r (List.mem_of_mem_take hr))), List.length_take, Nat.min_eq_left (by omega)]
  have h1 := splice_mid (kidsC (l.take i)) (refC l[i]) (refC r) (kidsC (l.drop (i + 1))) (by rw [refC_len hr, refC_len (h _ (List.getElem_mem hi))])
  rw [hl] at h1
  have e2 : kidsC l = kidsC (l.take i) ++ (refC l[i] ++ kidsC (l.drop (i + 1))) := by
    have e3 := congrArg kidsC e
    rw [e3]
    simp only [kidsC, List.flatMap_append, List.flatMap_cons]
  rw [e2, h1, List.set_eq_take_append_cons_drop, if_pos hi]
  simp [kidsC, List.flatMap_append, List.flatMap_cons]
theorem kid_set {n : Node} (h : OkN n) (i : Nat) (hi : i < n.2.length) (r : Ref) (hr : OkR r) : splice (nodeC n) (0 + 1 + (i : Int).toNat * 33) (refC r) = nodeC (n.1, n.2.set i r) := by
  have := flat_set h.ok i hi r hr
  rw [show 0 + 1 + (i : Int).toNat * 33 = i * 33 + 1 from by simp; omega]
  show splice (_ :: kidsC n.2) _ _ = _ :: kidsC (n.2.set i r)
  rw [← this]
  unfold splice
  rw [List.take_succ_cons, show i * 33 + 1 + (refC r).length = (i * 33 + (refC r).length) + 1 from by omega, List.drop_succ_cons]
  rfl
theorem okN_set {n : Node} (h : OkN n) (i : Nat) (r : Ref) (hr : OkR r) : OkN (n.1, n.2.set i r) := ⟨h.lev, by simp [h.len], fun x hx => by
  rcases List.mem_or_eq_of_mem_set hx with hx | rfl
  · exact h.ok x hx
  · exact hr⟩
/-- The node without level and references. -/
def noKids : List Ref := List.replicate 4 noRef
theorem noKids_ok (l : Int) (hl : I64 l) : OkN (l, noKids) := ⟨hl, by simp [noKids], fun r hr => by rw [List.eq_of_mem_replicate hr]; exact noRef_ok⟩
theorem noKids_cells (l : Int) : nodeC (l, noKids) = [Value.int .i64 l] ++ repC 4 ([Value.int .u32 0] ++ cb (zb 32)) := by
  simp only [nodeC, kidsC, noKids, repC, List.flatMap_def, List.map_replicate]
  rfl
/-- May a node be? -/
def May (n : Node) : Prop := 1 ≤ n.1 ∧ n.1 ≤ 6 ∧ ∀ r ∈ n.2, Right r
instance (n : Node) : Decidable (May n) := inferInstanceAs (Decidable (_ ∧ _))

theorem may_calls (n : Node) (hn : OkN n) (w0 : World) : Does Try.prog 80 [nodeV n] w0 fun v w' => v = .bool (decide (May n)) ∧ Kp No w0 w' := by
  have hw := St.start (w := w0) .nil
  have hl := nodeC_len hn
  have hk := kids_at n hn
  refine fn_enter Try.func80 rfl Try.ntmps80 rfl ?_
  repeat (first | refine X.p1 ?_ | refine X.p2 ?_ | refine X.p6 ?_ | refine X.p7 ?_ | refine X.p0 ?_ | refine X.p3 ?_ | refine X.p4 ?_ | refine X.p5 ?_ | refine X.p8 ?_ | refine X.p9 ?_ | refine X.q1 ?_ | refine X.q2 ?_ | refine X.q3 ?_ | refine X.q4 ?_ | refine X.q5 ?_ | refine X.q6 ?_ | refine X.q7 ?_ | refine X.q8 ?_ | refine X.q9 ?_ | refine X.q0 ?_ | refine X.m1 ?_ | refine X.m2 ?_ | refine X.m3 ?_ | refine X.m4 ?_ | refine X.m5 ?_ | refine X.m6 ?_ | refine X.l11 ?_ | refine X.l1 ?_ | refine X.l2 ?_ | refine X.l3 ?_ | refine X.l4 ?_ | refine X.l5 ?_ | refine X.l10 ?_ | refine X.l6 ?_ | refine X.l7 ?_ | refine X.l8 ?_ | refine X.l9 ?_ | refine X.m7 ?_ | refine X.m8 ?_ | (refine X.s1 ?_; intro w hw) | (refine X.s2 ?_; intro w hw) | refine X.e1 ?_ | refine X.e2 ?_ | (simp only [X.df]) | (simp (disch := omega) only [wi]))
  (first | refine X.nb ?_ | refine X.na ?_); intro g1 w _ hw
  repeat (first | refine X.p1 ?_ | refine X.p2 ?_ | refine X.p6 ?_ | refine X.p7 ?_ | refine X.p0 ?_ | refine X.p3 ?_ | refine X.p4 ?_ | refine X.p5 ?_ | refine X.p8 ?_ | refine X.p9 ?_ | refine X.q1 ?_ | refine X.q2 ?_ | refine X.q3 ?_ | refine X.q4 ?_ | refine X.q5 ?_ | refine X.q6 ?_ | refine X.q7 ?_ | refine X.q8 ?_ | refine X.q9 ?_ | refine X.q0 ?_ | refine X.m1 ?_ | refine X.m2 ?_ | refine X.m3 ?_ | refine X.m4 ?_ | refine X.m5 ?_ | refine X.m6 ?_ | refine X.l11 ?_ | refine X.l1 ?_ | refine X.l2 ?_ | refine X.l3 ?_ | refine X.l4 ?_ | refine X.l5 ?_ | refine X.l10 ?_ | refine X.l6 ?_ | refine X.l7 ?_ | refine X.l8 ?_ | refine X.l9 ?_ | refine X.m7 ?_ | refine X.m8 ?_ | (refine X.s1 ?_; intro w hw) | (refine X.s2 ?_; intro w hw) | refine X.e1 ?_ | refine X.e2 ?_ | (simp only [X.df]) | (simp (disch := omega) only [wi]))
  by_cases h1 : n.1 < 1
  · have d1 := decide_eq_true h1
    repeat (first | refine X.p1 ?_ | refine X.p2 ?_ | refine X.p6 ?_ | refine X.p7 ?_ | refine X.p0 ?_ | refine X.p3 ?_ | refine X.p4 ?_ | refine X.p5 ?_ | refine X.p8 ?_ | refine X.p9 ?_ | refine X.q1 ?_ | refine X.q2 ?_ | refine X.q3 ?_ | refine X.q4 ?_ | refine X.q5 ?_ | refine X.q6 ?_ | refine X.q7 ?_ | refine X.q8 ?_ | refine X.q9 ?_ | refine X.q0 ?_ | refine X.m1 ?_ | refine X.m2 ?_ | refine X.m3 ?_ | refine X.m4 ?_ | refine X.m5 ?_ | refine X.m6 ?_ | refine X.l11 ?_ | refine X.l1 ?_ | refine X.l2 ?_ | refine X.l3 ?_ | refine X.l4 ?_ | refine X.l5 ?_ | refine X.l10 ?_ | refine X.l6 ?_ | refine X.l7 ?_ | refine X.l8 ?_ | refine X.l9 ?_ | refine X.m7 ?_ | refine X.m8 ?_ | (refine X.s1 ?_; intro w hw) | (refine X.s2 ?_; intro w hw) | refine X.e1 ?_ | refine X.e2 ?_ | (simp only [X.df, d1]) | (simp (disch := omega) only [wi]))
    exact xw_ret (vs := [_]) Try.results80 ⟨rfl, trivial⟩ ⟨by rw [decide_eq_false (show ¬ May n from fun h => by have := h.1; omega)]; rfl, hw.kpNo ro_nil⟩
  have d1 := decide_eq_false h1
  by_cases h2 : n.1 > 6
  · have d2 := decide_eq_true h2
    repeat (first | refine X.p1 ?_ | refine X.p2 ?_ | refine X.p6 ?_ | refine X.p7 ?_ | refine X.p0 ?_ | refine X.p3 ?_ | refine X.p4 ?_ | refine X.p5 ?_ | refine X.p8 ?_ | refine X.p9 ?_ | refine X.q1 ?_ | refine X.q2 ?_ | refine X.q3 ?_ | refine X.q4 ?_ | refine X.q5 ?_ | refine X.q6 ?_ | refine X.q7 ?_ | refine X.q8 ?_ | refine X.q9 ?_ | refine X.q0 ?_ | refine X.m1 ?_ | refine X.m2 ?_ | refine X.m3 ?_ | refine X.m4 ?_ | refine X.m5 ?_ | refine X.m6 ?_ | refine X.l11 ?_ | refine X.l1 ?_ | refine X.l2 ?_ | refine X.l3 ?_ | refine X.l4 ?_ | refine X.l5 ?_ | refine X.l10 ?_ | refine X.l6 ?_ | refine X.l7 ?_ | refine X.l8 ?_ | refine X.l9 ?_ | refine X.m7 ?_ | refine X.m8 ?_ | (refine X.s1 ?_; intro w hw) | (refine X.s2 ?_; intro w hw) | refine X.e1 ?_ | refine X.e2 ?_ | (simp only [X.df, d1, d2]) | (simp (disch := omega) only [wi]))
    exact xw_ret (vs := [_]) Try.results80 ⟨rfl, trivial⟩ ⟨by rw [decide_eq_false (show ¬ May n from fun h => by have := h.2.1; omega)]; rfl, hw.kpNo ro_nil⟩
  have d2 := decide_eq_false h2
  repeat (first | refine X.p1 ?_ | refine X.p2 ?_ | refine X.p6 ?_ | refine X.p7 ?_ | refine X.p0 ?_ | refine X.p3 ?_ | refine X.p4 ?_ | refine X.p5 ?_ | refine X.p8 ?_ | refine X.p9 ?_ | refine X.q1 ?_ | refine X.q2 ?_ | refine X.q3 ?_ | refine X.q4 ?_ | refine X.q5 ?_ | refine X.q6 ?_ | refine X.q7 ?_ | refine X.q8 ?_ | refine X.q9 ?_ | refine X.q0 ?_ | refine X.m1 ?_ | refine X.m2 ?_ | refine X.m3 ?_ | refine X.m4 ?_ | refine X.m5 ?_ | refine X.m6 ?_ | refine X.l11 ?_ | refine X.l1 ?_ | refine X.l2 ?_ | refine X.l3 ?_ | refine X.l4 ?_ | refine X.l5 ?_ | refine X.l10 ?_ | refine X.l6 ?_ | refine X.l7 ?_ | refine X.l8 ?_ | refine X.l9 ?_ | refine X.m7 ?_ | refine X.m8 ?_ | (refine X.s1 ?_; intro w hw) | (refine X.s2 ?_; intro w hw) | refine X.e1 ?_ | refine X.e2 ?_ | (simp only [X.df, d1, d2]) | (simp (disch := omega) only [wi]))
  refine X.loop (fun i : Nat => [(14, .agg (kidsC n.2).toArray), (15, .int .i64 (i : Int))])
    (fun i w' => i ≤ 4 ∧ (∀ r ∈ n.2.take i, Right r) ∧ St w0 [] [blkI g1 105 (nodeC n)] w') (fun i => 4 - i) 0 ⟨Nat.zero_le _, fun r hr => by simp at hr, hw⟩ ?_
  rintro i w ⟨hi, hri, hw⟩
  repeat (first | refine X.p1 ?_ | refine X.p2 ?_ | refine X.p6 ?_ | refine X.p7 ?_ | refine X.p0 ?_ | refine X.p3 ?_ | refine X.p4 ?_ | refine X.p5 ?_ | refine X.p8 ?_ | refine X.p9 ?_ | refine X.q1 ?_ | refine X.q2 ?_ | refine X.q3 ?_ | refine X.q4 ?_ | refine X.q5 ?_ | refine X.q6 ?_ | refine X.q7 ?_ | refine X.q8 ?_ | refine X.q9 ?_ | refine X.q0 ?_ | refine X.m1 ?_ | refine X.m2 ?_ | refine X.m3 ?_ | refine X.m4 ?_ | refine X.m5 ?_ | refine X.m6 ?_ | refine X.l11 ?_ | refine X.l1 ?_ | refine X.l2 ?_ | refine X.l3 ?_ | refine X.l4 ?_ | refine X.l5 ?_ | refine X.l10 ?_ | refine X.l6 ?_ | refine X.l7 ?_ | refine X.l8 ?_ | refine X.l9 ?_ | refine X.m7 ?_ | refine X.m8 ?_ | (refine X.s1 ?_; intro w hw) | (refine X.s2 ?_; intro w hw) | refine X.e1 ?_ | refine X.e2 ?_ | (simp only [X.df]) | (simp (disch := omega) only [wi]))
  refine X.cond (fun hlt => ?_) (fun hge => ?_)
  · have hlt : i < 4 := by omega
    have hin : i < n.2.length := by rw [hn.len]; exact hlt
    have hkv := kid_val hn.ok i hin
    have hkr := hn.ok _ (List.getElem_mem hin)
    have hrl := refC_len hkr
    have hro := refC_one n.2[i]
    repeat (first | refine X.p1 ?_ | refine X.p2 ?_ | refine X.p6 ?_ | refine X.p7 ?_ | refine X.p0 ?_ | refine X.p3 ?_ | refine X.p4 ?_ | refine X.p5 ?_ | refine X.p8 ?_ | refine X.p9 ?_ | refine X.q1 ?_ | refine X.q2 ?_ | refine X.q3 ?_ | refine X.q4 ?_ | refine X.q5 ?_ | refine X.q6 ?_ | refine X.q7 ?_ | refine X.q8 ?_ | refine X.q9 ?_ | refine X.q0 ?_ | refine X.m1 ?_ | refine X.m2 ?_ | refine X.m3 ?_ | refine X.m4 ?_ | refine X.m5 ?_ | refine X.m6 ?_ | refine X.l11 ?_ | refine X.l1 ?_ | refine X.l2 ?_ | refine X.l3 ?_ | refine X.l4 ?_ | refine X.l5 ?_ | refine X.l10 ?_ | refine X.l6 ?_ | refine X.l7 ?_ | refine X.l8 ?_ | refine X.l9 ?_ | refine X.m7 ?_ | refine X.m8 ?_ | (refine X.s1 ?_; intro w hw) | (refine X.s2 ?_; intro w hw) | refine X.e1 ?_ | refine X.e2 ?_ | (simp only [X.df]) | (simp (disch := omega) only [wi]))
    (first | refine X.nb ?_ | refine X.na ?_); intro g2 w _ hw
    repeat (first | refine X.p1 ?_ | refine X.p2 ?_ | refine X.p6 ?_ | refine X.p7 ?_ | refine X.p0 ?_ | refine X.p3 ?_ | refine X.p4 ?_ | refine X.p5 ?_ | refine X.p8 ?_ | refine X.p9 ?_ | refine X.q1 ?_ | refine X.q2 ?_ | refine X.q3 ?_ | refine X.q4 ?_ | refine X.q5 ?_ | refine X.q6 ?_ | refine X.q7 ?_ | refine X.q8 ?_ | refine X.q9 ?_ | refine X.q0 ?_ | refine X.m1 ?_ | refine X.m2 ?_ | refine X.m3 ?_ | refine X.m4 ?_ | refine X.m5 ?_ | refine X.m6 ?_ | refine X.l11 ?_ | refine X.l1 ?_ | refine X.l2 ?_ | refine X.l3 ?_ | refine X.l4 ?_ | refine X.l5 ?_ | refine X.l10 ?_ | refine X.l6 ?_ | refine X.l7 ?_ | refine X.l8 ?_ | refine X.l9 ?_ | refine X.m7 ?_ | refine X.m8 ?_ | (refine X.s1 ?_; intro w hw) | (refine X.s2 ?_; intro w hw) | refine X.e1 ?_ | refine X.e2 ?_ | (simp only [X.df]) | (simp (disch := omega) only [wi]))
    refine X.callN rfl rfl Try.func77 (right_calls n.2[i] hkr w) fun w _ hw => ?_
    by_cases h3 : Right n.2[i]
    · have d3 := decide_eq_true h3
      repeat (first | refine X.p1 ?_ | refine X.p2 ?_ | refine X.p6 ?_ | refine X.p7 ?_ | refine X.p0 ?_ | refine X.p3 ?_ | refine X.p4 ?_ | refine X.p5 ?_ | refine X.p8 ?_ | refine X.p9 ?_ | refine X.q1 ?_ | refine X.q2 ?_ | refine X.q3 ?_ | refine X.q4 ?_ | refine X.q5 ?_ | refine X.q6 ?_ | refine X.q7 ?_ | refine X.q8 ?_ | refine X.q9 ?_ | refine X.q0 ?_ | refine X.m1 ?_ | refine X.m2 ?_ | refine X.m3 ?_ | refine X.m4 ?_ | refine X.m5 ?_ | refine X.m6 ?_ | refine X.l11 ?_ | refine X.l1 ?_ | refine X.l2 ?_ | refine X.l3 ?_ | refine X.l4 ?_ | refine X.l5 ?_ | refine X.l10 ?_ | refine X.l6 ?_ | refine X.l7 ?_ | refine X.l8 ?_ | refine X.l9 ?_ | refine X.m7 ?_ | refine X.m8 ?_ | (refine X.s1 ?_; intro w hw) | (refine X.s2 ?_; intro w hw) | refine X.e1 ?_ | refine X.e2 ?_ | (simp only [X.df, d3]) | (simp (disch := omega) only [wi]))
      exact X.again (i + 1) ⟨by omega, fun r hr => by
        rw [List.take_add_one, List.getElem?_eq_getElem hin] at hr
        rcases List.mem_append.1 hr with hr | hr
        · exact hri r hr
        · simp at hr; rw [hr]; exact h3, hw.sub (by (repeat (first | (with_reducible exact Split.nil) | ((with_reducible apply Split.cons); (next => (repeat (first | (with_reducible exact Pick.here) | (with_reducible exact Put.here) | (with_reducible apply Pick.there) | (with_reducible apply Put.there))))))))⟩ (by omega)
    · have d3 := decide_eq_false h3
      repeat (first | refine X.p1 ?_ | refine X.p2 ?_ | refine X.p6 ?_ | refine X.p7 ?_ | refine X.p0 ?_ | refine X.p3 ?_ | refine X.p4 ?_ | refine X.p5 ?_ | refine X.p8 ?_ | refine X.p9 ?_ | refine X.q1 ?_ | refine X.q2 ?_ | refine X.q3 ?_ | refine X.q4 ?_ | refine X.q5 ?_ | refine X.q6 ?_ | refine X.q7 ?_ | refine X.q8 ?_ | refine X.q9 ?_ | refine X.q0 ?_ | refine X.m1 ?_ | refine X.m2 ?_ | refine X.m3 ?_ | refine X.m4 ?_ | refine X.m5 ?_ | refine X.m6 ?_ | refine X.l11 ?_ | refine X.l1 ?_ | refine X.l2 ?_ | refine X.l3 ?_ | refine X.l4 ?_ | refine X.l5 ?_ | refine X.l10 ?_ | refine X.l6 ?_ | refine X.l7 ?_ | refine X.l8 ?_ | refine X.l9 ?_ | refine X.m7 ?_ | refine X.m8 ?_ | (refine X.s1 ?_; intro w hw) | (refine X.s2 ?_; intro w hw) | refine X.e1 ?_ | refine X.e2 ?_ | (simp only [X.df, d3]) | (simp (disch := omega) only [wi]))
      exact xw_ret (vs := [_]) Try.results80 ⟨rfl, trivial⟩ ⟨by rw [decide_eq_false (show ¬ May n from fun h => h3 (h.2.2 _ (List.getElem_mem hin)))]; rfl, hw.kpNo ro_nil⟩
  · have hge : i = 4 := by omega
    subst hge
    repeat (first | refine X.p1 ?_ | refine X.p2 ?_ | refine X.p6 ?_ | refine X.p7 ?_ | refine X.p0 ?_ | refine X.p3 ?_ | refine X.p4 ?_ | refine X.p5 ?_ | refine X.p8 ?_ | refine X.p9 ?_ | refine X.q1 ?_ | refine X.q2 ?_ | refine X.q3 ?_ | refine X.q4 ?_ | refine X.q5 ?_ | refine X.q6 ?_ | refine X.q7 ?_ | refine X.q8 ?_ | refine X.q9 ?_ | refine X.q0 ?_ | refine X.m1 ?_ | refine X.m2 ?_ | refine X.m3 ?_ | refine X.m4 ?_ | refine X.m5 ?_ | refine X.m6 ?_ | refine X.l11 ?_ | refine X.l1 ?_ | refine X.l2 ?_ | refine X.l3 ?_ | refine X.l4 ?_ | refine X.l5 ?_ | refine X.l10 ?_ | refine X.l6 ?_ | refine X.l7 ?_ | refine X.l8 ?_ | refine X.l9 ?_ | refine X.m7 ?_ | refine X.m8 ?_ | (refine X.s1 ?_; intro w hw) | (refine X.s2 ?_; intro w hw) | refine X.e1 ?_ | refine X.e2 ?_ | (simp only [X.df]) | (simp (disch := omega) only [wi]))
    rw [List.take_of_length_le (by rw [hn.len]; exact Nat.le_refl _)] at hri
    exact xw_ret (vs := [_]) Try.results80 ⟨rfl, trivial⟩ ⟨by rw [decide_eq_true (show May n from ⟨by omega, by omega, hri⟩)]; rfl, hw.kpNo ro_nil⟩
/-- A node's bytes, its block. -/
def levB (l : Int) : Byte := BitVec.ofInt 8 l
def headB (l : Int) : List Byte := [110, 111, 100, 101] ++ [levB l, 0, 0, 0]
def encK (l : List Ref) : List Byte := l.flatMap encR
def encN (n : Node) : List Byte := headB n.1 ++ encK n.2
theorem encK_len {l : List Ref} (h : ∀ r ∈ l, OkR r) : (encK l).length = l.length * 36 := by
  unfold encK
  induction l with
  | nil => rfl
  | cons x l ih => rw [List.flatMap_cons, List.length_append, encR_len (h x (by simp)), ih (fun r hr => h r (by simp [hr])), List.length_cons]; omega
theorem encK_succ (l : List Ref) (i : Nat) (hi : i < l.length) : encK (l.take (i + 1)) = encK (l.take i) ++ encR l[i] := by
  rw [List.take_add_one, List.getElem?_eq_getElem hi]
  unfold encK
  rw [List.flatMap_append]
  simp
theorem headB_len (l : Int) : (headB l).length = 8 := rfl
theorem encN_len {n : Node} (h : OkN n) : (encN n).length = 152 := by rw [encN, List.length_append, encK_len h.ok, h.len]; rfl
def blockR (n : Node) : List Byte × Int := if May n then (encN n ++ zb 104, 0) else (zb 256, 1)
theorem blockR_len {n : Node} (h : OkN n) : (blockR n).1.length = 256 := by
  unfold blockR
  split
  · rw [List.length_append, encN_len h, List.length_replicate]
  · exact List.length_replicate
theorem layN {n : Node} (h : OkN n) : Blk1.layR Blk1.z256 0 (encN n) = (encN n ++ zb 104, 0) := by
  have hl := encN_len h
  unfold Blk1.layR
  rw [if_pos (by omega), hl]
  rw [show Blk1.z256 = List.replicate 256 0 from rfl, List.drop_replicate]
  rfl
theorem built4 (x : Int) : Try.prog.builtSlice 5 4 [(0, .int .u8 x), (1, .int .u8 0), (2, .int .u8 0), (3, .int .u8 0)] = some [Value.int .u8 x, .int .u8 0, .int .u8 0, .int .u8 0].toArray := by kernel_rfl
theorem str_node : some (Value.string ⟨#[110, 111, 100, 101]⟩) = some (str [110, 111, 100, 101]) := congrArg (fun t => some (Value.string t)) (show (⟨#[110, 111, 100, 101]⟩ : ByteArray) = bs [110, 111, 100, 101] from by decide)
theorem block_calls (n : Node) (hn : OkN n) (w0 : World) : Does Try.prog 60 [nodeV n] w0 fun v w' => v = .tuple #[blk (blockR n).1, .int .i64 (blockR n).2] ∧ Kp No w0 w' := by
  have hw := St.start (w := w0) .nil
  have hl := nodeC_len hn
  have hk := kids_at n hn
  refine fn_enter Try.func60 rfl Try.ntmps60 rfl ?_
  repeat (first | refine X.p1 ?_ | refine X.p2 ?_ | refine X.p6 ?_ | refine X.p7 ?_ | refine X.p0 ?_ | refine X.p3 ?_ | refine X.p4 ?_ | refine X.p5 ?_ | refine X.p8 ?_ | refine X.p9 ?_ | refine X.q1 ?_ | refine X.q2 ?_ | refine X.q3 ?_ | refine X.q4 ?_ | refine X.q5 ?_ | refine X.q6 ?_ | refine X.q7 ?_ | refine X.q8 ?_ | refine X.q9 ?_ | refine X.q0 ?_ | refine X.m1 ?_ | refine X.m2 ?_ | refine X.m3 ?_ | refine X.m4 ?_ | refine X.m5 ?_ | refine X.m6 ?_ | refine X.l11 ?_ | refine X.l1 ?_ | refine X.l2 ?_ | refine X.l3 ?_ | refine X.l4 ?_ | refine X.l5 ?_ | refine X.l10 ?_ | refine X.l6 ?_ | refine X.l7 ?_ | refine X.l8 ?_ | refine X.l9 ?_ | refine X.m7 ?_ | refine X.m8 ?_ | (refine X.s1 ?_; intro w hw) | (refine X.s2 ?_; intro w hw) | refine X.e1 ?_ | refine X.e2 ?_ | (simp only [X.df]) | (simp (disch := omega) only [wi]))
  (first | refine X.nb ?_ | refine X.na ?_); intro g1 w _ hw
  repeat (first | refine X.p1 ?_ | refine X.p2 ?_ | refine X.p6 ?_ | refine X.p7 ?_ | refine X.p0 ?_ | refine X.p3 ?_ | refine X.p4 ?_ | refine X.p5 ?_ | refine X.p8 ?_ | refine X.p9 ?_ | refine X.q1 ?_ | refine X.q2 ?_ | refine X.q3 ?_ | refine X.q4 ?_ | refine X.q5 ?_ | refine X.q6 ?_ | refine X.q7 ?_ | refine X.q8 ?_ | refine X.q9 ?_ | refine X.q0 ?_ | refine X.m1 ?_ | refine X.m2 ?_ | refine X.m3 ?_ | refine X.m4 ?_ | refine X.m5 ?_ | refine X.m6 ?_ | refine X.l11 ?_ | refine X.l1 ?_ | refine X.l2 ?_ | refine X.l3 ?_ | refine X.l4 ?_ | refine X.l5 ?_ | refine X.l10 ?_ | refine X.l6 ?_ | refine X.l7 ?_ | refine X.l8 ?_ | refine X.l9 ?_ | refine X.m7 ?_ | refine X.m8 ?_ | (refine X.s1 ?_; intro w hw) | (refine X.s2 ?_; intro w hw) | refine X.e1 ?_ | refine X.e2 ?_ | (simp only [X.df]) | (simp (disch := omega) only [wi]))
  (first | refine X.nb ?_ | refine X.na ?_); intro g2 w _ hw
  repeat (first | refine X.p1 ?_ | refine X.p2 ?_ | refine X.p6 ?_ | refine X.p7 ?_ | refine X.p0 ?_ | refine X.p3 ?_ | refine X.p4 ?_ | refine X.p5 ?_ | refine X.p8 ?_ | refine X.p9 ?_ | refine X.q1 ?_ | refine X.q2 ?_ | refine X.q3 ?_ | refine X.q4 ?_ | refine X.q5 ?_ | refine X.q6 ?_ | refine X.q7 ?_ | refine X.q8 ?_ | refine X.q9 ?_ | refine X.q0 ?_ | refine X.m1 ?_ | refine X.m2 ?_ | refine X.m3 ?_ | refine X.m4 ?_ | refine X.m5 ?_ | refine X.m6 ?_ | refine X.l11 ?_ | refine X.l1 ?_ | refine X.l2 ?_ | refine X.l3 ?_ | refine X.l4 ?_ | refine X.l5 ?_ | refine X.l10 ?_ | refine X.l6 ?_ | refine X.l7 ?_ | refine X.l8 ?_ | refine X.l9 ?_ | refine X.m7 ?_ | refine X.m8 ?_ | (refine X.s1 ?_; intro w hw) | (refine X.s2 ?_; intro w hw) | refine X.e1 ?_ | refine X.e2 ?_ | (simp only [X.df]) | (simp (disch := omega) only [wi]))
  refine X.callN rfl rfl Try.func80 (may_calls n hn w) fun w _ hw => ?_
  by_cases hm : May n
  · have d := decide_eq_true hm
    repeat (first | refine X.p1 ?_ | refine X.p2 ?_ | refine X.p6 ?_ | refine X.p7 ?_ | refine X.p0 ?_ | refine X.p3 ?_ | refine X.p4 ?_ | refine X.p5 ?_ | refine X.p8 ?_ | refine X.p9 ?_ | refine X.q1 ?_ | refine X.q2 ?_ | refine X.q3 ?_ | refine X.q4 ?_ | refine X.q5 ?_ | refine X.q6 ?_ | refine X.q7 ?_ | refine X.q8 ?_ | refine X.q9 ?_ | refine X.q0 ?_ | refine X.m1 ?_ | refine X.m2 ?_ | refine X.m3 ?_ | refine X.m4 ?_ | refine X.m5 ?_ | refine X.m6 ?_ | refine X.l11 ?_ | refine X.l1 ?_ | refine X.l2 ?_ | refine X.l3 ?_ | refine X.l4 ?_ | refine X.l5 ?_ | refine X.l10 ?_ | refine X.l6 ?_ | refine X.l7 ?_ | refine X.l8 ?_ | refine X.l9 ?_ | refine X.m7 ?_ | refine X.m8 ?_ | (refine X.s1 ?_; intro w hw) | (refine X.s2 ?_; intro w hw) | refine X.e1 ?_ | refine X.e2 ?_ | (simp only [X.df, d, wrap_u8]) | (simp (disch := omega) only [wi]))
    refine st_buildSlice tab hw rfl rfl rfl (built4 _) (fun g3 w hw => ?_)
    have hw : St w0 [] [blkI g3 5 (cb [levB n.1, 0, 0, 0]), blkI g2 23 (cb (zb 256)), blkI g1 105 (nodeC n)] w := hw
    repeat (first | refine X.p1 ?_ | refine X.p2 ?_ | refine X.p6 ?_ | refine X.p7 ?_ | refine X.p0 ?_ | refine X.p3 ?_ | refine X.p4 ?_ | refine X.p5 ?_ | refine X.p8 ?_ | refine X.p9 ?_ | refine X.q1 ?_ | refine X.q2 ?_ | refine X.q3 ?_ | refine X.q4 ?_ | refine X.q5 ?_ | refine X.q6 ?_ | refine X.q7 ?_ | refine X.q8 ?_ | refine X.q9 ?_ | refine X.q0 ?_ | refine X.m1 ?_ | refine X.m2 ?_ | refine X.m3 ?_ | refine X.m4 ?_ | refine X.m5 ?_ | refine X.m6 ?_ | refine X.l11 ?_ | refine X.l1 ?_ | refine X.l2 ?_ | refine X.l3 ?_ | refine X.l4 ?_ | refine X.l5 ?_ | refine X.l10 ?_ | refine X.l6 ?_ | refine X.l7 ?_ | refine X.l8 ?_ | refine X.l9 ?_ | refine X.m7 ?_ | refine X.m8 ?_ | (refine X.s1 ?_; intro w hw) | (refine X.s2 ?_; intro w hw) | refine X.e1 ?_ | refine X.e2 ?_ | (simp only [X.df]) | (simp (disch := omega) only [wi]))
    refine ow_addS (a := [110, 111, 100, 101]) rfl str_node rfl (by simp) ?_
    repeat (first | refine X.p1 ?_ | refine X.p2 ?_ | refine X.p6 ?_ | refine X.p7 ?_ | refine X.p0 ?_ | refine X.p3 ?_ | refine X.p4 ?_ | refine X.p5 ?_ | refine X.p8 ?_ | refine X.p9 ?_ | refine X.q1 ?_ | refine X.q2 ?_ | refine X.q3 ?_ | refine X.q4 ?_ | refine X.q5 ?_ | refine X.q6 ?_ | refine X.q7 ?_ | refine X.q8 ?_ | refine X.q9 ?_ | refine X.q0 ?_ | refine X.m1 ?_ | refine X.m2 ?_ | refine X.m3 ?_ | refine X.m4 ?_ | refine X.m5 ?_ | refine X.m6 ?_ | refine X.l11 ?_ | refine X.l1 ?_ | refine X.l2 ?_ | refine X.l3 ?_ | refine X.l4 ?_ | refine X.l5 ?_ | refine X.l10 ?_ | refine X.l6 ?_ | refine X.l7 ?_ | refine X.l8 ?_ | refine X.l9 ?_ | refine X.m7 ?_ | refine X.m8 ?_ | (refine X.s1 ?_; intro w hw) | (refine X.s2 ?_; intro w hw) | refine X.e1 ?_ | refine X.e2 ?_ | (simp only [X.df]) | (simp (disch := omega) only [wi]))
    refine X.loop (fun i : Nat => [(2, .pointer (some ⟨g2, 0, none⟩)), (4, str (headB n.1 ++ encK (n.2.take i))), (18, .agg (kidsC n.2).toArray), (19, .int .i64 (i : Int))])
      (fun i w' => i ≤ 4 ∧ St w0 [] [blkI g2 23 (cb (zb 256)), blkI g1 105 (nodeC n)] w') (fun i => 4 - i) 0 ⟨Nat.zero_le _, hw.sub (by (repeat (first | (with_reducible exact Split.nil) | ((with_reducible apply Split.cons); (next => (repeat (first | (with_reducible exact Pick.here) | (with_reducible exact Put.here) | (with_reducible apply Pick.there) | (with_reducible apply Put.there))))))))⟩ ?_ ⟨rfl, by simp [encK, headB]; rfl, rfl, rfl, trivial⟩
    rintro i w ⟨hi, hw⟩
    repeat (first | refine X.p1 ?_ | refine X.p2 ?_ | refine X.p6 ?_ | refine X.p7 ?_ | refine X.p0 ?_ | refine X.p3 ?_ | refine X.p4 ?_ | refine X.p5 ?_ | refine X.p8 ?_ | refine X.p9 ?_ | refine X.q1 ?_ | refine X.q2 ?_ | refine X.q3 ?_ | refine X.q4 ?_ | refine X.q5 ?_ | refine X.q6 ?_ | refine X.q7 ?_ | refine X.q8 ?_ | refine X.q9 ?_ | refine X.q0 ?_ | refine X.m1 ?_ | refine X.m2 ?_ | refine X.m3 ?_ | refine X.m4 ?_ | refine X.m5 ?_ | refine X.m6 ?_ | refine X.l11 ?_ | refine X.l1 ?_ | refine X.l2 ?_ | refine X.l3 ?_ | refine X.l4 ?_ | refine X.l5 ?_ | refine X.l10 ?_ | refine X.l6 ?_ | refine X.l7 ?_ | refine X.l8 ?_ | refine X.l9 ?_ | refine X.m7 ?_ | refine X.m8 ?_ | (refine X.s1 ?_; intro w hw) | (refine X.s2 ?_; intro w hw) | refine X.e1 ?_ | refine X.e2 ?_ | (simp only [X.df]) | (simp (disch := omega) only [wi]))
    refine X.cond (fun hlt => ?_) (fun hge => ?_)
    · have hlt : i < 4 := by omega
      have hin : i < n.2.length := by rw [hn.len]; exact hlt
      have hkv := kid_val hn.ok i hin
      have hkr := hn.ok _ (List.getElem_mem hin)
      have hrl := refC_len hkr
      have hro := refC_one n.2[i]
      have h36 := encR_len hkr
      have hlk := encK_len (l := n.2.take i) (fun r hr => hn.ok r (List.mem_of_mem_take hr))
      rw [List.length_take] at hlk
      have h8 := headB_len n.1
      repeat (first | refine X.p1 ?_ | refine X.p2 ?_ | refine X.p6 ?_ | refine X.p7 ?_ | refine X.p0 ?_ | refine X.p3 ?_ | refine X.p4 ?_ | refine X.p5 ?_ | refine X.p8 ?_ | refine X.p9 ?_ | refine X.q1 ?_ | refine X.q2 ?_ | refine X.q3 ?_ | refine X.q4 ?_ | refine X.q5 ?_ | refine X.q6 ?_ | refine X.q7 ?_ | refine X.q8 ?_ | refine X.q9 ?_ | refine X.q0 ?_ | refine X.m1 ?_ | refine X.m2 ?_ | refine X.m3 ?_ | refine X.m4 ?_ | refine X.m5 ?_ | refine X.m6 ?_ | refine X.l11 ?_ | refine X.l1 ?_ | refine X.l2 ?_ | refine X.l3 ?_ | refine X.l4 ?_ | refine X.l5 ?_ | refine X.l10 ?_ | refine X.l6 ?_ | refine X.l7 ?_ | refine X.l8 ?_ | refine X.l9 ?_ | refine X.m7 ?_ | refine X.m8 ?_ | (refine X.s1 ?_; intro w hw) | (refine X.s2 ?_; intro w hw) | refine X.e1 ?_ | refine X.e2 ?_ | (simp only [X.df]) | (simp (disch := omega) only [wi]))
      (first | refine X.nb ?_ | refine X.na ?_); intro g4 w _ hw
      repeat (first | refine X.p1 ?_ | refine X.p2 ?_ | refine X.p6 ?_ | refine X.p7 ?_ | refine X.p0 ?_ | refine X.p3 ?_ | refine X.p4 ?_ | refine X.p5 ?_ | refine X.p8 ?_ | refine X.p9 ?_ | refine X.q1 ?_ | refine X.q2 ?_ | refine X.q3 ?_ | refine X.q4 ?_ | refine X.q5 ?_ | refine X.q6 ?_ | refine X.q7 ?_ | refine X.q8 ?_ | refine X.q9 ?_ | refine X.q0 ?_ | refine X.m1 ?_ | refine X.m2 ?_ | refine X.m3 ?_ | refine X.m4 ?_ | refine X.m5 ?_ | refine X.m6 ?_ | refine X.l11 ?_ | refine X.l1 ?_ | refine X.l2 ?_ | refine X.l3 ?_ | refine X.l4 ?_ | refine X.l5 ?_ | refine X.l10 ?_ | refine X.l6 ?_ | refine X.l7 ?_ | refine X.l8 ?_ | refine X.l9 ?_ | refine X.m7 ?_ | refine X.m8 ?_ | (refine X.s1 ?_; intro w hw) | (refine X.s2 ?_; intro w hw) | refine X.e1 ?_ | refine X.e2 ?_ | (simp only [X.df]) | (simp (disch := omega) only [wi]))
      refine X.callN rfl rfl Try.func48 (encode_calls n.2[i] hkr w) fun w _ hw => ?_
      repeat (first | refine X.p1 ?_ | refine X.p2 ?_ | refine X.p6 ?_ | refine X.p7 ?_ | refine X.p0 ?_ | refine X.p3 ?_ | refine X.p4 ?_ | refine X.p5 ?_ | refine X.p8 ?_ | refine X.p9 ?_ | refine X.q1 ?_ | refine X.q2 ?_ | refine X.q3 ?_ | refine X.q4 ?_ | refine X.q5 ?_ | refine X.q6 ?_ | refine X.q7 ?_ | refine X.q8 ?_ | refine X.q9 ?_ | refine X.q0 ?_ | refine X.m1 ?_ | refine X.m2 ?_ | refine X.m3 ?_ | refine X.m4 ?_ | refine X.m5 ?_ | refine X.m6 ?_ | refine X.l11 ?_ | refine X.l1 ?_ | refine X.l2 ?_ | refine X.l3 ?_ | refine X.l4 ?_ | refine X.l5 ?_ | refine X.l10 ?_ | refine X.l6 ?_ | refine X.l7 ?_ | refine X.l8 ?_ | refine X.l9 ?_ | refine X.m7 ?_ | refine X.m8 ?_ | (refine X.s1 ?_; intro w hw) | (refine X.s2 ?_; intro w hw) | refine X.e1 ?_ | refine X.e2 ?_ | (simp only [X.df]) | (simp (disch := omega) only [wi]))
      have e : (headB n.1 ++ encK (n.2.take i)) ++ encR n.2[i] = headB n.1 ++ encK (n.2.take (i + 1)) := by rw [encK_succ _ _ hin, List.append_assoc]
      rw [e]
      exact X.again (i + 1) ⟨by omega, hw.sub (by (repeat (first | (with_reducible exact Split.nil) | ((with_reducible apply Split.cons); (next => (repeat (first | (with_reducible exact Pick.here) | (with_reducible exact Put.here) | (with_reducible apply Pick.there) | (with_reducible apply Put.there))))))))⟩ (by omega)
    · have hge : i = 4 := by omega
      subst hge
      rw [List.take_of_length_le (by rw [hn.len]; exact Nat.le_refl _)]
      have el := encN_len hn
      have eb := layN hn
      have hlb : (cb (encN n ++ zb 104)).length = 256 := by rw [List.length_map, List.length_append, el, List.length_replicate]
      repeat (first | refine X.p1 ?_ | refine X.p2 ?_ | refine X.p6 ?_ | refine X.p7 ?_ | refine X.p0 ?_ | refine X.p3 ?_ | refine X.p4 ?_ | refine X.p5 ?_ | refine X.p8 ?_ | refine X.p9 ?_ | refine X.q1 ?_ | refine X.q2 ?_ | refine X.q3 ?_ | refine X.q4 ?_ | refine X.q5 ?_ | refine X.q6 ?_ | refine X.q7 ?_ | refine X.q8 ?_ | refine X.q9 ?_ | refine X.q0 ?_ | refine X.m1 ?_ | refine X.m2 ?_ | refine X.m3 ?_ | refine X.m4 ?_ | refine X.m5 ?_ | refine X.m6 ?_ | refine X.l11 ?_ | refine X.l1 ?_ | refine X.l2 ?_ | refine X.l3 ?_ | refine X.l4 ?_ | refine X.l5 ?_ | refine X.l10 ?_ | refine X.l6 ?_ | refine X.l7 ?_ | refine X.l8 ?_ | refine X.l9 ?_ | refine X.m7 ?_ | refine X.m8 ?_ | (refine X.s1 ?_; intro w hw) | (refine X.s2 ?_; intro w hw) | refine X.e1 ?_ | refine X.e2 ?_ | (simp only [X.df]) | (simp (disch := omega) only [wi]))
      refine X.callN rfl rfl Try.func16 (Blk1.of_calls (encN n) (by rw [el]; decide) w) fun w _ hw => ?_
      rw [eb]
      repeat (first | refine X.p1 ?_ | refine X.p2 ?_ | refine X.p6 ?_ | refine X.p7 ?_ | refine X.p0 ?_ | refine X.p3 ?_ | refine X.p4 ?_ | refine X.p5 ?_ | refine X.p8 ?_ | refine X.p9 ?_ | refine X.q1 ?_ | refine X.q2 ?_ | refine X.q3 ?_ | refine X.q4 ?_ | refine X.q5 ?_ | refine X.q6 ?_ | refine X.q7 ?_ | refine X.q8 ?_ | refine X.q9 ?_ | refine X.q0 ?_ | refine X.m1 ?_ | refine X.m2 ?_ | refine X.m3 ?_ | refine X.m4 ?_ | refine X.m5 ?_ | refine X.m6 ?_ | refine X.l11 ?_ | refine X.l1 ?_ | refine X.l2 ?_ | refine X.l3 ?_ | refine X.l4 ?_ | refine X.l5 ?_ | refine X.l10 ?_ | refine X.l6 ?_ | refine X.l7 ?_ | refine X.l8 ?_ | refine X.l9 ?_ | refine X.m7 ?_ | refine X.m8 ?_ | (refine X.s1 ?_; intro w hw) | (refine X.s2 ?_; intro w hw) | refine X.e1 ?_ | refine X.e2 ?_ | (simp only [X.df]) | (simp (disch := omega) only [wi]))
      refine xw_ret (vs := [_, _]) Try.results60 ⟨⟨_, rfl, cellA tab (g := g2) hw (by (repeat (first | (with_reducible exact Pick.here) | (with_reducible exact Put.here) | (with_reducible apply Pick.there) | (with_reducible apply Put.there)))) Try.underlying23 rfl rfl hlb⟩, rfl, trivial⟩ ⟨?_, hw.kpNo ro_nil⟩
      rw [blockR, if_pos hm]; rfl
  · have d := decide_eq_false hm
    repeat (first | refine X.p1 ?_ | refine X.p2 ?_ | refine X.p6 ?_ | refine X.p7 ?_ | refine X.p0 ?_ | refine X.p3 ?_ | refine X.p4 ?_ | refine X.p5 ?_ | refine X.p8 ?_ | refine X.p9 ?_ | refine X.q1 ?_ | refine X.q2 ?_ | refine X.q3 ?_ | refine X.q4 ?_ | refine X.q5 ?_ | refine X.q6 ?_ | refine X.q7 ?_ | refine X.q8 ?_ | refine X.q9 ?_ | refine X.q0 ?_ | refine X.m1 ?_ | refine X.m2 ?_ | refine X.m3 ?_ | refine X.m4 ?_ | refine X.m5 ?_ | refine X.m6 ?_ | refine X.l11 ?_ | refine X.l1 ?_ | refine X.l2 ?_ | refine X.l3 ?_ | refine X.l4 ?_ | refine X.l5 ?_ | refine X.l10 ?_ | refine X.l6 ?_ | refine X.l7 ?_ | refine X.l8 ?_ | refine X.l9 ?_ | refine X.m7 ?_ | refine X.m8 ?_ | (refine X.s1 ?_; intro w hw) | (refine X.s2 ?_; intro w hw) | refine X.e1 ?_ | refine X.e2 ?_ | (simp only [X.df, d]) | (simp (disch := omega) only [wi]))
    refine xw_ret (vs := [_, _]) Try.results60 ⟨⟨_, rfl, cellA tab (g := g2) hw (by (repeat (first | (with_reducible exact Pick.here) | (with_reducible exact Put.here) | (with_reducible apply Pick.there) | (with_reducible apply Put.there)))) Try.underlying23 rfl rfl (by rw [List.length_map]; exact List.length_replicate)⟩, rfl, trivial⟩ ⟨?_, hw.kpNo ro_nil⟩
    rw [blockR, if_neg hm]; rfl
end Go.Proofs.Ytbfpgigbakhplaa.Nd
