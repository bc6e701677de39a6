/- Cuts, as the law takes them. -/
import Derived.Test.YtnpnphcklmlchaaSlt10
set_option linter.unusedVariables false
set_option linter.unusedSimpArgs false
namespace Go.Proofs.Ytnpnphcklmlchaa.Pl
open Go.RowKit Go.Proofs.Ytnpnphcklmlchaa.Sx Go.Proofs.Ytnpnphcklmlchaa.Mx Go.Proofs.Ytnpnphcklmlchaa.Bw Go.Proofs.Ytnpnphcklmlchaa.By Go.Proofs.Ytnpnphcklmlchaa.Eqs Go.Proofs.Ytnpnphcklmlchaa.Qx Go.Proofs.Ytnpnphcklmlchaa.Ap Go.Proofs.Ytnpnphcklmlchaa.Mi Go.Proofs.Ytnpnphcklmlchaa.Stm Go.Proofs.Ytnpnphcklmlchaa.Fl Go.Proofs.Ytnpnphcklmlchaa.Mp Go.Proofs.Ytnpnphcklmlchaa.Mf Go.Proofs.Ytnpnphcklmlchaa.Dp Go.Proofs.Ytnpnphcklmlchaa.Dsk Go.Proofs.Ytnpnphcklmlchaa.Nd Go.Proofs.Ytnpnphcklmlchaa.Bd Go.Proofs.Ytnpnphcklmlchaa.Wd Go.Proofs.Ytnpnphcklmlchaa.Num Go.Proofs.Ytnpnphcklmlchaa.Slt Go.Maps
abbrev ctC (c : Ct) : List Value := [i64v c.1, .bool c.2]
def cutsC (l : List Ct) : List Value := l.flatMap ctC
theorem cutsC_len (l : List Ct) : (cutsC l).length = l.length * 2 := flat_len l (fun _ _ => rfl)
theorem cutsC_get (l : List Ct) (i : Nat) (hi : i < l.length) : ((cutsC l).drop ((i : Int).toNat * 2)).take 2 = ctC l[i] := by
  rw [Int.toNat_natCast]; exact piece_get (sz := 2) (cells := ctC) l (fun _ _ => rfl) i hi
theorem cutsC_ne {l : List Ct} {i : Nat} (hi : i < l.length) : cutsC l ≠ [] := fun e => by
  have := cutsC_len l; rw [e] at this; simp at this; omega
def fewS (out : List Ct) (c : Ct) : List Ct := if c.1 ≥ 0 ∧ out.length < 64 then out ++ [c] else out
def fewL (l : List Ct) : List Ct := l.foldl fewS []
theorem few_snoc (l : List Ct) (c : Ct) : fewL (l ++ [c]) = fewS (fewL l) c := by simp [fewL]
theorem few_len (l : List Ct) : (fewL l).length ≤ 64 := by
  have : ∀ (l a : List Ct), a.length ≤ 64 → (l.foldl fewS a).length ≤ 64 := fun l => by
    induction l with
    | nil => intro a h; exact h
    | cons c l ih =>
      intro a h
      refine ih _ ?_
      unfold fewS; split
      · simp; omega
      · exact h
  exact this l [] (by simp)
theorem few_mem (l : List Ct) (c : Ct) (h : c ∈ fewL l) : c ∈ l ∧ 0 ≤ c.1 := by
  have : ∀ (l a : List Ct), c ∈ l.foldl fewS a → c ∈ a ∨ (c ∈ l ∧ 0 ≤ c.1) := fun l => by
    induction l with
    | nil => intro a h; exact .inl h
    | cons x l ih =>
      intro a h
      rcases ih _ h with h | h
      · unfold fewS at h
        split at h
        · rename_i hc
          rcases List.mem_append.1 h with h | h
          · exact .inl h
          · rw [List.mem_singleton] at h; subst h; exact .inr ⟨by simp, hc.1⟩
        · exact .inl h
      · exact .inr ⟨by simp [h.1], h.2⟩
  rcases this l [] h with h | h
  · cases h
  · exact h
/-- What the power does at an event. -/
def atL (l : List Ct) (ev : Int) : Bool × Bool := if (ev, false) ∈ l then (false, true) else (true, decide ((ev, true) ∈ l))
abbrev etC (x : Bool × Bool) : List Value := [.bool x.1, .bool x.2]
abbrev etV (x : Bool × Bool) : Value := .agg (etC x).toArray
theorem mem_snoc {α : Type} [DecidableEq α] {l : List α} {i : Nat} (h : i < l.length) (x : α) : x ∈ l.take (i + 1) ↔ x ∈ l.take i ∨ l[i] = x := by
  rw [List.take_succ_eq_append_getElem h, List.mem_append, List.mem_singleton]
  exact ⟨fun h => h.imp id Eq.symm, fun h => h.imp id Eq.symm⟩
attribute [local irreducible] Ow Cw Xw Mw
set_option maxHeartbeats 4000000
theorem evtB1 : Try.prog.built 144 [(0, .bool true)] = some (etC (true, false)).toArray := by kernel_rfl
theorem evtB2 : Try.prog.built 144 [(1, .bool true)] = some (etC (false, true)).toArray := by kernel_rfl
theorem few_calls (A : Option Addr) (l : List Ct) (c : Nat) (hl : l.length ≤ 1048576) (w0 : World) (hr : Row w0 A (cutsC l)) :
    Does Try.prog 70 [.slice A l.length c] w0 fun v w' => St w0 [] [vecI v 56 2 (fewL l).length (cutsC (fewL l))] w' := by
  have hw := St.start (w := w0) .nil
  refine fn_enter Try.func70 rfl Try.ntmps70 rfl ?_
  repeat (first | refine X.p1 ?_ | refine X.p2 ?_ | refine X.p6 ?_ | refine X.p7 ?_ | refine X.p0 ?_ | refine X.p3 ?_ | refine X.p4 ?_ | refine X.p5 ?_ | refine X.p8 ?_ | refine X.p9 ?_ | refine X.q1 ?_ | refine X.q2 ?_ | refine X.q3 ?_ | refine X.q4 ?_ | refine X.q5 ?_ | refine X.q6 ?_ | refine X.q7 ?_ | refine X.q8 ?_ | refine X.q9 ?_ | refine X.q0 ?_ | refine X.m1 ?_ | refine X.m2 ?_ | refine X.m3 ?_ | refine X.m4 ?_ | refine X.m5 ?_ | refine X.m6 ?_ | refine X.l11 ?_ | refine X.l1 ?_ | refine X.l2 ?_ | refine X.l3 ?_ | refine X.l4 ?_ | refine X.l5 ?_ | refine X.l10 ?_ | refine X.l6 ?_ | refine X.l7 ?_ | refine X.l8 ?_ | refine X.l9 ?_ | refine X.m7 ?_ | refine X.m8 ?_ | (refine X.s1 ?_; intro w hw) | (refine X.s2 ?_; intro w hw) | refine X.e1 ?_ | refine X.e2 ?_ | (simp only [X.df]) | (simp (disch := omega) only [wi]))
  refine X.c0 ?_; intro v6 w _ hw
  repeat (first | refine X.p1 ?_ | refine X.p2 ?_ | refine X.p6 ?_ | refine X.p7 ?_ | refine X.p0 ?_ | refine X.p3 ?_ | refine X.p4 ?_ | refine X.p5 ?_ | refine X.p8 ?_ | refine X.p9 ?_ | refine X.q1 ?_ | refine X.q2 ?_ | refine X.q3 ?_ | refine X.q4 ?_ | refine X.q5 ?_ | refine X.q6 ?_ | refine X.q7 ?_ | refine X.q8 ?_ | refine X.q9 ?_ | refine X.q0 ?_ | refine X.m1 ?_ | refine X.m2 ?_ | refine X.m3 ?_ | refine X.m4 ?_ | refine X.m5 ?_ | refine X.m6 ?_ | refine X.l11 ?_ | refine X.l1 ?_ | refine X.l2 ?_ | refine X.l3 ?_ | refine X.l4 ?_ | refine X.l5 ?_ | refine X.l10 ?_ | refine X.l6 ?_ | refine X.l7 ?_ | refine X.l8 ?_ | refine X.l9 ?_ | refine X.m7 ?_ | refine X.m8 ?_ | (refine X.s1 ?_; intro w hw) | (refine X.s2 ?_; intro w hw) | refine X.e1 ?_ | refine X.e2 ?_ | (simp only [X.df]) | (simp (disch := omega) only [wi]))
  refine X.loop (fun p : Nat × Value => [(3, p.2), (7, .slice A l.length c), (8, .int .i64 (l.length : Int)), (9, .int .i64 (p.1 : Int))])
    (fun p w' => p.1 ≤ l.length ∧ St w0 [] [vecI p.2 56 2 (fewL (l.take p.1)).length (cutsC (fewL (l.take p.1)))] w') (fun p => l.length - p.1) (0, v6) ⟨Nat.zero_le _, hw⟩ ?_
  clear hw
  rintro ⟨i, vo⟩ w ⟨hi, hw⟩
  simp only at hi hw
  repeat (first | refine X.p1 ?_ | refine X.p2 ?_ | refine X.p6 ?_ | refine X.p7 ?_ | refine X.p0 ?_ | refine X.p3 ?_ | refine X.p4 ?_ | refine X.p5 ?_ | refine X.p8 ?_ | refine X.p9 ?_ | refine X.q1 ?_ | refine X.q2 ?_ | refine X.q3 ?_ | refine X.q4 ?_ | refine X.q5 ?_ | refine X.q6 ?_ | refine X.q7 ?_ | refine X.q8 ?_ | refine X.q9 ?_ | refine X.q0 ?_ | refine X.m1 ?_ | refine X.m2 ?_ | refine X.m3 ?_ | refine X.m4 ?_ | refine X.m5 ?_ | refine X.m6 ?_ | refine X.l11 ?_ | refine X.l1 ?_ | refine X.l2 ?_ | refine X.l3 ?_ | refine X.l4 ?_ | refine X.l5 ?_ | refine X.l10 ?_ | refine X.l6 ?_ | refine X.l7 ?_ | refine X.l8 ?_ | refine X.l9 ?_ | refine X.m7 ?_ | refine X.m8 ?_ | (refine X.s1 ?_; intro w hw) | (refine X.s2 ?_; intro w hw) | refine X.e1 ?_ | refine X.e2 ?_ | (simp only [X.df]) | (simp (disch := omega) only [wi]))
  refine X.cond (fun hlt => ?_) (fun hge => ?_)
  · have hlt : i < l.length := by omega
    have hg := cutsC_get l i hlt
    have hs := few_snoc (l.take i) l[i]
    rw [← List.take_succ_eq_append_getElem hlt] at hs
    have hf := few_len (l.take i)
    obtain ⟨g, o, rfl, hat⟩ := hr.some (cutsC_ne hlt)
    obtain ⟨Av, cv, hv⟩ := vec_slice hw (v := vo) (by (repeat (first | (with_reducible exact Pick.here) | (with_reducible exact Put.here) | (with_reducible apply Pick.there) | (with_reducible apply Put.there))))
    subst hv
    repeat (first | refine X.p1 ?_ | refine X.p2 ?_ | refine X.p6 ?_ | refine X.p7 ?_ | refine X.p0 ?_ | refine X.p3 ?_ | refine X.p4 ?_ | refine X.p5 ?_ | refine X.p8 ?_ | refine X.p9 ?_ | refine X.q1 ?_ | refine X.q2 ?_ | refine X.q3 ?_ | refine X.q4 ?_ | refine X.q5 ?_ | refine X.q6 ?_ | refine X.q7 ?_ | refine X.q8 ?_ | refine X.q9 ?_ | refine X.q0 ?_ | refine X.m1 ?_ | refine X.m2 ?_ | refine X.m3 ?_ | refine X.m4 ?_ | refine X.m5 ?_ | refine X.m6 ?_ | refine X.l11 ?_ | refine X.l1 ?_ | refine X.l2 ?_ | refine X.l3 ?_ | refine X.l4 ?_ | refine X.l5 ?_ | refine X.l10 ?_ | refine X.l6 ?_ | refine X.l7 ?_ | refine X.l8 ?_ | refine X.l9 ?_ | refine X.m7 ?_ | refine X.m8 ?_ | (refine X.s1 ?_; intro w hw) | (refine X.s2 ?_; intro w hw) | refine X.e1 ?_ | refine X.e2 ?_ | (simp only [X.df]) | (simp (disch := omega) only [wi]))
    refine ow_loadAt tab (row_at (hr.no (hw.kpNo ro_nil)) hg) rfl rfl rfl rfl rfl rfl ?_
    generalize l[i] = x at *
    (first | refine X.nb ?_ | refine X.na ?_); intro g5 w _ hw
    repeat (first | refine X.p1 ?_ | refine X.p2 ?_ | refine X.p6 ?_ | refine X.p7 ?_ | refine X.p0 ?_ | refine X.p3 ?_ | refine X.p4 ?_ | refine X.p5 ?_ | refine X.p8 ?_ | refine X.p9 ?_ | refine X.q1 ?_ | refine X.q2 ?_ | refine X.q3 ?_ | refine X.q4 ?_ | refine X.q5 ?_ | refine X.q6 ?_ | refine X.q7 ?_ | refine X.q8 ?_ | refine X.q9 ?_ | refine X.q0 ?_ | refine X.m1 ?_ | refine X.m2 ?_ | refine X.m3 ?_ | refine X.m4 ?_ | refine X.m5 ?_ | refine X.m6 ?_ | refine X.l11 ?_ | refine X.l1 ?_ | refine X.l2 ?_ | refine X.l3 ?_ | refine X.l4 ?_ | refine X.l5 ?_ | refine X.l10 ?_ | refine X.l6 ?_ | refine X.l7 ?_ | refine X.l8 ?_ | refine X.l9 ?_ | refine X.m7 ?_ | refine X.m8 ?_ | (refine X.s1 ?_; intro w hw) | (refine X.s2 ?_; intro w hw) | refine X.e1 ?_ | refine X.e2 ?_ | (simp only [X.df]) | (simp (disch := omega) only [wi]))
    generalize fewL (l.take i) = out at *
    by_cases h1 : x.1 ≥ 0
    · by_cases h2 : out.length < 64
      · have h2' : (out.length : Int) < 64 := by omega
        repeat (first | refine X.p1 ?_ | refine X.p2 ?_ | refine X.p6 ?_ | refine X.p7 ?_ | refine X.p0 ?_ | refine X.p3 ?_ | refine X.p4 ?_ | refine X.p5 ?_ | refine X.p8 ?_ | refine X.p9 ?_ | refine X.q1 ?_ | refine X.q2 ?_ | refine X.q3 ?_ | refine X.q4 ?_ | refine X.q5 ?_ | refine X.q6 ?_ | refine X.q7 ?_ | refine X.q8 ?_ | refine X.q9 ?_ | refine X.q0 ?_ | refine X.m1 ?_ | refine X.m2 ?_ | refine X.m3 ?_ | refine X.m4 ?_ | refine X.m5 ?_ | refine X.m6 ?_ | refine X.l11 ?_ | refine X.l1 ?_ | refine X.l2 ?_ | refine X.l3 ?_ | refine X.l4 ?_ | refine X.l5 ?_ | refine X.l10 ?_ | refine X.l6 ?_ | refine X.l7 ?_ | refine X.l8 ?_ | refine X.l9 ?_ | refine X.m7 ?_ | refine X.m8 ?_ | (refine X.s1 ?_; intro w hw) | (refine X.s2 ?_; intro w hw) | refine X.e1 ?_ | refine X.e2 ?_ | (simp only [X.df, h1, h2']) | (simp (disch := omega) only [wi]))
        refine X.c1 ?_; intro g23 w _ hw
        (first | refine X.a1 ?_ | refine X.a3 ?_ | refine X.a2 ?_); intro u w hw
        rw [show cutsC out ++ ctC x = cutsC (out ++ [x]) from by simp [cutsC]] at hw
        repeat (first | refine X.p1 ?_ | refine X.p2 ?_ | refine X.p6 ?_ | refine X.p7 ?_ | refine X.p0 ?_ | refine X.p3 ?_ | refine X.p4 ?_ | refine X.p5 ?_ | refine X.p8 ?_ | refine X.p9 ?_ | refine X.q1 ?_ | refine X.q2 ?_ | refine X.q3 ?_ | refine X.q4 ?_ | refine X.q5 ?_ | refine X.q6 ?_ | refine X.q7 ?_ | refine X.q8 ?_ | refine X.q9 ?_ | refine X.q0 ?_ | refine X.m1 ?_ | refine X.m2 ?_ | refine X.m3 ?_ | refine X.m4 ?_ | refine X.m5 ?_ | refine X.m6 ?_ | refine X.l11 ?_ | refine X.l1 ?_ | refine X.l2 ?_ | refine X.l3 ?_ | refine X.l4 ?_ | refine X.l5 ?_ | refine X.l10 ?_ | refine X.l6 ?_ | refine X.l7 ?_ | refine X.l8 ?_ | refine X.l9 ?_ | refine X.m7 ?_ | refine X.m8 ?_ | (refine X.s1 ?_; intro w hw) | (refine X.s2 ?_; intro w hw) | refine X.e1 ?_ | refine X.e2 ?_ | (simp only [X.df]) | (simp (disch := omega) only [wi]))
        have hs2 : fewL (l.take (i + 1)) = out ++ [x] := by rw [hs, fewS, if_pos ⟨h1, h2⟩]
        refine X.again (i + 1, u) ⟨by simp only; omega, ?_⟩ (by simp only; omega)
        simp only [hs2, List.length_append, List.length_singleton]
        exact hw.sub (by (repeat (first | (with_reducible exact Split.nil) | ((with_reducible apply Split.cons); (next => (repeat (first | (with_reducible exact Pick.here) | (with_reducible exact Put.here) | (with_reducible apply Pick.there) | (with_reducible apply Put.there))))))))
      · have h2' : ¬ (out.length : Int) < 64 := by omega
        repeat (first | refine X.p1 ?_ | refine X.p2 ?_ | refine X.p6 ?_ | refine X.p7 ?_ | refine X.p0 ?_ | refine X.p3 ?_ | refine X.p4 ?_ | refine X.p5 ?_ | refine X.p8 ?_ | refine X.p9 ?_ | refine X.q1 ?_ | refine X.q2 ?_ | refine X.q3 ?_ | refine X.q4 ?_ | refine X.q5 ?_ | refine X.q6 ?_ | refine X.q7 ?_ | refine X.q8 ?_ | refine X.q9 ?_ | refine X.q0 ?_ | refine X.m1 ?_ | refine X.m2 ?_ | refine X.m3 ?_ | refine X.m4 ?_ | refine X.m5 ?_ | refine X.m6 ?_ | refine X.l11 ?_ | refine X.l1 ?_ | refine X.l2 ?_ | refine X.l3 ?_ | refine X.l4 ?_ | refine X.l5 ?_ | refine X.l10 ?_ | refine X.l6 ?_ | refine X.l7 ?_ | refine X.l8 ?_ | refine X.l9 ?_ | refine X.m7 ?_ | refine X.m8 ?_ | (refine X.s1 ?_; intro w hw) | (refine X.s2 ?_; intro w hw) | refine X.e1 ?_ | refine X.e2 ?_ | (simp only [X.df, h1, h2']) | (simp (disch := omega) only [wi]))
        have hs2 : fewL (l.take (i + 1)) = out := by rw [hs, fewS, if_neg (by omega)]
        refine X.again (i + 1, .slice Av out.length cv) ⟨by simp only; omega, ?_⟩ (by simp only; omega)
        simp only [hs2]
        exact hw.sub (by (repeat (first | (with_reducible exact Split.nil) | ((with_reducible apply Split.cons); (next => (repeat (first | (with_reducible exact Pick.here) | (with_reducible exact Put.here) | (with_reducible apply Pick.there) | (with_reducible apply Put.there))))))))
    · repeat (first | refine X.p1 ?_ | refine X.p2 ?_ | refine X.p6 ?_ | refine X.p7 ?_ | refine X.p0 ?_ | refine X.p3 ?_ | refine X.p4 ?_ | refine X.p5 ?_ | refine X.p8 ?_ | refine X.p9 ?_ | refine X.q1 ?_ | refine X.q2 ?_ | refine X.q3 ?_ | refine X.q4 ?_ | refine X.q5 ?_ | refine X.q6 ?_ | refine X.q7 ?_ | refine X.q8 ?_ | refine X.q9 ?_ | refine X.q0 ?_ | refine X.m1 ?_ | refine X.m2 ?_ | refine X.m3 ?_ | refine X.m4 ?_ | refine X.m5 ?_ | refine X.m6 ?_ | refine X.l11 ?_ | refine X.l1 ?_ | refine X.l2 ?_ | refine X.l3 ?_ | refine X.l4 ?_ | refine X.l5 ?_ | refine X.l10 ?_ | refine X.l6 ?_ | refine X.l7 ?_ | refine X.l8 ?_ | refine X.l9 ?_ | refine X.m7 ?_ | refine X.m8 ?_ | (refine X.s1 ?_; intro w hw) | (refine X.s2 ?_; intro w hw) | refine X.e1 ?_ | refine X.e2 ?_ | (simp only [X.df, h1]) | (simp (disch := omega) only [wi]))
      have hs2 : fewL (l.take (i + 1)) = out := by rw [hs, fewS, if_neg (by omega)]
      refine X.again (i + 1, .slice Av out.length cv) ⟨by simp only; omega, ?_⟩ (by simp only; omega)
      simp only [hs2]
      exact hw.sub (by (repeat (first | (with_reducible exact Split.nil) | ((with_reducible apply Split.cons); (next => (repeat (first | (with_reducible exact Pick.here) | (with_reducible exact Put.here) | (with_reducible apply Pick.there) | (with_reducible apply Put.there))))))))
  obtain rfl : i = l.length := by omega
  rw [List.take_length] at hw
  repeat (first | refine X.p1 ?_ | refine X.p2 ?_ | refine X.p6 ?_ | refine X.p7 ?_ | refine X.p0 ?_ | refine X.p3 ?_ | refine X.p4 ?_ | refine X.p5 ?_ | refine X.p8 ?_ | refine X.p9 ?_ | refine X.q1 ?_ | refine X.q2 ?_ | refine X.q3 ?_ | refine X.q4 ?_ | refine X.q5 ?_ | refine X.q6 ?_ | refine X.q7 ?_ | refine X.q8 ?_ | refine X.q9 ?_ | refine X.q0 ?_ | refine X.m1 ?_ | refine X.m2 ?_ | refine X.m3 ?_ | refine X.m4 ?_ | refine X.m5 ?_ | refine X.m6 ?_ | refine X.l11 ?_ | refine X.l1 ?_ | refine X.l2 ?_ | refine X.l3 ?_ | refine X.l4 ?_ | refine X.l5 ?_ | refine X.l10 ?_ | refine X.l6 ?_ | refine X.l7 ?_ | refine X.l8 ?_ | refine X.l9 ?_ | refine X.m7 ?_ | refine X.m8 ?_ | (refine X.s1 ?_; intro w hw) | (refine X.s2 ?_; intro w hw) | refine X.e1 ?_ | refine X.e2 ?_ | (simp only [X.df]) | (simp (disch := omega) only [wi]))
  exact xw_ret (vs := [_]) Try.results70 ⟨rfl, trivial⟩ hw
theorem at_calls (A : Option Addr) (l : List Ct) (c : Nat) (hl : l.length ≤ 1048576) (ev : Int) (w0 : World) (hr : Row w0 A (cutsC l)) :
    Does Try.prog 71 [.slice A l.length c, i64v ev] w0 fun v w' => v = etV (atL l ev) ∧ Kp No w0 w' := by
  have hw := St.start (w := w0) .nil
  have hE : ∀ x : Bool × Bool, (etC x).length = 2 := fun _ => rfl
  refine fn_enter Try.func71 rfl Try.ntmps71 rfl ?_
  repeat (first | refine X.p1 ?_ | refine X.p2 ?_ | refine X.p6 ?_ | refine X.p7 ?_ | refine X.p0 ?_ | refine X.p3 ?_ | refine X.p4 ?_ | refine X.p5 ?_ | refine X.p8 ?_ | refine X.p9 ?_ | refine X.q1 ?_ | refine X.q2 ?_ | refine X.q3 ?_ | refine X.q4 ?_ | refine X.q5 ?_ | refine X.q6 ?_ | refine X.q7 ?_ | refine X.q8 ?_ | refine X.q9 ?_ | refine X.q0 ?_ | refine X.m1 ?_ | refine X.m2 ?_ | refine X.m3 ?_ | refine X.m4 ?_ | refine X.m5 ?_ | refine X.m6 ?_ | refine X.l11 ?_ | refine X.l1 ?_ | refine X.l2 ?_ | refine X.l3 ?_ | refine X.l4 ?_ | refine X.l5 ?_ | refine X.l10 ?_ | refine X.l6 ?_ | refine X.l7 ?_ | refine X.l8 ?_ | refine X.l9 ?_ | refine X.m7 ?_ | refine X.m8 ?_ | (refine X.s1 ?_; intro w hw) | (refine X.s2 ?_; intro w hw) | refine X.e1 ?_ | refine X.e2 ?_ | (simp only [X.df]) | (simp (disch := omega) only [wi]))
  (first | refine X.nb ?_ | refine X.na ?_); intro g4 w _ hw
  repeat (first | refine X.p1 ?_ | refine X.p2 ?_ | refine X.p6 ?_ | refine X.p7 ?_ | refine X.p0 ?_ | refine X.p3 ?_ | refine X.p4 ?_ | refine X.p5 ?_ | refine X.p8 ?_ | refine X.p9 ?_ | refine X.q1 ?_ | refine X.q2 ?_ | refine X.q3 ?_ | refine X.q4 ?_ | refine X.q5 ?_ | refine X.q6 ?_ | refine X.q7 ?_ | refine X.q8 ?_ | refine X.q9 ?_ | refine X.q0 ?_ | refine X.m1 ?_ | refine X.m2 ?_ | refine X.m3 ?_ | refine X.m4 ?_ | refine X.m5 ?_ | refine X.m6 ?_ | refine X.l11 ?_ | refine X.l1 ?_ | refine X.l2 ?_ | refine X.l3 ?_ | refine X.l4 ?_ | refine X.l5 ?_ | refine X.l10 ?_ | refine X.l6 ?_ | refine X.l7 ?_ | refine X.l8 ?_ | refine X.l9 ?_ | refine X.m7 ?_ | refine X.m8 ?_ | (refine X.s1 ?_; intro w hw) | (refine X.s2 ?_; intro w hw) | refine X.e1 ?_ | refine X.e2 ?_ | (simp only [X.df]) | (simp (disch := omega) only [wi]))
  refine X.bl rfl evtB1 ?_
  (first | refine X.nb ?_ | refine X.na ?_); intro g5 w _ hw
  repeat (first | refine X.p1 ?_ | refine X.p2 ?_ | refine X.p6 ?_ | refine X.p7 ?_ | refine X.p0 ?_ | refine X.p3 ?_ | refine X.p4 ?_ | refine X.p5 ?_ | refine X.p8 ?_ | refine X.p9 ?_ | refine X.q1 ?_ | refine X.q2 ?_ | refine X.q3 ?_ | refine X.q4 ?_ | refine X.q5 ?_ | refine X.q6 ?_ | refine X.q7 ?_ | refine X.q8 ?_ | refine X.q9 ?_ | refine X.q0 ?_ | refine X.m1 ?_ | refine X.m2 ?_ | refine X.m3 ?_ | refine X.m4 ?_ | refine X.m5 ?_ | refine X.m6 ?_ | refine X.l11 ?_ | refine X.l1 ?_ | refine X.l2 ?_ | refine X.l3 ?_ | refine X.l4 ?_ | refine X.l5 ?_ | refine X.l10 ?_ | refine X.l6 ?_ | refine X.l7 ?_ | refine X.l8 ?_ | refine X.l9 ?_ | refine X.m7 ?_ | refine X.m8 ?_ | (refine X.s1 ?_; intro w hw) | (refine X.s2 ?_; intro w hw) | refine X.e1 ?_ | refine X.e2 ?_ | (simp only [X.df]) | (simp (disch := omega) only [wi]))
  refine X.loop (fun i : Nat => [(1, i64v ev), (4, .pointer (some ⟨g4, 0, none⟩)), (5, .pointer (some ⟨g5, 0, none⟩)), (9, .slice A l.length c), (10, .int .i64 (l.length : Int)), (11, .int .i64 (i : Int))])
    (fun i w' => i ≤ l.length ∧ (ev, false) ∉ l.take i ∧ St w0 [] [blkI g5 144 (etC (true, decide ((ev, true) ∈ l.take i))), blkI g4 144 (etC (false, false))] w') (fun i => l.length - i) 0 ⟨Nat.zero_le _, by simp, by simpa using hw⟩ ?_
  clear hw
  rintro i w ⟨hi, hno, hw⟩
  repeat (first | refine X.p1 ?_ | refine X.p2 ?_ | refine X.p6 ?_ | refine X.p7 ?_ | refine X.p0 ?_ | refine X.p3 ?_ | refine X.p4 ?_ | refine X.p5 ?_ | refine X.p8 ?_ | refine X.p9 ?_ | refine X.q1 ?_ | refine X.q2 ?_ | refine X.q3 ?_ | refine X.q4 ?_ | refine X.q5 ?_ | refine X.q6 ?_ | refine X.q7 ?_ | refine X.q8 ?_ | refine X.q9 ?_ | refine X.q0 ?_ | refine X.m1 ?_ | refine X.m2 ?_ | refine X.m3 ?_ | refine X.m4 ?_ | refine X.m5 ?_ | refine X.m6 ?_ | refine X.l11 ?_ | refine X.l1 ?_ | refine X.l2 ?_ | refine X.l3 ?_ | refine X.l4 ?_ | refine X.l5 ?_ | refine X.l10 ?_ | refine X.l6 ?_ | refine X.l7 ?_ | refine X.l8 ?_ | refine X.l9 ?_ | refine X.m7 ?_ | refine X.m8 ?_ | (refine X.s1 ?_; intro w hw) | (refine X.s2 ?_; intro w hw) | refine X.e1 ?_ | refine X.e2 ?_ | (simp only [X.df]) | (simp (disch := omega) only [wi]))
  refine X.cond (fun hlt => ?_) (fun hge => ?_)
  · have hlt : i < l.length := by omega
    have hg := cutsC_get l i hlt
    have hm1 := mem_snoc hlt (ev, false)
    have hm2 := mem_snoc hlt (ev, true)
    have hmem := List.getElem_mem hlt
    obtain ⟨g, o, rfl, hat⟩ := hr.some (cutsC_ne hlt)
    repeat (first | refine X.p1 ?_ | refine X.p2 ?_ | refine X.p6 ?_ | refine X.p7 ?_ | refine X.p0 ?_ | refine X.p3 ?_ | refine X.p4 ?_ | refine X.p5 ?_ | refine X.p8 ?_ | refine X.p9 ?_ | refine X.q1 ?_ | refine X.q2 ?_ | refine X.q3 ?_ | refine X.q4 ?_ | refine X.q5 ?_ | refine X.q6 ?_ | refine X.q7 ?_ | refine X.q8 ?_ | refine X.q9 ?_ | refine X.q0 ?_ | refine X.m1 ?_ | refine X.m2 ?_ | refine X.m3 ?_ | refine X.m4 ?_ | refine X.m5 ?_ | refine X.m6 ?_ | refine X.l11 ?_ | refine X.l1 ?_ | refine X.l2 ?_ | refine X.l3 ?_ | refine X.l4 ?_ | refine X.l5 ?_ | refine X.l10 ?_ | refine X.l6 ?_ | refine X.l7 ?_ | refine X.l8 ?_ | refine X.l9 ?_ | refine X.m7 ?_ | refine X.m8 ?_ | (refine X.s1 ?_; intro w hw) | (refine X.s2 ?_; intro w hw) | refine X.e1 ?_ | refine X.e2 ?_ | (simp only [X.df]) | (simp (disch := omega) only [wi]))
    refine ow_loadAt tab (row_at (hr.no (hw.kpNo ro_nil)) hg) rfl rfl rfl rfl rfl rfl ?_
    generalize l[i] = x at *
    obtain ⟨e, a⟩ := x
    (first | refine X.nb ?_ | refine X.na ?_); intro g7 w _ hw
    repeat (first | refine X.p1 ?_ | refine X.p2 ?_ | refine X.p6 ?_ | refine X.p7 ?_ | refine X.p0 ?_ | refine X.p3 ?_ | refine X.p4 ?_ | refine X.p5 ?_ | refine X.p8 ?_ | refine X.p9 ?_ | refine X.q1 ?_ | refine X.q2 ?_ | refine X.q3 ?_ | refine X.q4 ?_ | refine X.q5 ?_ | refine X.q6 ?_ | refine X.q7 ?_ | refine X.q8 ?_ | refine X.q9 ?_ | refine X.q0 ?_ | refine X.m1 ?_ | refine X.m2 ?_ | refine X.m3 ?_ | refine X.m4 ?_ | refine X.m5 ?_ | refine X.m6 ?_ | refine X.l11 ?_ | refine X.l1 ?_ | refine X.l2 ?_ | refine X.l3 ?_ | refine X.l4 ?_ | refine X.l5 ?_ | refine X.l10 ?_ | refine X.l6 ?_ | refine X.l7 ?_ | refine X.l8 ?_ | refine X.l9 ?_ | refine X.m7 ?_ | refine X.m8 ?_ | (refine X.s1 ?_; intro w hw) | (refine X.s2 ?_; intro w hw) | refine X.e1 ?_ | refine X.e2 ?_ | (simp only [X.df]) | (simp (disch := omega) only [wi]))
    by_cases h1 : e = ev
    · subst h1
      have d1 : (e == e) = true := by simp
      cases a with
      | false =>
        repeat (first | refine X.p1 ?_ | refine X.p2 ?_ | refine X.p6 ?_ | refine X.p7 ?_ | refine X.p0 ?_ | refine X.p3 ?_ | refine X.p4 ?_ | refine X.p5 ?_ | refine X.p8 ?_ | refine X.p9 ?_ | refine X.q1 ?_ | refine X.q2 ?_ | refine X.q3 ?_ | refine X.q4 ?_ | refine X.q5 ?_ | refine X.q6 ?_ | refine X.q7 ?_ | refine X.q8 ?_ | refine X.q9 ?_ | refine X.q0 ?_ | refine X.m1 ?_ | refine X.m2 ?_ | refine X.m3 ?_ | refine X.m4 ?_ | refine X.m5 ?_ | refine X.m6 ?_ | refine X.l11 ?_ | refine X.l1 ?_ | refine X.l2 ?_ | refine X.l3 ?_ | refine X.l4 ?_ | refine X.l5 ?_ | refine X.l10 ?_ | refine X.l6 ?_ | refine X.l7 ?_ | refine X.l8 ?_ | refine X.l9 ?_ | refine X.m7 ?_ | refine X.m8 ?_ | (refine X.s1 ?_; intro w hw) | (refine X.s2 ?_; intro w hw) | refine X.e1 ?_ | refine X.e2 ?_ | (simp only [X.df, d1]) | (simp (disch := omega) only [wi]))
        refine X.bl rfl evtB2 ?_
        repeat (first | refine X.p1 ?_ | refine X.p2 ?_ | refine X.p6 ?_ | refine X.p7 ?_ | refine X.p0 ?_ | refine X.p3 ?_ | refine X.p4 ?_ | refine X.p5 ?_ | refine X.p8 ?_ | refine X.p9 ?_ | refine X.q1 ?_ | refine X.q2 ?_ | refine X.q3 ?_ | refine X.q4 ?_ | refine X.q5 ?_ | refine X.q6 ?_ | refine X.q7 ?_ | refine X.q8 ?_ | refine X.q9 ?_ | refine X.q0 ?_ | refine X.m1 ?_ | refine X.m2 ?_ | refine X.m3 ?_ | refine X.m4 ?_ | refine X.m5 ?_ | refine X.m6 ?_ | refine X.l11 ?_ | refine X.l1 ?_ | refine X.l2 ?_ | refine X.l3 ?_ | refine X.l4 ?_ | refine X.l5 ?_ | refine X.l10 ?_ | refine X.l6 ?_ | refine X.l7 ?_ | refine X.l8 ?_ | refine X.l9 ?_ | refine X.m7 ?_ | refine X.m8 ?_ | (refine X.s1 ?_; intro w hw) | (refine X.s2 ?_; intro w hw) | refine X.e1 ?_ | refine X.e2 ?_ | (simp only [X.df]) | (simp (disch := omega) only [wi]))
        have hat : atL l e = (false, true) := by unfold atL; rw [if_pos hmem]
        refine xw_ret (vs := [_]) Try.results71 ⟨⟨_, rfl, cellA tab (g := g4) hw (by (repeat (first | (with_reducible exact Pick.here) | (with_reducible exact Put.here) | (with_reducible apply Pick.there) | (with_reducible apply Put.there)))) Try.underlying144 rfl rfl (hE _)⟩, trivial⟩ ⟨?_, hw.kpNo ro_nil⟩
        rw [hat]; rfl
      | true =>
        repeat (first | refine X.p1 ?_ | refine X.p2 ?_ | refine X.p6 ?_ | refine X.p7 ?_ | refine X.p0 ?_ | refine X.p3 ?_ | refine X.p4 ?_ | refine X.p5 ?_ | refine X.p8 ?_ | refine X.p9 ?_ | refine X.q1 ?_ | refine X.q2 ?_ | refine X.q3 ?_ | refine X.q4 ?_ | refine X.q5 ?_ | refine X.q6 ?_ | refine X.q7 ?_ | refine X.q8 ?_ | refine X.q9 ?_ | refine X.q0 ?_ | refine X.m1 ?_ | refine X.m2 ?_ | refine X.m3 ?_ | refine X.m4 ?_ | refine X.m5 ?_ | refine X.m6 ?_ | refine X.l11 ?_ | refine X.l1 ?_ | refine X.l2 ?_ | refine X.l3 ?_ | refine X.l4 ?_ | refine X.l5 ?_ | refine X.l10 ?_ | refine X.l6 ?_ | refine X.l7 ?_ | refine X.l8 ?_ | refine X.l9 ?_ | refine X.m7 ?_ | refine X.m8 ?_ | (refine X.s1 ?_; intro w hw) | (refine X.s2 ?_; intro w hw) | refine X.e1 ?_ | refine X.e2 ?_ | (simp only [X.df, d1]) | (simp (disch := omega) only [wi]))
        refine X.s2 (hk := by simp) ?_; intro w hw; simp only [splice, List.take_succ_cons, List.take_zero, List.drop_succ_cons, List.drop_zero, List.length_cons, List.length_nil, List.cons_append, List.nil_append, Nat.zero_add, Nat.reduceAdd] at hw
        repeat (first | refine X.p1 ?_ | refine X.p2 ?_ | refine X.p6 ?_ | refine X.p7 ?_ | refine X.p0 ?_ | refine X.p3 ?_ | refine X.p4 ?_ | refine X.p5 ?_ | refine X.p8 ?_ | refine X.p9 ?_ | refine X.q1 ?_ | refine X.q2 ?_ | refine X.q3 ?_ | refine X.q4 ?_ | refine X.q5 ?_ | refine X.q6 ?_ | refine X.q7 ?_ | refine X.q8 ?_ | refine X.q9 ?_ | refine X.q0 ?_ | refine X.m1 ?_ | refine X.m2 ?_ | refine X.m3 ?_ | refine X.m4 ?_ | refine X.m5 ?_ | refine X.m6 ?_ | refine X.l11 ?_ | refine X.l1 ?_ | refine X.l2 ?_ | refine X.l3 ?_ | refine X.l4 ?_ | refine X.l5 ?_ | refine X.l10 ?_ | refine X.l6 ?_ | refine X.l7 ?_ | refine X.l8 ?_ | refine X.l9 ?_ | refine X.m7 ?_ | refine X.m8 ?_ | (refine X.s1 ?_; intro w hw) | (refine X.s2 ?_; intro w hw) | refine X.e1 ?_ | refine X.e2 ?_ | (simp only [X.df]) | (simp (disch := omega) only [wi]))
        refine X.again (i + 1) ⟨by omega, ?_, ?_⟩ (by omega)
        · rw [hm1]; simp [hno]
        · rw [show decide ((e, true) ∈ l.take (i + 1)) = true from decide_eq_true (hm2.2 (.inr rfl))]
          exact hw.sub (by (repeat (first | (with_reducible exact Split.nil) | ((with_reducible apply Split.cons); (next => (repeat (first | (with_reducible exact Pick.here) | (with_reducible exact Put.here) | (with_reducible apply Pick.there) | (with_reducible apply Put.there))))))))
    · have d1 : (e == ev) = false := by simp [h1]
      repeat (first | refine X.p1 ?_ | refine X.p2 ?_ | refine X.p6 ?_ | refine X.p7 ?_ | refine X.p0 ?_ | refine X.p3 ?_ | refine X.p4 ?_ | refine X.p5 ?_ | refine X.p8 ?_ | refine X.p9 ?_ | refine X.q1 ?_ | refine X.q2 ?_ | refine X.q3 ?_ | refine X.q4 ?_ | refine X.q5 ?_ | refine X.q6 ?_ | refine X.q7 ?_ | refine X.q8 ?_ | refine X.q9 ?_ | refine X.q0 ?_ | refine X.m1 ?_ | refine X.m2 ?_ | refine X.m3 ?_ | refine X.m4 ?_ | refine X.m5 ?_ | refine X.m6 ?_ | refine X.l11 ?_ | refine X.l1 ?_ | refine X.l2 ?_ | refine X.l3 ?_ | refine X.l4 ?_ | refine X.l5 ?_ | refine X.l10 ?_ | refine X.l6 ?_ | refine X.l7 ?_ | refine X.l8 ?_ | refine X.l9 ?_ | refine X.m7 ?_ | refine X.m8 ?_ | (refine X.s1 ?_; intro w hw) | (refine X.s2 ?_; intro w hw) | refine X.e1 ?_ | refine X.e2 ?_ | (simp only [X.df, d1]) | (simp (disch := omega) only [wi]))
      refine X.again (i + 1) ⟨by omega, ?_, ?_⟩ (by omega)
      · rw [hm1]; simp [hno, h1]
      · rw [show decide ((ev, true) ∈ l.take (i + 1)) = decide ((ev, true) ∈ l.take i) from by rw [decide_eq_decide, hm2]; simp [h1]]
        exact hw.sub (by (repeat (first | (with_reducible exact Split.nil) | ((with_reducible apply Split.cons); (next => (repeat (first | (with_reducible exact Pick.here) | (with_reducible exact Put.here) | (with_reducible apply Pick.there) | (with_reducible apply Put.there))))))))
  obtain rfl : i = l.length := by omega
  rw [List.take_length] at hw hno
  have hat : atL l ev = (true, decide ((ev, true) ∈ l)) := by unfold atL; rw [if_neg hno]
  rw [hat]
  repeat (first | refine X.p1 ?_ | refine X.p2 ?_ | refine X.p6 ?_ | refine X.p7 ?_ | refine X.p0 ?_ | refine X.p3 ?_ | refine X.p4 ?_ | refine X.p5 ?_ | refine X.p8 ?_ | refine X.p9 ?_ | refine X.q1 ?_ | refine X.q2 ?_ | refine X.q3 ?_ | refine X.q4 ?_ | refine X.q5 ?_ | refine X.q6 ?_ | refine X.q7 ?_ | refine X.q8 ?_ | refine X.q9 ?_ | refine X.q0 ?_ | refine X.m1 ?_ | refine X.m2 ?_ | refine X.m3 ?_ | refine X.m4 ?_ | refine X.m5 ?_ | refine X.m6 ?_ | refine X.l11 ?_ | refine X.l1 ?_ | refine X.l2 ?_ | refine X.l3 ?_ | refine X.l4 ?_ | refine X.l5 ?_ | refine X.l10 ?_ | refine X.l6 ?_ | refine X.l7 ?_ | refine X.l8 ?_ | refine X.l9 ?_ | refine X.m7 ?_ | refine X.m8 ?_ | (refine X.s1 ?_; intro w hw) | (refine X.s2 ?_; intro w hw) | refine X.e1 ?_ | refine X.e2 ?_ | (simp only [X.df]) | (simp (disch := omega) only [wi]))
  exact xw_ret (vs := [_]) Try.results71 ⟨⟨_, rfl, cellA tab (g := g4) hw (by (repeat (first | (with_reducible exact Pick.here) | (with_reducible exact Put.here) | (with_reducible apply Pick.there) | (with_reducible apply Put.there)))) Try.underlying144 rfl rfl (hE _)⟩, trivial⟩ ⟨rfl, hw.kpNo ro_nil⟩
end Go.Proofs.Ytnpnphcklmlchaa.Pl
