/- The law SuperCodes. -/
import Derived.Test.YtbgjhmdedillhaaSupR
set_option linter.unusedVariables false
set_option linter.unusedSimpArgs false
namespace Go.Proofs.Ytbgjhmdedillhaa.Sup
open Go.RowKit Go.Proofs.Ytbgjhmdedillhaa.Sx Go.Proofs.Ytbgjhmdedillhaa.Mx Go.Proofs.Ytbgjhmdedillhaa.Bw Go.Proofs.Ytbgjhmdedillhaa.By Go.Proofs.Ytbgjhmdedillhaa.Eqs Go.Proofs.Ytbgjhmdedillhaa.Qx Go.Proofs.Ytbgjhmdedillhaa.Ap Go.Proofs.Ytbgjhmdedillhaa.Mi Go.Proofs.Ytbgjhmdedillhaa.Stm Go.Proofs.Ytbgjhmdedillhaa.Fl Go.Proofs.Ytbgjhmdedillhaa.TrW Go.Proofs.Ytbgjhmdedillhaa.Ino Go.Proofs.Ytbgjhmdedillhaa.Nd Go.Proofs.Ytbgjhmdedillhaa.Bd Go.Proofs.Ytbgjhmdedillhaa.Wd Go.Proofs.Ytbgjhmdedillhaa.Num
attribute [local irreducible] Ow Cw Xw Mw
set_option maxHeartbeats 4000000
/-- '==' of two ints. -/
theorem eqI {t : TypeId} (ht : Try.prog.underlying t = some (.int .i64)) (hs : (Try.prog.info? t).map (·.size) = some 1) : EqT Try.prog t (.int .i64) (fun n : Int => [i64v n]) (fun _ => True) 1 1 where
  desc := ht
  size := hs
  len := fun _ _ => rfl
  one := fun _ => rfl
  eq := fun d w x y hd _ _ => by
    obtain ⟨d, rfl⟩ : ∃ m, d = m + 1 := ⟨d - 1, by omega⟩
    show (Op.equalIn (d + 1) t (.int .i64 x) (.int .i64 y)).run Try.prog w = _
    by_cases h : x = y <;> simp [Op.equalIn, Go.run_underlying ht, h]
theorem eqRef14 : ∃ D, aggB D = true ∧ EqT Try.prog 51 D refC OkR 3 33 :=
  ⟨_, rfl, eq_map (eq_struct2 (P := Try.prog) Try.underlying51 (tab.sz_ok _ _ rfl) (by kernel_rfl) rfl rfl rfl rfl (eq_u (w := 32) .u32 Try.underlying36 (tab.sz_ok _ _ rfl)) (eqB32 Try.underlying37 Try.underlying5 (tab.sz_ok _ _ rfl) (tab.sz_ok _ _ rfl))) id (fun _ _ => Iff.rfl) (fun a h => ⟨trivial, h, fun _ _ => trivial⟩)⟩
theorem eqTree14 : ∃ D, aggB D = true ∧ EqT Try.prog 53 D (fun a : Int × Nd.Ref => trC a.1 a.2) (fun a => OkR a.2) 4 34 := by
  obtain ⟨D, _, h⟩ := eqRef14
  exact ⟨_, rfl, eq_map (eq_struct2 (P := Try.prog) Try.underlying53 (tab.sz_ok _ _ rfl) (by kernel_rfl) rfl rfl rfl rfl (eqI Try.underlying3 (tab.sz_ok _ _ rfl)) h) id (fun _ _ => Iff.rfl) (fun a h => ⟨trivial, h⟩)⟩
theorem eqTree : ∃ D, aggB D = true ∧ EqT Try.prog 42 D (fun a : Int × Nd.Ref => trC a.1 a.2) (fun a => OkR a.2) 4 34 := by
  obtain ⟨D, _, h⟩ := eqRef
  exact ⟨_, rfl, eq_map (eq_struct2 (P := Try.prog) Try.underlying42 (tab.sz_ok _ _ rfl) (by kernel_rfl) rfl rfl rfl rfl (eqI Try.underlying3 (tab.sz_ok _ _ rfl)) h) id (fun _ _ => Iff.rfl) (fun a h => ⟨trivial, h⟩)⟩
def spT (x : Sp) : Int × BitVec 64 × Int × Nd.Ref × Int × Int × Nd.Ref × Int := (x.bl, x.ct, x.th, x.t, x.ino, x.mh, x.m, x.us)
theorem spT_iff (x y : Sp) : spT x = spT y ↔ x = y := by
  constructor
  · intro h
    obtain ⟨a1, a2, a3, a4, a5, a6, a7, a8⟩ := x
    obtain ⟨b1, b2, b3, b4, b5, b6, b7, b8⟩ := y
    simp only [spT, Prod.mk.injEq] at h
    obtain ⟨rfl, rfl, rfl, rfl, rfl, rfl, rfl, rfl⟩ := h
    rfl
  · intro h; rw [h]
theorem sp_ext (x y : Sp) : ((x.bl = y.bl ∧ x.ct = y.ct ∧ x.th = y.th) ∧ (x.t = y.t ∧ x.ino = y.ino ∧ x.mh = y.mh) ∧ x.m = y.m ∧ x.us = y.us) ↔ x = y := by
  rw [← spT_iff x y]
  simp only [spT, Prod.mk.injEq]
  constructor
  · rintro ⟨⟨a1, a2, a3⟩, ⟨a4, a5, a6⟩, a7, a8⟩; exact ⟨a1, a2, a3, a4, a5, a6, a7, a8⟩
  · rintro ⟨a1, a2, a3, a4, a5, a6, a7, a8⟩; exact ⟨⟨a1, a2, a3⟩, ⟨a4, a5, a6⟩, a7, a8⟩
instance : DecidableEq Sp := fun x y => decidable_of_iff _ (sp_ext x y)
theorem p4 {x : Sp} (h : OkS x) : ((spC x).drop 36).take 1 = [i64v x.ino] := by
  have h1 := refC_len h.t
  rw [spC, show 36 = 3 + (33 + 0) from rfl, drop_app (k := 3) rfl, drop_app h1]; rfl
theorem p6 {x : Sp} (h : OkS x) : ((spC x).drop 71).take 1 = [i64v x.us] := by
  have h1 := refC_len h.t; have h2 := refC_len h.m
  rw [spC, show 71 = 3 + (33 + (2 + (33 + 0))) from rfl, drop_app (k := 3) rfl, drop_app h1, drop_app (k := 2) rfl, drop_app h2]; rfl
set_option maxRecDepth 20000 in
theorem eqSp {t : TypeId} {f1 f2 f3 f4 f5 f6 : Field} {D3 D5 : TypeDesc} (ht : Try.prog.underlying t = some (.struct #[f1, f2, f3, f4, f5, f6])) (hs : (Try.prog.info? t).map (·.size) = some 72) (hp : Try.prog.stoodInHeld t = false)
    (n1 : (f1.name == "_") = false) (n2 : (f2.name == "_") = false) (n3 : (f3.name == "_") = false) (n4 : (f4.name == "_") = false) (n5 : (f5.name == "_") = false) (n6 : (f6.name == "_") = false)
    (o1 : f1.offset = 0) (o2 : f2.offset = 1) (o3 : f3.offset = 2) (o4 : f4.offset = 36) (o5 : f5.offset = 37) (o6 : f6.offset = 71)
    (h1 : EqT Try.prog f1.type (.int .i64) (fun n : Int => [i64v n]) (fun _ => True) 1 1) (h2 : EqT Try.prog f2.type (.int .u64) (fun b : BitVec 64 => [u64 b]) (fun _ => True) 1 1) (h3 : EqT Try.prog f3.type D3 (fun a : Int × Nd.Ref => trC a.1 a.2) (fun a => OkR a.2) 4 34)
    (h4 : EqT Try.prog f4.type (.int .i64) (fun n : Int => [i64v n]) (fun _ => True) 1 1) (h5 : EqT Try.prog f5.type D5 (fun a : Int × Nd.Ref => trC a.1 a.2) (fun a => OkR a.2) 4 34) (h6 : EqT Try.prog f6.type (.int .i64) (fun n : Int => [i64v n]) (fun _ => True) 1 1) :
    EqT Try.prog t (.struct #[f1, f2, f3, f4, f5, f6]) spC OkS 5 72 where
  desc := ht
  size := hs
  len := fun x hx => spC_len hx
  one := fun h => by simp [aggB] at h
  eq := fun d w x y hd hx hy => by
    obtain ⟨d, rfl⟩ : ∃ m, d = m + 1 := ⟨d - 1, by omega⟩
    show (Op.equalIn (d + 1) t (.agg (spC x).toArray) (.agg (spC y).toArray)).run Try.prog w = _
    have hf : Try.prog.fieldsOf t = #[f1, f2, f3, f4, f5, f6] := by simp [Program.fieldsOf, ht]
    rw [run_equalIn_struct w d t _ _ (by rw [hf]; exact ht) hp, hf]
    have e6 := eq_fields_cons (P := Try.prog) (d := d) (xs := (spC x).toArray) (ys := (spC y).toArray) (f := f6) (fs := []) n6 h6 (by omega) (x := x.us) (y := y.us) trivial trivial (by rw [o6]; exact p6 hx) (by rw [o6]; exact p6 hy) (r := true) (w := w) rfl
    have e5 := eq_fields_cons (P := Try.prog) (d := d) (xs := (spC x).toArray) (ys := (spC y).toArray) (f := f5) (fs := [f6]) n5 h5 (by omega) (x := (x.mh, x.m)) (y := (y.mh, y.m)) hx.m hy.m (by rw [o5]; exact d37 hx) (by rw [o5]; exact d37 hy) e6
    have e4 := eq_fields_cons (P := Try.prog) (d := d) (xs := (spC x).toArray) (ys := (spC y).toArray) (f := f4) (fs := [f5, f6]) n4 h4 (by omega) (x := x.ino) (y := y.ino) trivial trivial (by rw [o4]; exact p4 hx) (by rw [o4]; exact p4 hy) e5
    have e3 := eq_fields_cons (P := Try.prog) (d := d) (xs := (spC x).toArray) (ys := (spC y).toArray) (f := f3) (fs := [f4, f5, f6]) n3 h3 (by omega) (x := (x.th, x.t)) (y := (y.th, y.t)) hx.t hy.t (by rw [o3]; exact d2 hx) (by rw [o3]; exact d2 hy) e4
    have e2 := eq_fields_cons (P := Try.prog) (d := d) (xs := (spC x).toArray) (ys := (spC y).toArray) (f := f2) (fs := [f3, f4, f5, f6]) n2 h2 (by omega) (x := x.ct) (y := y.ct) trivial trivial (by rw [o2]; rfl) (by rw [o2]; rfl) e3
    have e1 := eq_fields_cons (P := Try.prog) (d := d) (xs := (spC x).toArray) (ys := (spC y).toArray) (f := f1) (fs := [f2, f3, f4, f5, f6]) n1 h1 (by omega) (x := x.bl) (y := y.bl) trivial trivial (by rw [o1]; rfl) (by rw [o1]; rfl) e2
    rw [e1]
    congr 1
    rw [Bool.eq_iff_iff]
    simp only [Bool.and_eq_true, decide_eq_true_eq, ← spT_iff x y, spT, Prod.mk.injEq, and_true]
    constructor
    · rintro ⟨a1, a2, ⟨a3, a4⟩, a5, ⟨a6, a7⟩, a8⟩; exact ⟨a1, a2, a3, a4, a5, a6, a7, a8⟩
    · rintro ⟨a1, a2, a3, a4, a5, a6, a7, a8⟩; exact ⟨a1, a2, ⟨a3, a4⟩, a5, ⟨a6, a7⟩, a8⟩
theorem eqSup : ∃ D, aggB D = true ∧ EqT Try.prog 76 D spC OkS 5 72 := by
  obtain ⟨D, _, h⟩ := eqTree
  exact ⟨_, rfl, eqSp Try.underlying76 (tab.sz_ok _ _ rfl) (by kernel_rfl) rfl rfl rfl rfl rfl rfl rfl rfl rfl rfl rfl rfl (eqI Try.underlying3 (tab.sz_ok _ _ rfl)) (eq_u (w := 64) .u64 Try.underlying35 (tab.sz_ok _ _ rfl)) h (eqI Try.underlying3 (tab.sz_ok _ _ rfl)) h (eqI Try.underlying3 (tab.sz_ok _ _ rfl))⟩
theorem eqSup20 : ∃ D, aggB D = true ∧ EqT Try.prog 84 D spC OkS 5 72 := by
  obtain ⟨D, _, h⟩ := eqTree14
  exact ⟨_, rfl, eqSp Try.underlying84 (tab.sz_ok _ _ rfl) (by kernel_rfl) rfl rfl rfl rfl rfl rfl rfl rfl rfl rfl rfl rfl (eqI Try.underlying3 (tab.sz_ok _ _ rfl)) (eq_u (w := 64) .u64 Try.underlying35 (tab.sz_ok _ _ rfl)) h (eqI Try.underlying3 (tab.sz_ok _ _ rfl)) h (eqI Try.underlying3 (tab.sz_ok _ _ rfl))⟩
theorem decX_ok {s : List Byte} (h : s.length = 256) : OkS (decX s) := by
  unfold decX
  split
  · exact rawP_ok h
  · exact noSp_ok
set_option maxRecDepth 20000 in
theorem superCodes (x : Sp) (hx : OkS x) (hi : I64 x.ino) (b : List Byte) (hb : b.length = 256) (w0 : World) : Does Try.prog 9 [.agg (spC x).toArray, blk b] w0 fun v w' => v = .bool true ∧ Kp No w0 w' := by
  have hw := St.start (w := w0) .nil
  have hl := spC_len hx
  have hlb : (cb b).length = 256 := by rw [List.length_map, hb]
  have hd := decX_ok hb
  have hdl := spC_len hd
  have hdo := spC_one (decX b)
  have hel := encV_len hx
  have heo := oneCells_cb (encV x)
  obtain ⟨D, hDa, hD⟩ := eqSup20
  refine fn_enter Try.func9 rfl Try.ntmps9 rfl ?_
  repeat (first | refine X.p1 ?_ | refine X.p2 ?_ | refine X.p6 ?_ | refine X.p7 ?_ | refine X.p0 ?_ | refine X.p3 ?_ | refine X.p4 ?_ | refine X.p5 ?_ | refine X.p8 ?_ | refine X.p9 ?_ | refine X.q1 ?_ | refine X.q2 ?_ | refine X.q3 ?_ | refine X.q4 ?_ | refine X.q5 ?_ | refine X.q6 ?_ | refine X.q7 ?_ | refine X.q8 ?_ | refine X.q9 ?_ | refine X.q0 ?_ | refine X.m1 ?_ | refine X.m2 ?_ | refine X.m3 ?_ | refine X.m4 ?_ | refine X.m5 ?_ | refine X.m6 ?_ | refine X.l11 ?_ | refine X.l1 ?_ | refine X.l2 ?_ | refine X.l3 ?_ | refine X.l4 ?_ | refine X.l5 ?_ | refine X.l10 ?_ | refine X.l6 ?_ | refine X.l7 ?_ | refine X.l8 ?_ | refine X.l9 ?_ | refine X.m7 ?_ | refine X.m8 ?_ | (refine X.s1 ?_; intro w hw) | (refine X.s2 ?_; intro w hw) | refine X.e1 ?_ | refine X.e2 ?_ | (simp only [X.df]) | (simp (disch := omega) only [wi]))
  (first | refine X.nb ?_ | refine X.na ?_); intro g2 w _ hw
  (first | refine X.nb ?_ | refine X.na ?_); intro g3 w _ hw
  repeat (first | refine X.p1 ?_ | refine X.p2 ?_ | refine X.p6 ?_ | refine X.p7 ?_ | refine X.p0 ?_ | refine X.p3 ?_ | refine X.p4 ?_ | refine X.p5 ?_ | refine X.p8 ?_ | refine X.p9 ?_ | refine X.q1 ?_ | refine X.q2 ?_ | refine X.q3 ?_ | refine X.q4 ?_ | refine X.q5 ?_ | refine X.q6 ?_ | refine X.q7 ?_ | refine X.q8 ?_ | refine X.q9 ?_ | refine X.q0 ?_ | refine X.m1 ?_ | refine X.m2 ?_ | refine X.m3 ?_ | refine X.m4 ?_ | refine X.m5 ?_ | refine X.m6 ?_ | refine X.l11 ?_ | refine X.l1 ?_ | refine X.l2 ?_ | refine X.l3 ?_ | refine X.l4 ?_ | refine X.l5 ?_ | refine X.l10 ?_ | refine X.l6 ?_ | refine X.l7 ?_ | refine X.l8 ?_ | refine X.l9 ?_ | refine X.m7 ?_ | refine X.m8 ?_ | (refine X.s1 ?_; intro w hw) | (refine X.s2 ?_; intro w hw) | refine X.e1 ?_ | refine X.e2 ?_ | (simp only [X.df]) | (simp (disch := omega) only [wi]))
  refine X.callN rfl rfl Try.func35 (awake w) fun w _ hw => ?_
  repeat (first | refine X.p1 ?_ | refine X.p2 ?_ | refine X.p6 ?_ | refine X.p7 ?_ | refine X.p0 ?_ | refine X.p3 ?_ | refine X.p4 ?_ | refine X.p5 ?_ | refine X.p8 ?_ | refine X.p9 ?_ | refine X.q1 ?_ | refine X.q2 ?_ | refine X.q3 ?_ | refine X.q4 ?_ | refine X.q5 ?_ | refine X.q6 ?_ | refine X.q7 ?_ | refine X.q8 ?_ | refine X.q9 ?_ | refine X.q0 ?_ | refine X.m1 ?_ | refine X.m2 ?_ | refine X.m3 ?_ | refine X.m4 ?_ | refine X.m5 ?_ | refine X.m6 ?_ | refine X.l11 ?_ | refine X.l1 ?_ | refine X.l2 ?_ | refine X.l3 ?_ | refine X.l4 ?_ | refine X.l5 ?_ | refine X.l10 ?_ | refine X.l6 ?_ | refine X.l7 ?_ | refine X.l8 ?_ | refine X.l9 ?_ | refine X.m7 ?_ | refine X.m8 ?_ | (refine X.s1 ?_; intro w hw) | (refine X.s2 ?_; intro w hw) | refine X.e1 ?_ | refine X.e2 ?_ | (simp only [X.df]) | (simp (disch := omega) only [wi]))
  refine X.callN rfl rfl Try.func42 (encode_calls' x hx hi w) fun w _ hw => ?_
  repeat (first | refine X.p1 ?_ | refine X.p2 ?_ | refine X.p6 ?_ | refine X.p7 ?_ | refine X.p0 ?_ | refine X.p3 ?_ | refine X.p4 ?_ | refine X.p5 ?_ | refine X.p8 ?_ | refine X.p9 ?_ | refine X.q1 ?_ | refine X.q2 ?_ | refine X.q3 ?_ | refine X.q4 ?_ | refine X.q5 ?_ | refine X.q6 ?_ | refine X.q7 ?_ | refine X.q8 ?_ | refine X.q9 ?_ | refine X.q0 ?_ | refine X.m1 ?_ | refine X.m2 ?_ | refine X.m3 ?_ | refine X.m4 ?_ | refine X.m5 ?_ | refine X.m6 ?_ | refine X.l11 ?_ | refine X.l1 ?_ | refine X.l2 ?_ | refine X.l3 ?_ | refine X.l4 ?_ | refine X.l5 ?_ | refine X.l10 ?_ | refine X.l6 ?_ | refine X.l7 ?_ | refine X.l8 ?_ | refine X.l9 ?_ | refine X.m7 ?_ | refine X.m8 ?_ | (refine X.s1 ?_; intro w hw) | (refine X.s2 ?_; intro w hw) | refine X.e1 ?_ | refine X.e2 ?_ | (simp only [X.df]) | (simp (disch := omega) only [wi]))
  (first | refine X.nb ?_ | refine X.na ?_); intro g5 w _ hw
  repeat (first | refine X.p1 ?_ | refine X.p2 ?_ | refine X.p6 ?_ | refine X.p7 ?_ | refine X.p0 ?_ | refine X.p3 ?_ | refine X.p4 ?_ | refine X.p5 ?_ | refine X.p8 ?_ | refine X.p9 ?_ | refine X.q1 ?_ | refine X.q2 ?_ | refine X.q3 ?_ | refine X.q4 ?_ | refine X.q5 ?_ | refine X.q6 ?_ | refine X.q7 ?_ | refine X.q8 ?_ | refine X.q9 ?_ | refine X.q0 ?_ | refine X.m1 ?_ | refine X.m2 ?_ | refine X.m3 ?_ | refine X.m4 ?_ | refine X.m5 ?_ | refine X.m6 ?_ | refine X.l11 ?_ | refine X.l1 ?_ | refine X.l2 ?_ | refine X.l3 ?_ | refine X.l4 ?_ | refine X.l5 ?_ | refine X.l10 ?_ | refine X.l6 ?_ | refine X.l7 ?_ | refine X.l8 ?_ | refine X.l9 ?_ | refine X.m7 ?_ | refine X.m8 ?_ | (refine X.s1 ?_; intro w hw) | (refine X.s2 ?_; intro w hw) | refine X.e1 ?_ | refine X.e2 ?_ | (simp only [X.df]) | (simp (disch := omega) only [wi]))
  refine X.callN rfl rfl Try.func41 (given_calls x hx w) fun w _ hw => ?_
  refine X.callN rfl rfl Try.func43 (refEncode_calls' x hx hi w) fun w _ hw => ?_
  repeat (first | refine X.p1 ?_ | refine X.p2 ?_ | refine X.p6 ?_ | refine X.p7 ?_ | refine X.p0 ?_ | refine X.p3 ?_ | refine X.p4 ?_ | refine X.p5 ?_ | refine X.p8 ?_ | refine X.p9 ?_ | refine X.q1 ?_ | refine X.q2 ?_ | refine X.q3 ?_ | refine X.q4 ?_ | refine X.q5 ?_ | refine X.q6 ?_ | refine X.q7 ?_ | refine X.q8 ?_ | refine X.q9 ?_ | refine X.q0 ?_ | refine X.m1 ?_ | refine X.m2 ?_ | refine X.m3 ?_ | refine X.m4 ?_ | refine X.m5 ?_ | refine X.m6 ?_ | refine X.l11 ?_ | refine X.l1 ?_ | refine X.l2 ?_ | refine X.l3 ?_ | refine X.l4 ?_ | refine X.l5 ?_ | refine X.l10 ?_ | refine X.l6 ?_ | refine X.l7 ?_ | refine X.l8 ?_ | refine X.l9 ?_ | refine X.m7 ?_ | refine X.m8 ?_ | (refine X.s1 ?_; intro w hw) | (refine X.s2 ?_; intro w hw) | refine X.e1 ?_ | refine X.e2 ?_ | (simp only [X.df]) | (simp (disch := omega) only [wi]))
  refine X.callN rfl rfl Try.func44 (check_calls x hx hi w) fun w _ hw => ?_
  by_cases c0 : SupOk x
  · have e1 : encV x = encT x := by rw [encV, encT, supB_t c0]; rfl
    rw [supB_t c0, ct1]
    rw [← e1]
    repeat (first | refine X.p1 ?_ | refine X.p2 ?_ | refine X.p6 ?_ | refine X.p7 ?_ | refine X.p0 ?_ | refine X.p3 ?_ | refine X.p4 ?_ | refine X.p5 ?_ | refine X.p8 ?_ | refine X.p9 ?_ | refine X.q1 ?_ | refine X.q2 ?_ | refine X.q3 ?_ | refine X.q4 ?_ | refine X.q5 ?_ | refine X.q6 ?_ | refine X.q7 ?_ | refine X.q8 ?_ | refine X.q9 ?_ | refine X.q0 ?_ | refine X.m1 ?_ | refine X.m2 ?_ | refine X.m3 ?_ | refine X.m4 ?_ | refine X.m5 ?_ | refine X.m6 ?_ | refine X.l11 ?_ | refine X.l1 ?_ | refine X.l2 ?_ | refine X.l3 ?_ | refine X.l4 ?_ | refine X.l5 ?_ | refine X.l10 ?_ | refine X.l6 ?_ | refine X.l7 ?_ | refine X.l8 ?_ | refine X.l9 ?_ | refine X.m7 ?_ | refine X.m8 ?_ | (refine X.s1 ?_; intro w hw) | (refine X.s2 ?_; intro w hw) | refine X.e1 ?_ | refine X.e2 ?_ | (simp only [X.df]) | (simp (disch := omega) only [wi]))
    refine X.callN rfl rfl Try.func45 (decode_super b hb w) fun w _ hw => ?_
    repeat (first | refine X.p1 ?_ | refine X.p2 ?_ | refine X.p6 ?_ | refine X.p7 ?_ | refine X.p0 ?_ | refine X.p3 ?_ | refine X.p4 ?_ | refine X.p5 ?_ | refine X.p8 ?_ | refine X.p9 ?_ | refine X.q1 ?_ | refine X.q2 ?_ | refine X.q3 ?_ | refine X.q4 ?_ | refine X.q5 ?_ | refine X.q6 ?_ | refine X.q7 ?_ | refine X.q8 ?_ | refine X.q9 ?_ | refine X.q0 ?_ | refine X.m1 ?_ | refine X.m2 ?_ | refine X.m3 ?_ | refine X.m4 ?_ | refine X.m5 ?_ | refine X.m6 ?_ | refine X.l11 ?_ | refine X.l1 ?_ | refine X.l2 ?_ | refine X.l3 ?_ | refine X.l4 ?_ | refine X.l5 ?_ | refine X.l10 ?_ | refine X.l6 ?_ | refine X.l7 ?_ | refine X.l8 ?_ | refine X.l9 ?_ | refine X.m7 ?_ | refine X.m8 ?_ | (refine X.s1 ?_; intro w hw) | (refine X.s2 ?_; intro w hw) | refine X.e1 ?_ | refine X.e2 ?_ | (simp only [X.df]) | (simp (disch := omega) only [wi]))
    (first | refine X.nb ?_ | refine X.na ?_); intro g9 w _ hw
    repeat (first | refine X.p1 ?_ | refine X.p2 ?_ | refine X.p6 ?_ | refine X.p7 ?_ | refine X.p0 ?_ | refine X.p3 ?_ | refine X.p4 ?_ | refine X.p5 ?_ | refine X.p8 ?_ | refine X.p9 ?_ | refine X.q1 ?_ | refine X.q2 ?_ | refine X.q3 ?_ | refine X.q4 ?_ | refine X.q5 ?_ | refine X.q6 ?_ | refine X.q7 ?_ | refine X.q8 ?_ | refine X.q9 ?_ | refine X.q0 ?_ | refine X.m1 ?_ | refine X.m2 ?_ | refine X.m3 ?_ | refine X.m4 ?_ | refine X.m5 ?_ | refine X.m6 ?_ | refine X.l11 ?_ | refine X.l1 ?_ | refine X.l2 ?_ | refine X.l3 ?_ | refine X.l4 ?_ | refine X.l5 ?_ | refine X.l10 ?_ | refine X.l6 ?_ | refine X.l7 ?_ | refine X.l8 ?_ | refine X.l9 ?_ | refine X.m7 ?_ | refine X.m8 ?_ | (refine X.s1 ?_; intro w hw) | (refine X.s2 ?_; intro w hw) | refine X.e1 ?_ | refine X.e2 ?_ | (simp only [X.df]) | (simp (disch := omega) only [wi]))
    refine X.callN rfl rfl Try.func46 (rdecode_calls b hb w) fun w _ hw => ?_
    repeat (first | refine X.p1 ?_ | refine X.p2 ?_ | refine X.p6 ?_ | refine X.p7 ?_ | refine X.p0 ?_ | refine X.p3 ?_ | refine X.p4 ?_ | refine X.p5 ?_ | refine X.p8 ?_ | refine X.p9 ?_ | refine X.q1 ?_ | refine X.q2 ?_ | refine X.q3 ?_ | refine X.q4 ?_ | refine X.q5 ?_ | refine X.q6 ?_ | refine X.q7 ?_ | refine X.q8 ?_ | refine X.q9 ?_ | refine X.q0 ?_ | refine X.m1 ?_ | refine X.m2 ?_ | refine X.m3 ?_ | refine X.m4 ?_ | refine X.m5 ?_ | refine X.m6 ?_ | refine X.l11 ?_ | refine X.l1 ?_ | refine X.l2 ?_ | refine X.l3 ?_ | refine X.l4 ?_ | refine X.l5 ?_ | refine X.l10 ?_ | refine X.l6 ?_ | refine X.l7 ?_ | refine X.l8 ?_ | refine X.l9 ?_ | refine X.m7 ?_ | refine X.m8 ?_ | (refine X.s1 ?_; intro w hw) | (refine X.s2 ?_; intro w hw) | refine X.e1 ?_ | refine X.e2 ?_ | (simp only [X.df]) | (simp (disch := omega) only [wi]))
    (first | refine X.nb ?_ | refine X.na ?_); intro g10 w _ hw
    repeat (first | refine X.p1 ?_ | refine X.p2 ?_ | refine X.p6 ?_ | refine X.p7 ?_ | refine X.p0 ?_ | refine X.p3 ?_ | refine X.p4 ?_ | refine X.p5 ?_ | refine X.p8 ?_ | refine X.p9 ?_ | refine X.q1 ?_ | refine X.q2 ?_ | refine X.q3 ?_ | refine X.q4 ?_ | refine X.q5 ?_ | refine X.q6 ?_ | refine X.q7 ?_ | refine X.q8 ?_ | refine X.q9 ?_ | refine X.q0 ?_ | refine X.m1 ?_ | refine X.m2 ?_ | refine X.m3 ?_ | refine X.m4 ?_ | refine X.m5 ?_ | refine X.m6 ?_ | refine X.l11 ?_ | refine X.l1 ?_ | refine X.l2 ?_ | refine X.l3 ?_ | refine X.l4 ?_ | refine X.l5 ?_ | refine X.l10 ?_ | refine X.l6 ?_ | refine X.l7 ?_ | refine X.l8 ?_ | refine X.l9 ?_ | refine X.m7 ?_ | refine X.m8 ?_ | (refine X.s1 ?_; intro w hw) | (refine X.s2 ?_; intro w hw) | refine X.e1 ?_ | refine X.e2 ?_ | (simp only [X.df]) | (simp (disch := omega) only [wi]))
    refine X.mix [0, 2, 1, 3, 4, 5, 6, 7, 8, 9, 10, 11, 12, 13, 14, 15, 16, 17] [] hw fun w hk hw => ?_
    repeat (first | refine X.r1 ?_ | refine X.r2 ?_ | refine X.r4 ?_ | refine X.r3 ?_ | refine X.rm1 ?_ | refine X.rm2 ?_ | refine X.rm3 ?_ | refine X.rm4 ?_ | refine X.rm5 ?_ | refine X.rl11 ?_ | refine X.rl1 ?_ | refine X.rl2 ?_ | refine X.rl3 ?_ | refine X.rl5 ?_ | refine X.rl6 ?_ | refine X.rm8 ?_ | refine X.re1 ?_ | refine X.re2 ?_ | (simp only [X.df]) | (simp (disch := omega) only [wi]))
    refine X.act ?_; refine X.callN rfl rfl Try.func41 (given_calls (decX b) hd w) fun w kk hw => ?_; have hk := hk.no kk; refine mid_a hk ?_
    repeat (first | refine X.r1 ?_ | refine X.r2 ?_ | refine X.r4 ?_ | refine X.r3 ?_ | refine X.rm1 ?_ | refine X.rm2 ?_ | refine X.rm3 ?_ | refine X.rm4 ?_ | refine X.rm5 ?_ | refine X.rl11 ?_ | refine X.rl1 ?_ | refine X.rl2 ?_ | refine X.rl3 ?_ | refine X.rl5 ?_ | refine X.rl6 ?_ | refine X.rm8 ?_ | refine X.re1 ?_ | refine X.re2 ?_ | (simp only [X.df]) | (simp (disch := omega) only [wi]))
    refine mw_any rfl rfl rfl rfl rfl (fun w0 => ow_eqA hD (a := decX b) (b := decX b) rfl hDa (by kernel_rfl) hd hd rfl rfl rfl fin) (fun _ => ⟨_, rfl⟩) ?_
    by_cases c1 : GoodB b
    · rw [goodB_t c1, ct1]
      repeat (first | refine X.r1 ?_ | refine X.r2 ?_ | refine X.r4 ?_ | refine X.r3 ?_ | refine X.rm1 ?_ | refine X.rm2 ?_ | refine X.rm3 ?_ | refine X.rm4 ?_ | refine X.rm5 ?_ | refine X.rl11 ?_ | refine X.rl1 ?_ | refine X.rl2 ?_ | refine X.rl3 ?_ | refine X.rl5 ?_ | refine X.rl6 ?_ | refine X.rm8 ?_ | refine X.re1 ?_ | refine X.re2 ?_ | (simp only [X.df]) | (simp (disch := omega) only [wi]))
      repeat (first | refine X.p1 ?_ | refine X.p2 ?_ | refine X.p6 ?_ | refine X.p7 ?_ | refine X.p0 ?_ | refine X.p3 ?_ | refine X.p4 ?_ | refine X.p5 ?_ | refine X.p8 ?_ | refine X.p9 ?_ | refine X.q1 ?_ | refine X.q2 ?_ | refine X.q3 ?_ | refine X.q4 ?_ | refine X.q5 ?_ | refine X.q6 ?_ | refine X.q7 ?_ | refine X.q8 ?_ | refine X.q9 ?_ | refine X.q0 ?_ | refine X.m1 ?_ | refine X.m2 ?_ | refine X.m3 ?_ | refine X.m4 ?_ | refine X.m5 ?_ | refine X.m6 ?_ | refine X.l11 ?_ | refine X.l1 ?_ | refine X.l2 ?_ | refine X.l3 ?_ | refine X.l4 ?_ | refine X.l5 ?_ | refine X.l10 ?_ | refine X.l6 ?_ | refine X.l7 ?_ | refine X.l8 ?_ | refine X.l9 ?_ | refine X.m7 ?_ | refine X.m8 ?_ | (refine X.s1 ?_; intro w hw) | (refine X.s2 ?_; intro w hw) | refine X.e1 ?_ | refine X.e2 ?_ | (simp only [X.df]) | (simp (disch := omega) only [wi]))
      exact xw_ret (vs := [_]) Try.results9 ⟨rfl, trivial⟩ ⟨rfl, hw.kpNo ro_nil⟩
    · rw [goodB_f c1, cf1]
      repeat (first | refine X.r1 ?_ | refine X.r2 ?_ | refine X.r4 ?_ | refine X.r3 ?_ | refine X.rm1 ?_ | refine X.rm2 ?_ | refine X.rm3 ?_ | refine X.rm4 ?_ | refine X.rm5 ?_ | refine X.rl11 ?_ | refine X.rl1 ?_ | refine X.rl2 ?_ | refine X.rl3 ?_ | refine X.rl5 ?_ | refine X.rl6 ?_ | refine X.rm8 ?_ | refine X.re1 ?_ | refine X.re2 ?_ | (simp only [X.df]) | (simp (disch := omega) only [wi]))
      repeat (first | refine X.p1 ?_ | refine X.p2 ?_ | refine X.p6 ?_ | refine X.p7 ?_ | refine X.p0 ?_ | refine X.p3 ?_ | refine X.p4 ?_ | refine X.p5 ?_ | refine X.p8 ?_ | refine X.p9 ?_ | refine X.q1 ?_ | refine X.q2 ?_ | refine X.q3 ?_ | refine X.q4 ?_ | refine X.q5 ?_ | refine X.q6 ?_ | refine X.q7 ?_ | refine X.q8 ?_ | refine X.q9 ?_ | refine X.q0 ?_ | refine X.m1 ?_ | refine X.m2 ?_ | refine X.m3 ?_ | refine X.m4 ?_ | refine X.m5 ?_ | refine X.m6 ?_ | refine X.l11 ?_ | refine X.l1 ?_ | refine X.l2 ?_ | refine X.l3 ?_ | refine X.l4 ?_ | refine X.l5 ?_ | refine X.l10 ?_ | refine X.l6 ?_ | refine X.l7 ?_ | refine X.l8 ?_ | refine X.l9 ?_ | refine X.m7 ?_ | refine X.m8 ?_ | (refine X.s1 ?_; intro w hw) | (refine X.s2 ?_; intro w hw) | refine X.e1 ?_ | refine X.e2 ?_ | (simp only [X.df]) | (simp (disch := omega) only [wi]))
      exact xw_ret (vs := [_]) Try.results9 ⟨rfl, trivial⟩ ⟨rfl, hw.kpNo ro_nil⟩
  · have e1 : encV x = zb 256 := by rw [encV, supB_f c0]; rfl
    rw [supB_f c0, cf1]
    repeat (first | refine X.p1 ?_ | refine X.p2 ?_ | refine X.p6 ?_ | refine X.p7 ?_ | refine X.p0 ?_ | refine X.p3 ?_ | refine X.p4 ?_ | refine X.p5 ?_ | refine X.p8 ?_ | refine X.p9 ?_ | refine X.q1 ?_ | refine X.q2 ?_ | refine X.q3 ?_ | refine X.q4 ?_ | refine X.q5 ?_ | refine X.q6 ?_ | refine X.q7 ?_ | refine X.q8 ?_ | refine X.q9 ?_ | refine X.q0 ?_ | refine X.m1 ?_ | refine X.m2 ?_ | refine X.m3 ?_ | refine X.m4 ?_ | refine X.m5 ?_ | refine X.m6 ?_ | refine X.l11 ?_ | refine X.l1 ?_ | refine X.l2 ?_ | refine X.l3 ?_ | refine X.l4 ?_ | refine X.l5 ?_ | refine X.l10 ?_ | refine X.l6 ?_ | refine X.l7 ?_ | refine X.l8 ?_ | refine X.l9 ?_ | refine X.m7 ?_ | refine X.m8 ?_ | (refine X.s1 ?_; intro w hw) | (refine X.s2 ?_; intro w hw) | refine X.e1 ?_ | refine X.e2 ?_ | (simp only [X.df]) | (simp (disch := omega) only [wi]))
    refine ow_neA eqB256 (a := encV x) (b := zb 256) rfl rfl (by kernel_rfl) ⟨hel, fun _ _ => trivial⟩ ⟨z256, fun _ _ => trivial⟩ rfl rfl rfl ?_
    have d1 := decide_eq_true e1
    repeat (first | refine X.p1 ?_ | refine X.p2 ?_ | refine X.p6 ?_ | refine X.p7 ?_ | refine X.p0 ?_ | refine X.p3 ?_ | refine X.p4 ?_ | refine X.p5 ?_ | refine X.p8 ?_ | refine X.p9 ?_ | refine X.q1 ?_ | refine X.q2 ?_ | refine X.q3 ?_ | refine X.q4 ?_ | refine X.q5 ?_ | refine X.q6 ?_ | refine X.q7 ?_ | refine X.q8 ?_ | refine X.q9 ?_ | refine X.q0 ?_ | refine X.m1 ?_ | refine X.m2 ?_ | refine X.m3 ?_ | refine X.m4 ?_ | refine X.m5 ?_ | refine X.m6 ?_ | refine X.l11 ?_ | refine X.l1 ?_ | refine X.l2 ?_ | refine X.l3 ?_ | refine X.l4 ?_ | refine X.l5 ?_ | refine X.l10 ?_ | refine X.l6 ?_ | refine X.l7 ?_ | refine X.l8 ?_ | refine X.l9 ?_ | refine X.m7 ?_ | refine X.m8 ?_ | (refine X.s1 ?_; intro w hw) | (refine X.s2 ?_; intro w hw) | refine X.e1 ?_ | refine X.e2 ?_ | (simp only [X.df, d1]) | (simp (disch := omega) only [wi]))
    refine X.callN rfl rfl Try.func45 (decode_super b hb w) fun w _ hw => ?_
    repeat (first | refine X.p1 ?_ | refine X.p2 ?_ | refine X.p6 ?_ | refine X.p7 ?_ | refine X.p0 ?_ | refine X.p3 ?_ | refine X.p4 ?_ | refine X.p5 ?_ | refine X.p8 ?_ | refine X.p9 ?_ | refine X.q1 ?_ | refine X.q2 ?_ | refine X.q3 ?_ | refine X.q4 ?_ | refine X.q5 ?_ | refine X.q6 ?_ | refine X.q7 ?_ | refine X.q8 ?_ | refine X.q9 ?_ | refine X.q0 ?_ | refine X.m1 ?_ | refine X.m2 ?_ | refine X.m3 ?_ | refine X.m4 ?_ | refine X.m5 ?_ | refine X.m6 ?_ | refine X.l11 ?_ | refine X.l1 ?_ | refine X.l2 ?_ | refine X.l3 ?_ | refine X.l4 ?_ | refine X.l5 ?_ | refine X.l10 ?_ | refine X.l6 ?_ | refine X.l7 ?_ | refine X.l8 ?_ | refine X.l9 ?_ | refine X.m7 ?_ | refine X.m8 ?_ | (refine X.s1 ?_; intro w hw) | (refine X.s2 ?_; intro w hw) | refine X.e1 ?_ | refine X.e2 ?_ | (simp only [X.df]) | (simp (disch := omega) only [wi]))
    (first | refine X.nb ?_ | refine X.na ?_); intro g9 w _ hw
    repeat (first | refine X.p1 ?_ | refine X.p2 ?_ | refine X.p6 ?_ | refine X.p7 ?_ | refine X.p0 ?_ | refine X.p3 ?_ | refine X.p4 ?_ | refine X.p5 ?_ | refine X.p8 ?_ | refine X.p9 ?_ | refine X.q1 ?_ | refine X.q2 ?_ | refine X.q3 ?_ | refine X.q4 ?_ | refine X.q5 ?_ | refine X.q6 ?_ | refine X.q7 ?_ | refine X.q8 ?_ | refine X.q9 ?_ | refine X.q0 ?_ | refine X.m1 ?_ | refine X.m2 ?_ | refine X.m3 ?_ | refine X.m4 ?_ | refine X.m5 ?_ | refine X.m6 ?_ | refine X.l11 ?_ | refine X.l1 ?_ | refine X.l2 ?_ | refine X.l3 ?_ | refine X.l4 ?_ | refine X.l5 ?_ | refine X.l10 ?_ | refine X.l6 ?_ | refine X.l7 ?_ | refine X.l8 ?_ | refine X.l9 ?_ | refine X.m7 ?_ | refine X.m8 ?_ | (refine X.s1 ?_; intro w hw) | (refine X.s2 ?_; intro w hw) | refine X.e1 ?_ | refine X.e2 ?_ | (simp only [X.df]) | (simp (disch := omega) only [wi]))
    refine X.callN rfl rfl Try.func46 (rdecode_calls b hb w) fun w _ hw => ?_
    repeat (first | refine X.p1 ?_ | refine X.p2 ?_ | refine X.p6 ?_ | refine X.p7 ?_ | refine X.p0 ?_ | refine X.p3 ?_ | refine X.p4 ?_ | refine X.p5 ?_ | refine X.p8 ?_ | refine X.p9 ?_ | refine X.q1 ?_ | refine X.q2 ?_ | refine X.q3 ?_ | refine X.q4 ?_ | refine X.q5 ?_ | refine X.q6 ?_ | refine X.q7 ?_ | refine X.q8 ?_ | refine X.q9 ?_ | refine X.q0 ?_ | refine X.m1 ?_ | refine X.m2 ?_ | refine X.m3 ?_ | refine X.m4 ?_ | refine X.m5 ?_ | refine X.m6 ?_ | refine X.l11 ?_ | refine X.l1 ?_ | refine X.l2 ?_ | refine X.l3 ?_ | refine X.l4 ?_ | refine X.l5 ?_ | refine X.l10 ?_ | refine X.l6 ?_ | refine X.l7 ?_ | refine X.l8 ?_ | refine X.l9 ?_ | refine X.m7 ?_ | refine X.m8 ?_ | (refine X.s1 ?_; intro w hw) | (refine X.s2 ?_; intro w hw) | refine X.e1 ?_ | refine X.e2 ?_ | (simp only [X.df]) | (simp (disch := omega) only [wi]))
    (first | refine X.nb ?_ | refine X.na ?_); intro g10 w _ hw
    repeat (first | refine X.p1 ?_ | refine X.p2 ?_ | refine X.p6 ?_ | refine X.p7 ?_ | refine X.p0 ?_ | refine X.p3 ?_ | refine X.p4 ?_ | refine X.p5 ?_ | refine X.p8 ?_ | refine X.p9 ?_ | refine X.q1 ?_ | refine X.q2 ?_ | refine X.q3 ?_ | refine X.q4 ?_ | refine X.q5 ?_ | refine X.q6 ?_ | refine X.q7 ?_ | refine X.q8 ?_ | refine X.q9 ?_ | refine X.q0 ?_ | refine X.m1 ?_ | refine X.m2 ?_ | refine X.m3 ?_ | refine X.m4 ?_ | refine X.m5 ?_ | refine X.m6 ?_ | refine X.l11 ?_ | refine X.l1 ?_ | refine X.l2 ?_ | refine X.l3 ?_ | refine X.l4 ?_ | refine X.l5 ?_ | refine X.l10 ?_ | refine X.l6 ?_ | refine X.l7 ?_ | refine X.l8 ?_ | refine X.l9 ?_ | refine X.m7 ?_ | refine X.m8 ?_ | (refine X.s1 ?_; intro w hw) | (refine X.s2 ?_; intro w hw) | refine X.e1 ?_ | refine X.e2 ?_ | (simp only [X.df]) | (simp (disch := omega) only [wi]))
    refine X.mix [0, 2, 1, 3, 4, 5, 6, 7, 8, 9, 10, 11, 12, 13, 14, 15, 16, 17] [] hw fun w hk hw => ?_
    repeat (first | refine X.r1 ?_ | refine X.r2 ?_ | refine X.r4 ?_ | refine X.r3 ?_ | refine X.rm1 ?_ | refine X.rm2 ?_ | refine X.rm3 ?_ | refine X.rm4 ?_ | refine X.rm5 ?_ | refine X.rl11 ?_ | refine X.rl1 ?_ | refine X.rl2 ?_ | refine X.rl3 ?_ | refine X.rl5 ?_ | refine X.rl6 ?_ | refine X.rm8 ?_ | refine X.re1 ?_ | refine X.re2 ?_ | (simp only [X.df]) | (simp (disch := omega) only [wi]))
    refine X.act ?_; refine X.callN rfl rfl Try.func41 (given_calls (decX b) hd w) fun w kk hw => ?_; have hk := hk.no kk; refine mid_a hk ?_
    repeat (first | refine X.r1 ?_ | refine X.r2 ?_ | refine X.r4 ?_ | refine X.r3 ?_ | refine X.rm1 ?_ | refine X.rm2 ?_ | refine X.rm3 ?_ | refine X.rm4 ?_ | refine X.rm5 ?_ | refine X.rl11 ?_ | refine X.rl1 ?_ | refine X.rl2 ?_ | refine X.rl3 ?_ | refine X.rl5 ?_ | refine X.rl6 ?_ | refine X.rm8 ?_ | refine X.re1 ?_ | refine X.re2 ?_ | (simp only [X.df]) | (simp (disch := omega) only [wi]))
    refine mw_any rfl rfl rfl rfl rfl (fun w0 => ow_eqA hD (a := decX b) (b := decX b) rfl hDa (by kernel_rfl) hd hd rfl rfl rfl fin) (fun _ => ⟨_, rfl⟩) ?_
    by_cases c1 : GoodB b
    · rw [goodB_t c1, ct1]
      repeat (first | refine X.r1 ?_ | refine X.r2 ?_ | refine X.r4 ?_ | refine X.r3 ?_ | refine X.rm1 ?_ | refine X.rm2 ?_ | refine X.rm3 ?_ | refine X.rm4 ?_ | refine X.rm5 ?_ | refine X.rl11 ?_ | refine X.rl1 ?_ | refine X.rl2 ?_ | refine X.rl3 ?_ | refine X.rl5 ?_ | refine X.rl6 ?_ | refine X.rm8 ?_ | refine X.re1 ?_ | refine X.re2 ?_ | (simp only [X.df]) | (simp (disch := omega) only [wi]))
      repeat (first | refine X.p1 ?_ | refine X.p2 ?_ | refine X.p6 ?_ | refine X.p7 ?_ | refine X.p0 ?_ | refine X.p3 ?_ | refine X.p4 ?_ | refine X.p5 ?_ | refine X.p8 ?_ | refine X.p9 ?_ | refine X.q1 ?_ | refine X.q2 ?_ | refine X.q3 ?_ | refine X.q4 ?_ | refine X.q5 ?_ | refine X.q6 ?_ | refine X.q7 ?_ | refine X.q8 ?_ | refine X.q9 ?_ | refine X.q0 ?_ | refine X.m1 ?_ | refine X.m2 ?_ | refine X.m3 ?_ | refine X.m4 ?_ | refine X.m5 ?_ | refine X.m6 ?_ | refine X.l11 ?_ | refine X.l1 ?_ | refine X.l2 ?_ | refine X.l3 ?_ | refine X.l4 ?_ | refine X.l5 ?_ | refine X.l10 ?_ | refine X.l6 ?_ | refine X.l7 ?_ | refine X.l8 ?_ | refine X.l9 ?_ | refine X.m7 ?_ | refine X.m8 ?_ | (refine X.s1 ?_; intro w hw) | (refine X.s2 ?_; intro w hw) | refine X.e1 ?_ | refine X.e2 ?_ | (simp only [X.df]) | (simp (disch := omega) only [wi]))
      exact xw_ret (vs := [_]) Try.results9 ⟨rfl, trivial⟩ ⟨rfl, hw.kpNo ro_nil⟩
    · rw [goodB_f c1, cf1]
      repeat (first | refine X.r1 ?_ | refine X.r2 ?_ | refine X.r4 ?_ | refine X.r3 ?_ | refine X.rm1 ?_ | refine X.rm2 ?_ | refine X.rm3 ?_ | refine X.rm4 ?_ | refine X.rm5 ?_ | refine X.rl11 ?_ | refine X.rl1 ?_ | refine X.rl2 ?_ | refine X.rl3 ?_ | refine X.rl5 ?_ | refine X.rl6 ?_ | refine X.rm8 ?_ | refine X.re1 ?_ | refine X.re2 ?_ | (simp only [X.df]) | (simp (disch := omega) only [wi]))
      repeat (first | refine X.p1 ?_ | refine X.p2 ?_ | refine X.p6 ?_ | refine X.p7 ?_ | refine X.p0 ?_ | refine X.p3 ?_ | refine X.p4 ?_ | refine X.p5 ?_ | refine X.p8 ?_ | refine X.p9 ?_ | refine X.q1 ?_ | refine X.q2 ?_ | refine X.q3 ?_ | refine X.q4 ?_ | refine X.q5 ?_ | refine X.q6 ?_ | refine X.q7 ?_ | refine X.q8 ?_ | refine X.q9 ?_ | refine X.q0 ?_ | refine X.m1 ?_ | refine X.m2 ?_ | refine X.m3 ?_ | refine X.m4 ?_ | refine X.m5 ?_ | refine X.m6 ?_ | refine X.l11 ?_ | refine X.l1 ?_ | refine X.l2 ?_ | refine X.l3 ?_ | refine X.l4 ?_ | refine X.l5 ?_ | refine X.l10 ?_ | refine X.l6 ?_ | refine X.l7 ?_ | refine X.l8 ?_ | refine X.l9 ?_ | refine X.m7 ?_ | refine X.m8 ?_ | (refine X.s1 ?_; intro w hw) | (refine X.s2 ?_; intro w hw) | refine X.e1 ?_ | refine X.e2 ?_ | (simp only [X.df]) | (simp (disch := omega) only [wi]))
      exact xw_ret (vs := [_]) Try.results9 ⟨rfl, trivial⟩ ⟨rfl, hw.kpNo ro_nil⟩
end Go.Proofs.Ytbgjhmdedillhaa.Sup
