/- A log of digests: what it holds; made, asked. -/
import Derived.Test.YtbfpgigbakhplaaDig5
import Derived.Test.YtbfpgigbakhplaaNd1
import Derived.Test.YtbfpgigbakhplaaDp
set_option linter.unusedVariables false
set_option linter.unusedSimpArgs false
namespace Go.Proofs.Ytbfpgigbakhplaa.Lg
open Go.RowKit Go.Proofs.Ytbfpgigbakhplaa.Sx Go.Proofs.Ytbfpgigbakhplaa.Mx Go.Proofs.Ytbfpgigbakhplaa.Bw Go.Proofs.Ytbfpgigbakhplaa.By Go.Proofs.Ytbfpgigbakhplaa.Eqs Go.Proofs.Ytbfpgigbakhplaa.Qx Go.Proofs.Ytbfpgigbakhplaa.Ap Go.Proofs.Ytbfpgigbakhplaa.Mi Go.Proofs.Ytbfpgigbakhplaa.Stm Go.Proofs.Ytbfpgigbakhplaa.Fl Go.Proofs.Ytbfpgigbakhplaa.Mp Go.Proofs.Ytbfpgigbakhplaa.Mf Go.Proofs.Ytbfpgigbakhplaa.Dp Go.Proofs.Ytbfpgigbakhplaa.Bd Go.Maps
section rules
variable {P : Program} {n : Nat} {L : Ctx} {w w0 : World} {M0 M M' : List Stm.Item} {ops : Array Oper} {rest : List Oper} {d : Nat} {ty : TypeId} {pos : String} {af : Array Edge}
variable [C : X.TC P] {l : List Oper} {kd : Ks} {F : Nat → New} {Kt : Kont} {π : List Nat} {z : World} {K : Nat → Prop} {i : Nat} {g : Option (Nat × Bool)} {b : Bool}
omit C in
theorem yneA {t t' : TypeId} {D : TypeDesc} {T : Type} [DecidableEq T] {cells : T → List Value} {ok : T → Prop} {dep sz : Nat} (he : EqT P t D cells ok dep sz) {x y : Operand} {a c : T} (hdep : Nat.ble dep 10000 = true) (hD : aggB D = true) (hgt : P.eqGuardType P.depth t = false) (ha : ok a) (hb : ok c)
    (h : Y.Nw P n l kd F Kt π z K ((d, .bool (!decide (a = c))) :: L) w) (ho : nth l i = some ⟨some d, .binOp .neq t x y t', ty, pos, af, g⟩ := by exact rfl) (hk : k3 (kd i) = .quiet := by exact rfl) (hd : Nat.blt d n = true := by exact rfl) (hg : Mi.wantB l.toArray L g = some b := by exact rfl)
    (hx : ev L x = some (.agg (cells a).toArray) := by exact rfl) (hy : ev L y = some (.agg (cells c).toArray) := by exact rfl) (hb' : b = true := by first | (with_reducible exact rfl) | decide | (simp <;> fail)) : Y.Nw P n l kd F Kt (i :: π) z K L w :=
  Y.nw_any ho hk hd hg hb' (fun w0 => ow_neA he hdep hD hgt ha hb hd hx hy fin) (fun _ => ⟨_, rfl⟩) h
end rules
theorem star_pre {l : List Stm.Item} {w : World} (h : (starI l).holds w) : Pre l w := ⟨h.1, h.2⟩
theorem star_both {l l' : List Stm.Item} {w w' : World} (h : St w l l' w') (ho : ∀ i ∈ l, i.own = true) : St w [starI l] [starI l'] w' :=
  ⟨⟨fun i hi => by rw [List.mem_singleton.1 hi]; exact ⟨h.pre.all, h.pre.apart⟩, List.pairwise_singleton _ _⟩,
    h.kp.mono (fun g ⟨i, hi, _, hf⟩ => ⟨starI l, by simp, rfl, i, hi, hf⟩),
    fun i hi g hg => by
      rw [List.mem_singleton.1 hi] at hg
      obtain ⟨j, hj, hf⟩ := hg
      rcases h.org j hj g hf with h1 | ⟨k, hk, hkf, _⟩
      · exact .inl h1
      · exact .inr ⟨starI l, by simp, ⟨k, hk, hkf⟩, fun _ => rfl⟩⟩
theorem oneApp (a b : List Value) (h1 : oneCells a = true) (h2 : oneCells b = true) : oneCells (a ++ b) = true := by
  simp only [oneCells, List.all_append, Bool.and_eq_true] at *
  exact ⟨h1, h2⟩
theorem cb_inj : ∀ {l l' : List Byte}, cb l = cb l' → l = l'
  | [], [], _ => rfl
  | [], _ :: _, h => by simp [cb] at h
  | _ :: _, [], h => by simp [cb] at h
  | a :: l, b :: l', h => by
    simp only [cb, List.map_cons, List.cons.injEq] at h
    have h1 : a = b := by have := h.1; simp at this; exact BitVec.eq_of_toNat_eq (by omega)
    rw [h1, cb_inj (l := l) (l' := l') h.2]
abbrev i64v (n : Int) : Value := .int .i64 n
/-! ### Plain: entries, where they stand, the first collision. -/
abbrev En := Byte × List Byte
def dgE (e : En) : List Byte := Dig.dg e.1 e.2
def plc (es : List En) (e : En) : Option Nat := es.findIdx? (fun x => decide (x = e))
def fst (es : List En) (s : List Byte) : Option Nat := es.findIdx? (fun x => decide (dgE x = s))
def colA : List En → List En → Nat × Nat × Bool
  | _, [] => (0, 0, false)
  | done, e :: r => match fst done (dgE e) with
    | some i => (i, done.length, true)
    | none => colA (done ++ [e]) r
def colOf (es : List En) : Nat × Nat × Bool := colA [] es
theorem colA_no : ∀ (r done : List En), (colA done r).2.2 = false → colA done r = (0, 0, false)
  | [], _, _ => rfl
  | e :: r, done, h => by
    unfold colA at h ⊢
    cases hf : fst done (dgE e) with
    | some i => rw [hf] at h; cases h
    | none => rw [hf] at h; exact colA_no r _ h
theorem colA_snoc : ∀ (r done : List En) (e : En), colA done (r ++ [e]) = if (colA done r).2.2 then colA done r else match fst (done ++ r) (dgE e) with
    | some i => (i, (done ++ r).length, true)
    | none => (0, 0, false)
  | [], done, e => by
    simp only [List.nil_append, colA, List.append_nil, Bool.false_eq_true, if_false]
  | a :: r, done, e => by
    rw [List.cons_append]
    unfold colA
    cases hf : fst done (dgE a) with
    | some i => simp
    | none =>
      simp only
      rw [colA_snoc r (done ++ [a]) e, List.append_assoc]
      rfl
theorem colOf_no {es : List En} (h : (colOf es).2.2 = false) : colOf es = (0, 0, false) := colA_no es [] h
theorem colOf_snoc (es : List En) (e : En) : colOf (es ++ [e]) = if (colOf es).2.2 then colOf es else match fst es (dgE e) with
    | some i => (i, es.length, true)
    | none => (0, 0, false) := by
  have := colA_snoc es [] e
  rwa [List.nil_append] at this
theorem colOf_app (es : List En) (h : (colOf es).2.2 = true) : ∀ r : List En, colOf (es ++ r) = colOf es := by
  intro r
  induction r generalizing es with
  | nil => rw [List.append_nil]
  | cons e r ih =>
    have h1 : colOf (es ++ [e]) = colOf es := by rw [colOf_snoc, h, if_pos rfl]
    have := ih (es ++ [e]) (by rw [h1]; exact h)
    rw [List.append_assoc] at this
    rw [← h1, ← this]; rfl
def putE (es : List En) (e : En) : List En := if e ∈ es then es else es ++ [e]
theorem plc_none {es : List En} {e : En} : plc es e = none ↔ e ∉ es := by
  unfold plc
  rw [List.findIdx?_eq_none_iff]
  constructor
  · intro h hm
    have := h e hm
    simp at this
  · intro h x hx
    simp only [decide_eq_false_iff_not]
    rintro rfl
    exact h hx
theorem fst_lt {es : List En} {s : List Byte} {i : Nat} (h : fst es s = some i) : i < es.length := by
  unfold fst at h
  rw [List.findIdx?_eq_some_iff_findIdx_eq] at h
  exact h.1
theorem plc_lt {es : List En} {e : En} {i : Nat} (h : plc es e = some i) : i < es.length := by
  unfold plc at h
  rw [List.findIdx?_eq_some_iff_findIdx_eq] at h
  exact h.1
def plI (es : List En) : En → Option Int := fun e => (plc es e).map fun n => (n : Int)
def fsI (es : List En) : List Byte → Option Int := fun s => (fst es s).map fun n => (n : Int)
theorem plI_nil : plI [] = fun _ => none := by funext e; rfl
theorem fsI_nil : fsI [] = fun _ => none := by funext e; rfl
theorem plI_snoc (es : List En) (e : En) (h : e ∉ es) : upd (plI es) e (es.length : Int) = plI (es ++ [e]) := by
  funext x
  unfold upd plI plc
  rw [List.findIdx?_append]
  by_cases hx : x = e
  · subst hx
    have h1 : es.findIdx? (fun y => decide (y = x)) = none := plc_none.2 h
    rw [if_pos rfl, h1]
    simp [List.findIdx?_cons]
  · rw [if_neg hx]
    cases h1 : es.findIdx? (fun y => decide (y = x)) with
    | some i => simp
    | none =>
      have : (decide (e = x)) = false := decide_eq_false (fun h => hx h.symm)
      simp [List.findIdx?_cons, this]
theorem fsI_snoc (es : List En) (e : En) : fsI (es ++ [e]) = if (fsI es (dgE e)).isSome then fsI es else upd (fsI es) (dgE e) (es.length : Int) := by
  cases h0 : fst es (dgE e) with
  | some j =>
    have h1 : (fsI es (dgE e)).isSome = true := by unfold fsI; rw [h0]; rfl
    rw [h1, if_pos rfl]
    funext x
    unfold fsI
    congr 1
    unfold fst at h0 ⊢
    rw [List.findIdx?_append]
    by_cases hx : dgE e = x
    · subst hx; rw [h0]; rfl
    · have : (decide (dgE e = x)) = false := decide_eq_false hx
      simp [List.findIdx?_cons, this]
  | none =>
    have h1 : (fsI es (dgE e)).isSome = false := by unfold fsI; rw [h0]; rfl
    rw [h1, if_neg (by decide)]
    funext x
    unfold upd fsI
    by_cases hx : x = dgE e
    · subst hx
      rw [if_pos rfl]
      unfold fst at h0 ⊢
      rw [List.findIdx?_append, h0]
      simp [List.findIdx?_cons]
    · rw [if_neg hx]
      congr 1
      unfold fst
      rw [List.findIdx?_append]
      have : (decide (dgE e = x)) = false := decide_eq_false (fun h => hx h.symm)
      simp [List.findIdx?_cons, this]
/-! ### A log. -/
def OkE (e : En) : Prop := e.2.length ≤ 140737488351232
def OkS (s : List Byte) : Prop := s.length = 32
abbrev enC (e : En) : List Value := [by8 e.1, str e.2]
abbrev enV (e : En) : Value := .agg (enC e).toArray
abbrev smV (s : List Byte) : Value := .agg (cb s).toArray
def esC (es : List En) : List Value := es.flatMap enC
theorem esC_len (es : List En) : (esC es).length = es.length * 2 := flat_len es (fun _ _ => rfl)
theorem esC_app (es : List En) (e : En) : esC (es ++ [e]) = esC es ++ enC e := by simp [esC]
theorem esC_get (es : List En) (i : Nat) (hi : i < es.length) : ((esC es).drop ((i : Int).toNat * 2)).take 2 = enC es[i] := by
  rw [Int.toNat_natCast]; exact piece_get (sz := 2) (cells := enC) es (fun _ _ => rfl) i hi
theorem esC_one (es : List En) : oneCells (esC es) = true := by
  induction es with
  | nil => rfl
  | cons e es ih => rw [esC, List.flatMap_cons]; exact oneApp _ _ rfl ih
structure Lg where
  es : List En
  ve : Value
  gp : Nat
  gf : Nat
  np : Nat
  nf : Nat
def lgC (L : Lg) : List Value := [L.ve, .map (some L.gp), .map (some L.gf), i64v (colOf L.es).1, i64v (colOf L.es).2.1, .bool (colOf L.es).2.2]
structure OkLg (L : Lg) : Prop where
  e : ∀ x ∈ L.es, OkE x
  l : L.es.length * 40 ≤ 140737488355328
  np : L.np ≤ L.es.length
  nf : L.nf ≤ L.es.length
attribute [local irreducible] Ow Cw Xw Mw
set_option maxHeartbeats 4000000
theorem enKey (e : En) (h : OkE e) : ∃ kl, keyOf Try.prog 150 (enV e) = some kl := by
  refine key_agg (by rw [Try.underlying150]) (by kernel_rfl) (by kernel_rfl) ?_
  refine key_struct2 (c1 := [by8 e.1]) (c2 := [str e.2]) Try.underlying150 (by kernel_rfl) (by kernel_rfl) rfl (by kernel_rfl) rfl (by kernel_rfl) (key_int Try.underlying5 (wf_u8 _)) (key_str Try.underlying9 ?_)
  rw [bs_size]; unfold OkE at h; unfold maxLen; omega
theorem enKeyed : Keyed Try.prog 150 := Keyed.of_law (deep_law_laid (by kernel_rfl) (m := 9) (by decide) (of_decide_eq_true (by kernel_rfl)) (by kernel_rfl) (by rw [Try.underlying150]))
theorem smKey (s : List Byte) (h : OkS s) : ∃ kl, keyOf Try.prog 79 (smV s) = some kl := by
  refine key_agg (by rw [Try.underlying79]) (by kernel_rfl) (by rw [List.length_map, h]; kernel_rfl) ?_
  exact key_bytes Try.underlying79 Try.underlying5 (by kernel_rfl) (by kernel_rfl) h
theorem smKeyed : Keyed Try.prog 79 := Keyed.of_law (deep_law_laid (by kernel_rfl) (m := 9) (by decide) (of_decide_eq_true (by kernel_rfl)) (by kernel_rfl) (by rw [Try.underlying79]))
theorem bs_inj {a b : List Byte} (h : bs a = bs b) : a = b := by
  have := congrArg ofBA h
  rwa [ofBA_bs, ofBA_bs] at this
theorem agg_inj {a b : List Value} (h : Value.agg a.toArray = .agg b.toArray) : a = b := by
  have := congrArg (fun v => match v with | Value.agg a => a.toList | _ => []) h
  simpa using this
theorem enInj (x x' : En) (h : OkE x) (h' : OkE x') (e : enV x = enV x') : x = x' := by
  have e1 := agg_inj e
  simp only [enC, List.cons.injEq, and_true] at e1
  obtain ⟨e2, e3⟩ := e1
  refine Prod.ext ?_ (bs_inj ?_)
  · simp at e2; exact BitVec.eq_of_toNat_eq (by omega)
  · injection e3
theorem smInj (x x' : List Byte) (h : OkS x) (h' : OkS x') (e : smV x = smV x') : x = x' := cb_inj (agg_inj e)
theorem zInt : zeroOf Try.prog 3 = some (i64v 0) := by kernel_rfl
theorem pInt (n : Int) (h : I64 n) : plainElem (H := Unit) Try.prog 3 (i64v n) = some (.lit (.int .i64 n), []) := plainElem_int Try.underlying3 (by
  obtain ⟨h1, h2⟩ := h
  simp only [Lit.wf, Bool.and_eq_true, decide_eq_true_eq, IntKind.min, IntKind.max, IntKind.signed, IntKind.bits]
  simp; omega)
abbrev mpI (L : Lg) : Stm.Item := mapI Try.prog L.gp 150 3 enV OkE i64v L.np (plI L.es)
abbrev mfI (L : Lg) : Stm.Item := mapI Try.prog L.gf 79 3 smV OkS i64v L.nf (fsI L.es)
def lgI (gl : Nat) (L : Lg) : List Stm.Item := [blkI gl 144 (lgC L), mpI L, mfI L, vecI L.ve 150 2 L.es.length (esC L.es)]
def lg0 (gp gf : Nat) : Lg := ⟨[], .slice none 0 0, gp, gf, 0, 0⟩
theorem lg0_ok (gp gf : Nat) : OkLg (lg0 gp gf) := ⟨fun x hx => (by cases hx), by show 0 * 40 ≤ _; decide, Nat.le_refl _, Nat.le_refl _⟩
theorem newLB (gp gf : Nat) : Try.prog.built 144 [(1, .map (some gp)), (2, .map (some gf))] = some (lgC (lg0 gp gf)).toArray := by kernel_rfl
theorem newL_calls (w0 : World) : Does Try.prog 39 [] w0 fun v w' => ∃ gl gp gf, v = .pointer (some ⟨gl, 0, none⟩) ∧ St w0 [] (lgI gl (lg0 gp gf)) w' := by
  have hw := St.start (w := w0) .nil
  refine fn_enter Try.func39 rfl Try.ntmps39 rfl ?_
  repeat (first | refine X.p1 ?_ | refine X.p2 ?_ | refine X.p6 ?_ | refine X.p7 ?_ | refine X.p0 ?_ | refine X.p3 ?_ | refine X.p4 ?_ | refine X.p5 ?_ | refine X.p8 ?_ | refine X.p9 ?_ | refine X.q1 ?_ | refine X.q2 ?_ | refine X.q3 ?_ | refine X.q4 ?_ | refine X.q5 ?_ | refine X.q6 ?_ | refine X.q7 ?_ | refine X.q8 ?_ | refine X.q9 ?_ | refine X.q0 ?_ | refine X.m1 ?_ | refine X.m2 ?_ | refine X.m3 ?_ | refine X.m4 ?_ | refine X.m5 ?_ | refine X.m6 ?_ | refine X.l11 ?_ | refine X.l1 ?_ | refine X.l2 ?_ | refine X.l3 ?_ | refine X.l4 ?_ | refine X.l5 ?_ | refine X.l10 ?_ | refine X.l6 ?_ | refine X.l7 ?_ | refine X.l8 ?_ | refine X.l9 ?_ | refine X.m7 ?_ | refine X.m8 ?_ | (refine X.s1 ?_; intro w hw) | (refine X.s2 ?_; intro w hw) | refine X.e1 ?_ | refine X.e2 ?_ | (simp only [X.df]) | (simp (disch := omega) only [wi]))
  refine Mp.mkmap (e := 3) enV OkE i64v hw enKey (fun gp w _ hw => ?_)
  refine Mp.mkmap (e := 3) smV OkS i64v hw smKey (fun gf w _ hw => ?_)
  refine X.bl rfl (newLB gp gf) ?_
  (first | refine X.nb ?_ | refine X.na ?_); intro gl w _ hw
  repeat (first | refine X.p1 ?_ | refine X.p2 ?_ | refine X.p6 ?_ | refine X.p7 ?_ | refine X.p0 ?_ | refine X.p3 ?_ | refine X.p4 ?_ | refine X.p5 ?_ | refine X.p8 ?_ | refine X.p9 ?_ | refine X.q1 ?_ | refine X.q2 ?_ | refine X.q3 ?_ | refine X.q4 ?_ | refine X.q5 ?_ | refine X.q6 ?_ | refine X.q7 ?_ | refine X.q8 ?_ | refine X.q9 ?_ | refine X.q0 ?_ | refine X.m1 ?_ | refine X.m2 ?_ | refine X.m3 ?_ | refine X.m4 ?_ | refine X.m5 ?_ | refine X.m6 ?_ | refine X.l11 ?_ | refine X.l1 ?_ | refine X.l2 ?_ | refine X.l3 ?_ | refine X.l4 ?_ | refine X.l5 ?_ | refine X.l10 ?_ | refine X.l6 ?_ | refine X.l7 ?_ | refine X.l8 ?_ | refine X.l9 ?_ | refine X.m7 ?_ | refine X.m8 ?_ | (refine X.s1 ?_; intro w hw) | (refine X.s2 ?_; intro w hw) | refine X.e1 ?_ | refine X.e2 ?_ | (simp only [X.df]) | (simp (disch := omega) only [wi]))
  have hw := hw.nilVec (e := 150) (sz := 2)
  change St w0 [] [vecI (lg0 gp gf).ve 150 2 (lg0 gp gf).es.length (esC (lg0 gp gf).es), blkI gl 144 (lgC (lg0 gp gf)), mfI (lg0 gp gf), mpI (lg0 gp gf)] w at hw
  exact xw_ret (vs := [_]) Try.results39 ⟨rfl, trivial⟩ ⟨gl, gp, gf, rfl, hw.sub (by unfold lgI; exact (by (repeat (first | (with_reducible exact Split.nil) | ((with_reducible apply Split.cons); (next => (repeat (first | (with_reducible exact Pick.here) | (with_reducible exact Put.here) | (with_reducible apply Pick.there) | (with_reducible apply Put.there)))))))))⟩
end Go.Proofs.Ytbfpgigbakhplaa.Lg
