/- The document's log: an entry put, the first collision. -/
import Derived.Test.YtnpnphcklmlchaaLg2
set_option linter.unusedVariables false
set_option linter.unusedSimpArgs false
namespace Go.Proofs.Ytnpnphcklmlchaa.Lg
open Go.RowKit Go.Proofs.Ytnpnphcklmlchaa.Sx Go.Proofs.Ytnpnphcklmlchaa.Mx Go.Proofs.Ytnpnphcklmlchaa.Bw Go.Proofs.Ytnpnphcklmlchaa.By Go.Proofs.Ytnpnphcklmlchaa.Eqs Go.Proofs.Ytnpnphcklmlchaa.Qx Go.Proofs.Ytnpnphcklmlchaa.Ap Go.Proofs.Ytnpnphcklmlchaa.Mi Go.Proofs.Ytnpnphcklmlchaa.Stm Go.Proofs.Ytnpnphcklmlchaa.Fl Go.Proofs.Ytnpnphcklmlchaa.Mp Go.Proofs.Ytnpnphcklmlchaa.Mf Go.Proofs.Ytnpnphcklmlchaa.Dp Go.Proofs.Ytnpnphcklmlchaa.Bd Go.Maps
section rules
variable {P : Program} {n : Nat} {L : Ctx} {w w0 : World} {M0 M M' : List Stm.Item} {ops : Array Oper} {rest : List Oper} {d : Nat} {ty : TypeId} {pos : String} {af : Array Edge}
variable {l : List Oper} {kd : Ks} {F : Nat → New} {Kt : Kont} {π : List Nat} {z : World} {K : Nat → Prop} {i : Nat} {g : Option (Nat × Bool)} {b : Bool}
theorem yeqA {t t' : TypeId} {D : TypeDesc} {T : Type} [DecidableEq T] {cells : T → List Value} {ok : T → Prop} {dep sz : Nat} (he : EqT P t D cells ok dep sz) {x y : Operand} {a c : T} (hdep : Nat.ble dep 10000 = true) (hD : aggB D = true) (hgt : P.eqGuardType P.depth t = false) (ha : ok a) (hb : ok c)
    (h : Y.Nw P n l kd F Kt π z K ((d, .bool (decide (a = c))) :: L) w) (ho : nth l i = some ⟨some d, .binOp .eql t x y t', ty, pos, af, g⟩ := by exact rfl) (hk : k3 (kd i) = .quiet := by exact rfl) (hd : Nat.blt d n = true := by exact rfl) (hg : Mi.wantB l.toArray L g = some b := by exact rfl)
    (hx : ev L x = some (.agg (cells a).toArray) := by exact rfl) (hy : ev L y = some (.agg (cells c).toArray) := by exact rfl) (hb' : b = true := by first | (with_reducible exact rfl) | decide | (simp <;> fail)) : Y.Nw P n l kd F Kt (i :: π) z K L w :=
  Y.nw_any ho hk hd hg hb' (fun w0 => ow_eqA he hdep hD hgt ha hb hd hx hy fin) (fun _ => ⟨_, rfl⟩) h
variable {Q : Exit → Act → World → Prop}
theorem fr_slice {t e : TypeId} {len : Nat} {parts : List (Nat × Operand)} {vs : List (Nat × Value)} {cs : List Value} {o : Oper} (ho : o.op = .buildSlice t len ⟨parts⟩) {a : Act} (ha : Has n L a) (hv : mapEvP L parts = some vs) (hu : P.underlying t = some (.slice e)) (hf : P.builtSlice e len vs = some cs.toArray) :
    Fr P o a ⟨fun g => .slice (some ⟨g, 0, none⟩) len len, fun g => blkI g e cs⟩ := by
  refine ⟨fun w => ⟨w.alloc (.cells cs.toArray e), ?_, kp_alloc _ _, heap_alloc_new _ _, by simp⟩, fun g k hk => hk⟩
  unfold execOp
  rw [ho]
  simp only [List.map_toArray]
  have hm : (parts.map fun (i, x) => (i, a.eval x)) = vs := mapEvP_ok ha hv
  unfold Program.builtSlice at hf
  cases hie : P.info? e with
  | none => simp [hie] at hf
  | some ie =>
    simp only [hie] at hf
    cases hz : ie.zero with
    | none => simp [hz] at hf
    | some z =>
      simp only [hz] at hf
      by_cases hc : len * ie.size > 2 ^ 24 ∨ len * ie.size = 0
      · simp [hc] at hf
      · rw [if_neg hc] at hf
        have hm2 : List.map (fun x => (x.1, a.eval x.2)) parts = vs := hm
        rw [run_ok_bind (run_buildSlice w t e len _ cs.toArray ie z hu hie hz (fun h' => hc (.inl h')) (fun h' => hc (.inr h')) (by rw [hm2]; exact hf))]
        rfl
end rules
attribute [local irreducible] Ow Cw Xw Mw
set_option maxHeartbeats 4000000
theorem eqEn : ∃ D, aggB D = true ∧ EqT Try.prog 45 D enC (fun _ => True ∧ True) 2 2 :=
  ⟨_, rfl, eq_map (eq_struct2 (P := Try.prog) Try.underlying45 (tab.sz_ok _ _ rfl) (by kernel_rfl) rfl rfl rfl rfl (eq_u (w := 8) .u8 Try.underlying5 (tab.sz_ok _ _ rfl)) (eq_str Try.underlying9 (tab.sz_ok _ _ rfl))) id (fun _ _ => Iff.rfl) (fun a h => h)⟩
theorem put_calls (A : Option Addr) (es : List En) (c : Nat) (e : En) (hn : (es.length + 1) * 40 ≤ 140737488355328) (w0 : World) (h : Pre [rowI A (esC es)] w0) :
    Does Try.prog 29 [.slice A es.length c, enV e] w0 fun v w' => ∃ A' c', v = .slice A' (putE es e).length c' ∧ St w0 [rowI A (esC es)] [rowI A' (esC (putE es e))] w' := by
  have hw := St.start h
  obtain ⟨D, hDa, hD⟩ := eqEn
  have hel := esC_len es
  refine fn_enter Try.func29 rfl Try.ntmps29 rfl ?_
  repeat (first | refine X.p1 ?_ | refine X.p2 ?_ | refine X.p6 ?_ | refine X.p7 ?_ | refine X.p0 ?_ | refine X.p3 ?_ | refine X.p4 ?_ | refine X.p5 ?_ | refine X.p8 ?_ | refine X.p9 ?_ | refine X.q1 ?_ | refine X.q2 ?_ | refine X.q3 ?_ | refine X.q4 ?_ | refine X.q5 ?_ | refine X.q6 ?_ | refine X.q7 ?_ | refine X.q8 ?_ | refine X.q9 ?_ | refine X.q0 ?_ | refine X.m1 ?_ | refine X.m2 ?_ | refine X.m3 ?_ | refine X.m4 ?_ | refine X.m5 ?_ | refine X.m6 ?_ | refine X.l11 ?_ | refine X.l1 ?_ | refine X.l2 ?_ | refine X.l3 ?_ | refine X.l4 ?_ | refine X.l5 ?_ | refine X.l10 ?_ | refine X.l6 ?_ | refine X.l7 ?_ | refine X.l8 ?_ | refine X.l9 ?_ | refine X.m7 ?_ | refine X.m8 ?_ | (refine X.s1 ?_; intro w hw) | (refine X.s2 ?_; intro w hw) | refine X.e1 ?_ | refine X.e2 ?_ | (simp only [X.df]) | (simp (disch := omega) only [wi]))
  (first | refine X.nb ?_ | refine X.na ?_); intro g3 w _ hw
  repeat (first | refine X.p1 ?_ | refine X.p2 ?_ | refine X.p6 ?_ | refine X.p7 ?_ | refine X.p0 ?_ | refine X.p3 ?_ | refine X.p4 ?_ | refine X.p5 ?_ | refine X.p8 ?_ | refine X.p9 ?_ | refine X.q1 ?_ | refine X.q2 ?_ | refine X.q3 ?_ | refine X.q4 ?_ | refine X.q5 ?_ | refine X.q6 ?_ | refine X.q7 ?_ | refine X.q8 ?_ | refine X.q9 ?_ | refine X.q0 ?_ | refine X.m1 ?_ | refine X.m2 ?_ | refine X.m3 ?_ | refine X.m4 ?_ | refine X.m5 ?_ | refine X.m6 ?_ | refine X.l11 ?_ | refine X.l1 ?_ | refine X.l2 ?_ | refine X.l3 ?_ | refine X.l4 ?_ | refine X.l5 ?_ | refine X.l10 ?_ | refine X.l6 ?_ | refine X.l7 ?_ | refine X.l8 ?_ | refine X.l9 ?_ | refine X.m7 ?_ | refine X.m8 ?_ | (refine X.s1 ?_; intro w hw) | (refine X.s2 ?_; intro w hw) | refine X.e1 ?_ | refine X.e2 ?_ | (simp only [X.df]) | (simp (disch := omega) only [wi]))
  refine X.loop (fun i : Nat => [(0, .slice A es.length c), (3, .pointer (some ⟨g3, 0, none⟩)), (5, .int .i64 (i : Int))])
    (fun i w' => i ≤ es.length ∧ (∀ x ∈ es.take i, x ≠ e) ∧ St w0 [rowI A (esC es)] [blkI g3 45 (enC e), rowI A (esC es)] w') (fun i => es.length - i) 0 ⟨Nat.zero_le _, (fun x hx => by simp at hx), hw⟩ ?_
  rintro i w ⟨hi, hne, hw⟩
  repeat (first | refine X.p1 ?_ | refine X.p2 ?_ | refine X.p6 ?_ | refine X.p7 ?_ | refine X.p0 ?_ | refine X.p3 ?_ | refine X.p4 ?_ | refine X.p5 ?_ | refine X.p8 ?_ | refine X.p9 ?_ | refine X.q1 ?_ | refine X.q2 ?_ | refine X.q3 ?_ | refine X.q4 ?_ | refine X.q5 ?_ | refine X.q6 ?_ | refine X.q7 ?_ | refine X.q8 ?_ | refine X.q9 ?_ | refine X.q0 ?_ | refine X.m1 ?_ | refine X.m2 ?_ | refine X.m3 ?_ | refine X.m4 ?_ | refine X.m5 ?_ | refine X.m6 ?_ | refine X.l11 ?_ | refine X.l1 ?_ | refine X.l2 ?_ | refine X.l3 ?_ | refine X.l4 ?_ | refine X.l5 ?_ | refine X.l10 ?_ | refine X.l6 ?_ | refine X.l7 ?_ | refine X.l8 ?_ | refine X.l9 ?_ | refine X.m7 ?_ | refine X.m8 ?_ | (refine X.s1 ?_; intro w hw) | (refine X.s2 ?_; intro w hw) | refine X.e1 ?_ | refine X.e2 ?_ | (simp only [X.df]) | (simp (disch := omega) only [wi]))
  refine X.cond (fun hlt => ?_) (fun hge => ?_)
  · have hlt : i < es.length := by omega
    have hg := esC_get es i hlt
    obtain ⟨g, o, rfl, hat⟩ := hw.rowSome (A := A) (cs := esC es) (by (repeat (first | (with_reducible exact Pick.here) | (with_reducible exact Put.here) | (with_reducible apply Pick.there) | (with_reducible apply Put.there)))) (fun h => by rw [h] at hel; simp at hel; omega)
    have hmem := List.getElem_mem hlt
    have htk : es.take (i + 1) = es.take i ++ [es[i]] := by rw [List.take_add_one, List.getElem?_eq_getElem hlt]; rfl
    generalize es[i] = x at hg hmem htk
    repeat (first | refine X.p1 ?_ | refine X.p2 ?_ | refine X.p6 ?_ | refine X.p7 ?_ | refine X.p0 ?_ | refine X.p3 ?_ | refine X.p4 ?_ | refine X.p5 ?_ | refine X.p8 ?_ | refine X.p9 ?_ | refine X.q1 ?_ | refine X.q2 ?_ | refine X.q3 ?_ | refine X.q4 ?_ | refine X.q5 ?_ | refine X.q6 ?_ | refine X.q7 ?_ | refine X.q8 ?_ | refine X.q9 ?_ | refine X.q0 ?_ | refine X.m1 ?_ | refine X.m2 ?_ | refine X.m3 ?_ | refine X.m4 ?_ | refine X.m5 ?_ | refine X.m6 ?_ | refine X.l11 ?_ | refine X.l1 ?_ | refine X.l2 ?_ | refine X.l3 ?_ | refine X.l4 ?_ | refine X.l5 ?_ | refine X.l10 ?_ | refine X.l6 ?_ | refine X.l7 ?_ | refine X.l8 ?_ | refine X.l9 ?_ | refine X.m7 ?_ | refine X.m8 ?_ | (refine X.s1 ?_; intro w hw) | (refine X.s2 ?_; intro w hw) | refine X.e1 ?_ | refine X.e2 ?_ | (simp only [X.df]) | (simp (disch := omega) only [wi]))
    refine Y.mix [0, 1, 2, 3, 4, 5] [] [(3, .r), (4, .r)] [] (R := []) hw fun w K hw hF => ?_; have hz := hw
    repeat (first | refine Y.r1 ?_ | refine Y.r2 ?_ | refine Y.r4 ?_ | refine Y.rm1 ?_ | refine Y.rm2 ?_ | refine Y.rm3 ?_ | refine Y.rm4 ?_ | refine Y.rm5 ?_ | refine Y.rl11 ?_ | refine Y.rl1 ?_ | refine Y.rl2 ?_ | refine Y.rl3 ?_ | refine Y.rl5 ?_ | refine Y.rl6 ?_ | refine Y.ro11 ?_ | refine Y.ro1 ?_ | refine Y.ro2 ?_ | refine Y.ro3 ?_ | refine Y.ro5 ?_ | refine Y.ro6 ?_ | refine Y.rm8 ?_ | (refine Y.r3 ?_; intro w hw) | (refine Y.beg0 ?_) | refine Y.re1 ?_ | refine Y.re2 ?_ | (simp only [X.df]) | (simp (disch := omega) only [wi]))
    refine Y.nw_read rfl rfl rfl rfl rfl (fun w2 k2 => st_loadRA tab (hw.no k2) rfl (by (repeat (first | (with_reducible exact Pick.here) | (with_reducible exact Put.here) | (with_reducible apply Pick.there) | (with_reducible apply Put.there)))) rfl rfl rfl rfl hg rfl fin) (fun _ => ⟨_, rfl⟩) ?_
    repeat (first | refine Y.r1 ?_ | refine Y.r2 ?_ | refine Y.r4 ?_ | refine Y.rm1 ?_ | refine Y.rm2 ?_ | refine Y.rm3 ?_ | refine Y.rm4 ?_ | refine Y.rm5 ?_ | refine Y.rl11 ?_ | refine Y.rl1 ?_ | refine Y.rl2 ?_ | refine Y.rl3 ?_ | refine Y.rl5 ?_ | refine Y.rl6 ?_ | refine Y.ro11 ?_ | refine Y.ro1 ?_ | refine Y.ro2 ?_ | refine Y.ro3 ?_ | refine Y.ro5 ?_ | refine Y.ro6 ?_ | refine Y.rm8 ?_ | (refine Y.r3 ?_; intro w hw) | (refine Y.beg0 ?_) | refine Y.re1 ?_ | refine Y.re2 ?_ | (simp only [X.df]) | (simp (disch := omega) only [wi]))
    refine yeqA hD (a := x) (c := e) rfl hDa (by kernel_rfl) ⟨trivial, trivial⟩ ⟨trivial, trivial⟩ ?_
    repeat (first | refine Y.r1 ?_ | refine Y.r2 ?_ | refine Y.r4 ?_ | refine Y.rm1 ?_ | refine Y.rm2 ?_ | refine Y.rm3 ?_ | refine Y.rm4 ?_ | refine Y.rm5 ?_ | refine Y.rl11 ?_ | refine Y.rl1 ?_ | refine Y.rl2 ?_ | refine Y.rl3 ?_ | refine Y.rl5 ?_ | refine Y.rl6 ?_ | refine Y.ro11 ?_ | refine Y.ro1 ?_ | refine Y.ro2 ?_ | refine Y.ro3 ?_ | refine Y.ro5 ?_ | refine Y.ro6 ?_ | refine Y.rm8 ?_ | (refine Y.r3 ?_; intro w hw) | (refine Y.beg0 ?_) | refine Y.re1 ?_ | refine Y.re2 ?_ | (simp only [X.df]) | (simp (disch := omega) only [wi]))
    repeat (first | refine X.p1 ?_ | refine X.p2 ?_ | refine X.p6 ?_ | refine X.p7 ?_ | refine X.p0 ?_ | refine X.p3 ?_ | refine X.p4 ?_ | refine X.p5 ?_ | refine X.p8 ?_ | refine X.p9 ?_ | refine X.q1 ?_ | refine X.q2 ?_ | refine X.q3 ?_ | refine X.q4 ?_ | refine X.q5 ?_ | refine X.q6 ?_ | refine X.q7 ?_ | refine X.q8 ?_ | refine X.q9 ?_ | refine X.q0 ?_ | refine X.m1 ?_ | refine X.m2 ?_ | refine X.m3 ?_ | refine X.m4 ?_ | refine X.m5 ?_ | refine X.m6 ?_ | refine X.l11 ?_ | refine X.l1 ?_ | refine X.l2 ?_ | refine X.l3 ?_ | refine X.l4 ?_ | refine X.l5 ?_ | refine X.l10 ?_ | refine X.l6 ?_ | refine X.l7 ?_ | refine X.l8 ?_ | refine X.l9 ?_ | refine X.m7 ?_ | refine X.m8 ?_ | (refine X.s1 ?_; intro w hw) | (refine X.s2 ?_; intro w hw) | refine X.e1 ?_ | refine X.e2 ?_ | (simp only [X.df]) | (simp (disch := omega) only [wi]))
    by_cases hxe : x = e
    · rw [decide_eq_true hxe]
      repeat (first | refine X.p1 ?_ | refine X.p2 ?_ | refine X.p6 ?_ | refine X.p7 ?_ | refine X.p0 ?_ | refine X.p3 ?_ | refine X.p4 ?_ | refine X.p5 ?_ | refine X.p8 ?_ | refine X.p9 ?_ | refine X.q1 ?_ | refine X.q2 ?_ | refine X.q3 ?_ | refine X.q4 ?_ | refine X.q5 ?_ | refine X.q6 ?_ | refine X.q7 ?_ | refine X.q8 ?_ | refine X.q9 ?_ | refine X.q0 ?_ | refine X.m1 ?_ | refine X.m2 ?_ | refine X.m3 ?_ | refine X.m4 ?_ | refine X.m5 ?_ | refine X.m6 ?_ | refine X.l11 ?_ | refine X.l1 ?_ | refine X.l2 ?_ | refine X.l3 ?_ | refine X.l4 ?_ | refine X.l5 ?_ | refine X.l10 ?_ | refine X.l6 ?_ | refine X.l7 ?_ | refine X.l8 ?_ | refine X.l9 ?_ | refine X.m7 ?_ | refine X.m8 ?_ | (refine X.s1 ?_; intro w hw) | (refine X.s2 ?_; intro w hw) | refine X.e1 ?_ | refine X.e2 ?_ | (simp only [X.df]) | (simp (disch := omega) only [wi]))
      have hpe : putE es e = es := by unfold putE; rw [if_pos (hxe ▸ hmem)]
      rw [hpe]
      exact xw_ret (vs := [_]) Try.results29 ⟨rfl, trivial⟩ ⟨_, c, rfl, hw.sub (by (repeat (first | (with_reducible exact Split.nil) | ((with_reducible apply Split.cons); (next => (repeat (first | (with_reducible exact Pick.here) | (with_reducible exact Put.here) | (with_reducible apply Pick.there) | (with_reducible apply Put.there))))))))⟩
    · rw [decide_eq_false hxe]
      repeat (first | refine X.p1 ?_ | refine X.p2 ?_ | refine X.p6 ?_ | refine X.p7 ?_ | refine X.p0 ?_ | refine X.p3 ?_ | refine X.p4 ?_ | refine X.p5 ?_ | refine X.p8 ?_ | refine X.p9 ?_ | refine X.q1 ?_ | refine X.q2 ?_ | refine X.q3 ?_ | refine X.q4 ?_ | refine X.q5 ?_ | refine X.q6 ?_ | refine X.q7 ?_ | refine X.q8 ?_ | refine X.q9 ?_ | refine X.q0 ?_ | refine X.m1 ?_ | refine X.m2 ?_ | refine X.m3 ?_ | refine X.m4 ?_ | refine X.m5 ?_ | refine X.m6 ?_ | refine X.l11 ?_ | refine X.l1 ?_ | refine X.l2 ?_ | refine X.l3 ?_ | refine X.l4 ?_ | refine X.l5 ?_ | refine X.l10 ?_ | refine X.l6 ?_ | refine X.l7 ?_ | refine X.l8 ?_ | refine X.l9 ?_ | refine X.m7 ?_ | refine X.m8 ?_ | (refine X.s1 ?_; intro w hw) | (refine X.s2 ?_; intro w hw) | refine X.e1 ?_ | refine X.e2 ?_ | (simp only [X.df]) | (simp (disch := omega) only [wi]))
      refine X.again (i + 1) ⟨by omega, fun y hy => ?_, hw⟩ (by omega)
      rw [htk] at hy
      rcases List.mem_append.1 hy with h | h
      · exact hne y h
      · rw [List.mem_singleton.1 h]; exact hxe
  obtain rfl : i = es.length := by omega
  rw [List.take_length] at hne
  have hpe : putE es e = es ++ [e] := by unfold putE; rw [if_neg (fun h => hne e h rfl)]
  have heo := esC_one es
  have hrow : Row w A (esC es) := hw.pick (i := rowI A (esC es)) (by (repeat (first | (with_reducible exact Pick.here) | (with_reducible exact Put.here) | (with_reducible apply Pick.there) | (with_reducible apply Put.there))))
  repeat (first | refine X.p1 ?_ | refine X.p2 ?_ | refine X.p6 ?_ | refine X.p7 ?_ | refine X.p0 ?_ | refine X.p3 ?_ | refine X.p4 ?_ | refine X.p5 ?_ | refine X.p8 ?_ | refine X.p9 ?_ | refine X.q1 ?_ | refine X.q2 ?_ | refine X.q3 ?_ | refine X.q4 ?_ | refine X.q5 ?_ | refine X.q6 ?_ | refine X.q7 ?_ | refine X.q8 ?_ | refine X.q9 ?_ | refine X.q0 ?_ | refine X.m1 ?_ | refine X.m2 ?_ | refine X.m3 ?_ | refine X.m4 ?_ | refine X.m5 ?_ | refine X.m6 ?_ | refine X.l11 ?_ | refine X.l1 ?_ | refine X.l2 ?_ | refine X.l3 ?_ | refine X.l4 ?_ | refine X.l5 ?_ | refine X.l10 ?_ | refine X.l6 ?_ | refine X.l7 ?_ | refine X.l8 ?_ | refine X.l9 ?_ | refine X.m7 ?_ | refine X.m8 ?_ | (refine X.s1 ?_; intro w hw) | (refine X.s2 ?_; intro w hw) | refine X.e1 ?_ | refine X.e2 ?_ | (simp only [X.df]) | (simp (disch := omega) only [wi]))
  have bE : Try.prog.builtSlice 45 1 [(0, enV e)] = some (enC e).toArray := builtSlice_one if45.1 rfl rfl (by decide) (by decide)
  refine Y.mix [1, 3] [0, 2, 4, 5, 6] [(3, .o), (2, .n), (4, .f), (5, .n)] [(4, ⟨fun g => .slice (some ⟨g, 0, none⟩) 1 1, fun g => blkI g 45 (enC e)⟩)] (R := [g3]) hw fun w K hw hF => ?_; have hz := hw
  repeat (first | refine Y.r1 ?_ | refine Y.ro2 ?_)
  refine Y.beg (fun a ha => ⟨⟨_, rfl, fr_slice rfl ha rfl Try.underlying40 bE⟩, trivial⟩) ?_
  repeat (first | refine Y.r1 ?_ | refine Y.r2 ?_ | refine Y.r4 ?_ | refine Y.rm1 ?_ | refine Y.rm2 ?_ | refine Y.rm3 ?_ | refine Y.rm4 ?_ | refine Y.rm5 ?_ | refine Y.rl11 ?_ | refine Y.rl1 ?_ | refine Y.rl2 ?_ | refine Y.rl3 ?_ | refine Y.rl5 ?_ | refine Y.rl6 ?_ | refine Y.ro11 ?_ | refine Y.ro1 ?_ | refine Y.ro2 ?_ | refine Y.ro3 ?_ | refine Y.ro5 ?_ | refine Y.ro6 ?_ | refine Y.rm8 ?_ | (refine Y.r3 ?_; intro w hw) | (refine Y.beg0 ?_) | refine Y.re1 ?_ | refine Y.re2 ?_ | (simp only [X.df]) | (simp (disch := omega) only [wi]))
  refine Y.act hw fun w hw0 hw => ?_; refine X.c0 ?_; intro v w kk hw; refine Y.midA hw0 hF hw kk fun K hw hF => ?_
  repeat (first | refine Y.r1 ?_ | refine Y.r2 ?_ | refine Y.r4 ?_ | refine Y.rm1 ?_ | refine Y.rm2 ?_ | refine Y.rm3 ?_ | refine Y.rm4 ?_ | refine Y.rm5 ?_ | refine Y.rl11 ?_ | refine Y.rl1 ?_ | refine Y.rl2 ?_ | refine Y.rl3 ?_ | refine Y.rl5 ?_ | refine Y.rl6 ?_ | refine Y.ro11 ?_ | refine Y.ro1 ?_ | refine Y.ro2 ?_ | refine Y.ro3 ?_ | refine Y.ro5 ?_ | refine Y.ro6 ?_ | refine Y.rm8 ?_ | (refine Y.r3 ?_; intro w hw) | (refine Y.beg0 ?_) | refine Y.re1 ?_ | refine Y.re2 ?_ | (simp only [X.df]) | (simp (disch := omega) only [wi]))
  refine Y.act hw fun w hw0 hw => ?_
  refine st_appendR tab (v := v) (A := A) (k := 0) (m := es.length) (news := esC es) (Mx := fun v' => [vecI v' 45 2 (0 + es.length) ([] ++ esC es), blkI g3 45 (enC e), rowI A (esC es)]) hw rfl rfl rfl rfl (hw.pick (i := rowI A (esC es)) (by (repeat (first | (with_reducible exact Pick.here) | (with_reducible exact Put.here) | (with_reducible apply Pick.there) | (with_reducible apply Put.there))))) (fun v' => .here) rfl if45.1 rfl rfl hel heo (by omega) (fun v w hw => ?_)
  rw [Nat.zero_add, List.nil_append] at hw
  refine Y.midO1 (G := g3) hw0 hF hw fun K hw hF => ?_
  repeat (first | refine Y.r1 ?_ | refine Y.r2 ?_ | refine Y.r4 ?_ | refine Y.rm1 ?_ | refine Y.rm2 ?_ | refine Y.rm3 ?_ | refine Y.rm4 ?_ | refine Y.rm5 ?_ | refine Y.rl11 ?_ | refine Y.rl1 ?_ | refine Y.rl2 ?_ | refine Y.rl3 ?_ | refine Y.rl5 ?_ | refine Y.rl6 ?_ | refine Y.ro11 ?_ | refine Y.ro1 ?_ | refine Y.ro2 ?_ | refine Y.ro3 ?_ | refine Y.ro5 ?_ | refine Y.ro6 ?_ | refine Y.rm8 ?_ | (refine Y.r3 ?_; intro w hw) | (refine Y.beg0 ?_) | refine Y.re1 ?_ | refine Y.re2 ?_ | (simp only [X.df]) | (simp (disch := omega) only [wi]))
  refine Y.new hw hF fun g5 w K hw hF => ?_
  repeat (first | refine Y.r1 ?_ | refine Y.r2 ?_ | refine Y.r4 ?_ | refine Y.rm1 ?_ | refine Y.rm2 ?_ | refine Y.rm3 ?_ | refine Y.rm4 ?_ | refine Y.rm5 ?_ | refine Y.rl11 ?_ | refine Y.rl1 ?_ | refine Y.rl2 ?_ | refine Y.rl3 ?_ | refine Y.rl5 ?_ | refine Y.rl6 ?_ | refine Y.ro11 ?_ | refine Y.ro1 ?_ | refine Y.ro2 ?_ | refine Y.ro3 ?_ | refine Y.ro5 ?_ | refine Y.ro6 ?_ | refine Y.rm8 ?_ | (refine Y.r3 ?_; intro w hw) | (refine Y.beg0 ?_) | refine Y.re1 ?_ | refine Y.re2 ?_ | (simp only [X.df]) | (simp (disch := omega) only [wi]))
  refine Y.act hw fun w hw0 hw => ?_; refine X.a1 ?_; intro u w hw; refine Y.midO1 (G := g3) hw0 hF hw fun K hw hF => ?_
  obtain ⟨A2, c2, hu, hr2⟩ := hw.vecRow (v := u) (by (repeat (first | (with_reducible exact Pick.here) | (with_reducible exact Put.here) | (with_reducible apply Pick.there) | (with_reducible apply Put.there))))
  subst hu
  have hw := hw.frz (A := A2) (by repeat (first | exact Put.here | apply Put.there))
  repeat (first | refine Y.r1 ?_ | refine Y.r2 ?_ | refine Y.r4 ?_ | refine Y.rm1 ?_ | refine Y.rm2 ?_ | refine Y.rm3 ?_ | refine Y.rm4 ?_ | refine Y.rm5 ?_ | refine Y.rl11 ?_ | refine Y.rl1 ?_ | refine Y.rl2 ?_ | refine Y.rl3 ?_ | refine Y.rl5 ?_ | refine Y.rl6 ?_ | refine Y.ro11 ?_ | refine Y.ro1 ?_ | refine Y.ro2 ?_ | refine Y.ro3 ?_ | refine Y.ro5 ?_ | refine Y.ro6 ?_ | refine Y.rm8 ?_ | (refine Y.r3 ?_; intro w hw) | (refine Y.beg0 ?_) | refine Y.re1 ?_ | refine Y.re2 ?_ | (simp only [X.df]) | (simp (disch := omega) only [wi]))
  repeat (first | refine X.p1 ?_ | refine X.p2 ?_ | refine X.p6 ?_ | refine X.p7 ?_ | refine X.p0 ?_ | refine X.p3 ?_ | refine X.p4 ?_ | refine X.p5 ?_ | refine X.p8 ?_ | refine X.p9 ?_ | refine X.q1 ?_ | refine X.q2 ?_ | refine X.q3 ?_ | refine X.q4 ?_ | refine X.q5 ?_ | refine X.q6 ?_ | refine X.q7 ?_ | refine X.q8 ?_ | refine X.q9 ?_ | refine X.q0 ?_ | refine X.m1 ?_ | refine X.m2 ?_ | refine X.m3 ?_ | refine X.m4 ?_ | refine X.m5 ?_ | refine X.m6 ?_ | refine X.l11 ?_ | refine X.l1 ?_ | refine X.l2 ?_ | refine X.l3 ?_ | refine X.l4 ?_ | refine X.l5 ?_ | refine X.l10 ?_ | refine X.l6 ?_ | refine X.l7 ?_ | refine X.l8 ?_ | refine X.l9 ?_ | refine X.m7 ?_ | refine X.m8 ?_ | (refine X.s1 ?_; intro w hw) | (refine X.s2 ?_; intro w hw) | refine X.e1 ?_ | refine X.e2 ?_ | (simp only [X.df]) | (simp (disch := omega) only [wi]))
  rw [hpe, List.length_append, List.length_singleton, esC_app]
  exact xw_ret (vs := [_]) Try.results29 ⟨rfl, trivial⟩ ⟨A2, c2, rfl, hw.sub (by (repeat (first | (with_reducible exact Split.nil) | ((with_reducible apply Split.cons); (next => (repeat (first | (with_reducible exact Pick.here) | (with_reducible exact Put.here) | (with_reducible apply Pick.there) | (with_reducible apply Put.there))))))))⟩
/-! The first collision. -/
def smsC (es : List En) : List Value := es.flatMap fun e => cb (dgE e)
theorem dgC_len (e : En) : (cb (dgE e)).length = 32 := by rw [List.length_map]; exact Dig.dg_len e.1 e.2
theorem dgE_len' (e : En) : (dgE e).length = 32 := Dig.dg_len e.1 e.2
theorem smsC_len (es : List En) : (smsC es).length = es.length * 32 := flat_len es (fun e _ => dgC_len e)
theorem smsC_get (es : List En) (i : Nat) (hi : i < es.length) : ((smsC es).drop ((i : Int).toNat * 32)).take 32 = cb (dgE es[i]) := by
  rw [Int.toNat_natCast]; exact piece_get (sz := 32) (cells := fun e => cb (dgE e)) es (fun e _ => dgC_len e) i hi
theorem smsC_app (es : List En) (e : En) : smsC (es ++ [e]) = smsC es ++ cb (dgE e) := by simp [smsC]
theorem esC_field (es : List En) (i f : Nat) (hi : i < es.length) (hf : f < 2) (v : Value) (hv : (enC es[i])[f]? = some v) : (esC es)[(i : Int).toNat * 2 + f]? = some v := by
  have h := esC_get es i hi
  rw [← hv, ← h, List.getElem?_take, if_pos hf, List.getElem?_drop]
theorem fst_none {es : List En} {s : List Byte} (h : ∀ i (hi : i < es.length), dgE es[i] ≠ s) : fst es s = none := by
  unfold fst
  rw [List.findIdx?_eq_none_iff]
  intro x hx
  obtain ⟨i, hi, rfl⟩ := List.getElem_of_mem hx
  exact decide_eq_false (h i hi)
theorem fst_some {es : List En} {s : List Byte} {i : Nat} (hi : i < es.length) (he : dgE es[i] = s) (h : ∀ j (hj : j < i), dgE (es[j]'(by omega)) ≠ s) : fst es s = some i := by
  unfold fst
  rw [List.findIdx?_eq_some_iff_getElem]
  exact ⟨hi, decide_eq_true he, fun j hj => by simpa using h j hj⟩
theorem refCol_calls (A : Option Addr) (es : List En) (c : Nat) (hoe : ∀ x ∈ es, OkE x) (hn : es.length * 40 ≤ 140737488355328) (w0 : World) (h : Pre [rowI A (esC es)] w0) :
    Does Try.prog 86 [.slice A es.length c] w0 fun v w' => v = .tuple #[i64v (colOf es).1, i64v (colOf es).2.1, .bool (colOf es).2.2] ∧ Kp No w0 w' := by
  obtain ⟨M0, hro, hw⟩ : ∃ M0, (∀ i ∈ M0, i.own = false) ∧ St w0 M0 [rowI A (esC es)] w0 := ⟨_, ro_cons rfl ro_nil, St.start h⟩
  have hB := Nd.eqB32 Try.underlying23 Try.underlying5 (tab.sz_ok _ _ rfl) (tab.sz_ok _ _ rfl)
  have hel := esC_len es
  refine fn_enter Try.func86 rfl Try.ntmps86 rfl ?_
  repeat (first | refine X.p1 ?_ | refine X.p2 ?_ | refine X.p6 ?_ | refine X.p7 ?_ | refine X.p0 ?_ | refine X.p3 ?_ | refine X.p4 ?_ | refine X.p5 ?_ | refine X.p8 ?_ | refine X.p9 ?_ | refine X.q1 ?_ | refine X.q2 ?_ | refine X.q3 ?_ | refine X.q4 ?_ | refine X.q5 ?_ | refine X.q6 ?_ | refine X.q7 ?_ | refine X.q8 ?_ | refine X.q9 ?_ | refine X.q0 ?_ | refine X.m1 ?_ | refine X.m2 ?_ | refine X.m3 ?_ | refine X.m4 ?_ | refine X.m5 ?_ | refine X.m6 ?_ | refine X.l11 ?_ | refine X.l1 ?_ | refine X.l2 ?_ | refine X.l3 ?_ | refine X.l4 ?_ | refine X.l5 ?_ | refine X.l10 ?_ | refine X.l6 ?_ | refine X.l7 ?_ | refine X.l8 ?_ | refine X.l9 ?_ | refine X.m7 ?_ | refine X.m8 ?_ | (refine X.s1 ?_; intro w hw) | (refine X.s2 ?_; intro w hw) | refine X.e1 ?_ | refine X.e2 ?_ | (simp only [X.df]) | (simp (disch := omega) only [wi]))
  refine X.c0 ?_; intro v w _ hw
  repeat (first | refine X.p1 ?_ | refine X.p2 ?_ | refine X.p6 ?_ | refine X.p7 ?_ | refine X.p0 ?_ | refine X.p3 ?_ | refine X.p4 ?_ | refine X.p5 ?_ | refine X.p8 ?_ | refine X.p9 ?_ | refine X.q1 ?_ | refine X.q2 ?_ | refine X.q3 ?_ | refine X.q4 ?_ | refine X.q5 ?_ | refine X.q6 ?_ | refine X.q7 ?_ | refine X.q8 ?_ | refine X.q9 ?_ | refine X.q0 ?_ | refine X.m1 ?_ | refine X.m2 ?_ | refine X.m3 ?_ | refine X.m4 ?_ | refine X.m5 ?_ | refine X.m6 ?_ | refine X.l11 ?_ | refine X.l1 ?_ | refine X.l2 ?_ | refine X.l3 ?_ | refine X.l4 ?_ | refine X.l5 ?_ | refine X.l10 ?_ | refine X.l6 ?_ | refine X.l7 ?_ | refine X.l8 ?_ | refine X.l9 ?_ | refine X.m7 ?_ | refine X.m8 ?_ | (refine X.s1 ?_; intro w hw) | (refine X.s2 ?_; intro w hw) | refine X.e1 ?_ | refine X.e2 ?_ | (simp only [X.df]) | (simp (disch := omega) only [wi]))
  refine X.loop (fun p : Nat × Value => [(0, .slice A es.length c), (2, i64v 0), (3, i64v 0), (4, .bool false), (5, p.2), (6, .int .i64 (p.1 : Int))])
    (fun p w' => p.1 ≤ es.length ∧ (colOf (es.take p.1)).2.2 = false ∧ St w0 M0 [vecI p.2 23 32 (es.take p.1).length (smsC (es.take p.1)), rowI A (esC es)] w') (fun p => es.length - p.1) (0, v) ⟨Nat.zero_le _, rfl, hw⟩ ?_
  rintro ⟨k, v⟩ w ⟨hk, hno, hw⟩
  simp only at hk hno hw
  have hlk : (es.take k).length = k := by rw [List.length_take]; omega
  rw [hlk] at hw
  repeat (first | refine X.p1 ?_ | refine X.p2 ?_ | refine X.p6 ?_ | refine X.p7 ?_ | refine X.p0 ?_ | refine X.p3 ?_ | refine X.p4 ?_ | refine X.p5 ?_ | refine X.p8 ?_ | refine X.p9 ?_ | refine X.q1 ?_ | refine X.q2 ?_ | refine X.q3 ?_ | refine X.q4 ?_ | refine X.q5 ?_ | refine X.q6 ?_ | refine X.q7 ?_ | refine X.q8 ?_ | refine X.q9 ?_ | refine X.q0 ?_ | refine X.m1 ?_ | refine X.m2 ?_ | refine X.m3 ?_ | refine X.m4 ?_ | refine X.m5 ?_ | refine X.m6 ?_ | refine X.l11 ?_ | refine X.l1 ?_ | refine X.l2 ?_ | refine X.l3 ?_ | refine X.l4 ?_ | refine X.l5 ?_ | refine X.l10 ?_ | refine X.l6 ?_ | refine X.l7 ?_ | refine X.l8 ?_ | refine X.l9 ?_ | refine X.m7 ?_ | refine X.m8 ?_ | (refine X.s1 ?_; intro w hw) | (refine X.s2 ?_; intro w hw) | refine X.e1 ?_ | refine X.e2 ?_ | (simp only [X.df]) | (simp (disch := omega) only [wi]))
  refine X.cond (fun hlt => ?_) (fun hge => ?_)
  · have hlt : k < es.length := by omega
    have q0 := esC_field es k 0 hlt (by decide) _ rfl
    have q1 := esC_field es k 1 hlt (by decide) _ rfl
    obtain ⟨g, o, rfl, hat⟩ := hw.rowSome (A := A) (cs := esC es) (by (repeat (first | (with_reducible exact Pick.here) | (with_reducible exact Put.here) | (with_reducible apply Pick.there) | (with_reducible apply Put.there)))) (fun h => by rw [h] at hel; simp at hel; omega)
    have htk : es.take (k + 1) = es.take k ++ [es[k]] := by rw [List.take_add_one, List.getElem?_eq_getElem hlt]; rfl
    have hok := hoe _ (List.getElem_mem hlt)
    generalize hx : es[k] = x at q0 q1 htk hok
    have hdl := dgC_len x
    have hdo := oneCells_cb (dgE x)
    have hsl := smsC_len (es.take k)
    rw [hlk] at hsl
    unfold OkE at hok
    repeat (first | refine X.p1 ?_ | refine X.p2 ?_ | refine X.p6 ?_ | refine X.p7 ?_ | refine X.p0 ?_ | refine X.p3 ?_ | refine X.p4 ?_ | refine X.p5 ?_ | refine X.p8 ?_ | refine X.p9 ?_ | refine X.q1 ?_ | refine X.q2 ?_ | refine X.q3 ?_ | refine X.q4 ?_ | refine X.q5 ?_ | refine X.q6 ?_ | refine X.q7 ?_ | refine X.q8 ?_ | refine X.q9 ?_ | refine X.q0 ?_ | refine X.m1 ?_ | refine X.m2 ?_ | refine X.m3 ?_ | refine X.m4 ?_ | refine X.m5 ?_ | refine X.m6 ?_ | refine X.l11 ?_ | refine X.l1 ?_ | refine X.l2 ?_ | refine X.l3 ?_ | refine X.l4 ?_ | refine X.l5 ?_ | refine X.l10 ?_ | refine X.l6 ?_ | refine X.l7 ?_ | refine X.l8 ?_ | refine X.l9 ?_ | refine X.m7 ?_ | refine X.m8 ?_ | (refine X.s1 ?_; intro w hw) | (refine X.s2 ?_; intro w hw) | refine X.e1 ?_ | refine X.e2 ?_ | (simp only [X.df]) | (simp (disch := omega) only [wi]))
    refine Y.mix [0, 1, 2, 3, 4, 5, 6, 7, 8, 9, 10] [11, 12, 13, 14] [(5, .r), (10, .r)] [] (R := []) hw fun w K hw hF => ?_; have hz := hw
    repeat (first | refine Y.r1 ?_ | refine Y.r2 ?_ | refine Y.r4 ?_ | refine Y.rm1 ?_ | refine Y.rm2 ?_ | refine Y.rm3 ?_ | refine Y.rm4 ?_ | refine Y.rm5 ?_ | refine Y.rl11 ?_ | refine Y.rl1 ?_ | refine Y.rl2 ?_ | refine Y.rl3 ?_ | refine Y.rl5 ?_ | refine Y.rl6 ?_ | refine Y.ro11 ?_ | refine Y.ro1 ?_ | refine Y.ro2 ?_ | refine Y.ro3 ?_ | refine Y.ro5 ?_ | refine Y.ro6 ?_ | refine Y.rm8 ?_ | (refine Y.r3 ?_; intro w hw) | (refine Y.beg0 ?_) | refine Y.re1 ?_ | refine Y.re2 ?_ | (simp only [X.df]) | (simp (disch := omega) only [wi]))
    refine Y.nw_read rfl rfl rfl rfl rfl (fun w2 k2 => st_loadR1 tab (j := (k : Int).toNat * 2 + 0) (hw.no k2) rfl (by (repeat (first | (with_reducible exact Pick.here) | (with_reducible exact Put.here) | (with_reducible apply Pick.there) | (with_reducible apply Put.there)))) rfl rfl rfl q0 fin) (fun _ => ⟨_, rfl⟩) ?_
    repeat (first | refine Y.r1 ?_ | refine Y.r2 ?_ | refine Y.r4 ?_ | refine Y.rm1 ?_ | refine Y.rm2 ?_ | refine Y.rm3 ?_ | refine Y.rm4 ?_ | refine Y.rm5 ?_ | refine Y.rl11 ?_ | refine Y.rl1 ?_ | refine Y.rl2 ?_ | refine Y.rl3 ?_ | refine Y.rl5 ?_ | refine Y.rl6 ?_ | refine Y.ro11 ?_ | refine Y.ro1 ?_ | refine Y.ro2 ?_ | refine Y.ro3 ?_ | refine Y.ro5 ?_ | refine Y.ro6 ?_ | refine Y.rm8 ?_ | (refine Y.r3 ?_; intro w hw) | (refine Y.beg0 ?_) | refine Y.re1 ?_ | refine Y.re2 ?_ | (simp only [X.df]) | (simp (disch := omega) only [wi]))
    refine Y.nw_read rfl rfl rfl rfl rfl (fun w2 k2 => st_loadR1 tab (j := (k : Int).toNat * 2 + 1) (hw.no k2) rfl (by (repeat (first | (with_reducible exact Pick.here) | (with_reducible exact Put.here) | (with_reducible apply Pick.there) | (with_reducible apply Put.there)))) rfl rfl rfl q1 fin) (fun _ => ⟨_, rfl⟩) ?_
    repeat (first | refine Y.r1 ?_ | refine Y.r2 ?_ | refine Y.r4 ?_ | refine Y.rm1 ?_ | refine Y.rm2 ?_ | refine Y.rm3 ?_ | refine Y.rm4 ?_ | refine Y.rm5 ?_ | refine Y.rl11 ?_ | refine Y.rl1 ?_ | refine Y.rl2 ?_ | refine Y.rl3 ?_ | refine Y.rl5 ?_ | refine Y.rl6 ?_ | refine Y.ro11 ?_ | refine Y.ro1 ?_ | refine Y.ro2 ?_ | refine Y.ro3 ?_ | refine Y.ro5 ?_ | refine Y.ro6 ?_ | refine Y.rm8 ?_ | (refine Y.r3 ?_; intro w hw) | (refine Y.beg0 ?_) | refine Y.re1 ?_ | refine Y.re2 ?_ | (simp only [X.df]) | (simp (disch := omega) only [wi]))
    refine Y.act hw fun w hw0 hw => ?_
    refine X.callN rfl rfl Try.func17 (Dig.refOf_calls' x.1 x.2 hok w) fun w kk hw => ?_
    refine Y.midA hw0 hF hw kk fun K hw hF => ?_
    change Y.Nw _ _ _ _ _ _ _ _ _ ((_, smV (dgE x)) :: _) _
    repeat (first | refine Y.r1 ?_ | refine Y.r2 ?_ | refine Y.r4 ?_ | refine Y.rm1 ?_ | refine Y.rm2 ?_ | refine Y.rm3 ?_ | refine Y.rm4 ?_ | refine Y.rm5 ?_ | refine Y.rl11 ?_ | refine Y.rl1 ?_ | refine Y.rl2 ?_ | refine Y.rl3 ?_ | refine Y.rl5 ?_ | refine Y.rl6 ?_ | refine Y.ro11 ?_ | refine Y.ro1 ?_ | refine Y.ro2 ?_ | refine Y.ro3 ?_ | refine Y.ro5 ?_ | refine Y.ro6 ?_ | refine Y.rm8 ?_ | (refine Y.r3 ?_; intro w hw) | (refine Y.beg0 ?_) | refine Y.re1 ?_ | refine Y.re2 ?_ | (simp only [X.df]) | (simp (disch := omega) only [wi]))
    refine Y.act hw fun w hw0 hw => ?_; refine X.c1 ?_; intro g5 w kk hw; refine Y.midA hw0 hF hw kk fun K hw hF => ?_
    repeat (first | refine Y.r1 ?_ | refine Y.r2 ?_ | refine Y.r4 ?_ | refine Y.rm1 ?_ | refine Y.rm2 ?_ | refine Y.rm3 ?_ | refine Y.rm4 ?_ | refine Y.rm5 ?_ | refine Y.rl11 ?_ | refine Y.rl1 ?_ | refine Y.rl2 ?_ | refine Y.rl3 ?_ | refine Y.rl5 ?_ | refine Y.rl6 ?_ | refine Y.ro11 ?_ | refine Y.ro1 ?_ | refine Y.ro2 ?_ | refine Y.ro3 ?_ | refine Y.ro5 ?_ | refine Y.ro6 ?_ | refine Y.rm8 ?_ | (refine Y.r3 ?_; intro w hw) | (refine Y.beg0 ?_) | refine Y.re1 ?_ | refine Y.re2 ?_ | (simp only [X.df]) | (simp (disch := omega) only [wi]))
    refine Y.act hw fun w hw0 hw => ?_; (first | refine X.a1 ?_ | refine X.a3 ?_ | refine X.a2 ?_); intro u w hw; refine Y.midS hw0 hF hw fun K hw hF => ?_
    obtain ⟨B, d, hu, hr2⟩ := hw.vecRow (v := u) (by (repeat (first | (with_reducible exact Pick.here) | (with_reducible exact Put.here) | (with_reducible apply Pick.there) | (with_reducible apply Put.there))))
    subst hu
    have hl1 : (es.take (k + 1)).length = k + 1 := by rw [List.length_take]; omega
    rw [show smsC (es.take k) ++ cb (dgE x) = smsC (es.take (k + 1)) from by rw [htk, smsC_app]] at hw hr2
    repeat (first | refine Y.r1 ?_ | refine Y.r2 ?_ | refine Y.r4 ?_ | refine Y.rm1 ?_ | refine Y.rm2 ?_ | refine Y.rm3 ?_ | refine Y.rm4 ?_ | refine Y.rm5 ?_ | refine Y.rl11 ?_ | refine Y.rl1 ?_ | refine Y.rl2 ?_ | refine Y.rl3 ?_ | refine Y.rl5 ?_ | refine Y.rl6 ?_ | refine Y.ro11 ?_ | refine Y.ro1 ?_ | refine Y.ro2 ?_ | refine Y.ro3 ?_ | refine Y.ro5 ?_ | refine Y.ro6 ?_ | refine Y.rm8 ?_ | (refine Y.r3 ?_; intro w hw) | (refine Y.beg0 ?_) | refine Y.re1 ?_ | refine Y.re2 ?_ | (simp only [X.df]) | (simp (disch := omega) only [wi]))
    repeat (first | refine X.p1 ?_ | refine X.p2 ?_ | refine X.p6 ?_ | refine X.p7 ?_ | refine X.p0 ?_ | refine X.p3 ?_ | refine X.p4 ?_ | refine X.p5 ?_ | refine X.p8 ?_ | refine X.p9 ?_ | refine X.q1 ?_ | refine X.q2 ?_ | refine X.q3 ?_ | refine X.q4 ?_ | refine X.q5 ?_ | refine X.q6 ?_ | refine X.q7 ?_ | refine X.q8 ?_ | refine X.q9 ?_ | refine X.q0 ?_ | refine X.m1 ?_ | refine X.m2 ?_ | refine X.m3 ?_ | refine X.m4 ?_ | refine X.m5 ?_ | refine X.m6 ?_ | refine X.l11 ?_ | refine X.l1 ?_ | refine X.l2 ?_ | refine X.l3 ?_ | refine X.l4 ?_ | refine X.l5 ?_ | refine X.l10 ?_ | refine X.l6 ?_ | refine X.l7 ?_ | refine X.l8 ?_ | refine X.l9 ?_ | refine X.m7 ?_ | refine X.m8 ?_ | (refine X.s1 ?_; intro w hw) | (refine X.s2 ?_; intro w hw) | refine X.e1 ?_ | refine X.e2 ?_ | (simp only [X.df]) | (simp (disch := omega) only [wi]))
    have hw : St w0 M0 [vecI (.slice B (k + 1) d) 23 32 (k + 1) (smsC (es.take (k + 1))), rowI (some ⟨g, o, none⟩) (esC es)] w := hw.sub (by (repeat (first | (with_reducible exact Split.nil) | ((with_reducible apply Split.cons); (next => (repeat (first | (with_reducible exact Pick.here) | (with_reducible exact Put.here) | (with_reducible apply Pick.there) | (with_reducible apply Put.there))))))))
    have hl2 := smsC_len (es.take (k + 1))
    rw [hl1] at hl2
    have hgk : ((smsC (es.take (k + 1))).drop ((k : Int).toNat * 32)).take 32 = cb (dgE x) := by
      rw [smsC_get (es.take (k + 1)) k (by omega), List.getElem_take, hx]
    refine X.loop (fun j : Nat => [(0, .slice (some ⟨g, o, none⟩) es.length c), (2, i64v 0), (3, i64v 0), (4, .bool false), (5, .slice B (k + 1) d), (6, .int .i64 (k : Int)), (7, .int .i64 (j : Int))])
      (fun j w' => j ≤ k ∧ (∀ t (ht : t < es.length), t < j → dgE es[t] ≠ dgE x) ∧ St w0 M0 [vecI (.slice B (k + 1) d) 23 32 (k + 1) (smsC (es.take (k + 1))), rowI (some ⟨g, o, none⟩) (esC es)] w') (fun j => k - j) 0 ⟨Nat.zero_le _, (fun t ht h0 => by omega), hw⟩ ?_
    rintro j w ⟨hj, hne, hw⟩
    repeat (first | refine X.p1 ?_ | refine X.p2 ?_ | refine X.p6 ?_ | refine X.p7 ?_ | refine X.p0 ?_ | refine X.p3 ?_ | refine X.p4 ?_ | refine X.p5 ?_ | refine X.p8 ?_ | refine X.p9 ?_ | refine X.q1 ?_ | refine X.q2 ?_ | refine X.q3 ?_ | refine X.q4 ?_ | refine X.q5 ?_ | refine X.q6 ?_ | refine X.q7 ?_ | refine X.q8 ?_ | refine X.q9 ?_ | refine X.q0 ?_ | refine X.m1 ?_ | refine X.m2 ?_ | refine X.m3 ?_ | refine X.m4 ?_ | refine X.m5 ?_ | refine X.m6 ?_ | refine X.l11 ?_ | refine X.l1 ?_ | refine X.l2 ?_ | refine X.l3 ?_ | refine X.l4 ?_ | refine X.l5 ?_ | refine X.l10 ?_ | refine X.l6 ?_ | refine X.l7 ?_ | refine X.l8 ?_ | refine X.l9 ?_ | refine X.m7 ?_ | refine X.m8 ?_ | (refine X.s1 ?_; intro w hw) | (refine X.s2 ?_; intro w hw) | refine X.e1 ?_ | refine X.e2 ?_ | (simp only [X.df]) | (simp (disch := omega) only [wi]))
    refine X.cond (fun hlt2 => ?_) (fun hge2 => ?_)
    · have hlt2 : j < k := by omega
      have hje : j < es.length := by omega
      have hgj : ((smsC (es.take (k + 1))).drop ((j : Int).toNat * 32)).take 32 = cb (dgE es[j]) := by
        rw [smsC_get (es.take (k + 1)) j (by omega), List.getElem_take]
      have hyl := dgC_len es[j]
      have hyd := dgE_len' es[j]
      have hxd := dgE_len' x
      obtain ⟨B', d', hB', hr⟩ := hw.vecRow (v := .slice B (k + 1) d) (by (repeat (first | (with_reducible exact Pick.here) | (with_reducible exact Put.here) | (with_reducible apply Pick.there) | (with_reducible apply Put.there))))
      injection hB' with hB1 hB2 hB3
      subst hB1
      obtain ⟨g9, o9, hB9, hat9⟩ := Row.some hr (fun h => by rw [h] at hl2; simp at hl2)
      subst hB9
      repeat (first | refine X.p1 ?_ | refine X.p2 ?_ | refine X.p6 ?_ | refine X.p7 ?_ | refine X.p0 ?_ | refine X.p3 ?_ | refine X.p4 ?_ | refine X.p5 ?_ | refine X.p8 ?_ | refine X.p9 ?_ | refine X.q1 ?_ | refine X.q2 ?_ | refine X.q3 ?_ | refine X.q4 ?_ | refine X.q5 ?_ | refine X.q6 ?_ | refine X.q7 ?_ | refine X.q8 ?_ | refine X.q9 ?_ | refine X.q0 ?_ | refine X.m1 ?_ | refine X.m2 ?_ | refine X.m3 ?_ | refine X.m4 ?_ | refine X.m5 ?_ | refine X.m6 ?_ | refine X.l11 ?_ | refine X.l1 ?_ | refine X.l2 ?_ | refine X.l3 ?_ | refine X.l4 ?_ | refine X.l5 ?_ | refine X.l10 ?_ | refine X.l6 ?_ | refine X.l7 ?_ | refine X.l8 ?_ | refine X.l9 ?_ | refine X.m7 ?_ | refine X.m8 ?_ | (refine X.s1 ?_; intro w hw) | (refine X.s2 ?_; intro w hw) | refine X.e1 ?_ | refine X.e2 ?_ | (simp only [X.df]) | (simp (disch := omega) only [wi]))
      refine Y.mix [0, 1, 2, 3, 4, 5, 6, 7, 8] [] [(3, .r), (7, .r)] [] (R := []) hw fun w K hw hF => ?_; have hz := hw
      clear hr hat9
      obtain ⟨B', d', hB', hr⟩ := hw.vecRow (v := .slice (some ⟨g9, o9, none⟩) (k + 1) d) (by (repeat (first | (with_reducible exact Pick.here) | (with_reducible exact Put.here) | (with_reducible apply Pick.there) | (with_reducible apply Put.there))))
      injection hB' with hB1 hB2 hB3
      subst hB1
      repeat (first | refine Y.r1 ?_ | refine Y.r2 ?_ | refine Y.r4 ?_ | refine Y.rm1 ?_ | refine Y.rm2 ?_ | refine Y.rm3 ?_ | refine Y.rm4 ?_ | refine Y.rm5 ?_ | refine Y.rl11 ?_ | refine Y.rl1 ?_ | refine Y.rl2 ?_ | refine Y.rl3 ?_ | refine Y.rl5 ?_ | refine Y.rl6 ?_ | refine Y.ro11 ?_ | refine Y.ro1 ?_ | refine Y.ro2 ?_ | refine Y.ro3 ?_ | refine Y.ro5 ?_ | refine Y.ro6 ?_ | refine Y.rm8 ?_ | (refine Y.r3 ?_; intro w hw) | (refine Y.beg0 ?_) | refine Y.re1 ?_ | refine Y.re2 ?_ | (simp only [X.df]) | (simp (disch := omega) only [wi]))
      refine Y.nw_read rfl rfl rfl rfl rfl (fun w2 k2 => ow_loadAt tab (row_at (j := (j : Int).toNat * 32) (k := 32) (hr.no k2) hgj) rfl rfl rfl rfl rfl hyl fin) (fun _ => ⟨_, rfl⟩) ?_
      repeat (first | refine Y.r1 ?_ | refine Y.r2 ?_ | refine Y.r4 ?_ | refine Y.rm1 ?_ | refine Y.rm2 ?_ | refine Y.rm3 ?_ | refine Y.rm4 ?_ | refine Y.rm5 ?_ | refine Y.rl11 ?_ | refine Y.rl1 ?_ | refine Y.rl2 ?_ | refine Y.rl3 ?_ | refine Y.rl5 ?_ | refine Y.rl6 ?_ | refine Y.ro11 ?_ | refine Y.ro1 ?_ | refine Y.ro2 ?_ | refine Y.ro3 ?_ | refine Y.ro5 ?_ | refine Y.ro6 ?_ | refine Y.rm8 ?_ | (refine Y.r3 ?_; intro w hw) | (refine Y.beg0 ?_) | refine Y.re1 ?_ | refine Y.re2 ?_ | (simp only [X.df]) | (simp (disch := omega) only [wi]))
      refine Y.nw_read rfl rfl rfl rfl rfl (fun w2 k2 => ow_loadAt tab (row_at (j := (k : Int).toNat * 32) (k := 32) (hr.no k2) hgk) rfl rfl rfl rfl rfl hdl fin) (fun _ => ⟨_, rfl⟩) ?_
      repeat (first | refine Y.r1 ?_ | refine Y.r2 ?_ | refine Y.r4 ?_ | refine Y.rm1 ?_ | refine Y.rm2 ?_ | refine Y.rm3 ?_ | refine Y.rm4 ?_ | refine Y.rm5 ?_ | refine Y.rl11 ?_ | refine Y.rl1 ?_ | refine Y.rl2 ?_ | refine Y.rl3 ?_ | refine Y.rl5 ?_ | refine Y.rl6 ?_ | refine Y.ro11 ?_ | refine Y.ro1 ?_ | refine Y.ro2 ?_ | refine Y.ro3 ?_ | refine Y.ro5 ?_ | refine Y.ro6 ?_ | refine Y.rm8 ?_ | (refine Y.r3 ?_; intro w hw) | (refine Y.beg0 ?_) | refine Y.re1 ?_ | refine Y.re2 ?_ | (simp only [X.df]) | (simp (disch := omega) only [wi]))
      refine yeqA hB (a := dgE es[j]) (c := dgE x) rfl rfl (by kernel_rfl) ⟨hyd, fun _ _ => trivial⟩ ⟨hxd, fun _ _ => trivial⟩ ?_
      repeat (first | refine Y.r1 ?_ | refine Y.r2 ?_ | refine Y.r4 ?_ | refine Y.rm1 ?_ | refine Y.rm2 ?_ | refine Y.rm3 ?_ | refine Y.rm4 ?_ | refine Y.rm5 ?_ | refine Y.rl11 ?_ | refine Y.rl1 ?_ | refine Y.rl2 ?_ | refine Y.rl3 ?_ | refine Y.rl5 ?_ | refine Y.rl6 ?_ | refine Y.ro11 ?_ | refine Y.ro1 ?_ | refine Y.ro2 ?_ | refine Y.ro3 ?_ | refine Y.ro5 ?_ | refine Y.ro6 ?_ | refine Y.rm8 ?_ | (refine Y.r3 ?_; intro w hw) | (refine Y.beg0 ?_) | refine Y.re1 ?_ | refine Y.re2 ?_ | (simp only [X.df]) | (simp (disch := omega) only [wi]))
      repeat (first | refine X.p1 ?_ | refine X.p2 ?_ | refine X.p6 ?_ | refine X.p7 ?_ | refine X.p0 ?_ | refine X.p3 ?_ | refine X.p4 ?_ | refine X.p5 ?_ | refine X.p8 ?_ | refine X.p9 ?_ | refine X.q1 ?_ | refine X.q2 ?_ | refine X.q3 ?_ | refine X.q4 ?_ | refine X.q5 ?_ | refine X.q6 ?_ | refine X.q7 ?_ | refine X.q8 ?_ | refine X.q9 ?_ | refine X.q0 ?_ | refine X.m1 ?_ | refine X.m2 ?_ | refine X.m3 ?_ | refine X.m4 ?_ | refine X.m5 ?_ | refine X.m6 ?_ | refine X.l11 ?_ | refine X.l1 ?_ | refine X.l2 ?_ | refine X.l3 ?_ | refine X.l4 ?_ | refine X.l5 ?_ | refine X.l10 ?_ | refine X.l6 ?_ | refine X.l7 ?_ | refine X.l8 ?_ | refine X.l9 ?_ | refine X.m7 ?_ | refine X.m8 ?_ | (refine X.s1 ?_; intro w hw) | (refine X.s2 ?_; intro w hw) | refine X.e1 ?_ | refine X.e2 ?_ | (simp only [X.df]) | (simp (disch := omega) only [wi]))
      by_cases he : dgE es[j] = dgE x
      · rw [decide_eq_true he]
        repeat (first | refine X.p1 ?_ | refine X.p2 ?_ | refine X.p6 ?_ | refine X.p7 ?_ | refine X.p0 ?_ | refine X.p3 ?_ | refine X.p4 ?_ | refine X.p5 ?_ | refine X.p8 ?_ | refine X.p9 ?_ | refine X.q1 ?_ | refine X.q2 ?_ | refine X.q3 ?_ | refine X.q4 ?_ | refine X.q5 ?_ | refine X.q6 ?_ | refine X.q7 ?_ | refine X.q8 ?_ | refine X.q9 ?_ | refine X.q0 ?_ | refine X.m1 ?_ | refine X.m2 ?_ | refine X.m3 ?_ | refine X.m4 ?_ | refine X.m5 ?_ | refine X.m6 ?_ | refine X.l11 ?_ | refine X.l1 ?_ | refine X.l2 ?_ | refine X.l3 ?_ | refine X.l4 ?_ | refine X.l5 ?_ | refine X.l10 ?_ | refine X.l6 ?_ | refine X.l7 ?_ | refine X.l8 ?_ | refine X.l9 ?_ | refine X.m7 ?_ | refine X.m8 ?_ | (refine X.s1 ?_; intro w hw) | (refine X.s2 ?_; intro w hw) | refine X.e1 ?_ | refine X.e2 ?_ | (simp only [X.df]) | (simp (disch := omega) only [wi]))
        have hcol : colOf es = (j, k, true) := by
          have h1 : fst (es.take k) (dgE x) = some j := fst_some (by omega) (by rw [List.getElem_take]; exact he) (fun t ht => by rw [List.getElem_take]; exact hne t (by omega) ht)
          have h2 : colOf (es.take (k + 1)) = (j, k, true) := by rw [htk, colOf_snoc, hno, if_neg (by decide), h1, hlk]
          have h3 := colOf_app (es.take (k + 1)) (by rw [h2]) (es.drop (k + 1))
          rw [List.take_append_drop, h2] at h3
          exact h3
        rw [hcol]
        exact xw_ret (vs := [_, _, _]) Try.results86 ⟨rfl, rfl, rfl, trivial⟩ ⟨rfl, hw.kpNo hro⟩
      · rw [decide_eq_false he]
        repeat (first | refine X.p1 ?_ | refine X.p2 ?_ | refine X.p6 ?_ | refine X.p7 ?_ | refine X.p0 ?_ | refine X.p3 ?_ | refine X.p4 ?_ | refine X.p5 ?_ | refine X.p8 ?_ | refine X.p9 ?_ | refine X.q1 ?_ | refine X.q2 ?_ | refine X.q3 ?_ | refine X.q4 ?_ | refine X.q5 ?_ | refine X.q6 ?_ | refine X.q7 ?_ | refine X.q8 ?_ | refine X.q9 ?_ | refine X.q0 ?_ | refine X.m1 ?_ | refine X.m2 ?_ | refine X.m3 ?_ | refine X.m4 ?_ | refine X.m5 ?_ | refine X.m6 ?_ | refine X.l11 ?_ | refine X.l1 ?_ | refine X.l2 ?_ | refine X.l3 ?_ | refine X.l4 ?_ | refine X.l5 ?_ | refine X.l10 ?_ | refine X.l6 ?_ | refine X.l7 ?_ | refine X.l8 ?_ | refine X.l9 ?_ | refine X.m7 ?_ | refine X.m8 ?_ | (refine X.s1 ?_; intro w hw) | (refine X.s2 ?_; intro w hw) | refine X.e1 ?_ | refine X.e2 ?_ | (simp only [X.df]) | (simp (disch := omega) only [wi]))
        refine X.again (j + 1) ⟨by omega, fun t ht h1 => ?_, hw⟩ (by omega)
        rcases Nat.lt_or_ge t j with h2 | h2
        · exact hne t ht h2
        · obtain rfl : t = j := by omega
          exact he
    obtain rfl : j = k := by omega
    have hno2 : (colOf (es.take (j + 1))).2.2 = false := by
      have h1 : fst (es.take j) (dgE x) = none := fst_none fun i hi => by rw [List.getElem_take]; exact hne i (by omega) (by omega)
      rw [htk, colOf_snoc, hno, if_neg (by decide), h1]
    repeat (first | refine X.p1 ?_ | refine X.p2 ?_ | refine X.p6 ?_ | refine X.p7 ?_ | refine X.p0 ?_ | refine X.p3 ?_ | refine X.p4 ?_ | refine X.p5 ?_ | refine X.p8 ?_ | refine X.p9 ?_ | refine X.q1 ?_ | refine X.q2 ?_ | refine X.q3 ?_ | refine X.q4 ?_ | refine X.q5 ?_ | refine X.q6 ?_ | refine X.q7 ?_ | refine X.q8 ?_ | refine X.q9 ?_ | refine X.q0 ?_ | refine X.m1 ?_ | refine X.m2 ?_ | refine X.m3 ?_ | refine X.m4 ?_ | refine X.m5 ?_ | refine X.m6 ?_ | refine X.l11 ?_ | refine X.l1 ?_ | refine X.l2 ?_ | refine X.l3 ?_ | refine X.l4 ?_ | refine X.l5 ?_ | refine X.l10 ?_ | refine X.l6 ?_ | refine X.l7 ?_ | refine X.l8 ?_ | refine X.l9 ?_ | refine X.m7 ?_ | refine X.m8 ?_ | (refine X.s1 ?_; intro w hw) | (refine X.s2 ?_; intro w hw) | refine X.e1 ?_ | refine X.e2 ?_ | (simp only [X.df]) | (simp (disch := omega) only [wi]))
    exact X.again (j + 1, .slice B (j + 1) d) ⟨by simp only; omega, hno2, by simp only [hl1]; exact hw⟩ (by simp only; omega)
  obtain rfl : k = es.length := by omega
  rw [List.take_length] at hno
  rw [colOf_no hno]
  repeat (first | refine X.p1 ?_ | refine X.p2 ?_ | refine X.p6 ?_ | refine X.p7 ?_ | refine X.p0 ?_ | refine X.p3 ?_ | refine X.p4 ?_ | refine X.p5 ?_ | refine X.p8 ?_ | refine X.p9 ?_ | refine X.q1 ?_ | refine X.q2 ?_ | refine X.q3 ?_ | refine X.q4 ?_ | refine X.q5 ?_ | refine X.q6 ?_ | refine X.q7 ?_ | refine X.q8 ?_ | refine X.q9 ?_ | refine X.q0 ?_ | refine X.m1 ?_ | refine X.m2 ?_ | refine X.m3 ?_ | refine X.m4 ?_ | refine X.m5 ?_ | refine X.m6 ?_ | refine X.l11 ?_ | refine X.l1 ?_ | refine X.l2 ?_ | refine X.l3 ?_ | refine X.l4 ?_ | refine X.l5 ?_ | refine X.l10 ?_ | refine X.l6 ?_ | refine X.l7 ?_ | refine X.l8 ?_ | refine X.l9 ?_ | refine X.m7 ?_ | refine X.m8 ?_ | (refine X.s1 ?_; intro w hw) | (refine X.s2 ?_; intro w hw) | refine X.e1 ?_ | refine X.e2 ?_ | (simp only [X.df]) | (simp (disch := omega) only [wi]))
  exact xw_ret (vs := [_, _, _]) Try.results86 ⟨rfl, rfl, rfl, trivial⟩ ⟨rfl, hw.kpNo hro⟩
end Go.Proofs.Ytnpnphcklmlchaa.Lg
