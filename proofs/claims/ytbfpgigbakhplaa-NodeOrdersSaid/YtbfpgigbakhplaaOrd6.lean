/- References, each once, as the document has them: walked. -/
import Derived.Test.YtbfpgigbakhplaaOrd2
import Derived.Test.YtbfpgigbakhplaaDp
set_option linter.unusedVariables false
set_option linter.unusedSimpArgs false
namespace Go.Proofs.Ytbfpgigbakhplaa.Ord
open Go.RowKit Go.Proofs.Ytbfpgigbakhplaa.Sx Go.Proofs.Ytbfpgigbakhplaa.Mx Go.Proofs.Ytbfpgigbakhplaa.Bw Go.Proofs.Ytbfpgigbakhplaa.By Go.Proofs.Ytbfpgigbakhplaa.Eqs Go.Proofs.Ytbfpgigbakhplaa.Qx Go.Proofs.Ytbfpgigbakhplaa.Ap Go.Proofs.Ytbfpgigbakhplaa.Mi Go.Proofs.Ytbfpgigbakhplaa.Stm Go.Proofs.Ytbfpgigbakhplaa.Fl Go.Proofs.Ytbfpgigbakhplaa.Wd Go.Proofs.Ytbfpgigbakhplaa.Nd Go.Proofs.Ytbfpgigbakhplaa.Mf Go.Proofs.Ytbfpgigbakhplaa.Sc
section rules
variable {P : Program} {n : Nat} {Q : Exit → Act → World → Prop} {L : Ctx} {w w0 : World} {M0 M M' : List Stm.Item} {ops : Array Oper} {rest : List Oper} {d : Nat} {ty : TypeId} {pos : String} {af : Array Edge}
variable {l : List Oper} {kd : Ks} {F : Nat → New} {Kt : Kont} {π : List Nat} {z y : World} {K : Nat → Prop} {i : Nat}
theorem fr_slice {t e : TypeId} {len : Nat} {parts : List (Nat × Operand)} {vs : List (Nat × Value)} {cs : List Value} {o : Oper} (ho : o.op = .buildSlice t len ⟨parts⟩) {a : Act} (ha : Has n L a) (hv : mapEvP L parts = some vs) (hu : P.underlying t = some (.slice e)) (hf : P.builtSlice e len vs = some cs.toArray) :
    Fr P o a ⟨fun g => .slice (some ⟨g, 0, none⟩) len len, fun g => blkI g e cs⟩ := by
  refine ⟨fun w => ⟨w.alloc (.cells cs.toArray e), ?_, kp_alloc _ _, heap_alloc_new _ _, by simp⟩, fun g k hk => hk⟩
  unfold execOp
  rw [ho]
  simp only [List.map_toArray]
  have hm : (parts.map fun (i, x) => (i, a.eval x)) = vs := mapEvP_ok ha hv
  unfold Program.builtSlice at hf
  cases hie : P.info? e with
  | none => simp [hie] at hf
  | some ie =>
    simp only [hie] at hf
    cases hz : ie.zero with
    | none => simp [hz] at hf
    | some z =>
      simp only [hz] at hf
      by_cases hc : len * ie.size > 2 ^ 24 ∨ len * ie.size = 0
      · simp [hc] at hf
      · rw [if_neg hc] at hf
        have hm2 : List.map (fun x => (x.1, a.eval x.2)) parts = vs := hm
        rw [run_ok_bind (run_buildSlice w t e len _ cs.toArray ie z hu hie hz (fun h' => hc (.inl h')) (fun h' => hc (.inr h')) (by rw [hm2]; exact hf))]
        rfl
/-- A slice that came in, read where only what is one's own is turned. -/
theorem rowS {S : Nat → Prop} {g o : Nat} {cs : List Value} {w2 : World} (hz : St w0 M0 M z) (hp : Pick (rowI (some ⟨g, o, none⟩) cs) M M') (k : Kp S z w2) (hS : ¬ S g) : St w2 [rowI (some ⟨g, o, none⟩) cs] [rowI (some ⟨g, o, none⟩) cs] w2 :=
  St.start (.cons_ro .nil (Row.kp (hz.pick hp) k (fun a ha => by cases ha; exact hS)) rfl ro_nil)
theorem row_same {g o : Nat} {cs : List Value} {w1 : World} {M2 : List Stm.Item} (hw0 : St w0 M0 M w1) (hw : St w1 M M' w) (hp : Pick (rowI (some ⟨g, o, none⟩) cs) M M2) (hne : cs ≠ []) : w.heap[g]? = w1.heap[g]? := by
  have hf : (rowI (some ⟨g, o, none⟩) cs).foot g := ⟨hne, _, rfl, rfl⟩
  have hlt := hw0.pre.inb (hp.perm.mem_iff.2 (by simp : rowI (some ⟨g, o, none⟩) cs ∈ rowI (some ⟨g, o, none⟩) cs :: M2)) hf
  refine hw.kp.block g hlt (fun ⟨i, hi, ho, hg⟩ => ?_)
  have ha := ((hw0.pre.perm hp.perm).apart)
  rcases List.mem_cons.1 (hp.perm.mem_iff.1 hi) with rfl | hi2
  · cases ho
  · exact (List.pairwise_cons.1 ha).1 i hi2 (.inr ho) g hf hg
theorem midR {w1 : World} (hw0 : St w0 M0 M w1) (hF : Y.Ft w0 y K M) (hw : St w1 M M' w) (hR : ∀ g, ¬ kd.S g → w.heap[g]? = w1.heap[g]?) (h : ∀ K, St w0 M0 M' w → Y.Ft w0 y K M' → Y.Nw P n l kd F Kt π z K L w) (hk : kd i = .n := by exact rfl) : Ow P n l.toArray (Y.MidF P l kd F Kt π z K i w1) [] L w := fun a ha => by
  refine ⟨rfl, ?_, ?_⟩
  · rw [hk]
    have k := hw.kp
    refine ⟨k.os, k.tape, k.output, k.size, fun x hx hn => ?_⟩
    by_cases hS : kd.S x
    · exact k.block x hx (fun ⟨j, hj, _, hg⟩ => hn ⟨hF.foot j hj x hg, .inr hS⟩)
    · exact hR x hS
  rw [hk]
  exact h _ (Y.St.trans (w := w1) (w1 := w1) hw0 hw) (hF.grow hw) a ha
theorem vec_cap {v : Value} {e : TypeId} {sz k : Nat} {cs : List Value} (hw : St w0 M0 M w) (hp : Pick (vecI v e sz k cs) M M') : ∃ A c, v = .slice A k c ∧ k ≤ c := by
  have hO : Own w 0 e sz v k cs := hw.pick hp
  rcases hO.2 with ⟨rfl, rfl⟩ | ⟨g, cap, cur, rfl, _, _, h3, _⟩
  · exact ⟨none, 0, rfl, Nat.le_refl _⟩
  · exact ⟨_, cap, rfl, h3⟩
theorem take_foot {A : Option Addr} {cs : List Value} (m : Nat) : ∀ g, (rowI A (cs.take m)).foot g → (rowI A cs).foot g := fun g ⟨h, a, ha⟩ => ⟨fun e => h (by rw [e]; simp), a, ha⟩
end rules
attribute [local irreducible] Ow Cw Xw Mw
set_option maxHeartbeats 4000000
theorem oneR (x : Ref) (hx : OkR x) : Try.prog.builtSlice 93 1 [(0, refV x)] = some (refC x).toArray := builtSlice_one if93.1 rfl (refC_len hx) (by decide) (by decide)
theorem refUnlike_calls (A : Option Addr) (l : List Ref) (c : Nat) (hl : OkRs l) (hlb : l.length * 36 ≤ 140737488351232) (w0 : World) (hr : Row w0 A (refsC l)) :
    Does Try.prog 67 [.slice A l.length c] w0 fun v w' => ∃ B d, v = .slice B (unR l).length d ∧ Row w' B (refsC (unR l)) ∧ Kp No w0 w' := by
  obtain ⟨M0, hro, hw⟩ : ∃ M0, (∀ i ∈ M0, i.own = false) ∧ St w0 M0 [rowI A (refsC l)] w0 := ⟨_, ro_cons rfl ro_nil, St.start (.cons_ro .nil hr rfl ro_nil)⟩
  refine fn_enter Try.func67 rfl Try.ntmps67 rfl ?_
  repeat (first | refine X.p1 ?_ | refine X.p2 ?_ | refine X.p6 ?_ | refine X.p7 ?_ | refine X.p0 ?_ | refine X.p3 ?_ | refine X.p4 ?_ | refine X.p5 ?_ | refine X.p8 ?_ | refine X.p9 ?_ | refine X.q1 ?_ | refine X.q2 ?_ | refine X.q3 ?_ | refine X.q4 ?_ | refine X.q5 ?_ | refine X.q6 ?_ | refine X.q7 ?_ | refine X.q8 ?_ | refine X.q9 ?_ | refine X.q0 ?_ | refine X.m1 ?_ | refine X.m2 ?_ | refine X.m3 ?_ | refine X.m4 ?_ | refine X.m5 ?_ | refine X.m6 ?_ | refine X.l11 ?_ | refine X.l1 ?_ | refine X.l2 ?_ | refine X.l3 ?_ | refine X.l4 ?_ | refine X.l5 ?_ | refine X.l10 ?_ | refine X.l6 ?_ | refine X.l7 ?_ | refine X.l8 ?_ | refine X.l9 ?_ | refine X.m7 ?_ | refine X.m8 ?_ | (refine X.s1 ?_; intro w hw) | (refine X.s2 ?_; intro w hw) | refine X.e1 ?_ | refine X.e2 ?_ | (simp only [X.df]) | (simp (disch := omega) only [wi]))
  refine X.c0 ?_; intro v6 w _ hw
  repeat (first | refine X.p1 ?_ | refine X.p2 ?_ | refine X.p6 ?_ | refine X.p7 ?_ | refine X.p0 ?_ | refine X.p3 ?_ | refine X.p4 ?_ | refine X.p5 ?_ | refine X.p8 ?_ | refine X.p9 ?_ | refine X.q1 ?_ | refine X.q2 ?_ | refine X.q3 ?_ | refine X.q4 ?_ | refine X.q5 ?_ | refine X.q6 ?_ | refine X.q7 ?_ | refine X.q8 ?_ | refine X.q9 ?_ | refine X.q0 ?_ | refine X.m1 ?_ | refine X.m2 ?_ | refine X.m3 ?_ | refine X.m4 ?_ | refine X.m5 ?_ | refine X.m6 ?_ | refine X.l11 ?_ | refine X.l1 ?_ | refine X.l2 ?_ | refine X.l3 ?_ | refine X.l4 ?_ | refine X.l5 ?_ | refine X.l10 ?_ | refine X.l6 ?_ | refine X.l7 ?_ | refine X.l8 ?_ | refine X.l9 ?_ | refine X.m7 ?_ | refine X.m8 ?_ | (refine X.s1 ?_; intro w hw) | (refine X.s2 ?_; intro w hw) | refine X.e1 ?_ | refine X.e2 ?_ | (simp only [X.df]) | (simp (disch := omega) only [wi]))
  obtain ⟨B, cap, hv, hcap⟩ := vec_cap hw (v := v6) (by (repeat (first | (with_reducible exact Pick.here) | (with_reducible exact Put.here) | (with_reducible apply Pick.there) | (with_reducible apply Put.there))))
  subst hv
  have hw := hw.frz (A := B) (by repeat (first | exact Put.here | apply Put.there))
  refine X.loop (fun p : Nat × Option Addr × Nat => [(0, .slice A l.length c), (3, .slice p.2.1 (unR (l.take p.1)).length p.2.2), (4, .int .i64 (p.1 : Int))])
    (fun p w' => p.1 ≤ l.length ∧ (unR (l.take p.1)).length ≤ p.2.2 ∧ St w0 M0 [rowI p.2.1 (refsC (unR (l.take p.1))), rowI A (refsC l)] w') (fun p => l.length - p.1) (0, B, cap) ⟨Nat.zero_le _, hcap, hw⟩ ?_
  clear hw hcap
  rintro ⟨i, B, cap⟩ w ⟨hi, hcap, hw⟩
  simp only at hi hcap hw
  repeat (first | refine X.p1 ?_ | refine X.p2 ?_ | refine X.p6 ?_ | refine X.p7 ?_ | refine X.p0 ?_ | refine X.p3 ?_ | refine X.p4 ?_ | refine X.p5 ?_ | refine X.p8 ?_ | refine X.p9 ?_ | refine X.q1 ?_ | refine X.q2 ?_ | refine X.q3 ?_ | refine X.q4 ?_ | refine X.q5 ?_ | refine X.q6 ?_ | refine X.q7 ?_ | refine X.q8 ?_ | refine X.q9 ?_ | refine X.q0 ?_ | refine X.m1 ?_ | refine X.m2 ?_ | refine X.m3 ?_ | refine X.m4 ?_ | refine X.m5 ?_ | refine X.m6 ?_ | refine X.l11 ?_ | refine X.l1 ?_ | refine X.l2 ?_ | refine X.l3 ?_ | refine X.l4 ?_ | refine X.l5 ?_ | refine X.l10 ?_ | refine X.l6 ?_ | refine X.l7 ?_ | refine X.l8 ?_ | refine X.l9 ?_ | refine X.m7 ?_ | refine X.m8 ?_ | (refine X.s1 ?_; intro w hw) | (refine X.s2 ?_; intro w hw) | refine X.e1 ?_ | refine X.e2 ?_ | (simp only [X.df]) | (simp (disch := omega) only [wi]))
  refine X.cond (fun hlt => ?_) (fun hge => ?_)
  · have hlt : i < l.length := by omega
    have hxo := hl _ (List.getElem_mem hlt)
    have hgx := refsC_get hl i hlt
    have hun := un_snoc (l.take i) l[i]
    rw [← List.take_succ_eq_append_getElem hlt] at hun
    have ho : OkRs (unR (l.take i)) := un_ok (fun y hy => hl y (List.mem_of_mem_take hy))
    have hol : (unR (l.take i)).length ≤ i := by have := un_len (l.take i); rw [List.length_take] at this; omega
    have hne := refsC_ne hl hlt
    obtain ⟨g, o, rfl, hat⟩ := hr.some hne
    generalize unR (l.take i) = out at *
    generalize l[i] = x at *
    have hxl := refC_len hxo
    have hx1 := refC_one x
    repeat (first | refine X.p1 ?_ | refine X.p2 ?_ | refine X.p6 ?_ | refine X.p7 ?_ | refine X.p0 ?_ | refine X.p3 ?_ | refine X.p4 ?_ | refine X.p5 ?_ | refine X.p8 ?_ | refine X.p9 ?_ | refine X.q1 ?_ | refine X.q2 ?_ | refine X.q3 ?_ | refine X.q4 ?_ | refine X.q5 ?_ | refine X.q6 ?_ | refine X.q7 ?_ | refine X.q8 ?_ | refine X.q9 ?_ | refine X.q0 ?_ | refine X.m1 ?_ | refine X.m2 ?_ | refine X.m3 ?_ | refine X.m4 ?_ | refine X.m5 ?_ | refine X.m6 ?_ | refine X.l11 ?_ | refine X.l1 ?_ | refine X.l2 ?_ | refine X.l3 ?_ | refine X.l4 ?_ | refine X.l5 ?_ | refine X.l10 ?_ | refine X.l6 ?_ | refine X.l7 ?_ | refine X.l8 ?_ | refine X.l9 ?_ | refine X.m7 ?_ | refine X.m8 ?_ | (refine X.s1 ?_; intro w hw) | (refine X.s2 ?_; intro w hw) | refine X.e1 ?_ | refine X.e2 ?_ | (simp only [X.df]) | (simp (disch := omega) only [wi]))
    refine X.loop (fun j : Nat => [(0, .slice (some ⟨g, o, none⟩) l.length c), (3, .slice B out.length cap), (4, .int .i64 (i : Int)), (5, .int .i64 (j : Int))])
      (fun j w' => j ≤ out.length ∧ (∀ k (hk : k < out.length), k < j → key out[k] < key x) ∧ St w0 M0 [rowI B (refsC out), rowI (some ⟨g, o, none⟩) (refsC l)] w') (fun j => out.length - j) 0 ⟨Nat.zero_le _, fun k hk h => absurd h (Nat.not_lt_zero _), hw⟩ ?_
    clear hw
    rintro j w ⟨hj, hlow, hw⟩
    repeat (first | refine X.p1 ?_ | refine X.p2 ?_ | refine X.p6 ?_ | refine X.p7 ?_ | refine X.p0 ?_ | refine X.p3 ?_ | refine X.p4 ?_ | refine X.p5 ?_ | refine X.p8 ?_ | refine X.p9 ?_ | refine X.q1 ?_ | refine X.q2 ?_ | refine X.q3 ?_ | refine X.q4 ?_ | refine X.q5 ?_ | refine X.q6 ?_ | refine X.q7 ?_ | refine X.q8 ?_ | refine X.q9 ?_ | refine X.q0 ?_ | refine X.m1 ?_ | refine X.m2 ?_ | refine X.m3 ?_ | refine X.m4 ?_ | refine X.m5 ?_ | refine X.m6 ?_ | refine X.l11 ?_ | refine X.l1 ?_ | refine X.l2 ?_ | refine X.l3 ?_ | refine X.l4 ?_ | refine X.l5 ?_ | refine X.l10 ?_ | refine X.l6 ?_ | refine X.l7 ?_ | refine X.l8 ?_ | refine X.l9 ?_ | refine X.m7 ?_ | refine X.m8 ?_ | (refine X.s1 ?_; intro w hw) | (refine X.s2 ?_; intro w hw) | refine X.e1 ?_ | refine X.e2 ?_ | (simp only [X.df]) | (simp (disch := omega) only [wi]))
    by_cases hjl : j < out.length
    · have d1 : decide ((j : Int) < (out.length : Int)) = true := decide_eq_true (by omega)
      have hgj := refsC_get ho j hjl
      have hoj := ho _ (List.getElem_mem hjl)
      have hjlen := refC_len hoj
      obtain ⟨gB, oB, rfl, _⟩ := hw.rowSome (A := B) (cs := refsC out) (by (repeat (first | (with_reducible exact Pick.here) | (with_reducible exact Put.here) | (with_reducible apply Pick.there) | (with_reducible apply Put.there)))) (refsC_ne ho hjl)
      refine Y.mix [0, 1, 2, 3, 4, 5, 6, 7, 8, 9, 10, 11, 12] [13, 14, 15] [(8, .r), (12, .r)] [] (R := []) hw fun w K hw hF => ?_; have hz := hw
      repeat (first | refine Y.r1 ?_ | refine Y.r2 ?_ | refine Y.r4 ?_ | refine Y.rm1 ?_ | refine Y.rm2 ?_ | refine Y.rm3 ?_ | refine Y.rm4 ?_ | refine Y.rm5 ?_ | refine Y.rl11 ?_ | refine Y.rl1 ?_ | refine Y.rl2 ?_ | refine Y.rl3 ?_ | refine Y.rl5 ?_ | refine Y.rl6 ?_ | refine Y.ro11 ?_ | refine Y.ro1 ?_ | refine Y.ro2 ?_ | refine Y.ro3 ?_ | refine Y.ro5 ?_ | refine Y.ro6 ?_ | refine Y.rm8 ?_ | (refine Y.r3 ?_; intro w hw) | (refine Y.beg0 ?_) | refine Y.re1 ?_ | refine Y.re2 ?_ | (simp only [X.df, d1]) | (simp (disch := omega) only [wi]))
      refine Y.nw_read rfl rfl rfl rfl rfl (fun w2 k2 => st_loadRA tab (hw.no k2) rfl (.here) rfl rfl rfl rfl hgj hjlen fin) (fun _ => ⟨_, rfl⟩) ?_
      repeat (first | refine Y.r1 ?_ | refine Y.r2 ?_ | refine Y.r4 ?_ | refine Y.rm1 ?_ | refine Y.rm2 ?_ | refine Y.rm3 ?_ | refine Y.rm4 ?_ | refine Y.rm5 ?_ | refine Y.rl11 ?_ | refine Y.rl1 ?_ | refine Y.rl2 ?_ | refine Y.rl3 ?_ | refine Y.rl5 ?_ | refine Y.rl6 ?_ | refine Y.ro11 ?_ | refine Y.ro1 ?_ | refine Y.ro2 ?_ | refine Y.ro3 ?_ | refine Y.ro5 ?_ | refine Y.ro6 ?_ | refine Y.rm8 ?_ | (refine Y.r3 ?_; intro w hw) | (refine Y.beg0 ?_) | refine Y.re1 ?_ | refine Y.re2 ?_ | (simp only [X.df]) | (simp (disch := omega) only [wi]))
      refine Y.nw_read rfl rfl rfl rfl rfl (fun w2 k2 => st_loadRA tab (hw.no k2) rfl (.there .here) rfl rfl rfl rfl hgx hxl fin) (fun _ => ⟨_, rfl⟩) ?_
      repeat (first | refine Y.r1 ?_ | refine Y.r2 ?_ | refine Y.r4 ?_ | refine Y.rm1 ?_ | refine Y.rm2 ?_ | refine Y.rm3 ?_ | refine Y.rm4 ?_ | refine Y.rm5 ?_ | refine Y.rl11 ?_ | refine Y.rl1 ?_ | refine Y.rl2 ?_ | refine Y.rl3 ?_ | refine Y.rl5 ?_ | refine Y.rl6 ?_ | refine Y.ro11 ?_ | refine Y.ro1 ?_ | refine Y.ro2 ?_ | refine Y.ro3 ?_ | refine Y.ro5 ?_ | refine Y.ro6 ?_ | refine Y.rm8 ?_ | (refine Y.r3 ?_; intro w hw) | (refine Y.beg0 ?_) | refine Y.re1 ?_ | refine Y.re2 ?_ | (simp only [X.df]) | (simp (disch := omega) only [wi]))
      refine Y.act hw fun w hw0 hw => ?_; refine X.callN rfl rfl Try.func65 (refCmp_calls _ x hoj hxo w) fun w kk hw => ?_; refine Y.midA hw0 hF hw kk fun K hw hF => ?_
      by_cases hk : key out[j] < key x
      · have d2 : decide (cmpR out[j] x < 0) = true := decide_eq_true (by unfold cmpR sgn; rw [if_pos hk]; decide)
        repeat (first | refine Y.r1 ?_ | refine Y.r2 ?_ | refine Y.r4 ?_ | refine Y.rm1 ?_ | refine Y.rm2 ?_ | refine Y.rm3 ?_ | refine Y.rm4 ?_ | refine Y.rm5 ?_ | refine Y.rl11 ?_ | refine Y.rl1 ?_ | refine Y.rl2 ?_ | refine Y.rl3 ?_ | refine Y.rl5 ?_ | refine Y.rl6 ?_ | refine Y.ro11 ?_ | refine Y.ro1 ?_ | refine Y.ro2 ?_ | refine Y.ro3 ?_ | refine Y.ro5 ?_ | refine Y.ro6 ?_ | refine Y.rm8 ?_ | (refine Y.r3 ?_; intro w hw) | (refine Y.beg0 ?_) | refine Y.re1 ?_ | refine Y.re2 ?_ | (simp only [X.df, d2]) | (simp (disch := omega) only [wi]))
        repeat (first | refine X.p1 ?_ | refine X.p2 ?_ | refine X.p6 ?_ | refine X.p7 ?_ | refine X.p0 ?_ | refine X.p3 ?_ | refine X.p4 ?_ | refine X.p5 ?_ | refine X.p8 ?_ | refine X.p9 ?_ | refine X.q1 ?_ | refine X.q2 ?_ | refine X.q3 ?_ | refine X.q4 ?_ | refine X.q5 ?_ | refine X.q6 ?_ | refine X.q7 ?_ | refine X.q8 ?_ | refine X.q9 ?_ | refine X.q0 ?_ | refine X.m1 ?_ | refine X.m2 ?_ | refine X.m3 ?_ | refine X.m4 ?_ | refine X.m5 ?_ | refine X.m6 ?_ | refine X.l11 ?_ | refine X.l1 ?_ | refine X.l2 ?_ | refine X.l3 ?_ | refine X.l4 ?_ | refine X.l5 ?_ | refine X.l10 ?_ | refine X.l6 ?_ | refine X.l7 ?_ | refine X.l8 ?_ | refine X.l9 ?_ | refine X.m7 ?_ | refine X.m8 ?_ | (refine X.s1 ?_; intro w hw) | (refine X.s2 ?_; intro w hw) | refine X.e1 ?_ | refine X.e2 ?_ | (simp only [X.df]) | (simp (disch := omega) only [wi]))
        refine X.again (j + 1) ⟨by omega, fun k hk2 h => ?_, hw⟩ (by omega)
        rcases Nat.lt_or_ge k j with h1 | h1
        · exact hlow k hk2 h1
        · obtain rfl : k = j := by omega
          exact hk
      · have d2 : decide (cmpR out[j] x < 0) = false := decide_eq_false (by unfold cmpR sgn; rw [if_neg hk]; split <;> omega)
        repeat (first | refine Y.r1 ?_ | refine Y.r2 ?_ | refine Y.r4 ?_ | refine Y.rm1 ?_ | refine Y.rm2 ?_ | refine Y.rm3 ?_ | refine Y.rm4 ?_ | refine Y.rm5 ?_ | refine Y.rl11 ?_ | refine Y.rl1 ?_ | refine Y.rl2 ?_ | refine Y.rl3 ?_ | refine Y.rl5 ?_ | refine Y.rl6 ?_ | refine Y.ro11 ?_ | refine Y.ro1 ?_ | refine Y.ro2 ?_ | refine Y.ro3 ?_ | refine Y.ro5 ?_ | refine Y.ro6 ?_ | refine Y.rm8 ?_ | (refine Y.r3 ?_; intro w hw) | (refine Y.beg0 ?_) | refine Y.re1 ?_ | refine Y.re2 ?_ | (simp only [X.df, d2]) | (simp (disch := omega) only [wi]))
        repeat (first | refine X.p1 ?_ | refine X.p2 ?_ | refine X.p6 ?_ | refine X.p7 ?_ | refine X.p0 ?_ | refine X.p3 ?_ | refine X.p4 ?_ | refine X.p5 ?_ | refine X.p8 ?_ | refine X.p9 ?_ | refine X.q1 ?_ | refine X.q2 ?_ | refine X.q3 ?_ | refine X.q4 ?_ | refine X.q5 ?_ | refine X.q6 ?_ | refine X.q7 ?_ | refine X.q8 ?_ | refine X.q9 ?_ | refine X.q0 ?_ | refine X.m1 ?_ | refine X.m2 ?_ | refine X.m3 ?_ | refine X.m4 ?_ | refine X.m5 ?_ | refine X.m6 ?_ | refine X.l11 ?_ | refine X.l1 ?_ | refine X.l2 ?_ | refine X.l3 ?_ | refine X.l4 ?_ | refine X.l5 ?_ | refine X.l10 ?_ | refine X.l6 ?_ | refine X.l7 ?_ | refine X.l8 ?_ | refine X.l9 ?_ | refine X.m7 ?_ | refine X.m8 ?_ | (refine X.s1 ?_; intro w hw) | (refine X.s2 ?_; intro w hw) | refine X.e1 ?_ | refine X.e2 ?_ | (simp only [X.df]) | (simp (disch := omega) only [wi]))
        have hpos : posR out x = j := pos_at out x j hj hlow (fun _ => hk)
        subst hpos
        have d3 : ((posR out x : Int) == (out.length : Int)) = false := by simp; omega
        refine Y.mix [0, 1, 2, 3, 4, 5, 6, 7, 8, 9, 10, 11, 12, 13, 14] [] [(8, .r), (12, .r)] [] (R := []) hw fun w K hw hF => ?_; have hz := hw
        repeat (first | refine Y.r1 ?_ | refine Y.r2 ?_ | refine Y.r4 ?_ | refine Y.rm1 ?_ | refine Y.rm2 ?_ | refine Y.rm3 ?_ | refine Y.rm4 ?_ | refine Y.rm5 ?_ | refine Y.rl11 ?_ | refine Y.rl1 ?_ | refine Y.rl2 ?_ | refine Y.rl3 ?_ | refine Y.rl5 ?_ | refine Y.rl6 ?_ | refine Y.ro11 ?_ | refine Y.ro1 ?_ | refine Y.ro2 ?_ | refine Y.ro3 ?_ | refine Y.ro5 ?_ | refine Y.ro6 ?_ | refine Y.rm8 ?_ | (refine Y.r3 ?_; intro w hw) | (refine Y.beg0 ?_) | refine Y.re1 ?_ | refine Y.re2 ?_ | (simp only [X.df, d3]) | (simp (disch := omega) only [wi]))
        refine Y.nw_read rfl rfl rfl rfl rfl (fun w2 k2 => st_loadRA tab (hw.no k2) rfl (.here) rfl rfl rfl rfl hgj hjlen fin) (fun _ => ⟨_, rfl⟩) ?_
        repeat (first | refine Y.r1 ?_ | refine Y.r2 ?_ | refine Y.r4 ?_ | refine Y.rm1 ?_ | refine Y.rm2 ?_ | refine Y.rm3 ?_ | refine Y.rm4 ?_ | refine Y.rm5 ?_ | refine Y.rl11 ?_ | refine Y.rl1 ?_ | refine Y.rl2 ?_ | refine Y.rl3 ?_ | refine Y.rl5 ?_ | refine Y.rl6 ?_ | refine Y.ro11 ?_ | refine Y.ro1 ?_ | refine Y.ro2 ?_ | refine Y.ro3 ?_ | refine Y.ro5 ?_ | refine Y.ro6 ?_ | refine Y.rm8 ?_ | (refine Y.r3 ?_; intro w hw) | (refine Y.beg0 ?_) | refine Y.re1 ?_ | refine Y.re2 ?_ | (simp only [X.df]) | (simp (disch := omega) only [wi]))
        refine Y.nw_read rfl rfl rfl rfl rfl (fun w2 k2 => st_loadRA tab (hw.no k2) rfl (.there .here) rfl rfl rfl rfl hgx hxl fin) (fun _ => ⟨_, rfl⟩) ?_
        repeat (first | refine Y.r1 ?_ | refine Y.r2 ?_ | refine Y.r4 ?_ | refine Y.rm1 ?_ | refine Y.rm2 ?_ | refine Y.rm3 ?_ | refine Y.rm4 ?_ | refine Y.rm5 ?_ | refine Y.rl11 ?_ | refine Y.rl1 ?_ | refine Y.rl2 ?_ | refine Y.rl3 ?_ | refine Y.rl5 ?_ | refine Y.rl6 ?_ | refine Y.ro11 ?_ | refine Y.ro1 ?_ | refine Y.ro2 ?_ | refine Y.ro3 ?_ | refine Y.ro5 ?_ | refine Y.ro6 ?_ | refine Y.rm8 ?_ | (refine Y.r3 ?_; intro w hw) | (refine Y.beg0 ?_) | refine Y.re1 ?_ | refine Y.re2 ?_ | (simp only [X.df]) | (simp (disch := omega) only [wi]))
        obtain ⟨E, hE, hq⟩ := eqRef7
        refine Y.nw_any rfl rfl rfl rfl rfl (fun w0 => ow_neA hq (a := out[posR out x]) (b := x) rfl hE (by kernel_rfl) hoj hxo rfl rfl rfl fin) (fun _ => ⟨_, rfl⟩) ?_
        by_cases hxe : out[posR out x] = x
        · rw [decide_eq_true hxe]
          repeat (first | refine Y.r1 ?_ | refine Y.r2 ?_ | refine Y.r4 ?_ | refine Y.rm1 ?_ | refine Y.rm2 ?_ | refine Y.rm3 ?_ | refine Y.rm4 ?_ | refine Y.rm5 ?_ | refine Y.rl11 ?_ | refine Y.rl1 ?_ | refine Y.rl2 ?_ | refine Y.rl3 ?_ | refine Y.rl5 ?_ | refine Y.rl6 ?_ | refine Y.ro11 ?_ | refine Y.ro1 ?_ | refine Y.ro2 ?_ | refine Y.ro3 ?_ | refine Y.ro5 ?_ | refine Y.ro6 ?_ | refine Y.rm8 ?_ | (refine Y.r3 ?_; intro w hw) | (refine Y.beg0 ?_) | refine Y.re1 ?_ | refine Y.re2 ?_ | (simp only [X.df]) | (simp (disch := omega) only [wi]))
          repeat (first | refine X.p1 ?_ | refine X.p2 ?_ | refine X.p6 ?_ | refine X.p7 ?_ | refine X.p0 ?_ | refine X.p3 ?_ | refine X.p4 ?_ | refine X.p5 ?_ | refine X.p8 ?_ | refine X.p9 ?_ | refine X.q1 ?_ | refine X.q2 ?_ | refine X.q3 ?_ | refine X.q4 ?_ | refine X.q5 ?_ | refine X.q6 ?_ | refine X.q7 ?_ | refine X.q8 ?_ | refine X.q9 ?_ | refine X.q0 ?_ | refine X.m1 ?_ | refine X.m2 ?_ | refine X.m3 ?_ | refine X.m4 ?_ | refine X.m5 ?_ | refine X.m6 ?_ | refine X.l11 ?_ | refine X.l1 ?_ | refine X.l2 ?_ | refine X.l3 ?_ | refine X.l4 ?_ | refine X.l5 ?_ | refine X.l10 ?_ | refine X.l6 ?_ | refine X.l7 ?_ | refine X.l8 ?_ | refine X.l9 ?_ | refine X.m7 ?_ | refine X.m8 ?_ | (refine X.s1 ?_; intro w hw) | (refine X.s2 ?_; intro w hw) | refine X.e1 ?_ | refine X.e2 ?_ | (simp only [X.df]) | (simp (disch := omega) only [wi]))
          have hins : insR out x = out := by
            unfold insR
            rw [if_neg]
            rintro (h | h)
            · omega
            · exact h (by rw [List.getElem?_eq_getElem hjl, hxe])
          have hL : out.length = (unR (l.take (i + 1))).length := by rw [hun, hins]
          rw [hL] at hcap ⊢
          refine X.again (i + 1, some ⟨gB, oB, none⟩, cap) ⟨by simp only; omega, hcap, ?_⟩ (by simp only; omega)
          simp only [hun, hins]
          exact hw
        · rw [decide_eq_false hxe]
          repeat (first | refine Y.r1 ?_ | refine Y.r2 ?_ | refine Y.r4 ?_ | refine Y.rm1 ?_ | refine Y.rm2 ?_ | refine Y.rm3 ?_ | refine Y.rm4 ?_ | refine Y.rm5 ?_ | refine Y.rl11 ?_ | refine Y.rl1 ?_ | refine Y.rl2 ?_ | refine Y.rl3 ?_ | refine Y.rl5 ?_ | refine Y.rl6 ?_ | refine Y.ro11 ?_ | refine Y.ro1 ?_ | refine Y.ro2 ?_ | refine Y.ro3 ?_ | refine Y.ro5 ?_ | refine Y.ro6 ?_ | refine Y.rm8 ?_ | (refine Y.r3 ?_; intro w hw) | (refine Y.beg0 ?_) | refine Y.re1 ?_ | refine Y.re2 ?_ | (simp only [X.df]) | (simp (disch := omega) only [wi]))
          repeat (first | refine X.p1 ?_ | refine X.p2 ?_ | refine X.p6 ?_ | refine X.p7 ?_ | refine X.p0 ?_ | refine X.p3 ?_ | refine X.p4 ?_ | refine X.p5 ?_ | refine X.p8 ?_ | refine X.p9 ?_ | refine X.q1 ?_ | refine X.q2 ?_ | refine X.q3 ?_ | refine X.q4 ?_ | refine X.q5 ?_ | refine X.q6 ?_ | refine X.q7 ?_ | refine X.q8 ?_ | refine X.q9 ?_ | refine X.q0 ?_ | refine X.m1 ?_ | refine X.m2 ?_ | refine X.m3 ?_ | refine X.m4 ?_ | refine X.m5 ?_ | refine X.m6 ?_ | refine X.l11 ?_ | refine X.l1 ?_ | refine X.l2 ?_ | refine X.l3 ?_ | refine X.l4 ?_ | refine X.l5 ?_ | refine X.l10 ?_ | refine X.l6 ?_ | refine X.l7 ?_ | refine X.l8 ?_ | refine X.l9 ?_ | refine X.m7 ?_ | refine X.m8 ?_ | (refine X.s1 ?_; intro w hw) | (refine X.s2 ?_; intro w hw) | refine X.e1 ?_ | refine X.e2 ?_ | (simp only [X.df]) | (simp (disch := omega) only [wi]))
          have hins : insR out x = out.take (posR out x) ++ [x] ++ out.drop (posR out x) := by
            unfold insR
            rw [if_pos (.inr (by rw [List.getElem?_eq_getElem hjl]; simpa using hxe))]
          obtain ⟨B, hB⟩ : ∃ B : Option Addr, B = some ⟨gB, oB, none⟩ := ⟨_, rfl⟩
          rw [← hB] at hw ⊢
          have hpl := pos_le out x
          have htk := refsC_take ho (posR out x)
          have hdk := refsC_drop ho (posR out x) hpl
          have hw := St_more hw (A := B) (cs := refsC out) (A' := B) (cs' := refsC (out.take (posR out x))) (by (repeat (first | (with_reducible exact Pick.here) | (with_reducible exact Put.here) | (with_reducible apply Pick.there) | (with_reducible apply Put.there)))) (htk ▸ row_take (hw.pick (i := rowI B (refsC out)) (by (repeat (first | (with_reducible exact Pick.here) | (with_reducible exact Put.here) | (with_reducible apply Pick.there) | (with_reducible apply Put.there))))) _) (htk ▸ take_foot _)
          have hw := St_more hw (A := B) (cs := refsC out) (A' := sA B (posR out x) cap 33) (cs' := refsC (out.drop (posR out x))) (by (repeat (first | (with_reducible exact Pick.here) | (with_reducible exact Put.here) | (with_reducible apply Pick.there) | (with_reducible apply Put.there)))) (hdk ▸ sA_row (m := cap) (hw.pick (i := rowI B (refsC out)) (by (repeat (first | (with_reducible exact Pick.here) | (with_reducible exact Put.here) | (with_reducible apply Pick.there) | (with_reducible apply Put.there))))) (fun e => by rw [refsC_len ho]; have := Nat.mul_le_mul_right 33 (show out.length ≤ posR out x by omega); omega)) (hdk ▸ sA_foot)
          have hlt1 : (refsC (out.take (posR out x))).length = posR out x * 33 := by rw [refsC_len (fun y hy => ho y (List.mem_of_mem_take hy)), List.length_take]; congr 1; omega
          have hld1 : (refsC (out.drop (posR out x))).length = (out.length - posR out x) * 33 := by rw [refsC_len (fun y hy => ho y (List.mem_of_mem_drop hy)), List.length_drop]
          have hot := refsC_one (out.take (posR out x))
          have hod := refsC_one (out.drop (posR out x))
          refine Y.mix [1, 2, 3, 5, 6, 7, 8, 11, 12, 13] [0, 4, 9, 10, 14, 15] [(8, .o), (4, .n), (9, .f), (10, .n), (14, .n)] [(9, ⟨fun g => .slice (some ⟨g, 0, none⟩) 1 1, fun g => blkI g 93 (refC x)⟩)] (R := [g]) hw fun w K hw hF => ?_; have hz := hw
          repeat (first | refine Y.r1 ?_ | refine Y.r2 ?_ | refine Y.r4 ?_ | refine Y.rm1 ?_ | refine Y.rm2 ?_ | refine Y.rm3 ?_ | refine Y.rm4 ?_ | refine Y.rm5 ?_ | refine Y.rl11 ?_ | refine Y.rl1 ?_ | refine Y.rl2 ?_ | refine Y.rl3 ?_ | refine Y.rl5 ?_ | refine Y.rl6 ?_ | refine Y.ro11 ?_ | refine Y.ro1 ?_ | refine Y.ro2 ?_ | refine Y.ro3 ?_ | refine Y.ro5 ?_ | refine Y.ro6 ?_ | refine Y.rm8 ?_ | (refine Y.r3 ?_; intro w hw) | (refine Y.beg0 ?_) | refine Y.re1 ?_ | refine Y.re2 ?_ | (simp only [X.df]) | (simp (disch := omega) only [wi]))
          refine Y.nw_any rfl rfl rfl rfl rfl (fun w0 => ow_sliceSl tab (vlo := none) (vhi := some (.int .i64 (posR out x : Int))) (l := 0) (h := posR out x) rfl rfl rfl ⟨_, rfl, rfl⟩ rfl rfl rfl rfl (by omega) (by omega) (by omega) fin) (fun _ => ⟨_, rfl⟩) ?_
          rw [sA_zero, Nat.sub_zero, Nat.sub_zero]
          repeat (first | refine Y.r1 ?_ | refine Y.r2 ?_ | refine Y.r4 ?_ | refine Y.rm1 ?_ | refine Y.rm2 ?_ | refine Y.rm3 ?_ | refine Y.rm4 ?_ | refine Y.rm5 ?_ | refine Y.rl11 ?_ | refine Y.rl1 ?_ | refine Y.rl2 ?_ | refine Y.rl3 ?_ | refine Y.rl5 ?_ | refine Y.rl6 ?_ | refine Y.ro11 ?_ | refine Y.ro1 ?_ | refine Y.ro2 ?_ | refine Y.ro3 ?_ | refine Y.ro5 ?_ | refine Y.ro6 ?_ | refine Y.rm8 ?_ | (refine Y.r3 ?_; intro w hw) | (refine Y.beg0 ?_) | refine Y.re1 ?_ | refine Y.re2 ?_ | (simp only [X.df]) | (simp (disch := omega) only [wi]))
          refine Y.nw_readO rfl rfl rfl rfl rfl (fun w2 k2 => st_loadRA tab (rowS hz (cs := refsC l) (by (repeat (first | (with_reducible exact Pick.here) | (with_reducible exact Put.here) | (with_reducible apply Pick.there) | (with_reducible apply Put.there)))) k2 (fun h => h (by simp))) rfl .here rfl rfl rfl rfl hgx hxl fin) (fun _ => ⟨_, rfl⟩) ?_
          repeat (first | refine Y.r1 ?_ | refine Y.r2 ?_ | refine Y.r4 ?_ | refine Y.rm1 ?_ | refine Y.rm2 ?_ | refine Y.rm3 ?_ | refine Y.rm4 ?_ | refine Y.rm5 ?_ | refine Y.rl11 ?_ | refine Y.rl1 ?_ | refine Y.rl2 ?_ | refine Y.rl3 ?_ | refine Y.rl5 ?_ | refine Y.rl6 ?_ | refine Y.ro11 ?_ | refine Y.ro1 ?_ | refine Y.ro2 ?_ | refine Y.ro3 ?_ | refine Y.ro5 ?_ | refine Y.ro6 ?_ | refine Y.rm8 ?_ | (refine Y.r3 ?_; intro w hw) | (refine Y.beg0 ?_) | refine Y.re1 ?_ | refine Y.re2 ?_ | (simp only [X.df]) | (simp (disch := omega) only [wi]))
          refine Y.nw_any rfl rfl rfl rfl rfl (fun w0 => ow_sliceSl tab (vlo := some (.int .i64 (posR out x : Int))) (vhi := none) (l := posR out x) (h := out.length) rfl rfl ⟨_, rfl, rfl⟩ rfl rfl rfl rfl rfl (by omega) (by omega) (by omega) fin) (fun _ => ⟨_, rfl⟩) ?_
          repeat (first | refine Y.r1 ?_ | refine Y.r2 ?_ | refine Y.r4 ?_ | refine Y.rm1 ?_ | refine Y.rm2 ?_ | refine Y.rm3 ?_ | refine Y.rm4 ?_ | refine Y.rm5 ?_ | refine Y.rl11 ?_ | refine Y.rl1 ?_ | refine Y.rl2 ?_ | refine Y.rl3 ?_ | refine Y.rl5 ?_ | refine Y.rl6 ?_ | refine Y.ro11 ?_ | refine Y.ro1 ?_ | refine Y.ro2 ?_ | refine Y.ro3 ?_ | refine Y.ro5 ?_ | refine Y.ro6 ?_ | refine Y.rm8 ?_ | (refine Y.r3 ?_; intro w hw) | (refine Y.beg0 ?_) | refine Y.re1 ?_ | refine Y.re2 ?_ | (simp only [X.df]) | (simp (disch := omega) only [wi]))
          refine Y.beg (fun a ha => ⟨⟨_, rfl, fr_slice rfl ha rfl Try.underlying123 (oneR x hxo)⟩, trivial⟩) ?_
          repeat (first | refine Y.r1 ?_ | refine Y.r2 ?_ | refine Y.r4 ?_ | refine Y.rm1 ?_ | refine Y.rm2 ?_ | refine Y.rm3 ?_ | refine Y.rm4 ?_ | refine Y.rm5 ?_ | refine Y.rl11 ?_ | refine Y.rl1 ?_ | refine Y.rl2 ?_ | refine Y.rl3 ?_ | refine Y.rl5 ?_ | refine Y.rl6 ?_ | refine Y.ro11 ?_ | refine Y.ro1 ?_ | refine Y.ro2 ?_ | refine Y.ro3 ?_ | refine Y.ro5 ?_ | refine Y.ro6 ?_ | refine Y.rm8 ?_ | (refine Y.r3 ?_; intro w hw) | (refine Y.beg0 ?_) | refine Y.re1 ?_ | refine Y.re2 ?_ | (simp only [X.df]) | (simp (disch := omega) only [wi]))
          refine Y.act hw fun w hw0 hw => ?_; refine X.c0 ?_; intro v w kk hw; refine Y.midA hw0 hF hw kk fun K hw hF => ?_
          repeat (first | refine Y.r1 ?_ | refine Y.r2 ?_ | refine Y.r4 ?_ | refine Y.rm1 ?_ | refine Y.rm2 ?_ | refine Y.rm3 ?_ | refine Y.rm4 ?_ | refine Y.rm5 ?_ | refine Y.rl11 ?_ | refine Y.rl1 ?_ | refine Y.rl2 ?_ | refine Y.rl3 ?_ | refine Y.rl5 ?_ | refine Y.rl6 ?_ | refine Y.ro11 ?_ | refine Y.ro1 ?_ | refine Y.ro2 ?_ | refine Y.ro3 ?_ | refine Y.ro5 ?_ | refine Y.ro6 ?_ | refine Y.rm8 ?_ | (refine Y.r3 ?_; intro w hw) | (refine Y.beg0 ?_) | refine Y.re1 ?_ | refine Y.re2 ?_ | (simp only [X.df]) | (simp (disch := omega) only [wi]))
          refine Y.act hw fun w hw0 hw => ?_; refine X.a2 (news := refsC (out.take (posR out x))) ?_; intro v2 w hw
          refine midR hw0 hF hw (fun g' hg' => ?_) fun K hw hF => ?_
          · have hg2 : g' = g := List.mem_singleton.1 (Classical.not_not.1 hg')
            rw [hg2]; exact row_same hw0 hw (cs := refsC l) (by (repeat (first | (with_reducible exact Pick.here) | (with_reducible exact Put.here) | (with_reducible apply Pick.there) | (with_reducible apply Put.there)))) hne
          repeat (first | refine Y.r1 ?_ | refine Y.r2 ?_ | refine Y.r4 ?_ | refine Y.rm1 ?_ | refine Y.rm2 ?_ | refine Y.rm3 ?_ | refine Y.rm4 ?_ | refine Y.rm5 ?_ | refine Y.rl11 ?_ | refine Y.rl1 ?_ | refine Y.rl2 ?_ | refine Y.rl3 ?_ | refine Y.rl5 ?_ | refine Y.rl6 ?_ | refine Y.ro11 ?_ | refine Y.ro1 ?_ | refine Y.ro2 ?_ | refine Y.ro3 ?_ | refine Y.ro5 ?_ | refine Y.ro6 ?_ | refine Y.rm8 ?_ | (refine Y.r3 ?_; intro w hw) | (refine Y.beg0 ?_) | refine Y.re1 ?_ | refine Y.re2 ?_ | (simp only [X.df]) | (simp (disch := omega) only [wi]))
          refine Y.new hw hF fun g5 w K hw hF => ?_
          repeat (first | refine Y.r1 ?_ | refine Y.r2 ?_ | refine Y.r4 ?_ | refine Y.rm1 ?_ | refine Y.rm2 ?_ | refine Y.rm3 ?_ | refine Y.rm4 ?_ | refine Y.rm5 ?_ | refine Y.rl11 ?_ | refine Y.rl1 ?_ | refine Y.rl2 ?_ | refine Y.rl3 ?_ | refine Y.rl5 ?_ | refine Y.rl6 ?_ | refine Y.ro11 ?_ | refine Y.ro1 ?_ | refine Y.ro2 ?_ | refine Y.ro3 ?_ | refine Y.ro5 ?_ | refine Y.ro6 ?_ | refine Y.rm8 ?_ | (refine Y.r3 ?_; intro w hw) | (refine Y.beg0 ?_) | refine Y.re1 ?_ | refine Y.re2 ?_ | (simp only [X.df]) | (simp (disch := omega) only [wi]))
          refine Y.act hw fun w hw0 hw => ?_; refine X.a1 ?_; intro v3 w hw
          refine midR hw0 hF hw (fun g' hg' => ?_) fun K hw hF => ?_
          · have hg2 : g' = g := List.mem_singleton.1 (Classical.not_not.1 hg')
            rw [hg2]; exact row_same hw0 hw (cs := refsC l) (by (repeat (first | (with_reducible exact Pick.here) | (with_reducible exact Put.here) | (with_reducible apply Pick.there) | (with_reducible apply Put.there)))) hne
          repeat (first | refine Y.r1 ?_ | refine Y.r2 ?_ | refine Y.r4 ?_ | refine Y.rm1 ?_ | refine Y.rm2 ?_ | refine Y.rm3 ?_ | refine Y.rm4 ?_ | refine Y.rm5 ?_ | refine Y.rl11 ?_ | refine Y.rl1 ?_ | refine Y.rl2 ?_ | refine Y.rl3 ?_ | refine Y.rl5 ?_ | refine Y.rl6 ?_ | refine Y.ro11 ?_ | refine Y.ro1 ?_ | refine Y.ro2 ?_ | refine Y.ro3 ?_ | refine Y.ro5 ?_ | refine Y.ro6 ?_ | refine Y.rm8 ?_ | (refine Y.r3 ?_; intro w hw) | (refine Y.beg0 ?_) | refine Y.re1 ?_ | refine Y.re2 ?_ | (simp only [X.df]) | (simp (disch := omega) only [wi]))
          refine Y.act hw fun w hw0 hw => ?_; refine X.a2 (news := refsC (out.drop (posR out x))) ?_; intro v4 w hw
          refine midR hw0 hF hw (fun g' hg' => ?_) fun K hw hF => ?_
          · have hg2 : g' = g := List.mem_singleton.1 (Classical.not_not.1 hg')
            rw [hg2]; exact row_same hw0 hw (cs := refsC l) (by (repeat (first | (with_reducible exact Pick.here) | (with_reducible exact Put.here) | (with_reducible apply Pick.there) | (with_reducible apply Put.there)))) hne
          repeat (first | refine Y.r1 ?_ | refine Y.r2 ?_ | refine Y.r4 ?_ | refine Y.rm1 ?_ | refine Y.rm2 ?_ | refine Y.rm3 ?_ | refine Y.rm4 ?_ | refine Y.rm5 ?_ | refine Y.rl11 ?_ | refine Y.rl1 ?_ | refine Y.rl2 ?_ | refine Y.rl3 ?_ | refine Y.rl5 ?_ | refine Y.rl6 ?_ | refine Y.ro11 ?_ | refine Y.ro1 ?_ | refine Y.ro2 ?_ | refine Y.ro3 ?_ | refine Y.ro5 ?_ | refine Y.ro6 ?_ | refine Y.rm8 ?_ | (refine Y.r3 ?_; intro w hw) | (refine Y.beg0 ?_) | refine Y.re1 ?_ | refine Y.re2 ?_ | (simp only [X.df]) | (simp (disch := omega) only [wi]))
          repeat (first | refine X.p1 ?_ | refine X.p2 ?_ | refine X.p6 ?_ | refine X.p7 ?_ | refine X.p0 ?_ | refine X.p3 ?_ | refine X.p4 ?_ | refine X.p5 ?_ | refine X.p8 ?_ | refine X.p9 ?_ | refine X.q1 ?_ | refine X.q2 ?_ | refine X.q3 ?_ | refine X.q4 ?_ | refine X.q5 ?_ | refine X.q6 ?_ | refine X.q7 ?_ | refine X.q8 ?_ | refine X.q9 ?_ | refine X.q0 ?_ | refine X.m1 ?_ | refine X.m2 ?_ | refine X.m3 ?_ | refine X.m4 ?_ | refine X.m5 ?_ | refine X.m6 ?_ | refine X.l11 ?_ | refine X.l1 ?_ | refine X.l2 ?_ | refine X.l3 ?_ | refine X.l4 ?_ | refine X.l5 ?_ | refine X.l10 ?_ | refine X.l6 ?_ | refine X.l7 ?_ | refine X.l8 ?_ | refine X.l9 ?_ | refine X.m7 ?_ | refine X.m8 ?_ | (refine X.s1 ?_; intro w hw) | (refine X.s2 ?_; intro w hw) | refine X.e1 ?_ | refine X.e2 ?_ | (simp only [X.df]) | (simp (disch := omega) only [wi]))
          obtain ⟨B2, c2, hv4, hc2⟩ := vec_cap hw (v := v4) (by (repeat (first | (with_reducible exact Pick.here) | (with_reducible exact Put.here) | (with_reducible apply Pick.there) | (with_reducible apply Put.there))))
          subst hv4
          have hw := hw.frz (A := B2) (by repeat (first | exact Put.here | apply Put.there))
          have hlen : 0 + posR out x + 1 + (out.length - posR out x) = (unR (l.take (i + 1))).length := by rw [hun, hins]; simp; omega
          have hcs : [] ++ refsC (out.take (posR out x)) ++ refC x ++ refsC (out.drop (posR out x)) = refsC (unR (l.take (i + 1))) := by rw [hun, hins]; simp [refsC]
          rw [hlen] at hc2 ⊢
          rw [hcs] at hw
          exact X.again (i + 1, B2, c2) ⟨by simp only; omega, hc2, hw.sub (by (repeat (first | (with_reducible exact Split.nil) | ((with_reducible apply Split.cons); (next => (repeat (first | (with_reducible exact Pick.here) | (with_reducible exact Put.here) | (with_reducible apply Pick.there) | (with_reducible apply Put.there))))))))⟩ (by simp only; omega)
    · have d1 : decide ((j : Int) < (out.length : Int)) = false := decide_eq_false (by omega)
      refine Y.mix [0, 1, 2, 3, 4, 5, 6, 7, 8, 9, 10, 11, 12] [13, 14, 15] [(8, .r), (12, .r)] [] (R := []) hw fun w K hw hF => ?_; have hz := hw
      repeat (first | refine Y.r1 ?_ | refine Y.r2 ?_ | refine Y.r4 ?_ | refine Y.rm1 ?_ | refine Y.rm2 ?_ | refine Y.rm3 ?_ | refine Y.rm4 ?_ | refine Y.rm5 ?_ | refine Y.rl11 ?_ | refine Y.rl1 ?_ | refine Y.rl2 ?_ | refine Y.rl3 ?_ | refine Y.rl5 ?_ | refine Y.rl6 ?_ | refine Y.ro11 ?_ | refine Y.ro1 ?_ | refine Y.ro2 ?_ | refine Y.ro3 ?_ | refine Y.ro5 ?_ | refine Y.ro6 ?_ | refine Y.rm8 ?_ | (refine Y.r3 ?_; intro w hw) | (refine Y.beg0 ?_) | refine Y.re1 ?_ | refine Y.re2 ?_ | (simp only [X.df, d1]) | (simp (disch := omega) only [wi]))
      repeat (first | refine X.p1 ?_ | refine X.p2 ?_ | refine X.p6 ?_ | refine X.p7 ?_ | refine X.p0 ?_ | refine X.p3 ?_ | refine X.p4 ?_ | refine X.p5 ?_ | refine X.p8 ?_ | refine X.p9 ?_ | refine X.q1 ?_ | refine X.q2 ?_ | refine X.q3 ?_ | refine X.q4 ?_ | refine X.q5 ?_ | refine X.q6 ?_ | refine X.q7 ?_ | refine X.q8 ?_ | refine X.q9 ?_ | refine X.q0 ?_ | refine X.m1 ?_ | refine X.m2 ?_ | refine X.m3 ?_ | refine X.m4 ?_ | refine X.m5 ?_ | refine X.m6 ?_ | refine X.l11 ?_ | refine X.l1 ?_ | refine X.l2 ?_ | refine X.l3 ?_ | refine X.l4 ?_ | refine X.l5 ?_ | refine X.l10 ?_ | refine X.l6 ?_ | refine X.l7 ?_ | refine X.l8 ?_ | refine X.l9 ?_ | refine X.m7 ?_ | refine X.m8 ?_ | (refine X.s1 ?_; intro w hw) | (refine X.s2 ?_; intro w hw) | refine X.e1 ?_ | refine X.e2 ?_ | (simp only [X.df]) | (simp (disch := omega) only [wi]))
      have hpos : posR out x = j := pos_at out x j hj hlow (fun h => absurd h hjl)
      subst hpos
      have d3 : ((posR out x : Int) == (out.length : Int)) = true := by simp; omega
      refine Y.mix [0, 1, 2, 3, 4, 5, 6, 7, 8, 9, 10, 11, 12, 13, 14] [] [(8, .r), (12, .r)] [] (R := []) hw fun w K hw hF => ?_; have hz := hw
      repeat (first | refine Y.r1 ?_ | refine Y.r2 ?_ | refine Y.r4 ?_ | refine Y.rm1 ?_ | refine Y.rm2 ?_ | refine Y.rm3 ?_ | refine Y.rm4 ?_ | refine Y.rm5 ?_ | refine Y.rl11 ?_ | refine Y.rl1 ?_ | refine Y.rl2 ?_ | refine Y.rl3 ?_ | refine Y.rl5 ?_ | refine Y.rl6 ?_ | refine Y.ro11 ?_ | refine Y.ro1 ?_ | refine Y.ro2 ?_ | refine Y.ro3 ?_ | refine Y.ro5 ?_ | refine Y.ro6 ?_ | refine Y.rm8 ?_ | (refine Y.r3 ?_; intro w hw) | (refine Y.beg0 ?_) | refine Y.re1 ?_ | refine Y.re2 ?_ | (simp only [X.df, d3]) | (simp (disch := omega) only [wi]))
      repeat (first | refine X.p1 ?_ | refine X.p2 ?_ | refine X.p6 ?_ | refine X.p7 ?_ | refine X.p0 ?_ | refine X.p3 ?_ | refine X.p4 ?_ | refine X.p5 ?_ | refine X.p8 ?_ | refine X.p9 ?_ | refine X.q1 ?_ | refine X.q2 ?_ | refine X.q3 ?_ | refine X.q4 ?_ | refine X.q5 ?_ | refine X.q6 ?_ | refine X.q7 ?_ | refine X.q8 ?_ | refine X.q9 ?_ | refine X.q0 ?_ | refine X.m1 ?_ | refine X.m2 ?_ | refine X.m3 ?_ | refine X.m4 ?_ | refine X.m5 ?_ | refine X.m6 ?_ | refine X.l11 ?_ | refine X.l1 ?_ | refine X.l2 ?_ | refine X.l3 ?_ | refine X.l4 ?_ | refine X.l5 ?_ | refine X.l10 ?_ | refine X.l6 ?_ | refine X.l7 ?_ | refine X.l8 ?_ | refine X.l9 ?_ | refine X.m7 ?_ | refine X.m8 ?_ | (refine X.s1 ?_; intro w hw) | (refine X.s2 ?_; intro w hw) | refine X.e1 ?_ | refine X.e2 ?_ | (simp only [X.df]) | (simp (disch := omega) only [wi]))
      have hins : insR out x = out.take (posR out x) ++ [x] ++ out.drop (posR out x) := by
        unfold insR
        rw [if_pos (.inl (by omega))]
      have hpl := pos_le out x
      have htk := refsC_take ho (posR out x)
      have hdk := refsC_drop ho (posR out x) hpl
      have hw := St_more hw (A := B) (cs := refsC out) (A' := B) (cs' := refsC (out.take (posR out x))) (by (repeat (first | (with_reducible exact Pick.here) | (with_reducible exact Put.here) | (with_reducible apply Pick.there) | (with_reducible apply Put.there)))) (htk ▸ row_take (hw.pick (i := rowI B (refsC out)) (by (repeat (first | (with_reducible exact Pick.here) | (with_reducible exact Put.here) | (with_reducible apply Pick.there) | (with_reducible apply Put.there))))) _) (htk ▸ take_foot _)
      have hw := St_more hw (A := B) (cs := refsC out) (A' := sA B (posR out x) cap 33) (cs' := refsC (out.drop (posR out x))) (by (repeat (first | (with_reducible exact Pick.here) | (with_reducible exact Put.here) | (with_reducible apply Pick.there) | (with_reducible apply Put.there)))) (hdk ▸ sA_row (m := cap) (hw.pick (i := rowI B (refsC out)) (by (repeat (first | (with_reducible exact Pick.here) | (with_reducible exact Put.here) | (with_reducible apply Pick.there) | (with_reducible apply Put.there))))) (fun e => by rw [refsC_len ho]; have := Nat.mul_le_mul_right 33 (show out.length ≤ posR out x by omega); omega)) (hdk ▸ sA_foot)
      have hlt1 : (refsC (out.take (posR out x))).length = posR out x * 33 := by rw [refsC_len (fun y hy => ho y (List.mem_of_mem_take hy)), List.length_take]; congr 1; omega
      have hld1 : (refsC (out.drop (posR out x))).length = (out.length - posR out x) * 33 := by rw [refsC_len (fun y hy => ho y (List.mem_of_mem_drop hy)), List.length_drop]
      have hot := refsC_one (out.take (posR out x))
      have hod := refsC_one (out.drop (posR out x))
      refine Y.mix [1, 2, 3, 5, 6, 7, 8, 11, 12, 13] [0, 4, 9, 10, 14, 15] [(8, .o), (4, .n), (9, .f), (10, .n), (14, .n)] [(9, ⟨fun g => .slice (some ⟨g, 0, none⟩) 1 1, fun g => blkI g 93 (refC x)⟩)] (R := [g]) hw fun w K hw hF => ?_; have hz := hw
      repeat (first | refine Y.r1 ?_ | refine Y.r2 ?_ | refine Y.r4 ?_ | refine Y.rm1 ?_ | refine Y.rm2 ?_ | refine Y.rm3 ?_ | refine Y.rm4 ?_ | refine Y.rm5 ?_ | refine Y.rl11 ?_ | refine Y.rl1 ?_ | refine Y.rl2 ?_ | refine Y.rl3 ?_ | refine Y.rl5 ?_ | refine Y.rl6 ?_ | refine Y.ro11 ?_ | refine Y.ro1 ?_ | refine Y.ro2 ?_ | refine Y.ro3 ?_ | refine Y.ro5 ?_ | refine Y.ro6 ?_ | refine Y.rm8 ?_ | (refine Y.r3 ?_; intro w hw) | (refine Y.beg0 ?_) | refine Y.re1 ?_ | refine Y.re2 ?_ | (simp only [X.df]) | (simp (disch := omega) only [wi]))
      refine Y.nw_any rfl rfl rfl rfl rfl (fun w0 => ow_sliceSl tab (vlo := none) (vhi := some (.int .i64 (posR out x : Int))) (l := 0) (h := posR out x) rfl rfl rfl ⟨_, rfl, rfl⟩ rfl rfl rfl rfl (by omega) (by omega) (by omega) fin) (fun _ => ⟨_, rfl⟩) ?_
      rw [sA_zero, Nat.sub_zero, Nat.sub_zero]
      repeat (first | refine Y.r1 ?_ | refine Y.r2 ?_ | refine Y.r4 ?_ | refine Y.rm1 ?_ | refine Y.rm2 ?_ | refine Y.rm3 ?_ | refine Y.rm4 ?_ | refine Y.rm5 ?_ | refine Y.rl11 ?_ | refine Y.rl1 ?_ | refine Y.rl2 ?_ | refine Y.rl3 ?_ | refine Y.rl5 ?_ | refine Y.rl6 ?_ | refine Y.ro11 ?_ | refine Y.ro1 ?_ | refine Y.ro2 ?_ | refine Y.ro3 ?_ | refine Y.ro5 ?_ | refine Y.ro6 ?_ | refine Y.rm8 ?_ | (refine Y.r3 ?_; intro w hw) | (refine Y.beg0 ?_) | refine Y.re1 ?_ | refine Y.re2 ?_ | (simp only [X.df]) | (simp (disch := omega) only [wi]))
      refine Y.nw_readO rfl rfl rfl rfl rfl (fun w2 k2 => st_loadRA tab (rowS hz (cs := refsC l) (by (repeat (first | (with_reducible exact Pick.here) | (with_reducible exact Put.here) | (with_reducible apply Pick.there) | (with_reducible apply Put.there)))) k2 (fun h => h (by simp))) rfl .here rfl rfl rfl rfl hgx hxl fin) (fun _ => ⟨_, rfl⟩) ?_
      repeat (first | refine Y.r1 ?_ | refine Y.r2 ?_ | refine Y.r4 ?_ | refine Y.rm1 ?_ | refine Y.rm2 ?_ | refine Y.rm3 ?_ | refine Y.rm4 ?_ | refine Y.rm5 ?_ | refine Y.rl11 ?_ | refine Y.rl1 ?_ | refine Y.rl2 ?_ | refine Y.rl3 ?_ | refine Y.rl5 ?_ | refine Y.rl6 ?_ | refine Y.ro11 ?_ | refine Y.ro1 ?_ | refine Y.ro2 ?_ | refine Y.ro3 ?_ | refine Y.ro5 ?_ | refine Y.ro6 ?_ | refine Y.rm8 ?_ | (refine Y.r3 ?_; intro w hw) | (refine Y.beg0 ?_) | refine Y.re1 ?_ | refine Y.re2 ?_ | (simp only [X.df]) | (simp (disch := omega) only [wi]))
      refine Y.nw_any rfl rfl rfl rfl rfl (fun w0 => ow_sliceSl tab (vlo := some (.int .i64 (posR out x : Int))) (vhi := none) (l := posR out x) (h := out.length) rfl rfl ⟨_, rfl, rfl⟩ rfl rfl rfl rfl rfl (by omega) (by omega) (by omega) fin) (fun _ => ⟨_, rfl⟩) ?_
      repeat (first | refine Y.r1 ?_ | refine Y.r2 ?_ | refine Y.r4 ?_ | refine Y.rm1 ?_ | refine Y.rm2 ?_ | refine Y.rm3 ?_ | refine Y.rm4 ?_ | refine Y.rm5 ?_ | refine Y.rl11 ?_ | refine Y.rl1 ?_ | refine Y.rl2 ?_ | refine Y.rl3 ?_ | refine Y.rl5 ?_ | refine Y.rl6 ?_ | refine Y.ro11 ?_ | refine Y.ro1 ?_ | refine Y.ro2 ?_ | refine Y.ro3 ?_ | refine Y.ro5 ?_ | refine Y.ro6 ?_ | refine Y.rm8 ?_ | (refine Y.r3 ?_; intro w hw) | (refine Y.beg0 ?_) | refine Y.re1 ?_ | refine Y.re2 ?_ | (simp only [X.df]) | (simp (disch := omega) only [wi]))
      refine Y.beg (fun a ha => ⟨⟨_, rfl, fr_slice rfl ha rfl Try.underlying123 (oneR x hxo)⟩, trivial⟩) ?_
      repeat (first | refine Y.r1 ?_ | refine Y.r2 ?_ | refine Y.r4 ?_ | refine Y.rm1 ?_ | refine Y.rm2 ?_ | refine Y.rm3 ?_ | refine Y.rm4 ?_ | refine Y.rm5 ?_ | refine Y.rl11 ?_ | refine Y.rl1 ?_ | refine Y.rl2 ?_ | refine Y.rl3 ?_ | refine Y.rl5 ?_ | refine Y.rl6 ?_ | refine Y.ro11 ?_ | refine Y.ro1 ?_ | refine Y.ro2 ?_ | refine Y.ro3 ?_ | refine Y.ro5 ?_ | refine Y.ro6 ?_ | refine Y.rm8 ?_ | (refine Y.r3 ?_; intro w hw) | (refine Y.beg0 ?_) | refine Y.re1 ?_ | refine Y.re2 ?_ | (simp only [X.df]) | (simp (disch := omega) only [wi]))
      refine Y.act hw fun w hw0 hw => ?_; refine X.c0 ?_; intro v w kk hw; refine Y.midA hw0 hF hw kk fun K hw hF => ?_
      repeat (first | refine Y.r1 ?_ | refine Y.r2 ?_ | refine Y.r4 ?_ | refine Y.rm1 ?_ | refine Y.rm2 ?_ | refine Y.rm3 ?_ | refine Y.rm4 ?_ | refine Y.rm5 ?_ | refine Y.rl11 ?_ | refine Y.rl1 ?_ | refine Y.rl2 ?_ | refine Y.rl3 ?_ | refine Y.rl5 ?_ | refine Y.rl6 ?_ | refine Y.ro11 ?_ | refine Y.ro1 ?_ | refine Y.ro2 ?_ | refine Y.ro3 ?_ | refine Y.ro5 ?_ | refine Y.ro6 ?_ | refine Y.rm8 ?_ | (refine Y.r3 ?_; intro w hw) | (refine Y.beg0 ?_) | refine Y.re1 ?_ | refine Y.re2 ?_ | (simp only [X.df]) | (simp (disch := omega) only [wi]))
      refine Y.act hw fun w hw0 hw => ?_; refine X.a2 (news := refsC (out.take (posR out x))) ?_; intro v2 w hw
      refine midR hw0 hF hw (fun g' hg' => ?_) fun K hw hF => ?_
      · have hg2 : g' = g := List.mem_singleton.1 (Classical.not_not.1 hg')
        rw [hg2]; exact row_same hw0 hw (cs := refsC l) (by (repeat (first | (with_reducible exact Pick.here) | (with_reducible exact Put.here) | (with_reducible apply Pick.there) | (with_reducible apply Put.there)))) hne
      repeat (first | refine Y.r1 ?_ | refine Y.r2 ?_ | refine Y.r4 ?_ | refine Y.rm1 ?_ | refine Y.rm2 ?_ | refine Y.rm3 ?_ | refine Y.rm4 ?_ | refine Y.rm5 ?_ | refine Y.rl11 ?_ | refine Y.rl1 ?_ | refine Y.rl2 ?_ | refine Y.rl3 ?_ | refine Y.rl5 ?_ | refine Y.rl6 ?_ | refine Y.ro11 ?_ | refine Y.ro1 ?_ | refine Y.ro2 ?_ | refine Y.ro3 ?_ | refine Y.ro5 ?_ | refine Y.ro6 ?_ | refine Y.rm8 ?_ | (refine Y.r3 ?_; intro w hw) | (refine Y.beg0 ?_) | refine Y.re1 ?_ | refine Y.re2 ?_ | (simp only [X.df]) | (simp (disch := omega) only [wi]))
      refine Y.new hw hF fun g5 w K hw hF => ?_
      repeat (first | refine Y.r1 ?_ | refine Y.r2 ?_ | refine Y.r4 ?_ | refine Y.rm1 ?_ | refine Y.rm2 ?_ | refine Y.rm3 ?_ | refine Y.rm4 ?_ | refine Y.rm5 ?_ | refine Y.rl11 ?_ | refine Y.rl1 ?_ | refine Y.rl2 ?_ | refine Y.rl3 ?_ | refine Y.rl5 ?_ | refine Y.rl6 ?_ | refine Y.ro11 ?_ | refine Y.ro1 ?_ | refine Y.ro2 ?_ | refine Y.ro3 ?_ | refine Y.ro5 ?_ | refine Y.ro6 ?_ | refine Y.rm8 ?_ | (refine Y.r3 ?_; intro w hw) | (refine Y.beg0 ?_) | refine Y.re1 ?_ | refine Y.re2 ?_ | (simp only [X.df]) | (simp (disch := omega) only [wi]))
      refine Y.act hw fun w hw0 hw => ?_; refine X.a1 ?_; intro v3 w hw
      refine midR hw0 hF hw (fun g' hg' => ?_) fun K hw hF => ?_
      · have hg2 : g' = g := List.mem_singleton.1 (Classical.not_not.1 hg')
        rw [hg2]; exact row_same hw0 hw (cs := refsC l) (by (repeat (first | (with_reducible exact Pick.here) | (with_reducible exact Put.here) | (with_reducible apply Pick.there) | (with_reducible apply Put.there)))) hne
      repeat (first | refine Y.r1 ?_ | refine Y.r2 ?_ | refine Y.r4 ?_ | refine Y.rm1 ?_ | refine Y.rm2 ?_ | refine Y.rm3 ?_ | refine Y.rm4 ?_ | refine Y.rm5 ?_ | refine Y.rl11 ?_ | refine Y.rl1 ?_ | refine Y.rl2 ?_ | refine Y.rl3 ?_ | refine Y.rl5 ?_ | refine Y.rl6 ?_ | refine Y.ro11 ?_ | refine Y.ro1 ?_ | refine Y.ro2 ?_ | refine Y.ro3 ?_ | refine Y.ro5 ?_ | refine Y.ro6 ?_ | refine Y.rm8 ?_ | (refine Y.r3 ?_; intro w hw) | (refine Y.beg0 ?_) | refine Y.re1 ?_ | refine Y.re2 ?_ | (simp only [X.df]) | (simp (disch := omega) only [wi]))
      refine Y.act hw fun w hw0 hw => ?_; refine X.a2 (news := refsC (out.drop (posR out x))) ?_; intro v4 w hw
      refine midR hw0 hF hw (fun g' hg' => ?_) fun K hw hF => ?_
      · have hg2 : g' = g := List.mem_singleton.1 (Classical.not_not.1 hg')
        rw [hg2]; exact row_same hw0 hw (cs := refsC l) (by (repeat (first | (with_reducible exact Pick.here) | (with_reducible exact Put.here) | (with_reducible apply Pick.there) | (with_reducible apply Put.there)))) hne
      repeat (first | refine Y.r1 ?_ | refine Y.r2 ?_ | refine Y.r4 ?_ | refine Y.rm1 ?_ | refine Y.rm2 ?_ | refine Y.rm3 ?_ | refine Y.rm4 ?_ | refine Y.rm5 ?_ | refine Y.rl11 ?_ | refine Y.rl1 ?_ | refine Y.rl2 ?_ | refine Y.rl3 ?_ | refine Y.rl5 ?_ | refine Y.rl6 ?_ | refine Y.ro11 ?_ | refine Y.ro1 ?_ | refine Y.ro2 ?_ | refine Y.ro3 ?_ | refine Y.ro5 ?_ | refine Y.ro6 ?_ | refine Y.rm8 ?_ | (refine Y.r3 ?_; intro w hw) | (refine Y.beg0 ?_) | refine Y.re1 ?_ | refine Y.re2 ?_ | (simp only [X.df]) | (simp (disch := omega) only [wi]))
      repeat (first | refine X.p1 ?_ | refine X.p2 ?_ | refine X.p6 ?_ | refine X.p7 ?_ | refine X.p0 ?_ | refine X.p3 ?_ | refine X.p4 ?_ | refine X.p5 ?_ | refine X.p8 ?_ | refine X.p9 ?_ | refine X.q1 ?_ | refine X.q2 ?_ | refine X.q3 ?_ | refine X.q4 ?_ | refine X.q5 ?_ | refine X.q6 ?_ | refine X.q7 ?_ | refine X.q8 ?_ | refine X.q9 ?_ | refine X.q0 ?_ | refine X.m1 ?_ | refine X.m2 ?_ | refine X.m3 ?_ | refine X.m4 ?_ | refine X.m5 ?_ | refine X.m6 ?_ | refine X.l11 ?_ | refine X.l1 ?_ | refine X.l2 ?_ | refine X.l3 ?_ | refine X.l4 ?_ | refine X.l5 ?_ | refine X.l10 ?_ | refine X.l6 ?_ | refine X.l7 ?_ | refine X.l8 ?_ | refine X.l9 ?_ | refine X.m7 ?_ | refine X.m8 ?_ | (refine X.s1 ?_; intro w hw) | (refine X.s2 ?_; intro w hw) | refine X.e1 ?_ | refine X.e2 ?_ | (simp only [X.df]) | (simp (disch := omega) only [wi]))
      obtain ⟨B2, c2, hv4, hc2⟩ := vec_cap hw (v := v4) (by (repeat (first | (with_reducible exact Pick.here) | (with_reducible exact Put.here) | (with_reducible apply Pick.there) | (with_reducible apply Put.there))))
      subst hv4
      have hw := hw.frz (A := B2) (by repeat (first | exact Put.here | apply Put.there))
      have hlen : 0 + posR out x + 1 + (out.length - posR out x) = (unR (l.take (i + 1))).length := by rw [hun, hins]; simp; omega
      have hcs : [] ++ refsC (out.take (posR out x)) ++ refC x ++ refsC (out.drop (posR out x)) = refsC (unR (l.take (i + 1))) := by rw [hun, hins]; simp [refsC]
      rw [hlen] at hc2 ⊢
      rw [hcs] at hw
      exact X.again (i + 1, B2, c2) ⟨by simp only; omega, hc2, hw.sub (by (repeat (first | (with_reducible exact Split.nil) | ((with_reducible apply Split.cons); (next => (repeat (first | (with_reducible exact Pick.here) | (with_reducible exact Put.here) | (with_reducible apply Pick.there) | (with_reducible apply Put.there))))))))⟩ (by simp only; omega)
  · obtain rfl : i = l.length := by omega
    rw [List.take_length] at hw hcap ⊢
    repeat (first | refine X.p1 ?_ | refine X.p2 ?_ | refine X.p6 ?_ | refine X.p7 ?_ | refine X.p0 ?_ | refine X.p3 ?_ | refine X.p4 ?_ | refine X.p5 ?_ | refine X.p8 ?_ | refine X.p9 ?_ | refine X.q1 ?_ | refine X.q2 ?_ | refine X.q3 ?_ | refine X.q4 ?_ | refine X.q5 ?_ | refine X.q6 ?_ | refine X.q7 ?_ | refine X.q8 ?_ | refine X.q9 ?_ | refine X.q0 ?_ | refine X.m1 ?_ | refine X.m2 ?_ | refine X.m3 ?_ | refine X.m4 ?_ | refine X.m5 ?_ | refine X.m6 ?_ | refine X.l11 ?_ | refine X.l1 ?_ | refine X.l2 ?_ | refine X.l3 ?_ | refine X.l4 ?_ | refine X.l5 ?_ | refine X.l10 ?_ | refine X.l6 ?_ | refine X.l7 ?_ | refine X.l8 ?_ | refine X.l9 ?_ | refine X.m7 ?_ | refine X.m8 ?_ | (refine X.s1 ?_; intro w hw) | (refine X.s2 ?_; intro w hw) | refine X.e1 ?_ | refine X.e2 ?_ | (simp only [X.df]) | (simp (disch := omega) only [wi]))
    exact xw_ret (vs := [_]) Try.results67 ⟨rfl, trivial⟩ ⟨B, cap, rfl, hw.pick (i := rowI B (refsC (unR l))) (by (repeat (first | (with_reducible exact Pick.here) | (with_reducible exact Put.here) | (with_reducible apply Pick.there) | (with_reducible apply Put.there)))), hw.kpNo hro⟩
end Go.Proofs.Ytbfpgigbakhplaa.Ord
