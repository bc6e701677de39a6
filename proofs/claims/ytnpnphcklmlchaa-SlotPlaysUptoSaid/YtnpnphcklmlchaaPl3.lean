/- How a register stands. -/
import Derived.Test.YtnpnphcklmlchaaPl2
set_option linter.unusedVariables false
set_option linter.unusedSimpArgs false
namespace Go.Proofs.Ytnpnphcklmlchaa.Pl
open Go.RowKit Go.Proofs.Ytnpnphcklmlchaa.Sx Go.Proofs.Ytnpnphcklmlchaa.Mx Go.Proofs.Ytnpnphcklmlchaa.Bw Go.Proofs.Ytnpnphcklmlchaa.By Go.Proofs.Ytnpnphcklmlchaa.Eqs Go.Proofs.Ytnpnphcklmlchaa.Qx Go.Proofs.Ytnpnphcklmlchaa.Ap Go.Proofs.Ytnpnphcklmlchaa.Mi Go.Proofs.Ytnpnphcklmlchaa.Stm Go.Proofs.Ytnpnphcklmlchaa.Fl Go.Proofs.Ytnpnphcklmlchaa.Mp Go.Proofs.Ytnpnphcklmlchaa.Mf Go.Proofs.Ytnpnphcklmlchaa.Dp Go.Proofs.Ytnpnphcklmlchaa.Dsk Go.Proofs.Ytnpnphcklmlchaa.Nd Go.Proofs.Ytnpnphcklmlchaa.Bd Go.Proofs.Ytnpnphcklmlchaa.Wd Go.Proofs.Ytnpnphcklmlchaa.Num Go.Proofs.Ytnpnphcklmlchaa.Slt Go.Maps
theorem splice_pre (xs rest vs : List Value) (o : Nat) (h : o + vs.length ≤ xs.length) : splice (xs ++ rest) o vs = splice xs o vs ++ rest := by
  unfold splice
  rw [List.take_append_of_le_length (by omega), List.drop_append_of_le_length h]
  simp only [List.append_assoc]
theorem splice_len' (xs vs : List Value) (o : Nat) (h : o + vs.length ≤ xs.length) : (splice xs o vs).length = xs.length := by
  unfold splice; simp only [List.length_append, List.length_take, List.length_drop]; omega
section rules
variable {P : Program} {n : Nat} {Q : Exit → Act → World → Prop} {L : Ctx} {w w0 : World} {M0 M M' : List Stm.Item} {ops : Array Oper} {rest : List Oper} {d : Nat} {ty : TypeId} {pos : String} {af : Array Edge}
/-- A store into a slice of one's own. -/
theorem st_storeV (T : Tab P) {t e : TypeId} {x y : Operand} {g o k sz m c : Nat} {v : Value} {xs vs : List Value} (hw : St w0 M0 M w) (hx : ev L x = some (.pointer (some ⟨g, o, none⟩))) (hy : ev L y = some v) (hv : v.cells = vs.toArray)
    (hp : Put (vecI (.slice (some ⟨g, 0, none⟩) m c) e sz m xs) (vecI (.slice (some ⟨g, 0, none⟩) m c) e sz m (splice xs o vs)) M M') (hs : T.sz t = some k) (hl : vs.length = k) (hk : o + k ≤ xs.length) (h1 : oneCells vs = true)
    (h : ∀ w', St w0 M0 M' w' → Ow P n ops Q rest L w') : Ow P n ops Q (⟨none, .store t x y, ty, pos, af, none⟩ :: rest) L w := by
  have hO : Own w 0 e sz (.slice (some ⟨g, 0, none⟩) m c) m xs := hw.pre.all _ hp.pick
  have hlen := hO.1
  rcases hO.2 with ⟨h2, _⟩ | ⟨g', cap, cur, h2, _, hb, h3, h4, h5, h6⟩
  · cases h2
  · cases h2
    have hx' : cur.toList = xs ++ cur.toList.drop (m * sz) := by rw [← h6, List.take_append_drop]
    have hb' : Blk w g e cur.toList := hb
    have hlc : o + k ≤ cur.toList.length := by rw [hx', List.length_append]; omega
    refine ow_storeT T hb' hx hy hv hs hl hlc h1 (fun w' k' b' _ => h w' (hw.turn hp rfl (k'.mono (fun j hj => ?_)) ?_ (fun j hj => .inl hj)))
    · rw [show j = g from hj]; rfl
    · refine ⟨by rw [splice_len' _ _ _ (by omega)]; exact hlen, .inr ⟨g, c, (splice cur.toList o vs).toArray, rfl, Nat.zero_le _, b', h3, h4, ?_, ?_⟩⟩
      · rw [List.size_toArray, splice_len' _ _ _ (by omega), Array.length_toList]; exact h5
      · show List.take (m * sz) (splice cur.toList o vs) = _
        rw [hx', splice_pre _ _ _ _ (by omega), List.take_append_of_le_length (by rw [splice_len' _ _ _ (by omega)]; omega)]
        exact List.take_of_length_le (by rw [splice_len' _ _ _ (by omega)]; omega)
theorem vrow {A : Option Addr} {e : TypeId} {sz m c : Nat} {xs : List Value} (hw : St w0 M0 M w) (hp : Pick (vecI (.slice A m c) e sz m xs) M M') : Row w A xs := by
  obtain ⟨A', c', h1, h2⟩ := hw.vecRow hp
  cases h1
  exact h2
theorem vec_some {v : Value} {e : TypeId} {sz k : Nat} {cs : List Value} (hw : St w0 M0 M w) (hp : Pick (vecI v e sz k cs) M M') (hk : cs ≠ []) : ∃ g c, v = .slice (some ⟨g, 0, none⟩) k c := by
  have hO : Own w 0 e sz v k cs := hw.pick hp
  rcases hO.2 with ⟨_, rfl⟩ | ⟨g, cap, cur, rfl, _⟩
  · exact absurd (List.eq_nil_of_length_eq_zero (by rw [hO.1, Nat.zero_mul])) hk
  · exact ⟨g, cap, rfl⟩
end rules
/-- The first are zeroed. -/
def zW (ws : List Sl) (i : Nat) : List Sl := List.replicate i noSl ++ ws.drop i
theorem zW_len (ws : List Sl) (i : Nat) (h : i ≤ ws.length) : (zW ws i).length = ws.length := by simp [zW]; omega
theorem zW_ok {ws : List Sl} (h : OkW ws) (i : Nat) : OkW (zW ws i) := fun s hs => by
  rcases List.mem_append.1 hs with h1 | h1
  · rw [(List.mem_replicate.1 h1).2]; exact noSl_ok
  · exact h s (List.mem_of_mem_drop h1)
theorem zW_get (ws : List Sl) (i : Nat) (h : i < ws.length) : (zW ws i)[i]? = some ws[i] := by
  unfold zW
  rw [List.getElem?_append_right (by simp), List.length_replicate, Nat.sub_self, List.drop_eq_getElem_cons h]; rfl
theorem zW_set {ws : List Sl} (ho : OkW ws) (i : Nat) (h : i < ws.length) : splice (wsC (zW ws i)) (0 + (i : Int).toNat * 34) (slC noSl) = wsC (zW ws (i + 1)) := by
  have hl : (wsC (List.replicate i noSl)).length = 0 + (i : Int).toNat * 34 := by
    rw [wsC_len (fun s hs => by rw [(List.mem_replicate.1 hs).2]; exact noSl_ok), List.length_replicate]; omega
  have e1 : wsC (zW ws i) = wsC (List.replicate i noSl) ++ (slC ws[i] ++ wsC (ws.drop (i + 1))) := by
    unfold zW; rw [List.drop_eq_getElem_cons h]; simp only [wsC, List.flatMap_append, List.flatMap_cons]
  have e2 : wsC (zW ws (i + 1)) = wsC (List.replicate i noSl) ++ (slC noSl ++ wsC (ws.drop (i + 1))) := by
    unfold zW; rw [List.replicate_succ']; simp only [wsC, List.flatMap_append, List.flatMap_cons, List.flatMap_nil, List.append_nil, List.append_assoc]
  rw [e1, e2, ← hl]
  exact splice_mid _ _ _ _ (by rw [slC_len (ho _ (List.getElem_mem h)), slC_len noSl_ok])
theorem wsC_ne {ws : List Sl} (h : OkW ws) {i : Nat} (hi : i < ws.length) : wsC ws ≠ [] := fun e => by
  have := wsC_len h; rw [e] at this; simp at this; omega
attribute [local irreducible] Ow Cw Xw Mw
set_option maxHeartbeats 4000000
theorem sl0B : Try.prog.built 107 [] = some (slC noSl).toArray := by kernel_rfl
def bigS : Sl := (BitVec.ofNat 64 1152921504606846976, (1, zb 32))
theorem bigB : Try.prog.built 107 [(0, .int .u64 1152921504606846976), (1, .agg (refC (1, zb 32)).toArray)] = some (slC bigS).toArray := slB (BitVec.ofNat 64 1152921504606846976) (1, zb 32) (by show (zb 32).length = 32; exact List.length_replicate ..)
theorem bigB1 : Try.prog.built 105 [(0, .int .u32 1)] = some (refC (1, zb 32)).toArray := by kernel_rfl
theorem stands_calls (gr : Nat) (R : Rg) (ho : OkL R.now) (hok : OkW R.ws) (hlen : R.ws.length ≤ 1048576) (hcnt : ∀ s ∈ R.ws, s.1.toNat ≤ 1048576) (hwas : R.was = wasOf R.ws) (A : Option Addr) (c : Nat) (w0 : World) (h : Pre (rgI gr R) w0) (hr : Row w0 A (wsC R.ws)) :
    Does Try.prog 73 [.pointer (some ⟨gr, 0, none⟩), mV R.now (.slice A R.ws.length c), .bool R.D.dead] w0 fun v w' => v = .bool true ∧ Kp No w0 w' := by
  have hw := St.start (w := w0) .nil
  obtain ⟨D6, h6a, h6⟩ := eqSlot6
  obtain ⟨D1, h1a, h1⟩ := eqSlot
  have e36 := rg36 R ho
  have hml := mC_len ho (.slice A R.ws.length c)
  have e34 := mNth R.now ho (.slice A R.ws.length c)
  have hnl := slC_len ho
  have hno := slC_one R.now
  have hn0 := noSlB
  have bigOk : OkL bigS := by show (zb 32).length = 32; exact List.length_replicate ..
  have hbig : decide (bigS ∈ R.ws) = false := decide_eq_false (fun hm => by
    have := hcnt _ hm
    rw [show bigS.1.toNat = 1152921504606846976 from rfl] at this
    omega)
  refine fn_enter Try.func73 rfl Try.ntmps73 rfl ?_
  repeat (first | refine X.p1 ?_ | refine X.p2 ?_ | refine X.p6 ?_ | refine X.p7 ?_ | refine X.p0 ?_ | refine X.p3 ?_ | refine X.p4 ?_ | refine X.p5 ?_ | refine X.p8 ?_ | refine X.p9 ?_ | refine X.q1 ?_ | refine X.q2 ?_ | refine X.q3 ?_ | refine X.q4 ?_ | refine X.q5 ?_ | refine X.q6 ?_ | refine X.q7 ?_ | refine X.q8 ?_ | refine X.q9 ?_ | refine X.q0 ?_ | refine X.m1 ?_ | refine X.m2 ?_ | refine X.m3 ?_ | refine X.m4 ?_ | refine X.m5 ?_ | refine X.m6 ?_ | refine X.l11 ?_ | refine X.l1 ?_ | refine X.l2 ?_ | refine X.l3 ?_ | refine X.l4 ?_ | refine X.l5 ?_ | refine X.l10 ?_ | refine X.l6 ?_ | refine X.l7 ?_ | refine X.l8 ?_ | refine X.l9 ?_ | refine X.m7 ?_ | refine X.m8 ?_ | (refine X.s1 ?_; intro w hw) | (refine X.s2 ?_; intro w hw) | refine X.e1 ?_ | refine X.e2 ?_ | (simp only [X.df]) | (simp (disch := omega) only [wi]))
  (first | refine X.nb ?_ | refine X.na ?_); intro g4 w _ hw
  repeat (first | refine X.p1 ?_ | refine X.p2 ?_ | refine X.p6 ?_ | refine X.p7 ?_ | refine X.p0 ?_ | refine X.p3 ?_ | refine X.p4 ?_ | refine X.p5 ?_ | refine X.p8 ?_ | refine X.p9 ?_ | refine X.q1 ?_ | refine X.q2 ?_ | refine X.q3 ?_ | refine X.q4 ?_ | refine X.q5 ?_ | refine X.q6 ?_ | refine X.q7 ?_ | refine X.q8 ?_ | refine X.q9 ?_ | refine X.q0 ?_ | refine X.m1 ?_ | refine X.m2 ?_ | refine X.m3 ?_ | refine X.m4 ?_ | refine X.m5 ?_ | refine X.m6 ?_ | refine X.l11 ?_ | refine X.l1 ?_ | refine X.l2 ?_ | refine X.l3 ?_ | refine X.l4 ?_ | refine X.l5 ?_ | refine X.l10 ?_ | refine X.l6 ?_ | refine X.l7 ?_ | refine X.l8 ?_ | refine X.l9 ?_ | refine X.m7 ?_ | refine X.m8 ?_ | (refine X.s1 ?_; intro w hw) | (refine X.s2 ?_; intro w hw) | refine X.e1 ?_ | refine X.e2 ?_ | (simp only [X.df]) | (simp (disch := omega) only [wi]))
  refine X.callN rfl rfl Try.func56 (read_calls gr R ho w (h.no (hw.kpNo ro_nil))) fun w _ hw => ?_
  cases hd : R.D.dead with
  | true =>
    have hrd : rdV R = .tuple #[slV noSl, i64v 4] := by simp [rdV, hd]
    rw [hrd]
    repeat (first | refine X.p1 ?_ | refine X.p2 ?_ | refine X.p6 ?_ | refine X.p7 ?_ | refine X.p0 ?_ | refine X.p3 ?_ | refine X.p4 ?_ | refine X.p5 ?_ | refine X.p8 ?_ | refine X.p9 ?_ | refine X.q1 ?_ | refine X.q2 ?_ | refine X.q3 ?_ | refine X.q4 ?_ | refine X.q5 ?_ | refine X.q6 ?_ | refine X.q7 ?_ | refine X.q8 ?_ | refine X.q9 ?_ | refine X.q0 ?_ | refine X.m1 ?_ | refine X.m2 ?_ | refine X.m3 ?_ | refine X.m4 ?_ | refine X.m5 ?_ | refine X.m6 ?_ | refine X.l11 ?_ | refine X.l1 ?_ | refine X.l2 ?_ | refine X.l3 ?_ | refine X.l4 ?_ | refine X.l5 ?_ | refine X.l10 ?_ | refine X.l6 ?_ | refine X.l7 ?_ | refine X.l8 ?_ | refine X.l9 ?_ | refine X.m7 ?_ | refine X.m8 ?_ | (refine X.s1 ?_; intro w hw) | (refine X.s2 ?_; intro w hw) | refine X.e1 ?_ | refine X.e2 ?_ | (simp only [X.df]) | (simp (disch := omega) only [wi]))
    (first | refine X.nb ?_ | refine X.na ?_); intro g7 w _ hw
    repeat (first | refine X.p1 ?_ | refine X.p2 ?_ | refine X.p6 ?_ | refine X.p7 ?_ | refine X.p0 ?_ | refine X.p3 ?_ | refine X.p4 ?_ | refine X.p5 ?_ | refine X.p8 ?_ | refine X.p9 ?_ | refine X.q1 ?_ | refine X.q2 ?_ | refine X.q3 ?_ | refine X.q4 ?_ | refine X.q5 ?_ | refine X.q6 ?_ | refine X.q7 ?_ | refine X.q8 ?_ | refine X.q9 ?_ | refine X.q0 ?_ | refine X.m1 ?_ | refine X.m2 ?_ | refine X.m3 ?_ | refine X.m4 ?_ | refine X.m5 ?_ | refine X.m6 ?_ | refine X.l11 ?_ | refine X.l1 ?_ | refine X.l2 ?_ | refine X.l3 ?_ | refine X.l4 ?_ | refine X.l5 ?_ | refine X.l10 ?_ | refine X.l6 ?_ | refine X.l7 ?_ | refine X.l8 ?_ | refine X.l9 ?_ | refine X.m7 ?_ | refine X.m8 ?_ | (refine X.s1 ?_; intro w hw) | (refine X.s2 ?_; intro w hw) | refine X.e1 ?_ | refine X.e2 ?_ | (simp only [X.df]) | (simp (disch := omega) only [wi]))
    refine ow_neA h1 (a := noSl) (b := noSl) rfl h1a (by kernel_rfl) noSl_ok noSl_ok rfl rfl rfl ?_
    rw [decide_eq_true (rfl : noSl = noSl)]
    repeat (first | refine X.p1 ?_ | refine X.p2 ?_ | refine X.p6 ?_ | refine X.p7 ?_ | refine X.p0 ?_ | refine X.p3 ?_ | refine X.p4 ?_ | refine X.p5 ?_ | refine X.p8 ?_ | refine X.p9 ?_ | refine X.q1 ?_ | refine X.q2 ?_ | refine X.q3 ?_ | refine X.q4 ?_ | refine X.q5 ?_ | refine X.q6 ?_ | refine X.q7 ?_ | refine X.q8 ?_ | refine X.q9 ?_ | refine X.q0 ?_ | refine X.m1 ?_ | refine X.m2 ?_ | refine X.m3 ?_ | refine X.m4 ?_ | refine X.m5 ?_ | refine X.m6 ?_ | refine X.l11 ?_ | refine X.l1 ?_ | refine X.l2 ?_ | refine X.l3 ?_ | refine X.l4 ?_ | refine X.l5 ?_ | refine X.l10 ?_ | refine X.l6 ?_ | refine X.l7 ?_ | refine X.l8 ?_ | refine X.l9 ?_ | refine X.m7 ?_ | refine X.m8 ?_ | (refine X.s1 ?_; intro w hw) | (refine X.s2 ?_; intro w hw) | refine X.e1 ?_ | refine X.e2 ?_ | (simp only [X.df]) | (simp (disch := omega) only [wi]))
    refine X.call rfl rfl Try.func58 (written_calls gr R ho hok (by omega) w (h.no (hw.kpNo ro_nil))) ?_
    rintro u w hh
    have hw := hw.call .nil hh
    simp only [List.cons_append, List.nil_append] at hw
    obtain ⟨A9, c9, hu⟩ := vec_slice hw (v := u) (by (repeat (first | (with_reducible exact Pick.here) | (with_reducible exact Put.here) | (with_reducible apply Pick.there) | (with_reducible apply Put.there))))
    subst hu
    repeat (first | refine X.p1 ?_ | refine X.p2 ?_ | refine X.p6 ?_ | refine X.p7 ?_ | refine X.p0 ?_ | refine X.p3 ?_ | refine X.p4 ?_ | refine X.p5 ?_ | refine X.p8 ?_ | refine X.p9 ?_ | refine X.q1 ?_ | refine X.q2 ?_ | refine X.q3 ?_ | refine X.q4 ?_ | refine X.q5 ?_ | refine X.q6 ?_ | refine X.q7 ?_ | refine X.q8 ?_ | refine X.q9 ?_ | refine X.q0 ?_ | refine X.m1 ?_ | refine X.m2 ?_ | refine X.m3 ?_ | refine X.m4 ?_ | refine X.m5 ?_ | refine X.m6 ?_ | refine X.l11 ?_ | refine X.l1 ?_ | refine X.l2 ?_ | refine X.l3 ?_ | refine X.l4 ?_ | refine X.l5 ?_ | refine X.l10 ?_ | refine X.l6 ?_ | refine X.l7 ?_ | refine X.l8 ?_ | refine X.l9 ?_ | refine X.m7 ?_ | refine X.m8 ?_ | (refine X.s1 ?_; intro w hw) | (refine X.s2 ?_; intro w hw) | refine X.e1 ?_ | refine X.e2 ?_ | (simp only [X.df]) | (simp (disch := omega) only [wi]))
    refine X.callN rfl rfl Try.func60 (swings_calls gr R ho w (h.no (hw.kpNo ro_nil))) fun w _ hw => ?_
    repeat (first | refine X.p1 ?_ | refine X.p2 ?_ | refine X.p6 ?_ | refine X.p7 ?_ | refine X.p0 ?_ | refine X.p3 ?_ | refine X.p4 ?_ | refine X.p5 ?_ | refine X.p8 ?_ | refine X.p9 ?_ | refine X.q1 ?_ | refine X.q2 ?_ | refine X.q3 ?_ | refine X.q4 ?_ | refine X.q5 ?_ | refine X.q6 ?_ | refine X.q7 ?_ | refine X.q8 ?_ | refine X.q9 ?_ | refine X.q0 ?_ | refine X.m1 ?_ | refine X.m2 ?_ | refine X.m3 ?_ | refine X.m4 ?_ | refine X.m5 ?_ | refine X.m6 ?_ | refine X.l11 ?_ | refine X.l1 ?_ | refine X.l2 ?_ | refine X.l3 ?_ | refine X.l4 ?_ | refine X.l5 ?_ | refine X.l10 ?_ | refine X.l6 ?_ | refine X.l7 ?_ | refine X.l8 ?_ | refine X.l9 ?_ | refine X.m7 ?_ | refine X.m8 ?_ | (refine X.s1 ?_; intro w hw) | (refine X.s2 ?_; intro w hw) | refine X.e1 ?_ | refine X.e2 ?_ | (simp only [X.df]) | (simp (disch := omega) only [wi]))
    have hw : St w0 [] [vecI (.slice A9 R.ws.length c9) 107 34 R.ws.length (wsC R.ws), blkI g4 139 (mC R.now (.slice A R.ws.length c))] w := hw.sub (by (repeat (first | (with_reducible exact Split.nil) | ((with_reducible apply Split.cons); (next => (repeat (first | (with_reducible exact Pick.here) | (with_reducible exact Put.here) | (with_reducible apply Pick.there) | (with_reducible apply Put.there))))))))
    refine X.loop (fun i : Nat => [(0, .pointer (some ⟨gr, 0, none⟩)), (4, .pointer (some ⟨g4, 0, none⟩)), (9, .slice A9 R.ws.length c9), (49, .int .i64 (R.ws.length : Int)), (50, .int .i64 (i : Int))])
      (fun i w' => i ≤ R.ws.length ∧ St w0 [] [vecI (.slice A9 R.ws.length c9) 107 34 R.ws.length (wsC (zW R.ws i)), blkI g4 139 (mC R.now (.slice A R.ws.length c))] w') (fun i => R.ws.length - i) 0 ⟨Nat.zero_le _, by rw [show zW R.ws 0 = R.ws from rfl]; exact hw⟩ ?_
    clear hw
    rintro i w ⟨hi, hw⟩
    repeat (first | refine X.p1 ?_ | refine X.p2 ?_ | refine X.p6 ?_ | refine X.p7 ?_ | refine X.p0 ?_ | refine X.p3 ?_ | refine X.p4 ?_ | refine X.p5 ?_ | refine X.p8 ?_ | refine X.p9 ?_ | refine X.q1 ?_ | refine X.q2 ?_ | refine X.q3 ?_ | refine X.q4 ?_ | refine X.q5 ?_ | refine X.q6 ?_ | refine X.q7 ?_ | refine X.q8 ?_ | refine X.q9 ?_ | refine X.q0 ?_ | refine X.m1 ?_ | refine X.m2 ?_ | refine X.m3 ?_ | refine X.m4 ?_ | refine X.m5 ?_ | refine X.m6 ?_ | refine X.l11 ?_ | refine X.l1 ?_ | refine X.l2 ?_ | refine X.l3 ?_ | refine X.l4 ?_ | refine X.l5 ?_ | refine X.l10 ?_ | refine X.l6 ?_ | refine X.l7 ?_ | refine X.l8 ?_ | refine X.l9 ?_ | refine X.m7 ?_ | refine X.m8 ?_ | (refine X.s1 ?_; intro w hw) | (refine X.s2 ?_; intro w hw) | refine X.e1 ?_ | refine X.e2 ?_ | (simp only [X.df]) | (simp (disch := omega) only [wi]))
    refine X.cond (fun hlt => ?_) (fun hge => ?_)
    · have hlt : i < R.ws.length := by omega
      have hsm := List.getElem_mem hlt
      have hs := hok _ hsm
      have hg := wsC_get hok i hlt
      have hgz := wsC_get2 (zW_ok hok i) i R.ws[i] (zW_get R.ws i hlt)
      have hset := zW_set hok i hlt
      have hzl := wsC_len (zW_ok hok i)
      rw [zW_len _ _ hi] at hzl
      have hne : wsC (zW R.ws i) ≠ [] := wsC_ne (i := i) (zW_ok hok i) (by rw [zW_len _ _ hi]; exact hlt)
      obtain ⟨g9, c9', h9⟩ := vec_some hw (v := .slice A9 R.ws.length c9) (by (repeat (first | (with_reducible exact Pick.here) | (with_reducible exact Put.here) | (with_reducible apply Pick.there) | (with_reducible apply Put.there)))) hne
      cases h9
      obtain ⟨g, o, rfl, _⟩ := hr.some (wsC_ne hok hlt)
      have hin : decide (R.ws[i] ∈ R.ws) = true := decide_eq_true hsm
      have hwg := wasOf_get R.ws R.ws[i]
      rw [hin] at hwg
      generalize R.ws[i] = s at *
      have hsl := slC_len hs
      have hso := slC_one s
      repeat (first | refine X.p1 ?_ | refine X.p2 ?_ | refine X.p6 ?_ | refine X.p7 ?_ | refine X.p0 ?_ | refine X.p3 ?_ | refine X.p4 ?_ | refine X.p5 ?_ | refine X.p8 ?_ | refine X.p9 ?_ | refine X.q1 ?_ | refine X.q2 ?_ | refine X.q3 ?_ | refine X.q4 ?_ | refine X.q5 ?_ | refine X.q6 ?_ | refine X.q7 ?_ | refine X.q8 ?_ | refine X.q9 ?_ | refine X.q0 ?_ | refine X.m1 ?_ | refine X.m2 ?_ | refine X.m3 ?_ | refine X.m4 ?_ | refine X.m5 ?_ | refine X.m6 ?_ | refine X.l11 ?_ | refine X.l1 ?_ | refine X.l2 ?_ | refine X.l3 ?_ | refine X.l4 ?_ | refine X.l5 ?_ | refine X.l10 ?_ | refine X.l6 ?_ | refine X.l7 ?_ | refine X.l8 ?_ | refine X.l9 ?_ | refine X.m7 ?_ | refine X.m8 ?_ | (refine X.s1 ?_; intro w hw) | (refine X.s2 ?_; intro w hw) | refine X.e1 ?_ | refine X.e2 ?_ | (simp only [X.df]) | (simp (disch := omega) only [wi]))
      refine Y.mix [0, 1, 2, 3, 5, 6, 7, 8, 9] [4, 10, 11, 12, 13, 14, 15, 16, 17, 18, 19] [(3, .r), (6, .o), (9, .r), (16, .r)] [] (R := []) hw fun w K hw hF => ?_; have hz := hw
      repeat (first | refine Y.r1 ?_ | refine Y.r2 ?_ | refine Y.r4 ?_ | refine Y.rm1 ?_ | refine Y.rm2 ?_ | refine Y.rm3 ?_ | refine Y.rm4 ?_ | refine Y.rm5 ?_ | refine Y.rl11 ?_ | refine Y.rl1 ?_ | refine Y.rl2 ?_ | refine Y.rl3 ?_ | refine Y.rl5 ?_ | refine Y.rl6 ?_ | refine Y.ro11 ?_ | refine Y.ro1 ?_ | refine Y.ro2 ?_ | refine Y.ro3 ?_ | refine Y.ro5 ?_ | refine Y.ro6 ?_ | refine Y.rm8 ?_ | (refine Y.r3 ?_; intro w hw) | (refine Y.beg0 ?_) | refine Y.re1 ?_ | refine Y.re2 ?_ | (simp only [X.df]) | (simp (disch := omega) only [wi]))
      refine Y.nw_read rfl rfl rfl rfl rfl (fun w2 k2 => ow_loadAt tab (row_at (vrow (hw.no k2) .here) hgz) rfl rfl rfl rfl rfl hsl fin) (fun _ => ⟨_, rfl⟩) ?_
      repeat (first | refine Y.r1 ?_ | refine Y.r2 ?_ | refine Y.r4 ?_ | refine Y.rm1 ?_ | refine Y.rm2 ?_ | refine Y.rm3 ?_ | refine Y.rm4 ?_ | refine Y.rm5 ?_ | refine Y.rl11 ?_ | refine Y.rl1 ?_ | refine Y.rl2 ?_ | refine Y.rl3 ?_ | refine Y.rl5 ?_ | refine Y.rl6 ?_ | refine Y.ro11 ?_ | refine Y.ro1 ?_ | refine Y.ro2 ?_ | refine Y.ro3 ?_ | refine Y.ro5 ?_ | refine Y.ro6 ?_ | refine Y.rm8 ?_ | (refine Y.r3 ?_; intro w hw) | (refine Y.beg0 ?_) | refine Y.re1 ?_ | refine Y.re2 ?_ | (simp only [X.df]) | (simp (disch := omega) only [wi]))
      refine Y.nw_read rfl rfl rfl rfl rfl (fun w2 k2 => ow_loadAt tab (row_at (hr.no ((hw.kpNo ro_nil).no k2)) hg) rfl rfl rfl rfl rfl hsl fin) (fun _ => ⟨_, rfl⟩) ?_
      repeat (first | refine Y.r1 ?_ | refine Y.r2 ?_ | refine Y.r4 ?_ | refine Y.rm1 ?_ | refine Y.rm2 ?_ | refine Y.rm3 ?_ | refine Y.rm4 ?_ | refine Y.rm5 ?_ | refine Y.rl11 ?_ | refine Y.rl1 ?_ | refine Y.rl2 ?_ | refine Y.rl3 ?_ | refine Y.rl5 ?_ | refine Y.rl6 ?_ | refine Y.ro11 ?_ | refine Y.ro1 ?_ | refine Y.ro2 ?_ | refine Y.ro3 ?_ | refine Y.ro5 ?_ | refine Y.ro6 ?_ | refine Y.rm8 ?_ | (refine Y.r3 ?_; intro w hw) | (refine Y.beg0 ?_) | refine Y.re1 ?_ | refine Y.re2 ?_ | (simp only [X.df]) | (simp (disch := omega) only [wi]))
      refine Y.act hw fun w hw0 hw => ?_; refine X.callN rfl rfl Try.func66 (given_calls s hs w) fun w kk hw => ?_; refine Y.midA hw0 hF hw kk fun K hw hF => ?_
      repeat (first | refine Y.r1 ?_ | refine Y.r2 ?_ | refine Y.r4 ?_ | refine Y.rm1 ?_ | refine Y.rm2 ?_ | refine Y.rm3 ?_ | refine Y.rm4 ?_ | refine Y.rm5 ?_ | refine Y.rl11 ?_ | refine Y.rl1 ?_ | refine Y.rl2 ?_ | refine Y.rl3 ?_ | refine Y.rl5 ?_ | refine Y.rl6 ?_ | refine Y.ro11 ?_ | refine Y.ro1 ?_ | refine Y.ro2 ?_ | refine Y.ro3 ?_ | refine Y.ro5 ?_ | refine Y.ro6 ?_ | refine Y.rm8 ?_ | (refine Y.r3 ?_; intro w hw) | (refine Y.beg0 ?_) | refine Y.re1 ?_ | refine Y.re2 ?_ | (simp only [X.df]) | (simp (disch := omega) only [wi]))
      refine Y.nw_any rfl rfl rfl rfl rfl (fun w0 => ow_neA h6 (a := s) (b := s) rfl h6a (by kernel_rfl) hs hs rfl rfl rfl fin) (fun _ => ⟨_, rfl⟩) ?_
      rw [decide_eq_true (rfl : s = s)]
      repeat (first | refine Y.r1 ?_ | refine Y.r2 ?_ | refine Y.r4 ?_ | refine Y.rm1 ?_ | refine Y.rm2 ?_ | refine Y.rm3 ?_ | refine Y.rm4 ?_ | refine Y.rm5 ?_ | refine Y.rl11 ?_ | refine Y.rl1 ?_ | refine Y.rl2 ?_ | refine Y.rl3 ?_ | refine Y.rl5 ?_ | refine Y.rl6 ?_ | refine Y.ro11 ?_ | refine Y.ro1 ?_ | refine Y.ro2 ?_ | refine Y.ro3 ?_ | refine Y.ro5 ?_ | refine Y.ro6 ?_ | refine Y.rm8 ?_ | (refine Y.r3 ?_; intro w hw) | (refine Y.beg0 ?_) | refine Y.re1 ?_ | refine Y.re2 ?_ | (simp only [X.df]) | (simp (disch := omega) only [wi]))
      refine Y.nw_read rfl rfl rfl rfl rfl (fun w2 k2 => ow_loadAt tab (row_at (vrow (hw.no k2) .here) hgz) rfl rfl rfl rfl rfl hsl fin) (fun _ => ⟨_, rfl⟩) ?_
      repeat (first | refine Y.r1 ?_ | refine Y.r2 ?_ | refine Y.r4 ?_ | refine Y.rm1 ?_ | refine Y.rm2 ?_ | refine Y.rm3 ?_ | refine Y.rm4 ?_ | refine Y.rm5 ?_ | refine Y.rl11 ?_ | refine Y.rl1 ?_ | refine Y.rl2 ?_ | refine Y.rl3 ?_ | refine Y.rl5 ?_ | refine Y.rl6 ?_ | refine Y.ro11 ?_ | refine Y.ro1 ?_ | refine Y.ro2 ?_ | refine Y.ro3 ?_ | refine Y.ro5 ?_ | refine Y.ro6 ?_ | refine Y.rm8 ?_ | (refine Y.r3 ?_; intro w hw) | (refine Y.beg0 ?_) | refine Y.re1 ?_ | refine Y.re2 ?_ | (simp only [X.df]) | (simp (disch := omega) only [wi]))
      refine Y.act hw fun w hw0 hw => ?_
      refine X.callN rfl rfl Try.func59 (was_calls gr R.gm R.n R.was _ e36 s hs w (rg_blk (h.no (hw0.kpNo ro_nil))) ((h.no (hw0.kpNo ro_nil)).all (mapI Try.prog R.gm 107 4 slV OkL Value.bool R.n R.was) (by simp [rgI]))) fun w kk hw => ?_
      refine Y.midA hw0 hF hw kk fun K hw hF => ?_
      rw [hwas, hwg]
      repeat (first | refine Y.r1 ?_ | refine Y.r2 ?_ | refine Y.r4 ?_ | refine Y.rm1 ?_ | refine Y.rm2 ?_ | refine Y.rm3 ?_ | refine Y.rm4 ?_ | refine Y.rm5 ?_ | refine Y.rl11 ?_ | refine Y.rl1 ?_ | refine Y.rl2 ?_ | refine Y.rl3 ?_ | refine Y.rl5 ?_ | refine Y.rl6 ?_ | refine Y.ro11 ?_ | refine Y.ro1 ?_ | refine Y.ro2 ?_ | refine Y.ro3 ?_ | refine Y.ro5 ?_ | refine Y.ro6 ?_ | refine Y.rm8 ?_ | (refine Y.r3 ?_; intro w hw) | (refine Y.beg0 ?_) | refine Y.re1 ?_ | refine Y.re2 ?_ | (simp only [X.df]) | (simp (disch := omega) only [wi]))
      repeat (first | refine X.p1 ?_ | refine X.p2 ?_ | refine X.p6 ?_ | refine X.p7 ?_ | refine X.p0 ?_ | refine X.p3 ?_ | refine X.p4 ?_ | refine X.p5 ?_ | refine X.p8 ?_ | refine X.p9 ?_ | refine X.q1 ?_ | refine X.q2 ?_ | refine X.q3 ?_ | refine X.q4 ?_ | refine X.q5 ?_ | refine X.q6 ?_ | refine X.q7 ?_ | refine X.q8 ?_ | refine X.q9 ?_ | refine X.q0 ?_ | refine X.m1 ?_ | refine X.m2 ?_ | refine X.m3 ?_ | refine X.m4 ?_ | refine X.m5 ?_ | refine X.m6 ?_ | refine X.l11 ?_ | refine X.l1 ?_ | refine X.l2 ?_ | refine X.l3 ?_ | refine X.l4 ?_ | refine X.l5 ?_ | refine X.l10 ?_ | refine X.l6 ?_ | refine X.l7 ?_ | refine X.l8 ?_ | refine X.l9 ?_ | refine X.m7 ?_ | refine X.m8 ?_ | (refine X.s1 ?_; intro w hw) | (refine X.s2 ?_; intro w hw) | refine X.e1 ?_ | refine X.e2 ?_ | (simp only [X.df]) | (simp (disch := omega) only [wi]))
      refine st_storeV (vs := slC noSl) tab hw rfl rfl rfl .here rfl noSlB (by rw [hzl]; omega) (slC_one noSl) ?_
      intro w hw
      rw [hset] at hw
      repeat (first | refine X.p1 ?_ | refine X.p2 ?_ | refine X.p6 ?_ | refine X.p7 ?_ | refine X.p0 ?_ | refine X.p3 ?_ | refine X.p4 ?_ | refine X.p5 ?_ | refine X.p8 ?_ | refine X.p9 ?_ | refine X.q1 ?_ | refine X.q2 ?_ | refine X.q3 ?_ | refine X.q4 ?_ | refine X.q5 ?_ | refine X.q6 ?_ | refine X.q7 ?_ | refine X.q8 ?_ | refine X.q9 ?_ | refine X.q0 ?_ | refine X.m1 ?_ | refine X.m2 ?_ | refine X.m3 ?_ | refine X.m4 ?_ | refine X.m5 ?_ | refine X.m6 ?_ | refine X.l11 ?_ | refine X.l1 ?_ | refine X.l2 ?_ | refine X.l3 ?_ | refine X.l4 ?_ | refine X.l5 ?_ | refine X.l10 ?_ | refine X.l6 ?_ | refine X.l7 ?_ | refine X.l8 ?_ | refine X.l9 ?_ | refine X.m7 ?_ | refine X.m8 ?_ | (refine X.s1 ?_; intro w hw) | (refine X.s2 ?_; intro w hw) | refine X.e1 ?_ | refine X.e2 ?_ | (simp only [X.df]) | (simp (disch := omega) only [wi]))
      exact X.again (i + 1) ⟨by omega, hw⟩ (by omega)
    obtain rfl : i = R.ws.length := by omega
    repeat (first | refine X.p1 ?_ | refine X.p2 ?_ | refine X.p6 ?_ | refine X.p7 ?_ | refine X.p0 ?_ | refine X.p3 ?_ | refine X.p4 ?_ | refine X.p5 ?_ | refine X.p8 ?_ | refine X.p9 ?_ | refine X.q1 ?_ | refine X.q2 ?_ | refine X.q3 ?_ | refine X.q4 ?_ | refine X.q5 ?_ | refine X.q6 ?_ | refine X.q7 ?_ | refine X.q8 ?_ | refine X.q9 ?_ | refine X.q0 ?_ | refine X.m1 ?_ | refine X.m2 ?_ | refine X.m3 ?_ | refine X.m4 ?_ | refine X.m5 ?_ | refine X.m6 ?_ | refine X.l11 ?_ | refine X.l1 ?_ | refine X.l2 ?_ | refine X.l3 ?_ | refine X.l4 ?_ | refine X.l5 ?_ | refine X.l10 ?_ | refine X.l6 ?_ | refine X.l7 ?_ | refine X.l8 ?_ | refine X.l9 ?_ | refine X.m7 ?_ | refine X.m8 ?_ | (refine X.s1 ?_; intro w hw) | (refine X.s2 ?_; intro w hw) | refine X.e1 ?_ | refine X.e2 ?_ | (simp only [X.df]) | (simp (disch := omega) only [wi]))
    refine X.bl rfl bigB1 ?_
    repeat (first | refine X.p1 ?_ | refine X.p2 ?_ | refine X.p6 ?_ | refine X.p7 ?_ | refine X.p0 ?_ | refine X.p3 ?_ | refine X.p4 ?_ | refine X.p5 ?_ | refine X.p8 ?_ | refine X.p9 ?_ | refine X.q1 ?_ | refine X.q2 ?_ | refine X.q3 ?_ | refine X.q4 ?_ | refine X.q5 ?_ | refine X.q6 ?_ | refine X.q7 ?_ | refine X.q8 ?_ | refine X.q9 ?_ | refine X.q0 ?_ | refine X.m1 ?_ | refine X.m2 ?_ | refine X.m3 ?_ | refine X.m4 ?_ | refine X.m5 ?_ | refine X.m6 ?_ | refine X.l11 ?_ | refine X.l1 ?_ | refine X.l2 ?_ | refine X.l3 ?_ | refine X.l4 ?_ | refine X.l5 ?_ | refine X.l10 ?_ | refine X.l6 ?_ | refine X.l7 ?_ | refine X.l8 ?_ | refine X.l9 ?_ | refine X.m7 ?_ | refine X.m8 ?_ | (refine X.s1 ?_; intro w hw) | (refine X.s2 ?_; intro w hw) | refine X.e1 ?_ | refine X.e2 ?_ | (simp only [X.df]) | (simp (disch := omega) only [wi]))
    refine X.bl rfl bigB ?_
    repeat (first | refine X.p1 ?_ | refine X.p2 ?_ | refine X.p6 ?_ | refine X.p7 ?_ | refine X.p0 ?_ | refine X.p3 ?_ | refine X.p4 ?_ | refine X.p5 ?_ | refine X.p8 ?_ | refine X.p9 ?_ | refine X.q1 ?_ | refine X.q2 ?_ | refine X.q3 ?_ | refine X.q4 ?_ | refine X.q5 ?_ | refine X.q6 ?_ | refine X.q7 ?_ | refine X.q8 ?_ | refine X.q9 ?_ | refine X.q0 ?_ | refine X.m1 ?_ | refine X.m2 ?_ | refine X.m3 ?_ | refine X.m4 ?_ | refine X.m5 ?_ | refine X.m6 ?_ | refine X.l11 ?_ | refine X.l1 ?_ | refine X.l2 ?_ | refine X.l3 ?_ | refine X.l4 ?_ | refine X.l5 ?_ | refine X.l10 ?_ | refine X.l6 ?_ | refine X.l7 ?_ | refine X.l8 ?_ | refine X.l9 ?_ | refine X.m7 ?_ | refine X.m8 ?_ | (refine X.s1 ?_; intro w hw) | (refine X.s2 ?_; intro w hw) | refine X.e1 ?_ | refine X.e2 ?_ | (simp only [X.df]) | (simp (disch := omega) only [wi]))
    refine X.callN rfl rfl Try.func59 (was_calls gr R.gm R.n R.was _ e36 bigS bigOk w (rg_blk (h.no (hw.kpNo ro_nil))) ((h.no (hw.kpNo ro_nil)).all (mapI Try.prog R.gm 107 4 slV OkL Value.bool R.n R.was) (by simp [rgI]))) fun w _ hw => ?_
    rw [hwas, wasOf_get, hbig]
    repeat (first | refine X.p1 ?_ | refine X.p2 ?_ | refine X.p6 ?_ | refine X.p7 ?_ | refine X.p0 ?_ | refine X.p3 ?_ | refine X.p4 ?_ | refine X.p5 ?_ | refine X.p8 ?_ | refine X.p9 ?_ | refine X.q1 ?_ | refine X.q2 ?_ | refine X.q3 ?_ | refine X.q4 ?_ | refine X.q5 ?_ | refine X.q6 ?_ | refine X.q7 ?_ | refine X.q8 ?_ | refine X.q9 ?_ | refine X.q0 ?_ | refine X.m1 ?_ | refine X.m2 ?_ | refine X.m3 ?_ | refine X.m4 ?_ | refine X.m5 ?_ | refine X.m6 ?_ | refine X.l11 ?_ | refine X.l1 ?_ | refine X.l2 ?_ | refine X.l3 ?_ | refine X.l4 ?_ | refine X.l5 ?_ | refine X.l10 ?_ | refine X.l6 ?_ | refine X.l7 ?_ | refine X.l8 ?_ | refine X.l9 ?_ | refine X.m7 ?_ | refine X.m8 ?_ | (refine X.s1 ?_; intro w hw) | (refine X.s2 ?_; intro w hw) | refine X.e1 ?_ | refine X.e2 ?_ | (simp only [X.df]) | (simp (disch := omega) only [wi]))
    exact xw_ret (vs := [_]) Try.results73 ⟨rfl, trivial⟩ ⟨rfl, hw.kpNo ro_nil⟩
  | false =>
    have hrd : rdV R = .tuple #[slV R.now, i64v 0] := by simp [rdV, hd]
    rw [hrd]
    have hnow : ((mC R.now (.slice A R.ws.length c)).drop (0 + 0)).take 34 = slC R.now := by unfold mC; rw [Nat.zero_add, List.drop_zero, ← hnl, List.take_left]
    repeat (first | refine X.p1 ?_ | refine X.p2 ?_ | refine X.p6 ?_ | refine X.p7 ?_ | refine X.p0 ?_ | refine X.p3 ?_ | refine X.p4 ?_ | refine X.p5 ?_ | refine X.p8 ?_ | refine X.p9 ?_ | refine X.q1 ?_ | refine X.q2 ?_ | refine X.q3 ?_ | refine X.q4 ?_ | refine X.q5 ?_ | refine X.q6 ?_ | refine X.q7 ?_ | refine X.q8 ?_ | refine X.q9 ?_ | refine X.q0 ?_ | refine X.m1 ?_ | refine X.m2 ?_ | refine X.m3 ?_ | refine X.m4 ?_ | refine X.m5 ?_ | refine X.m6 ?_ | refine X.l11 ?_ | refine X.l1 ?_ | refine X.l2 ?_ | refine X.l3 ?_ | refine X.l4 ?_ | refine X.l5 ?_ | refine X.l10 ?_ | refine X.l6 ?_ | refine X.l7 ?_ | refine X.l8 ?_ | refine X.l9 ?_ | refine X.m7 ?_ | refine X.m8 ?_ | (refine X.s1 ?_; intro w hw) | (refine X.s2 ?_; intro w hw) | refine X.e1 ?_ | refine X.e2 ?_ | (simp only [X.df]) | (simp (disch := omega) only [wi]))
    (first | refine X.nb ?_ | refine X.na ?_); intro g7 w _ hw
    repeat (first | refine X.p1 ?_ | refine X.p2 ?_ | refine X.p6 ?_ | refine X.p7 ?_ | refine X.p0 ?_ | refine X.p3 ?_ | refine X.p4 ?_ | refine X.p5 ?_ | refine X.p8 ?_ | refine X.p9 ?_ | refine X.q1 ?_ | refine X.q2 ?_ | refine X.q3 ?_ | refine X.q4 ?_ | refine X.q5 ?_ | refine X.q6 ?_ | refine X.q7 ?_ | refine X.q8 ?_ | refine X.q9 ?_ | refine X.q0 ?_ | refine X.m1 ?_ | refine X.m2 ?_ | refine X.m3 ?_ | refine X.m4 ?_ | refine X.m5 ?_ | refine X.m6 ?_ | refine X.l11 ?_ | refine X.l1 ?_ | refine X.l2 ?_ | refine X.l3 ?_ | refine X.l4 ?_ | refine X.l5 ?_ | refine X.l10 ?_ | refine X.l6 ?_ | refine X.l7 ?_ | refine X.l8 ?_ | refine X.l9 ?_ | refine X.m7 ?_ | refine X.m8 ?_ | (refine X.s1 ?_; intro w hw) | (refine X.s2 ?_; intro w hw) | refine X.e1 ?_ | refine X.e2 ?_ | (simp only [X.df]) | (simp (disch := omega) only [wi]))
    refine Y.mix [0, 2, 3] [1, 4, 5, 6, 7, 8] [(0, .o), (3, .o)] [] (R := []) hw fun w K hw hF => ?_; have hz := hw
    repeat (first | refine Y.r1 ?_ | refine Y.r2 ?_ | refine Y.r4 ?_ | refine Y.rm1 ?_ | refine Y.rm2 ?_ | refine Y.rm3 ?_ | refine Y.rm4 ?_ | refine Y.rm5 ?_ | refine Y.rl11 ?_ | refine Y.rl1 ?_ | refine Y.rl2 ?_ | refine Y.rl3 ?_ | refine Y.rl5 ?_ | refine Y.rl6 ?_ | refine Y.ro11 ?_ | refine Y.ro1 ?_ | refine Y.ro2 ?_ | refine Y.ro3 ?_ | refine Y.ro5 ?_ | refine Y.ro6 ?_ | refine Y.rm8 ?_ | (refine Y.r3 ?_; intro w hw) | (refine Y.beg0 ?_) | refine Y.re1 ?_ | refine Y.re2 ?_ | (simp only [X.df]) | (simp (disch := omega) only [wi]))
    refine Y.act hw fun w hw0 hw => ?_; refine X.callN rfl rfl Try.func66 (given_calls R.now ho w) fun w kk hw => ?_; refine Y.midA hw0 hF hw kk fun K hw hF => ?_
    repeat (first | refine Y.r1 ?_ | refine Y.r2 ?_ | refine Y.r4 ?_ | refine Y.rm1 ?_ | refine Y.rm2 ?_ | refine Y.rm3 ?_ | refine Y.rm4 ?_ | refine Y.rm5 ?_ | refine Y.rl11 ?_ | refine Y.rl1 ?_ | refine Y.rl2 ?_ | refine Y.rl3 ?_ | refine Y.rl5 ?_ | refine Y.rl6 ?_ | refine Y.ro11 ?_ | refine Y.ro1 ?_ | refine Y.ro2 ?_ | refine Y.ro3 ?_ | refine Y.ro5 ?_ | refine Y.ro6 ?_ | refine Y.rm8 ?_ | (refine Y.r3 ?_; intro w hw) | (refine Y.beg0 ?_) | refine Y.re1 ?_ | refine Y.re2 ?_ | (simp only [X.df]) | (simp (disch := omega) only [wi]))
    refine Y.nw_any rfl rfl rfl rfl rfl (fun w0 => ow_neA h6 (a := R.now) (b := R.now) rfl h6a (by kernel_rfl) ho ho rfl rfl rfl fin) (fun _ => ⟨_, rfl⟩) ?_
    rw [decide_eq_true (rfl : R.now = R.now)]
    repeat (first | refine Y.r1 ?_ | refine Y.r2 ?_ | refine Y.r4 ?_ | refine Y.rm1 ?_ | refine Y.rm2 ?_ | refine Y.rm3 ?_ | refine Y.rm4 ?_ | refine Y.rm5 ?_ | refine Y.rl11 ?_ | refine Y.rl1 ?_ | refine Y.rl2 ?_ | refine Y.rl3 ?_ | refine Y.rl5 ?_ | refine Y.rl6 ?_ | refine Y.ro11 ?_ | refine Y.ro1 ?_ | refine Y.ro2 ?_ | refine Y.ro3 ?_ | refine Y.ro5 ?_ | refine Y.ro6 ?_ | refine Y.rm8 ?_ | (refine Y.r3 ?_; intro w hw) | (refine Y.beg0 ?_) | refine Y.re1 ?_ | refine Y.re2 ?_ | (simp only [X.df]) | (simp (disch := omega) only [wi]))
    repeat (first | refine X.p1 ?_ | refine X.p2 ?_ | refine X.p6 ?_ | refine X.p7 ?_ | refine X.p0 ?_ | refine X.p3 ?_ | refine X.p4 ?_ | refine X.p5 ?_ | refine X.p8 ?_ | refine X.p9 ?_ | refine X.q1 ?_ | refine X.q2 ?_ | refine X.q3 ?_ | refine X.q4 ?_ | refine X.q5 ?_ | refine X.q6 ?_ | refine X.q7 ?_ | refine X.q8 ?_ | refine X.q9 ?_ | refine X.q0 ?_ | refine X.m1 ?_ | refine X.m2 ?_ | refine X.m3 ?_ | refine X.m4 ?_ | refine X.m5 ?_ | refine X.m6 ?_ | refine X.l11 ?_ | refine X.l1 ?_ | refine X.l2 ?_ | refine X.l3 ?_ | refine X.l4 ?_ | refine X.l5 ?_ | refine X.l10 ?_ | refine X.l6 ?_ | refine X.l7 ?_ | refine X.l8 ?_ | refine X.l9 ?_ | refine X.m7 ?_ | refine X.m8 ?_ | (refine X.s1 ?_; intro w hw) | (refine X.s2 ?_; intro w hw) | refine X.e1 ?_ | refine X.e2 ?_ | (simp only [X.df]) | (simp (disch := omega) only [wi]))
    refine X.call rfl rfl Try.func58 (written_calls gr R ho hok (by omega) w (h.no (hw.kpNo ro_nil))) ?_
    rintro u w hh
    have hw := hw.call .nil hh
    simp only [List.cons_append, List.nil_append] at hw
    obtain ⟨A9, c9, hu⟩ := vec_slice hw (v := u) (by (repeat (first | (with_reducible exact Pick.here) | (with_reducible exact Put.here) | (with_reducible apply Pick.there) | (with_reducible apply Put.there))))
    subst hu
    repeat (first | refine X.p1 ?_ | refine X.p2 ?_ | refine X.p6 ?_ | refine X.p7 ?_ | refine X.p0 ?_ | refine X.p3 ?_ | refine X.p4 ?_ | refine X.p5 ?_ | refine X.p8 ?_ | refine X.p9 ?_ | refine X.q1 ?_ | refine X.q2 ?_ | refine X.q3 ?_ | refine X.q4 ?_ | refine X.q5 ?_ | refine X.q6 ?_ | refine X.q7 ?_ | refine X.q8 ?_ | refine X.q9 ?_ | refine X.q0 ?_ | refine X.m1 ?_ | refine X.m2 ?_ | refine X.m3 ?_ | refine X.m4 ?_ | refine X.m5 ?_ | refine X.m6 ?_ | refine X.l11 ?_ | refine X.l1 ?_ | refine X.l2 ?_ | refine X.l3 ?_ | refine X.l4 ?_ | refine X.l5 ?_ | refine X.l10 ?_ | refine X.l6 ?_ | refine X.l7 ?_ | refine X.l8 ?_ | refine X.l9 ?_ | refine X.m7 ?_ | refine X.m8 ?_ | (refine X.s1 ?_; intro w hw) | (refine X.s2 ?_; intro w hw) | refine X.e1 ?_ | refine X.e2 ?_ | (simp only [X.df]) | (simp (disch := omega) only [wi]))
    refine X.callN rfl rfl Try.func60 (swings_calls gr R ho w (h.no (hw.kpNo ro_nil))) fun w _ hw => ?_
    repeat (first | refine X.p1 ?_ | refine X.p2 ?_ | refine X.p6 ?_ | refine X.p7 ?_ | refine X.p0 ?_ | refine X.p3 ?_ | refine X.p4 ?_ | refine X.p5 ?_ | refine X.p8 ?_ | refine X.p9 ?_ | refine X.q1 ?_ | refine X.q2 ?_ | refine X.q3 ?_ | refine X.q4 ?_ | refine X.q5 ?_ | refine X.q6 ?_ | refine X.q7 ?_ | refine X.q8 ?_ | refine X.q9 ?_ | refine X.q0 ?_ | refine X.m1 ?_ | refine X.m2 ?_ | refine X.m3 ?_ | refine X.m4 ?_ | refine X.m5 ?_ | refine X.m6 ?_ | refine X.l11 ?_ | refine X.l1 ?_ | refine X.l2 ?_ | refine X.l3 ?_ | refine X.l4 ?_ | refine X.l5 ?_ | refine X.l10 ?_ | refine X.l6 ?_ | refine X.l7 ?_ | refine X.l8 ?_ | refine X.l9 ?_ | refine X.m7 ?_ | refine X.m8 ?_ | (refine X.s1 ?_; intro w hw) | (refine X.s2 ?_; intro w hw) | refine X.e1 ?_ | refine X.e2 ?_ | (simp only [X.df]) | (simp (disch := omega) only [wi]))
    have hw : St w0 [] [vecI (.slice A9 R.ws.length c9) 107 34 R.ws.length (wsC R.ws), blkI g4 139 (mC R.now (.slice A R.ws.length c))] w := hw.sub (by (repeat (first | (with_reducible exact Split.nil) | ((with_reducible apply Split.cons); (next => (repeat (first | (with_reducible exact Pick.here) | (with_reducible exact Put.here) | (with_reducible apply Pick.there) | (with_reducible apply Put.there))))))))
    refine X.loop (fun i : Nat => [(0, .pointer (some ⟨gr, 0, none⟩)), (4, .pointer (some ⟨g4, 0, none⟩)), (9, .slice A9 R.ws.length c9), (49, .int .i64 (R.ws.length : Int)), (50, .int .i64 (i : Int))])
      (fun i w' => i ≤ R.ws.length ∧ St w0 [] [vecI (.slice A9 R.ws.length c9) 107 34 R.ws.length (wsC (zW R.ws i)), blkI g4 139 (mC R.now (.slice A R.ws.length c))] w') (fun i => R.ws.length - i) 0 ⟨Nat.zero_le _, by rw [show zW R.ws 0 = R.ws from rfl]; exact hw⟩ ?_
    clear hw
    rintro i w ⟨hi, hw⟩
    repeat (first | refine X.p1 ?_ | refine X.p2 ?_ | refine X.p6 ?_ | refine X.p7 ?_ | refine X.p0 ?_ | refine X.p3 ?_ | refine X.p4 ?_ | refine X.p5 ?_ | refine X.p8 ?_ | refine X.p9 ?_ | refine X.q1 ?_ | refine X.q2 ?_ | refine X.q3 ?_ | refine X.q4 ?_ | refine X.q5 ?_ | refine X.q6 ?_ | refine X.q7 ?_ | refine X.q8 ?_ | refine X.q9 ?_ | refine X.q0 ?_ | refine X.m1 ?_ | refine X.m2 ?_ | refine X.m3 ?_ | refine X.m4 ?_ | refine X.m5 ?_ | refine X.m6 ?_ | refine X.l11 ?_ | refine X.l1 ?_ | refine X.l2 ?_ | refine X.l3 ?_ | refine X.l4 ?_ | refine X.l5 ?_ | refine X.l10 ?_ | refine X.l6 ?_ | refine X.l7 ?_ | refine X.l8 ?_ | refine X.l9 ?_ | refine X.m7 ?_ | refine X.m8 ?_ | (refine X.s1 ?_; intro w hw) | (refine X.s2 ?_; intro w hw) | refine X.e1 ?_ | refine X.e2 ?_ | (simp only [X.df]) | (simp (disch := omega) only [wi]))
    refine X.cond (fun hlt => ?_) (fun hge => ?_)
    · have hlt : i < R.ws.length := by omega
      have hsm := List.getElem_mem hlt
      have hs := hok _ hsm
      have hg := wsC_get hok i hlt
      have hgz := wsC_get2 (zW_ok hok i) i R.ws[i] (zW_get R.ws i hlt)
      have hset := zW_set hok i hlt
      have hzl := wsC_len (zW_ok hok i)
      rw [zW_len _ _ hi] at hzl
      have hne : wsC (zW R.ws i) ≠ [] := wsC_ne (i := i) (zW_ok hok i) (by rw [zW_len _ _ hi]; exact hlt)
      obtain ⟨g9, c9', h9⟩ := vec_some hw (v := .slice A9 R.ws.length c9) (by (repeat (first | (with_reducible exact Pick.here) | (with_reducible exact Put.here) | (with_reducible apply Pick.there) | (with_reducible apply Put.there)))) hne
      cases h9
      obtain ⟨g, o, rfl, _⟩ := hr.some (wsC_ne hok hlt)
      have hin : decide (R.ws[i] ∈ R.ws) = true := decide_eq_true hsm
      have hwg := wasOf_get R.ws R.ws[i]
      rw [hin] at hwg
      generalize R.ws[i] = s at *
      have hsl := slC_len hs
      have hso := slC_one s
      repeat (first | refine X.p1 ?_ | refine X.p2 ?_ | refine X.p6 ?_ | refine X.p7 ?_ | refine X.p0 ?_ | refine X.p3 ?_ | refine X.p4 ?_ | refine X.p5 ?_ | refine X.p8 ?_ | refine X.p9 ?_ | refine X.q1 ?_ | refine X.q2 ?_ | refine X.q3 ?_ | refine X.q4 ?_ | refine X.q5 ?_ | refine X.q6 ?_ | refine X.q7 ?_ | refine X.q8 ?_ | refine X.q9 ?_ | refine X.q0 ?_ | refine X.m1 ?_ | refine X.m2 ?_ | refine X.m3 ?_ | refine X.m4 ?_ | refine X.m5 ?_ | refine X.m6 ?_ | refine X.l11 ?_ | refine X.l1 ?_ | refine X.l2 ?_ | refine X.l3 ?_ | refine X.l4 ?_ | refine X.l5 ?_ | refine X.l10 ?_ | refine X.l6 ?_ | refine X.l7 ?_ | refine X.l8 ?_ | refine X.l9 ?_ | refine X.m7 ?_ | refine X.m8 ?_ | (refine X.s1 ?_; intro w hw) | (refine X.s2 ?_; intro w hw) | refine X.e1 ?_ | refine X.e2 ?_ | (simp only [X.df]) | (simp (disch := omega) only [wi]))
      refine Y.mix [0, 1, 2, 3, 5, 6, 7, 8, 9] [4, 10, 11, 12, 13, 14, 15, 16, 17, 18, 19] [(3, .r), (6, .o), (9, .r), (16, .r)] [] (R := []) hw fun w K hw hF => ?_; have hz := hw
      repeat (first | refine Y.r1 ?_ | refine Y.r2 ?_ | refine Y.r4 ?_ | refine Y.rm1 ?_ | refine Y.rm2 ?_ | refine Y.rm3 ?_ | refine Y.rm4 ?_ | refine Y.rm5 ?_ | refine Y.rl11 ?_ | refine Y.rl1 ?_ | refine Y.rl2 ?_ | refine Y.rl3 ?_ | refine Y.rl5 ?_ | refine Y.rl6 ?_ | refine Y.ro11 ?_ | refine Y.ro1 ?_ | refine Y.ro2 ?_ | refine Y.ro3 ?_ | refine Y.ro5 ?_ | refine Y.ro6 ?_ | refine Y.rm8 ?_ | (refine Y.r3 ?_; intro w hw) | (refine Y.beg0 ?_) | refine Y.re1 ?_ | refine Y.re2 ?_ | (simp only [X.df]) | (simp (disch := omega) only [wi]))
      refine Y.nw_read rfl rfl rfl rfl rfl (fun w2 k2 => ow_loadAt tab (row_at (vrow (hw.no k2) .here) hgz) rfl rfl rfl rfl rfl hsl fin) (fun _ => ⟨_, rfl⟩) ?_
      repeat (first | refine Y.r1 ?_ | refine Y.r2 ?_ | refine Y.r4 ?_ | refine Y.rm1 ?_ | refine Y.rm2 ?_ | refine Y.rm3 ?_ | refine Y.rm4 ?_ | refine Y.rm5 ?_ | refine Y.rl11 ?_ | refine Y.rl1 ?_ | refine Y.rl2 ?_ | refine Y.rl3 ?_ | refine Y.rl5 ?_ | refine Y.rl6 ?_ | refine Y.ro11 ?_ | refine Y.ro1 ?_ | refine Y.ro2 ?_ | refine Y.ro3 ?_ | refine Y.ro5 ?_ | refine Y.ro6 ?_ | refine Y.rm8 ?_ | (refine Y.r3 ?_; intro w hw) | (refine Y.beg0 ?_) | refine Y.re1 ?_ | refine Y.re2 ?_ | (simp only [X.df]) | (simp (disch := omega) only [wi]))
      refine Y.nw_read rfl rfl rfl rfl rfl (fun w2 k2 => ow_loadAt tab (row_at (hr.no ((hw.kpNo ro_nil).no k2)) hg) rfl rfl rfl rfl rfl hsl fin) (fun _ => ⟨_, rfl⟩) ?_
      repeat (first | refine Y.r1 ?_ | refine Y.r2 ?_ | refine Y.r4 ?_ | refine Y.rm1 ?_ | refine Y.rm2 ?_ | refine Y.rm3 ?_ | refine Y.rm4 ?_ | refine Y.rm5 ?_ | refine Y.rl11 ?_ | refine Y.rl1 ?_ | refine Y.rl2 ?_ | refine Y.rl3 ?_ | refine Y.rl5 ?_ | refine Y.rl6 ?_ | refine Y.ro11 ?_ | refine Y.ro1 ?_ | refine Y.ro2 ?_ | refine Y.ro3 ?_ | refine Y.ro5 ?_ | refine Y.ro6 ?_ | refine Y.rm8 ?_ | (refine Y.r3 ?_; intro w hw) | (refine Y.beg0 ?_) | refine Y.re1 ?_ | refine Y.re2 ?_ | (simp only [X.df]) | (simp (disch := omega) only [wi]))
      refine Y.act hw fun w hw0 hw => ?_; refine X.callN rfl rfl Try.func66 (given_calls s hs w) fun w kk hw => ?_; refine Y.midA hw0 hF hw kk fun K hw hF => ?_
      repeat (first | refine Y.r1 ?_ | refine Y.r2 ?_ | refine Y.r4 ?_ | refine Y.rm1 ?_ | refine Y.rm2 ?_ | refine Y.rm3 ?_ | refine Y.rm4 ?_ | refine Y.rm5 ?_ | refine Y.rl11 ?_ | refine Y.rl1 ?_ | refine Y.rl2 ?_ | refine Y.rl3 ?_ | refine Y.rl5 ?_ | refine Y.rl6 ?_ | refine Y.ro11 ?_ | refine Y.ro1 ?_ | refine Y.ro2 ?_ | refine Y.ro3 ?_ | refine Y.ro5 ?_ | refine Y.ro6 ?_ | refine Y.rm8 ?_ | (refine Y.r3 ?_; intro w hw) | (refine Y.beg0 ?_) | refine Y.re1 ?_ | refine Y.re2 ?_ | (simp only [X.df]) | (simp (disch := omega) only [wi]))
      refine Y.nw_any rfl rfl rfl rfl rfl (fun w0 => ow_neA h6 (a := s) (b := s) rfl h6a (by kernel_rfl) hs hs rfl rfl rfl fin) (fun _ => ⟨_, rfl⟩) ?_
      rw [decide_eq_true (rfl : s = s)]
      repeat (first | refine Y.r1 ?_ | refine Y.r2 ?_ | refine Y.r4 ?_ | refine Y.rm1 ?_ | refine Y.rm2 ?_ | refine Y.rm3 ?_ | refine Y.rm4 ?_ | refine Y.rm5 ?_ | refine Y.rl11 ?_ | refine Y.rl1 ?_ | refine Y.rl2 ?_ | refine Y.rl3 ?_ | refine Y.rl5 ?_ | refine Y.rl6 ?_ | refine Y.ro11 ?_ | refine Y.ro1 ?_ | refine Y.ro2 ?_ | refine Y.ro3 ?_ | refine Y.ro5 ?_ | refine Y.ro6 ?_ | refine Y.rm8 ?_ | (refine Y.r3 ?_; intro w hw) | (refine Y.beg0 ?_) | refine Y.re1 ?_ | refine Y.re2 ?_ | (simp only [X.df]) | (simp (disch := omega) only [wi]))
      refine Y.nw_read rfl rfl rfl rfl rfl (fun w2 k2 => ow_loadAt tab (row_at (vrow (hw.no k2) .here) hgz) rfl rfl rfl rfl rfl hsl fin) (fun _ => ⟨_, rfl⟩) ?_
      repeat (first | refine Y.r1 ?_ | refine Y.r2 ?_ | refine Y.r4 ?_ | refine Y.rm1 ?_ | refine Y.rm2 ?_ | refine Y.rm3 ?_ | refine Y.rm4 ?_ | refine Y.rm5 ?_ | refine Y.rl11 ?_ | refine Y.rl1 ?_ | refine Y.rl2 ?_ | refine Y.rl3 ?_ | refine Y.rl5 ?_ | refine Y.rl6 ?_ | refine Y.ro11 ?_ | refine Y.ro1 ?_ | refine Y.ro2 ?_ | refine Y.ro3 ?_ | refine Y.ro5 ?_ | refine Y.ro6 ?_ | refine Y.rm8 ?_ | (refine Y.r3 ?_; intro w hw) | (refine Y.beg0 ?_) | refine Y.re1 ?_ | refine Y.re2 ?_ | (simp only [X.df]) | (simp (disch := omega) only [wi]))
      refine Y.act hw fun w hw0 hw => ?_
      refine X.callN rfl rfl Try.func59 (was_calls gr R.gm R.n R.was _ e36 s hs w (rg_blk (h.no (hw0.kpNo ro_nil))) ((h.no (hw0.kpNo ro_nil)).all (mapI Try.prog R.gm 107 4 slV OkL Value.bool R.n R.was) (by simp [rgI]))) fun w kk hw => ?_
      refine Y.midA hw0 hF hw kk fun K hw hF => ?_
      rw [hwas, hwg]
      repeat (first | refine Y.r1 ?_ | refine Y.r2 ?_ | refine Y.r4 ?_ | refine Y.rm1 ?_ | refine Y.rm2 ?_ | refine Y.rm3 ?_ | refine Y.rm4 ?_ | refine Y.rm5 ?_ | refine Y.rl11 ?_ | refine Y.rl1 ?_ | refine Y.rl2 ?_ | refine Y.rl3 ?_ | refine Y.rl5 ?_ | refine Y.rl6 ?_ | refine Y.ro11 ?_ | refine Y.ro1 ?_ | refine Y.ro2 ?_ | refine Y.ro3 ?_ | refine Y.ro5 ?_ | refine Y.ro6 ?_ | refine Y.rm8 ?_ | (refine Y.r3 ?_; intro w hw) | (refine Y.beg0 ?_) | refine Y.re1 ?_ | refine Y.re2 ?_ | (simp only [X.df]) | (simp (disch := omega) only [wi]))
      repeat (first | refine X.p1 ?_ | refine X.p2 ?_ | refine X.p6 ?_ | refine X.p7 ?_ | refine X.p0 ?_ | refine X.p3 ?_ | refine X.p4 ?_ | refine X.p5 ?_ | refine X.p8 ?_ | refine X.p9 ?_ | refine X.q1 ?_ | refine X.q2 ?_ | refine X.q3 ?_ | refine X.q4 ?_ | refine X.q5 ?_ | refine X.q6 ?_ | refine X.q7 ?_ | refine X.q8 ?_ | refine X.q9 ?_ | refine X.q0 ?_ | refine X.m1 ?_ | refine X.m2 ?_ | refine X.m3 ?_ | refine X.m4 ?_ | refine X.m5 ?_ | refine X.m6 ?_ | refine X.l11 ?_ | refine X.l1 ?_ | refine X.l2 ?_ | refine X.l3 ?_ | refine X.l4 ?_ | refine X.l5 ?_ | refine X.l10 ?_ | refine X.l6 ?_ | refine X.l7 ?_ | refine X.l8 ?_ | refine X.l9 ?_ | refine X.m7 ?_ | refine X.m8 ?_ | (refine X.s1 ?_; intro w hw) | (refine X.s2 ?_; intro w hw) | refine X.e1 ?_ | refine X.e2 ?_ | (simp only [X.df]) | (simp (disch := omega) only [wi]))
      refine st_storeV (vs := slC noSl) tab hw rfl rfl rfl .here rfl noSlB (by rw [hzl]; omega) (slC_one noSl) ?_
      intro w hw
      rw [hset] at hw
      repeat (first | refine X.p1 ?_ | refine X.p2 ?_ | refine X.p6 ?_ | refine X.p7 ?_ | refine X.p0 ?_ | refine X.p3 ?_ | refine X.p4 ?_ | refine X.p5 ?_ | refine X.p8 ?_ | refine X.p9 ?_ | refine X.q1 ?_ | refine X.q2 ?_ | refine X.q3 ?_ | refine X.q4 ?_ | refine X.q5 ?_ | refine X.q6 ?_ | refine X.q7 ?_ | refine X.q8 ?_ | refine X.q9 ?_ | refine X.q0 ?_ | refine X.m1 ?_ | refine X.m2 ?_ | refine X.m3 ?_ | refine X.m4 ?_ | refine X.m5 ?_ | refine X.m6 ?_ | refine X.l11 ?_ | refine X.l1 ?_ | refine X.l2 ?_ | refine X.l3 ?_ | refine X.l4 ?_ | refine X.l5 ?_ | refine X.l10 ?_ | refine X.l6 ?_ | refine X.l7 ?_ | refine X.l8 ?_ | refine X.l9 ?_ | refine X.m7 ?_ | refine X.m8 ?_ | (refine X.s1 ?_; intro w hw) | (refine X.s2 ?_; intro w hw) | refine X.e1 ?_ | refine X.e2 ?_ | (simp only [X.df]) | (simp (disch := omega) only [wi]))
      exact X.again (i + 1) ⟨by omega, hw⟩ (by omega)
    obtain rfl : i = R.ws.length := by omega
    repeat (first | refine X.p1 ?_ | refine X.p2 ?_ | refine X.p6 ?_ | refine X.p7 ?_ | refine X.p0 ?_ | refine X.p3 ?_ | refine X.p4 ?_ | refine X.p5 ?_ | refine X.p8 ?_ | refine X.p9 ?_ | refine X.q1 ?_ | refine X.q2 ?_ | refine X.q3 ?_ | refine X.q4 ?_ | refine X.q5 ?_ | refine X.q6 ?_ | refine X.q7 ?_ | refine X.q8 ?_ | refine X.q9 ?_ | refine X.q0 ?_ | refine X.m1 ?_ | refine X.m2 ?_ | refine X.m3 ?_ | refine X.m4 ?_ | refine X.m5 ?_ | refine X.m6 ?_ | refine X.l11 ?_ | refine X.l1 ?_ | refine X.l2 ?_ | refine X.l3 ?_ | refine X.l4 ?_ | refine X.l5 ?_ | refine X.l10 ?_ | refine X.l6 ?_ | refine X.l7 ?_ | refine X.l8 ?_ | refine X.l9 ?_ | refine X.m7 ?_ | refine X.m8 ?_ | (refine X.s1 ?_; intro w hw) | (refine X.s2 ?_; intro w hw) | refine X.e1 ?_ | refine X.e2 ?_ | (simp only [X.df]) | (simp (disch := omega) only [wi]))
    refine X.bl rfl bigB1 ?_
    repeat (first | refine X.p1 ?_ | refine X.p2 ?_ | refine X.p6 ?_ | refine X.p7 ?_ | refine X.p0 ?_ | refine X.p3 ?_ | refine X.p4 ?_ | refine X.p5 ?_ | refine X.p8 ?_ | refine X.p9 ?_ | refine X.q1 ?_ | refine X.q2 ?_ | refine X.q3 ?_ | refine X.q4 ?_ | refine X.q5 ?_ | refine X.q6 ?_ | refine X.q7 ?_ | refine X.q8 ?_ | refine X.q9 ?_ | refine X.q0 ?_ | refine X.m1 ?_ | refine X.m2 ?_ | refine X.m3 ?_ | refine X.m4 ?_ | refine X.m5 ?_ | refine X.m6 ?_ | refine X.l11 ?_ | refine X.l1 ?_ | refine X.l2 ?_ | refine X.l3 ?_ | refine X.l4 ?_ | refine X.l5 ?_ | refine X.l10 ?_ | refine X.l6 ?_ | refine X.l7 ?_ | refine X.l8 ?_ | refine X.l9 ?_ | refine X.m7 ?_ | refine X.m8 ?_ | (refine X.s1 ?_; intro w hw) | (refine X.s2 ?_; intro w hw) | refine X.e1 ?_ | refine X.e2 ?_ | (simp only [X.df]) | (simp (disch := omega) only [wi]))
    refine X.bl rfl bigB ?_
    repeat (first | refine X.p1 ?_ | refine X.p2 ?_ | refine X.p6 ?_ | refine X.p7 ?_ | refine X.p0 ?_ | refine X.p3 ?_ | refine X.p4 ?_ | refine X.p5 ?_ | refine X.p8 ?_ | refine X.p9 ?_ | refine X.q1 ?_ | refine X.q2 ?_ | refine X.q3 ?_ | refine X.q4 ?_ | refine X.q5 ?_ | refine X.q6 ?_ | refine X.q7 ?_ | refine X.q8 ?_ | refine X.q9 ?_ | refine X.q0 ?_ | refine X.m1 ?_ | refine X.m2 ?_ | refine X.m3 ?_ | refine X.m4 ?_ | refine X.m5 ?_ | refine X.m6 ?_ | refine X.l11 ?_ | refine X.l1 ?_ | refine X.l2 ?_ | refine X.l3 ?_ | refine X.l4 ?_ | refine X.l5 ?_ | refine X.l10 ?_ | refine X.l6 ?_ | refine X.l7 ?_ | refine X.l8 ?_ | refine X.l9 ?_ | refine X.m7 ?_ | refine X.m8 ?_ | (refine X.s1 ?_; intro w hw) | (refine X.s2 ?_; intro w hw) | refine X.e1 ?_ | refine X.e2 ?_ | (simp only [X.df]) | (simp (disch := omega) only [wi]))
    refine X.callN rfl rfl Try.func59 (was_calls gr R.gm R.n R.was _ e36 bigS bigOk w (rg_blk (h.no (hw.kpNo ro_nil))) ((h.no (hw.kpNo ro_nil)).all (mapI Try.prog R.gm 107 4 slV OkL Value.bool R.n R.was) (by simp [rgI]))) fun w _ hw => ?_
    rw [hwas, wasOf_get, hbig]
    repeat (first | refine X.p1 ?_ | refine X.p2 ?_ | refine X.p6 ?_ | refine X.p7 ?_ | refine X.p0 ?_ | refine X.p3 ?_ | refine X.p4 ?_ | refine X.p5 ?_ | refine X.p8 ?_ | refine X.p9 ?_ | refine X.q1 ?_ | refine X.q2 ?_ | refine X.q3 ?_ | refine X.q4 ?_ | refine X.q5 ?_ | refine X.q6 ?_ | refine X.q7 ?_ | refine X.q8 ?_ | refine X.q9 ?_ | refine X.q0 ?_ | refine X.m1 ?_ | refine X.m2 ?_ | refine X.m3 ?_ | refine X.m4 ?_ | refine X.m5 ?_ | refine X.m6 ?_ | refine X.l11 ?_ | refine X.l1 ?_ | refine X.l2 ?_ | refine X.l3 ?_ | refine X.l4 ?_ | refine X.l5 ?_ | refine X.l10 ?_ | refine X.l6 ?_ | refine X.l7 ?_ | refine X.l8 ?_ | refine X.l9 ?_ | refine X.m7 ?_ | refine X.m8 ?_ | (refine X.s1 ?_; intro w hw) | (refine X.s2 ?_; intro w hw) | refine X.e1 ?_ | refine X.e2 ?_ | (simp only [X.df]) | (simp (disch := omega) only [wi]))
    exact xw_ret (vs := [_]) Try.results73 ⟨rfl, trivial⟩ ⟨rfl, hw.kpNo ro_nil⟩
end Go.Proofs.Ytnpnphcklmlchaa.Pl
