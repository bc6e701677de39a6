/- A new disk as a whole; the law's awake. -/
import Derived.Test.YtnpnphcklmlchaaDsk7
import Derived.Test.YtnpnphcklmlchaaNd1
set_option linter.unusedVariables false
set_option linter.unusedSimpArgs false
namespace Go.Proofs.Ytnpnphcklmlchaa.Dsk
open Go.RowKit Go.Proofs.Ytnpnphcklmlchaa.Sx Go.Proofs.Ytnpnphcklmlchaa.Mx Go.Proofs.Ytnpnphcklmlchaa.Bw Go.Proofs.Ytnpnphcklmlchaa.By Go.Proofs.Ytnpnphcklmlchaa.Eqs Go.Proofs.Ytnpnphcklmlchaa.Qx Go.Proofs.Ytnpnphcklmlchaa.Ap Go.Proofs.Ytnpnphcklmlchaa.Mi Go.Proofs.Ytnpnphcklmlchaa.Stm Go.Proofs.Ytnpnphcklmlchaa.Fl Go.Proofs.Ytnpnphcklmlchaa.Mp Go.Proofs.Ytnpnphcklmlchaa.Mf Go.Proofs.Ytnpnphcklmlchaa.Dp Go.Proofs.Ytnpnphcklmlchaa.Bd Go.Maps
attribute [local irreducible] Ow Cw Xw Mw
set_option maxHeartbeats 4000000
def dk0' (n gb gp gc : Nat) : Dk := ⟨.slice (some ⟨gb, 0, none⟩) n n, .slice (some ⟨gp, 0, none⟩) n n, .slice none 0 0, gc, 0, false, 0, 0, .slice none 0 0, 0, [], 0, fun _ => none⟩
def bs0 (n : Nat) : Bs := ⟨n, List.replicate n (zb 256), List.replicate n [], List.replicate n (.slice none 0 0)⟩
theorem zb_len (n : Nat) : (zb n).length = n := List.length_replicate ..
theorem bs0_ok (n : Nat) (hn : n ≤ 8192) : OkB (bs0 n) := by
  refine ⟨List.length_replicate .., List.length_replicate .., List.length_replicate .., fun b hb => ?_, fun l hl c hc => ?_, hn⟩
  · rw [(List.mem_replicate.1 hb).2]; exact zb_len 256
  · rw [(List.mem_replicate.1 hl).2] at hc; cases hc
theorem okD0 (n gb gp gc : Nat) (hn : n ≤ 8192) : OkD gb gp (dk0' n gb gp gc) (bs0 n) := by
  refine ⟨bs0_ok n hn, rfl, rfl, ⟨Int.le_refl _, by show (0 : Int) < 4611686018427387904; decide⟩, by show (0 : Nat) < 4611686018427387904; decide, by show (0 + 1) * 272 ≤ 140737488355328; decide, fun i => ?_⟩
  have : (bs0 n).ps.getD i [] = [] := by
    show (List.replicate n []).getD i [] = []
    rw [List.getD_eq_getElem?_getD, List.getElem?_replicate]; split <;> rfl
  rw [this]; decide
theorem rep_get (m j : Nat) (x : Value) (hj : j < m) : (List.replicate m x).toArray[j]! = x := by
  rw [getElem!_pos _ _ (by rw [List.size_toArray, List.length_replicate]; exact hj), List.getElem_toArray, List.getElem_replicate]
theorem cbz (m : Nat) : cb (zb m) = List.replicate m (by8 0) := by unfold cb zb; exact List.map_replicate
theorem zcells (n : Nat) : cellsOf0 zBlk (n * 256) = bsC (List.replicate n (zb 256)) := by
  have e1 : cellsOf0 zBlk (n * 256) = List.replicate (n * 256) (by8 0) := by
    unfold cellsOf0 zBlk madeCells
    rw [Array.toList_map]
    refine List.eq_replicate_iff.2 ⟨by rw [List.length_map, Array.length_toList, Array.size_range], fun x hx => ?_⟩
    obtain ⟨i, _, rfl⟩ := List.mem_map.1 hx
    show (cb (zb 256)).toArray[i % (cb (zb 256)).toArray.size]! = _
    rw [cbz, List.size_toArray, List.length_replicate]
    exact rep_get 256 _ _ (Nat.mod_lt _ (by decide))
  rw [e1]
  refine (List.eq_replicate_iff.2 ⟨?_, fun x hx => ?_⟩).symm
  · rw [bsC, flat_len (sz := 256) _ (fun x hx => by rw [(List.mem_replicate.1 hx).2]; exact zl256), List.length_replicate]
  · obtain ⟨b, hb, hx⟩ := List.mem_flatMap.1 hx
    rw [(List.mem_replicate.1 hb).2] at hx
    obtain ⟨y, hy, rfl⟩ := List.mem_map.1 hx
    rw [(List.mem_replicate.1 hy).2]
theorem pcells (n : Nat) : cellsOf0 (.slice none 0 0) (n * 1) = List.replicate n (.slice none 0 0) := by
  rw [Nat.mul_one]
  exact toList_madeCells_one _ n
/-- A new disk. -/
theorem newD_calls (n : Nat) (hn : 16 ≤ n ∧ n ≤ 8192) (w0 : World) : Does Try.prog 31 [i64v n] w0 fun v w' => ∃ gd gb gp gc, v = .tuple #[.pointer (some ⟨gd, 0, none⟩), i64v 0] ∧ St w0 [] (dsI gd gb gp (dk0' n gb gp gc) (bs0 n)) w' := by
  refine (new_calls n hn w0).mono ?_
  rintro v w' ⟨gd, gb, gp, gc, h1, h2⟩
  refine ⟨gd, gb, gp, gc, h1, ?_⟩
  rw [zcells, pcells] at h2
  have h3 := h2.nilVec (e := 70) (sz := 258)
  have hv : ∀ i ∈ vecs (bs0 n).pv (bs0 n).ps, i.holds w' ∧ ∀ g, ¬ i.foot g := fun i hi => by
    obtain ⟨k, hk, rfl⟩ := List.getElem_of_mem hi
    simp only [vecs, List.getElem_zipWith, bs0, List.getElem_replicate]
    exact ⟨own_nil, fun g h => by cases h⟩
  have h4 := h3.new (i := starI (vecs (bs0 n).pv (bs0 n).ps)) Kp.refl ⟨fun i hi => (hv i hi).1, by
    refine List.pairwise_iff_forall_sublist.2 fun {a b} hab => ?_
    have ha : a ∈ vecs (bs0 n).pv (bs0 n).ps := hab.subset (by simp)
    exact fun _ g h => absurd h ((hv a ha).2 g)⟩ (fun g ⟨i, hi, hf⟩ => absurd hf ((hv i hi).2 g))
  change St w0 [] [blkI gd 182 (newC n gb gp gc), mapI Try.prog gc 56 4 cutE cutOk Value.bool 0 (fun _ => none), vecI (.slice none 0 0) 70 258 0 [], blkI gb 61 (bsC (List.replicate n (zb 256))), blkI gp 217 (List.replicate n (.slice none 0 0)), starI (vecs (bs0 n).pv (bs0 n).ps)] w'
  exact h4.sub (by (repeat (first | (with_reducible exact Split.nil) | ((with_reducible apply Split.cons); (next => (repeat (first | (with_reducible exact Pick.here) | (with_reducible exact Put.here) | (with_reducible apply Pick.there) | (with_reducible apply Put.there))))))))
theorem stT {w0 w w' : World} {M0 M M' : List Stm.Item} (h0 : St w0 M0 M w) (h : St w M M' w') : St w0 M0 M' w' := Y.St.trans (w := w) (w1 := w) h0 h
/-! Awake. -/
theorem eqB256 {t e : TypeId} (h : Try.prog.underlying t = some (.array 256 e)) (he : Try.prog.underlying e = some (.int .u8)) (hs : (Try.prog.info? t).map (·.size) = some 256) (hse : (Try.prog.info? e).map (·.size) = some 1) : EqT Try.prog t (.array 256 e) cb (fun l => l.length = 256 ∧ ∀ x ∈ l, True) 2 256 := by
  have h := eq_array (P := Try.prog) (t := t) (n := 256) (sz := 1) h hs (eq_u (w := 8) .u8 he hse)
  have e : (fun l : List Byte => l.flatMap fun b => [Value.int .u8 b.toNat]) = cb := by
    funext l
    induction l with
    | nil => rfl
    | cons x l ih => rw [List.flatMap_cons, ih]; rfl
  rw [e] at h
  exact h
def b7 : List Byte := 7 :: zb 255
theorem b7_len : b7.length = 256 := by rw [b7, List.length_cons, zb_len]
theorem b7B : Try.prog.built 61 [(0, .int .u8 7)] = some (cb b7).toArray := by kernel_rfl
theorem blocks_calls (gd : Nat) (C : List Value) (A : Option Addr) (n : Nat) (h0 : nth C (0 + 0) = some (.slice A n n)) (w0 : World) (hb : Blk w0 gd 182 C) : Does Try.prog 50 [.pointer (some ⟨gd, 0, none⟩)] w0 fun v w' => v = i64v n ∧ Kp No w0 w' := by
  have hw := St.start (w := w0) .nil
  refine fn_enter Try.func50 rfl Try.ntmps50 rfl ?_
  repeat (first | refine X.p1 ?_ | refine X.p2 ?_ | refine X.p6 ?_ | refine X.p7 ?_ | refine X.p0 ?_ | refine X.p3 ?_ | refine X.p4 ?_ | refine X.p5 ?_ | refine X.p8 ?_ | refine X.p9 ?_ | refine X.q1 ?_ | refine X.q2 ?_ | refine X.q3 ?_ | refine X.q4 ?_ | refine X.q5 ?_ | refine X.q6 ?_ | refine X.q7 ?_ | refine X.q8 ?_ | refine X.q9 ?_ | refine X.q0 ?_ | refine X.m1 ?_ | refine X.m2 ?_ | refine X.m3 ?_ | refine X.m4 ?_ | refine X.m5 ?_ | refine X.m6 ?_ | refine X.l11 ?_ | refine X.l1 ?_ | refine X.l2 ?_ | refine X.l3 ?_ | refine X.l4 ?_ | refine X.l5 ?_ | refine X.l10 ?_ | refine X.l6 ?_ | refine X.l7 ?_ | refine X.l8 ?_ | refine X.l9 ?_ | refine X.m7 ?_ | refine X.m8 ?_ | (refine X.s1 ?_; intro w hw) | (refine X.s2 ?_; intro w hw) | refine X.e1 ?_ | refine X.e2 ?_ | (simp only [X.df]) | (simp (disch := omega) only [wi]))
  refine pn1 ?_
  repeat (first | refine X.p1 ?_ | refine X.p2 ?_ | refine X.p6 ?_ | refine X.p7 ?_ | refine X.p0 ?_ | refine X.p3 ?_ | refine X.p4 ?_ | refine X.p5 ?_ | refine X.p8 ?_ | refine X.p9 ?_ | refine X.q1 ?_ | refine X.q2 ?_ | refine X.q3 ?_ | refine X.q4 ?_ | refine X.q5 ?_ | refine X.q6 ?_ | refine X.q7 ?_ | refine X.q8 ?_ | refine X.q9 ?_ | refine X.q0 ?_ | refine X.m1 ?_ | refine X.m2 ?_ | refine X.m3 ?_ | refine X.m4 ?_ | refine X.m5 ?_ | refine X.m6 ?_ | refine X.l11 ?_ | refine X.l1 ?_ | refine X.l2 ?_ | refine X.l3 ?_ | refine X.l4 ?_ | refine X.l5 ?_ | refine X.l10 ?_ | refine X.l6 ?_ | refine X.l7 ?_ | refine X.l8 ?_ | refine X.l9 ?_ | refine X.m7 ?_ | refine X.m8 ?_ | (refine X.s1 ?_; intro w hw) | (refine X.s2 ?_; intro w hw) | refine X.e1 ?_ | refine X.e2 ?_ | (simp only [X.df, is1]) | (simp (disch := omega) only [wi]))
  refine ow_load1 tab (hb.no (hw.kpNo ro_nil)) rfl rfl rfl rfl h0 ?_
  repeat (first | refine X.p1 ?_ | refine X.p2 ?_ | refine X.p6 ?_ | refine X.p7 ?_ | refine X.p0 ?_ | refine X.p3 ?_ | refine X.p4 ?_ | refine X.p5 ?_ | refine X.p8 ?_ | refine X.p9 ?_ | refine X.q1 ?_ | refine X.q2 ?_ | refine X.q3 ?_ | refine X.q4 ?_ | refine X.q5 ?_ | refine X.q6 ?_ | refine X.q7 ?_ | refine X.q8 ?_ | refine X.q9 ?_ | refine X.q0 ?_ | refine X.m1 ?_ | refine X.m2 ?_ | refine X.m3 ?_ | refine X.m4 ?_ | refine X.m5 ?_ | refine X.m6 ?_ | refine X.l11 ?_ | refine X.l1 ?_ | refine X.l2 ?_ | refine X.l3 ?_ | refine X.l4 ?_ | refine X.l5 ?_ | refine X.l10 ?_ | refine X.l6 ?_ | refine X.l7 ?_ | refine X.l8 ?_ | refine X.l9 ?_ | refine X.m7 ?_ | refine X.m8 ?_ | (refine X.s1 ?_; intro w hw) | (refine X.s2 ?_; intro w hw) | refine X.e1 ?_ | refine X.e2 ?_ | (simp only [X.df]) | (simp (disch := omega) only [wi]))
  exact xw_ret (vs := [_]) Try.results50 ⟨rfl, trivial⟩ ⟨rfl, hw.kpNo ro_nil⟩
theorem awake (w0 : World) : Does Try.prog 32 [] w0 fun v w' => v = .bool true ∧ Kp No w0 w' := by
  have hw := St.start (w := w0) .nil
  have h7 := b7_len
  have hB := eqB256 Try.underlying61 Try.underlying5 (tab.sz_ok _ _ rfl) (tab.sz_ok _ _ rfl)
  refine fn_enter Try.func32 rfl Try.ntmps32 rfl ?_
  repeat (first | refine X.p1 ?_ | refine X.p2 ?_ | refine X.p6 ?_ | refine X.p7 ?_ | refine X.p0 ?_ | refine X.p3 ?_ | refine X.p4 ?_ | refine X.p5 ?_ | refine X.p8 ?_ | refine X.p9 ?_ | refine X.q1 ?_ | refine X.q2 ?_ | refine X.q3 ?_ | refine X.q4 ?_ | refine X.q5 ?_ | refine X.q6 ?_ | refine X.q7 ?_ | refine X.q8 ?_ | refine X.q9 ?_ | refine X.q0 ?_ | refine X.m1 ?_ | refine X.m2 ?_ | refine X.m3 ?_ | refine X.m4 ?_ | refine X.m5 ?_ | refine X.m6 ?_ | refine X.l11 ?_ | refine X.l1 ?_ | refine X.l2 ?_ | refine X.l3 ?_ | refine X.l4 ?_ | refine X.l5 ?_ | refine X.l10 ?_ | refine X.l6 ?_ | refine X.l7 ?_ | refine X.l8 ?_ | refine X.l9 ?_ | refine X.m7 ?_ | refine X.m8 ?_ | (refine X.s1 ?_; intro w hw) | (refine X.s2 ?_; intro w hw) | refine X.e1 ?_ | refine X.e2 ?_ | (simp only [X.df]) | (simp (disch := omega) only [wi]))
  refine X.call rfl rfl Try.func31 (newD_calls 16 (by decide) w0) ?_
  rintro _ w ⟨gd, gb, gp, gc, rfl, hh⟩
  have hw := hw.call .nil hh
  rw [List.append_nil] at hw
  repeat (first | refine X.p1 ?_ | refine X.p2 ?_ | refine X.p6 ?_ | refine X.p7 ?_ | refine X.p0 ?_ | refine X.p3 ?_ | refine X.p4 ?_ | refine X.p5 ?_ | refine X.p8 ?_ | refine X.p9 ?_ | refine X.q1 ?_ | refine X.q2 ?_ | refine X.q3 ?_ | refine X.q4 ?_ | refine X.q5 ?_ | refine X.q6 ?_ | refine X.q7 ?_ | refine X.q8 ?_ | refine X.q9 ?_ | refine X.q0 ?_ | refine X.m1 ?_ | refine X.m2 ?_ | refine X.m3 ?_ | refine X.m4 ?_ | refine X.m5 ?_ | refine X.m6 ?_ | refine X.l11 ?_ | refine X.l1 ?_ | refine X.l2 ?_ | refine X.l3 ?_ | refine X.l4 ?_ | refine X.l5 ?_ | refine X.l10 ?_ | refine X.l6 ?_ | refine X.l7 ?_ | refine X.l8 ?_ | refine X.l9 ?_ | refine X.m7 ?_ | refine X.m8 ?_ | (refine X.s1 ?_; intro w hw) | (refine X.s2 ?_; intro w hw) | refine X.e1 ?_ | refine X.e2 ?_ | (simp only [X.df]) | (simp (disch := omega) only [wi]))
  refine pn1 ?_
  repeat (first | refine X.p1 ?_ | refine X.p2 ?_ | refine X.p6 ?_ | refine X.p7 ?_ | refine X.p0 ?_ | refine X.p3 ?_ | refine X.p4 ?_ | refine X.p5 ?_ | refine X.p8 ?_ | refine X.p9 ?_ | refine X.q1 ?_ | refine X.q2 ?_ | refine X.q3 ?_ | refine X.q4 ?_ | refine X.q5 ?_ | refine X.q6 ?_ | refine X.q7 ?_ | refine X.q8 ?_ | refine X.q9 ?_ | refine X.q0 ?_ | refine X.m1 ?_ | refine X.m2 ?_ | refine X.m3 ?_ | refine X.m4 ?_ | refine X.m5 ?_ | refine X.m6 ?_ | refine X.l11 ?_ | refine X.l1 ?_ | refine X.l2 ?_ | refine X.l3 ?_ | refine X.l4 ?_ | refine X.l5 ?_ | refine X.l10 ?_ | refine X.l6 ?_ | refine X.l7 ?_ | refine X.l8 ?_ | refine X.l9 ?_ | refine X.m7 ?_ | refine X.m8 ?_ | (refine X.s1 ?_; intro w hw) | (refine X.s2 ?_; intro w hw) | refine X.e1 ?_ | refine X.e2 ?_ | (simp only [X.df, is1]) | (simp (disch := omega) only [wi]))
  refine X.bl rfl b7B ?_
  repeat (first | refine X.p1 ?_ | refine X.p2 ?_ | refine X.p6 ?_ | refine X.p7 ?_ | refine X.p0 ?_ | refine X.p3 ?_ | refine X.p4 ?_ | refine X.p5 ?_ | refine X.p8 ?_ | refine X.p9 ?_ | refine X.q1 ?_ | refine X.q2 ?_ | refine X.q3 ?_ | refine X.q4 ?_ | refine X.q5 ?_ | refine X.q6 ?_ | refine X.q7 ?_ | refine X.q8 ?_ | refine X.q9 ?_ | refine X.q0 ?_ | refine X.m1 ?_ | refine X.m2 ?_ | refine X.m3 ?_ | refine X.m4 ?_ | refine X.m5 ?_ | refine X.m6 ?_ | refine X.l11 ?_ | refine X.l1 ?_ | refine X.l2 ?_ | refine X.l3 ?_ | refine X.l4 ?_ | refine X.l5 ?_ | refine X.l10 ?_ | refine X.l6 ?_ | refine X.l7 ?_ | refine X.l8 ?_ | refine X.l9 ?_ | refine X.m7 ?_ | refine X.m8 ?_ | (refine X.s1 ?_; intro w hw) | (refine X.s2 ?_; intro w hw) | refine X.e1 ?_ | refine X.e2 ?_ | (simp only [X.df]) | (simp (disch := omega) only [wi]))
  refine X.call rfl rfl Try.func33 (write_calls gd gb gp (dk0' 16 gb gp gc) (bs0 16) (okD0 16 gb gp gc (by decide)) rfl rfl 3 (by decide) b7 h7 w hw.pre) ?_
  rintro _ w ⟨vl, u, rfl, hh⟩
  have hw := stT hw hh
  rw [show (if evA (dk0' 16 gb gp gc) || evZ (dk0' 16 gb gp gc) then (4 : Int) else 0) = 0 from rfl]
  have hO : OkD gb gp (wrD (dk0' 16 gb gp gc) (3 : Nat) b7 vl) (wrB (dk0' 16 gb gp gc) (bs0 16) 3 b7 u) := by
    refine ⟨layB_ok (bs0_ok 16 (by decide)) 3 1 b7 h7 u, rfl, rfl, ⟨by show (0 : Int) ≤ 0 + 1; decide, by show (0 + 1 : Int) < 4611686018427387904; decide⟩, by show (0 + 1 : Nat) < 4611686018427387904; decide, by show (0 + 1 + 1) * 272 ≤ 140737488355328; decide, fun i => ?_⟩
    show (((List.replicate 16 ([] : List Ch)).set 3 [((0 : Int) + 1, b7)]).getD i []).length.succ * 264 ≤ _
    have : (((List.replicate 16 ([] : List Ch)).set 3 [((0 : Int) + 1, b7)]).getD i []).length ≤ 1 := by
      rw [List.getD_eq_getElem?_getD, List.getElem?_set]
      split
      · split <;> simp
      · rw [List.getElem?_replicate]; split <;> simp
    omega
  have hbl : (wrB (dk0' 16 gb gp gc) (bs0 16) 3 b7 u).bl.getD 3 [] = b7 := rfl
  repeat (first | refine X.p1 ?_ | refine X.p2 ?_ | refine X.p6 ?_ | refine X.p7 ?_ | refine X.p0 ?_ | refine X.p3 ?_ | refine X.p4 ?_ | refine X.p5 ?_ | refine X.p8 ?_ | refine X.p9 ?_ | refine X.q1 ?_ | refine X.q2 ?_ | refine X.q3 ?_ | refine X.q4 ?_ | refine X.q5 ?_ | refine X.q6 ?_ | refine X.q7 ?_ | refine X.q8 ?_ | refine X.q9 ?_ | refine X.q0 ?_ | refine X.m1 ?_ | refine X.m2 ?_ | refine X.m3 ?_ | refine X.m4 ?_ | refine X.m5 ?_ | refine X.m6 ?_ | refine X.l11 ?_ | refine X.l1 ?_ | refine X.l2 ?_ | refine X.l3 ?_ | refine X.l4 ?_ | refine X.l5 ?_ | refine X.l10 ?_ | refine X.l6 ?_ | refine X.l7 ?_ | refine X.l8 ?_ | refine X.l9 ?_ | refine X.m7 ?_ | refine X.m8 ?_ | (refine X.s1 ?_; intro w hw) | (refine X.s2 ?_; intro w hw) | refine X.e1 ?_ | refine X.e2 ?_ | (simp only [X.df]) | (simp (disch := omega) only [wi]))
  refine X.call rfl rfl Try.func35 (read_calls gd gb gp _ _ hO rfl rfl 3 (by show 3 < 16; decide) w hw.pre) ?_
  rintro _ w ⟨vl2, rfl, hh⟩
  have hw := stT hw hh
  rw [hbl]
  have hl7 : (cb b7).length = 256 := by rw [List.length_map, h7]
  have ho7 := oneCells_cb b7
  repeat (first | refine X.p1 ?_ | refine X.p2 ?_ | refine X.p6 ?_ | refine X.p7 ?_ | refine X.p0 ?_ | refine X.p3 ?_ | refine X.p4 ?_ | refine X.p5 ?_ | refine X.p8 ?_ | refine X.p9 ?_ | refine X.q1 ?_ | refine X.q2 ?_ | refine X.q3 ?_ | refine X.q4 ?_ | refine X.q5 ?_ | refine X.q6 ?_ | refine X.q7 ?_ | refine X.q8 ?_ | refine X.q9 ?_ | refine X.q0 ?_ | refine X.m1 ?_ | refine X.m2 ?_ | refine X.m3 ?_ | refine X.m4 ?_ | refine X.m5 ?_ | refine X.m6 ?_ | refine X.l11 ?_ | refine X.l1 ?_ | refine X.l2 ?_ | refine X.l3 ?_ | refine X.l4 ?_ | refine X.l5 ?_ | refine X.l10 ?_ | refine X.l6 ?_ | refine X.l7 ?_ | refine X.l8 ?_ | refine X.l9 ?_ | refine X.m7 ?_ | refine X.m8 ?_ | (refine X.s1 ?_; intro w hw) | (refine X.s2 ?_; intro w hw) | refine X.e1 ?_ | refine X.e2 ?_ | (simp only [X.df]) | (simp (disch := omega) only [wi]))
  (first | refine X.nb ?_ | refine X.na ?_); intro g3 w _ hw
  repeat (first | refine X.p1 ?_ | refine X.p2 ?_ | refine X.p6 ?_ | refine X.p7 ?_ | refine X.p0 ?_ | refine X.p3 ?_ | refine X.p4 ?_ | refine X.p5 ?_ | refine X.p8 ?_ | refine X.p9 ?_ | refine X.q1 ?_ | refine X.q2 ?_ | refine X.q3 ?_ | refine X.q4 ?_ | refine X.q5 ?_ | refine X.q6 ?_ | refine X.q7 ?_ | refine X.q8 ?_ | refine X.q9 ?_ | refine X.q0 ?_ | refine X.m1 ?_ | refine X.m2 ?_ | refine X.m3 ?_ | refine X.m4 ?_ | refine X.m5 ?_ | refine X.m6 ?_ | refine X.l11 ?_ | refine X.l1 ?_ | refine X.l2 ?_ | refine X.l3 ?_ | refine X.l4 ?_ | refine X.l5 ?_ | refine X.l10 ?_ | refine X.l6 ?_ | refine X.l7 ?_ | refine X.l8 ?_ | refine X.l9 ?_ | refine X.m7 ?_ | refine X.m8 ?_ | (refine X.s1 ?_; intro w hw) | (refine X.s2 ?_; intro w hw) | refine X.e1 ?_ | refine X.e2 ?_ | (simp only [X.df]) | (simp (disch := omega) only [wi]))
  refine X.bl rfl b7B ?_
  repeat (first | refine X.p1 ?_ | refine X.p2 ?_ | refine X.p6 ?_ | refine X.p7 ?_ | refine X.p0 ?_ | refine X.p3 ?_ | refine X.p4 ?_ | refine X.p5 ?_ | refine X.p8 ?_ | refine X.p9 ?_ | refine X.q1 ?_ | refine X.q2 ?_ | refine X.q3 ?_ | refine X.q4 ?_ | refine X.q5 ?_ | refine X.q6 ?_ | refine X.q7 ?_ | refine X.q8 ?_ | refine X.q9 ?_ | refine X.q0 ?_ | refine X.m1 ?_ | refine X.m2 ?_ | refine X.m3 ?_ | refine X.m4 ?_ | refine X.m5 ?_ | refine X.m6 ?_ | refine X.l11 ?_ | refine X.l1 ?_ | refine X.l2 ?_ | refine X.l3 ?_ | refine X.l4 ?_ | refine X.l5 ?_ | refine X.l10 ?_ | refine X.l6 ?_ | refine X.l7 ?_ | refine X.l8 ?_ | refine X.l9 ?_ | refine X.m7 ?_ | refine X.m8 ?_ | (refine X.s1 ?_; intro w hw) | (refine X.s2 ?_; intro w hw) | refine X.e1 ?_ | refine X.e2 ?_ | (simp only [X.df]) | (simp (disch := omega) only [wi]))
  refine ow_eqA hB (a := b7) (b := b7) rfl rfl (by kernel_rfl) ⟨h7, fun _ _ => trivial⟩ ⟨h7, fun _ _ => trivial⟩ rfl rfl rfl ?_
  rw [decide_eq_true (rfl : b7 = b7)]
  repeat (first | refine X.p1 ?_ | refine X.p2 ?_ | refine X.p6 ?_ | refine X.p7 ?_ | refine X.p0 ?_ | refine X.p3 ?_ | refine X.p4 ?_ | refine X.p5 ?_ | refine X.p8 ?_ | refine X.p9 ?_ | refine X.q1 ?_ | refine X.q2 ?_ | refine X.q3 ?_ | refine X.q4 ?_ | refine X.q5 ?_ | refine X.q6 ?_ | refine X.q7 ?_ | refine X.q8 ?_ | refine X.q9 ?_ | refine X.q0 ?_ | refine X.m1 ?_ | refine X.m2 ?_ | refine X.m3 ?_ | refine X.m4 ?_ | refine X.m5 ?_ | refine X.m6 ?_ | refine X.l11 ?_ | refine X.l1 ?_ | refine X.l2 ?_ | refine X.l3 ?_ | refine X.l4 ?_ | refine X.l5 ?_ | refine X.l10 ?_ | refine X.l6 ?_ | refine X.l7 ?_ | refine X.l8 ?_ | refine X.l9 ?_ | refine X.m7 ?_ | refine X.m8 ?_ | (refine X.s1 ?_; intro w hw) | (refine X.s2 ?_; intro w hw) | refine X.e1 ?_ | refine X.e2 ?_ | (simp only [X.df]) | (simp (disch := omega) only [wi]))
  refine X.callN rfl rfl Try.func50 (blocks_calls gd _ (some ⟨gb, 0, none⟩) 16 rfl w (ds_blk (hw.split (F := [blkI g3 61 (cb b7)]) (by unfold dsI; exact (by (repeat (first | (with_reducible exact Split.nil) | ((with_reducible apply Split.cons); (next => (repeat (first | (with_reducible exact Pick.here) | (with_reducible exact Put.here) | (with_reducible apply Pick.there) | (with_reducible apply Put.there)))))))))))) fun w _ hw => ?_
  repeat (first | refine X.p1 ?_ | refine X.p2 ?_ | refine X.p6 ?_ | refine X.p7 ?_ | refine X.p0 ?_ | refine X.p3 ?_ | refine X.p4 ?_ | refine X.p5 ?_ | refine X.p8 ?_ | refine X.p9 ?_ | refine X.q1 ?_ | refine X.q2 ?_ | refine X.q3 ?_ | refine X.q4 ?_ | refine X.q5 ?_ | refine X.q6 ?_ | refine X.q7 ?_ | refine X.q8 ?_ | refine X.q9 ?_ | refine X.q0 ?_ | refine X.m1 ?_ | refine X.m2 ?_ | refine X.m3 ?_ | refine X.m4 ?_ | refine X.m5 ?_ | refine X.m6 ?_ | refine X.l11 ?_ | refine X.l1 ?_ | refine X.l2 ?_ | refine X.l3 ?_ | refine X.l4 ?_ | refine X.l5 ?_ | refine X.l10 ?_ | refine X.l6 ?_ | refine X.l7 ?_ | refine X.l8 ?_ | refine X.l9 ?_ | refine X.m7 ?_ | refine X.m8 ?_ | (refine X.s1 ?_; intro w hw) | (refine X.s2 ?_; intro w hw) | refine X.e1 ?_ | refine X.e2 ?_ | (simp only [X.df]) | (simp (disch := omega) only [wi]))
  exact xw_ret (vs := [_]) Try.results32 ⟨rfl, trivial⟩ ⟨rfl, hw.kpNo ro_nil⟩
end Go.Proofs.Ytnpnphcklmlchaa.Dsk
