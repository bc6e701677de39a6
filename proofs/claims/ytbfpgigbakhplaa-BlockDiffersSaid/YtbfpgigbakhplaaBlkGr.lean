/- Blocks in groups: the plain layer, slices of slices that grow, and the walk of Groups. -/
import Derived.Test.YtbfpgigbakhplaaBlk5
import Derived.Test.YtbfpgigbakhplaaDp
import Derived.Test.YtbfpgigbakhplaaZr
set_option linter.unusedVariables false
set_option linter.unusedSimpArgs false
namespace Go.Proofs.Ytbfpgigbakhplaa.Gr
open Go.RowKit Go.Proofs.Ytbfpgigbakhplaa.Sx Go.Proofs.Ytbfpgigbakhplaa.Mx Go.Proofs.Ytbfpgigbakhplaa.Bw Go.Proofs.Ytbfpgigbakhplaa.By Go.Proofs.Ytbfpgigbakhplaa.Eqs Go.Proofs.Ytbfpgigbakhplaa.Qx Go.Proofs.Ytbfpgigbakhplaa.Ap Go.Proofs.Ytbfpgigbakhplaa.Mi Go.Proofs.Ytbfpgigbakhplaa.Stm Go.Proofs.Ytbfpgigbakhplaa.Fl Go.Proofs.Ytbfpgigbakhplaa.Mp Go.Proofs.Ytbfpgigbakhplaa.Mf Go.Proofs.Ytbfpgigbakhplaa.Dp Go.Proofs.Ytbfpgigbakhplaa.Bd Go.Maps Go.Proofs.Ytbfpgigbakhplaa.Blk1
/-! ### Plain: the blocks, each once; where each stands. -/
abbrev BL := List (List Byte)
def ksN (l : BL) : Nat → BL
  | 0 => []
  | i + 1 => match l[i]? with
    | none => ksN l i
    | some b => if b ∈ ksN l i then ksN l i else ksN l i ++ [b]
def occ (l : BL) (n : Nat) (k : List Byte) : List Nat := (List.range n).filter (fun i => decide (l[i]? = some k))
theorem ks_succ {l : BL} {i : Nat} (h : i < l.length) : ksN l (i + 1) = if l[i] ∈ ksN l i then ksN l i else ksN l i ++ [l[i]] := by
  rw [ksN, List.getElem?_eq_getElem h]
theorem ks_nodup (l : BL) : ∀ i, (ksN l i).Nodup
  | 0 => List.nodup_nil
  | i + 1 => by
    rw [ksN]
    split
    · exact ks_nodup l i
    · split
      · exact ks_nodup l i
      · rename_i b _ hn
        rw [List.nodup_append]
        exact ⟨ks_nodup l i, by simp, fun x hx y hy e => by rw [List.mem_singleton] at hy; subst hy; subst e; exact hn hx⟩
theorem ks_len (l : BL) : ∀ i, (ksN l i).length ≤ i
  | 0 => Nat.le_refl _
  | i + 1 => by
    have := ks_len l i
    rw [ksN]
    split
    · omega
    · split
      · omega
      · simp; omega
theorem ks_mem (l : BL) (b : List Byte) : ∀ i, b ∈ ksN l i ↔ ∃ j, j < i ∧ l[j]? = some b
  | 0 => by simp [ksN]
  | i + 1 => by
    have ih := ks_mem l b i
    rw [ksN]
    constructor
    · intro h
      have h' : b ∈ ksN l i ∨ l[i]? = some b := by
        split at h
        · exact .inl h
        · split at h
          · exact .inl h
          · rename_i c hc _
            rcases List.mem_append.1 h with h | h
            · exact .inl h
            · rw [List.mem_singleton] at h; subst h; exact .inr hc
      rcases h' with h' | h'
      · obtain ⟨j, hj, e⟩ := ih.1 h'; exact ⟨j, by omega, e⟩
      · exact ⟨i, by omega, h'⟩
    · rintro ⟨j, hj, e⟩
      rcases Nat.lt_or_ge j i with hji | hji
      · have hm := ih.2 ⟨j, hji, e⟩
        split
        · exact hm
        · split
          · exact hm
          · exact List.mem_append_left _ hm
      · obtain rfl : j = i := by omega
        rw [e]
        simp only
        split
        · assumption
        · simp
theorem ks_pre (l : BL) (i : Nat) : ∀ d, ∃ r, ksN l (i + d) = ksN l i ++ r
  | 0 => ⟨[], by simp⟩
  | d + 1 => by
    obtain ⟨r, hr⟩ := ks_pre l i d
    show ∃ r, ksN l (i + d + 1) = _
    rw [ksN]
    split
    · exact ⟨r, hr⟩
    · split
      · exact ⟨r, hr⟩
      · rename_i b _ _; exact ⟨r ++ [b], by rw [hr, List.append_assoc]⟩
theorem occ_succ (l : BL) (n : Nat) (k : List Byte) : occ l (n + 1) k = if l[n]? = some k then occ l n k ++ [n] else occ l n k := by
  unfold occ
  rw [List.range_succ, List.filter_append]
  by_cases h : l[n]? = some k
  · rw [if_pos h]; simp [h]
  · rw [if_neg h]; simp [h]
theorem occ_nil {l : BL} {n : Nat} {k : List Byte} (h : k ∉ ksN l n) : occ l n k = [] := by
  unfold occ
  rw [List.filter_eq_nil_iff]
  intro j hj he
  exact h ((ks_mem l k n).2 ⟨j, List.mem_range.1 hj, of_decide_eq_true he⟩)
theorem occ_pre (l : BL) (k : List Byte) (n : Nat) : ∀ d, ∃ r, occ l (n + d) k = occ l n k ++ r
  | 0 => ⟨[], by simp⟩
  | d + 1 => by
    obtain ⟨r, hr⟩ := occ_pre l k n d
    show ∃ r, occ l (n + d + 1) k = _
    rw [occ_succ]
    split
    · exact ⟨r ++ [n + d], by rw [hr, List.append_assoc]⟩
    · exact ⟨r, hr⟩
theorem occ_len (l : BL) (n : Nat) (k : List Byte) : (occ l n k).length ≤ n := by
  unfold occ
  exact Nat.le_trans (List.length_filter_le _ _) (by simp)
theorem map_set {l ks : BL} {i j : Nat} (hi : i < l.length) (hj : j < ks.length) (hk : ks[j] = l[i]) (hn : ks.Nodup) : (ks.map (occ l i)).set j (occ l i l[i] ++ [i]) = ks.map (occ l (i + 1)) := by
  apply List.ext_getElem
  · simp
  · intro m h1 h2
    have hm : m < ks.length := by simpa using h2
    rw [List.getElem_set, List.getElem_map, List.getElem_map, occ_succ, List.getElem?_eq_getElem hi]
    by_cases e : j = m
    · subst e
      rw [if_pos rfl, hk, if_pos rfl]
    · rw [if_neg e, if_neg]
      intro he
      rw [← hk, Option.some_inj] at he
      exact e ((List.getElem_inj hn).1 he)
def ixI (ks : BL) : List Byte → Option Int := fun b => (ks.findIdx? (fun x => decide (x = b))).map fun n => (n : Int)
theorem ixI_nil : ixI [] = fun _ => none := by funext e; rfl
theorem ix_some {ks : BL} {b : List Byte} (h : b ∈ ks) : ∃ j, ∃ hj : j < ks.length, ks[j] = b ∧ ixI ks b = some (j : Int) := by
  cases hf : ks.findIdx? (fun x => decide (x = b)) with
  | none =>
    rw [List.findIdx?_eq_none_iff] at hf
    have := hf b h
    simp at this
  | some j =>
    obtain ⟨hj, he, _⟩ := List.findIdx?_eq_some_iff_getElem.1 hf
    exact ⟨j, hj, of_decide_eq_true he, by unfold ixI; rw [hf]; rfl⟩
theorem ix_none {ks : BL} {b : List Byte} (h : b ∉ ks) : ixI ks b = none := by
  unfold ixI
  have : ks.findIdx? (fun x => decide (x = b)) = none := by
    rw [List.findIdx?_eq_none_iff]
    intro x hx
    simp only [decide_eq_false_iff_not]
    rintro rfl; exact h hx
  rw [this]; rfl
theorem ix_snoc (ks : BL) (b : List Byte) (h : b ∉ ks) : upd (ixI ks) b (ks.length : Int) = ixI (ks ++ [b]) := by
  funext x
  unfold upd
  by_cases hx : x = b
  · subst hx
    have h1 : ks.findIdx? (fun y => decide (y = x)) = none := by
      rw [List.findIdx?_eq_none_iff]
      intro y hy
      simp only [decide_eq_false_iff_not]
      rintro rfl; exact h hy
    rw [if_pos rfl]
    unfold ixI
    rw [List.findIdx?_append, h1]
    simp [List.findIdx?_cons]
  · rw [if_neg hx]
    unfold ixI
    rw [List.findIdx?_append]
    cases h1 : ks.findIdx? (fun y => decide (y = x)) with
    | some i => simp
    | none =>
      have : (decide (b = x)) = false := decide_eq_false (fun h => hx h.symm)
      simp [List.findIdx?_cons, this]
/-! ### Slices of slices. -/
theorem star_out {w0 w : World} {M0 M l r : List Stm.Item} {i : Stm.Item} (h : St w0 M0 (starI l :: M) w) (p : l.Perm (i :: r)) (ho : ∀ j ∈ l, j.own = true) : St w0 M0 (i :: starI r :: M) w := by
  have h1 := (h.unstar).perm (p.append_right M)
  have h2 : Split (i :: r ++ M) r (i :: M) := by
    have : ∀ (r : List Stm.Item), Split (i :: (r ++ M)) r (i :: M) := fun r => by
      induction r with
      | nil => exact .nil
      | cons a r ih => exact .cons (.there .here) ih
    exact this r
  exact (h1.star h2 (fun j hj => ho j (p.mem_iff.2 (by simp [hj])))).perm (List.Perm.swap _ _ _)
theorem star_in {w0 w : World} {M0 M l r : List Stm.Item} {i : Stm.Item} (h : St w0 M0 (i :: starI r :: M) w) (p : (i :: r).Perm l) (ho : ∀ j ∈ l, j.own = true) : St w0 M0 (starI l :: M) w := by
  have h1 := ((h.perm (List.Perm.swap _ _ _)).unstar).perm (show (r ++ i :: M).Perm (l ++ M) from (List.perm_middle.trans (p.append_right M)))
  have h2 : ∀ (l : List Stm.Item), Split (l ++ M) l M := fun l => by
    induction l with
    | nil => exact .nil
    | cons a l ih => exact .cons .here ih
  exact h1.star (h2 l) ho
theorem pick_perm {α : Type} (l : List α) (i : Nat) (hi : i < l.length) : l.Perm (l[i] :: l.eraseIdx i) := by
  have e : l = l.take i ++ l[i] :: l.drop (i + 1) := by rw [← List.drop_eq_getElem_cons hi, List.take_append_drop]
  rw [List.eraseIdx_eq_take_drop_succ]
  exact (List.Perm.of_eq e).trans List.perm_middle
theorem put_perm {α : Type} (l : List α) (i : Nat) (hi : i < l.length) (x : α) : (x :: l.eraseIdx i).Perm (l.set i x) := by
  rw [List.eraseIdx_eq_take_drop_succ, List.set_eq_take_append_cons_drop, if_pos hi]
  exact List.perm_middle.symm
theorem splice_pre (xs rest vs : List Value) (o : Nat) (h : o + vs.length ≤ xs.length) : splice (xs ++ rest) o vs = splice xs o vs ++ rest := by
  unfold splice
  rw [List.take_append_of_le_length (by omega), List.drop_append_of_le_length h]
  simp only [List.append_assoc]
theorem splice_len' (xs vs : List Value) (o : Nat) (h : o + vs.length ≤ xs.length) : (splice xs o vs).length = xs.length := by
  unfold splice; simp only [List.length_append, List.length_take, List.length_drop]; omega
section rules
variable {P : Program} {n : Nat} {Q : Exit → Act → World → Prop} {L : Ctx} {w w0 : World} {M0 M M' : List Stm.Item} {ops : Array Oper} {rest : List Oper} {d : Nat} {ty : TypeId} {pos : String} {af : Array Edge}
/-- A store into a slice that grows. -/
theorem st_storeV (T : Tab P) {t e : TypeId} {x y : Operand} {g o k sz m c : Nat} {v : Value} {xs vs : List Value} (hw : St w0 M0 M w) (hx : ev L x = some (.pointer (some ⟨g, o, none⟩))) (hy : ev L y = some v) (hv : v.cells = vs.toArray)
    (hp : Put (vecI (.slice (some ⟨g, 0, none⟩) m c) e sz m xs) (vecI (.slice (some ⟨g, 0, none⟩) m c) e sz m (splice xs o vs)) M M') (hs : T.sz t = some k) (hl : vs.length = k) (hk : o + k ≤ xs.length) (h1 : oneCells vs = true)
    (h : ∀ w', St w0 M0 M' w' → Ow P n ops Q rest L w') : Ow P n ops Q (⟨none, .store t x y, ty, pos, af, none⟩ :: rest) L w := by
  have hO : Own w 0 e sz (.slice (some ⟨g, 0, none⟩) m c) m xs := hw.pre.all _ hp.pick
  have hlen := hO.1
  rcases hO.2 with ⟨h2, _⟩ | ⟨g', cap, cur, h2, _, hb, h3, h4, h5, h6⟩
  · cases h2
  · cases h2
    have hx' : cur.toList = xs ++ cur.toList.drop (m * sz) := by rw [← h6, List.take_append_drop]
    have hb' : Blk w g e cur.toList := hb
    have hlc : o + k ≤ cur.toList.length := by rw [hx', List.length_append]; omega
    refine ow_storeT T hb' hx hy hv hs hl hlc h1 (fun w' k' b' _ => h w' (hw.turn hp rfl (k'.mono (fun j hj => ?_)) ?_ (fun j hj => .inl hj)))
    · rw [show j = g from hj]; rfl
    · refine ⟨by rw [splice_len' _ _ _ (by omega)]; exact hlen, .inr ⟨g, c, (splice cur.toList o vs).toArray, rfl, Nat.zero_le _, b', h3, h4, ?_, ?_⟩⟩
      · rw [List.size_toArray, splice_len' _ _ _ (by omega), Array.length_toList]; exact h5
      · show List.take (m * sz) (splice cur.toList o vs) = _
        rw [hx', splice_pre _ _ _ _ (by omega), List.take_append_of_le_length (by rw [splice_len' _ _ _ (by omega)]; omega)]
        exact List.take_of_length_le (by rw [splice_len' _ _ _ (by omega)]; omega)
/-- A place of a slice that grows, read. -/
theorem st_loadV (T : Tab P) {t e : TypeId} {D : TypeDesc} {x : Operand} {g j sz m c : Nat} {v : Value} {xs : List Value} (hw : St w0 M0 M w) (hp : Pick (vecI (.slice (some ⟨g, 0, none⟩) m c) e sz m xs) M M') (hx : ev L x = some (.pointer (some ⟨g, 0 + j, none⟩))) (ht : T.ty t = some D) (hD : aggB D = false) (hd : Nat.blt d n = true) (hv : xs[j]? = some v)
    (h : Ow P n ops Q rest ((d, v) :: L) w) : Ow P n ops Q (⟨some d, .load t x, ty, pos, af, none⟩ :: rest) L w := by
  obtain ⟨A, c', h1, hr⟩ := hw.vecRow hp
  cases h1
  refine ow_loadAt1 T (row_at (k := 1) (vs := [v]) hr ?_) hd hx ht hD h
  have hlt := (List.getElem?_eq_some_iff.1 hv).1
  rw [List.getElem?_eq_getElem hlt] at hv
  rw [List.drop_eq_getElem_cons hlt]
  simp only [List.take_succ_cons, List.take_zero]
  rw [Option.some.inj hv]
theorem vec_some {v : Value} {e : TypeId} {sz k : Nat} {cs : List Value} (hw : St w0 M0 M w) (hp : Pick (vecI v e sz k cs) M M') (hk : cs ≠ []) : ∃ g c, v = .slice (some ⟨g, 0, none⟩) k c := by
  have hO : Own w 0 e sz v k cs := hw.pick hp
  rcases hO.2 with ⟨_, rfl⟩ | ⟨g, cap, cur, rfl, _⟩
  · exact absurd (List.eq_nil_of_length_eq_zero (by rw [hO.1, Nat.zero_mul])) hk
  · exact ⟨g, cap, rfl⟩
end rules
theorem splice_set (xs : List Value) (j : Nat) (hj : j < xs.length) (v : Value) : splice xs (0 + (j : Int).toNat * 1) [v] = xs.set j v := by
  rw [Int.toNat_natCast, Nat.mul_one, Nat.zero_add]
  unfold splice
  rw [List.set_eq_take_append_cons_drop, if_pos hj]
  simp
theorem get_one {xs : List Value} {j : Nat} (hj : j < xs.length) : xs[(j : Int).toNat * 1]? = some xs[j] := by
  rw [Int.toNat_natCast, Nat.mul_one, List.getElem?_eq_getElem hj]
theorem ne_nil {xs : List Value} {j : Nat} (hj : j < xs.length) : xs ≠ [] := fun e => by rw [e] at hj; cases hj
abbrev i64v (n : Int) : Value := .int .i64 n
def nsC (g : List Nat) : List Value := g.map fun n : Nat => i64v (n : Int)
theorem nsC_one (g : List Nat) : oneCells (nsC g) = true := by simp [oneCells, nsC]; intro x _; rfl
attribute [local irreducible] Ow Cw Xw Mw
set_option maxHeartbeats 4000000
def vecs (vs : List Value) (gs : List (List Nat)) : List Stm.Item := List.zipWith (fun v g => vecI v 3 1 g.length (nsC g)) vs gs
theorem vecs_own (vs : List Value) (gs : List (List Nat)) : ∀ i ∈ vecs vs gs, i.own = true := by
  intro i hi
  obtain ⟨k, hk, rfl⟩ := List.getElem_of_mem hi
  simp only [vecs, List.getElem_zipWith]; rfl
theorem vecs_len {vs : List Value} {gs : List (List Nat)} (h : vs.length = gs.length) : (vecs vs gs).length = gs.length := by simp [vecs, h]
theorem vecs_get {vs : List Value} {gs : List (List Nat)} {j : Nat} (h1 : j < vs.length) (h2 : j < gs.length) {h : j < (vecs vs gs).length} : (vecs vs gs)[j] = vecI vs[j] 3 1 gs[j].length (nsC gs[j]) := by
  simp [vecs]
theorem vecs_set {vs : List Value} {gs : List (List Nat)} (h : vs.length = gs.length) (j : Nat) (v : Value) (g : List Nat) : (vecs vs gs).set j (vecI v 3 1 g.length (nsC g)) = vecs (vs.set j v) (gs.set j g) := by
  unfold vecs
  apply List.ext_getElem?
  intro i
  rw [List.getElem?_set]
  simp only [List.getElem?_zipWith, List.getElem?_set, List.length_zipWith]
  by_cases e : j = i
  · subst e
    by_cases hj : j < gs.length
    · have hj' : j < vs.length := by omega
      simp [hj, hj', h]
    · have hj' : ¬ j < vs.length := by omega
      simp [hj, hj', h]
  · simp [e]
theorem vecs_snoc {vs : List Value} {gs : List (List Nat)} (h : vs.length = gs.length) (v : Value) (g : List Nat) : vecs (vs ++ [v]) (gs ++ [g]) = vecs vs gs ++ [vecI v 3 1 g.length (nsC g)] := by
  unfold vecs
  rw [List.zipWith_append h]; rfl
abbrev bV (b : List Byte) : Value := .agg (cb b).toArray
def OkBk (b : List Byte) : Prop := b.length = 256
theorem bKey (s : List Byte) (h : OkBk s) : ∃ kl, keyOf Try.prog 23 (bV s) = some kl := by
  refine key_agg (by rw [Try.underlying23]) (by kernel_rfl) (by rw [List.length_map, h]; kernel_rfl) ?_
  exact key_bytes Try.underlying23 Try.underlying5 (by kernel_rfl) (by kernel_rfl) h
theorem bKeyed : Keyed Try.prog 23 := Keyed.of_law (deep_law_laid (by kernel_rfl) (m := 9) (by decide) (of_decide_eq_true (by kernel_rfl)) (by kernel_rfl) (by rw [Try.underlying23]))
theorem agg_inj {a b : List Value} (h : Value.agg a.toArray = .agg b.toArray) : a = b := by
  have := congrArg (fun v => match v with | Value.agg a => a.toList | _ => []) h
  simpa using this
theorem bInj (x x' : List Byte) (h : OkBk x) (h' : OkBk x') (e : bV x = bV x') : x = x' := By.cb_inj (agg_inj e)
theorem zInt : zeroOf Try.prog 3 = some (i64v 0) := by kernel_rfl
theorem i640 : I64 0 := by unfold I64; omega
theorem pInt (n : Int) (h : I64 n) : plainElem (H := Unit) Try.prog 3 (i64v n) = some (.lit (.int .i64 n), []) := plainElem_int Try.underlying3 (by
  obtain ⟨h1, h2⟩ := h
  simp only [Lit.wf, Bool.and_eq_true, decide_eq_true_eq, IntKind.min, IntKind.max, IntKind.signed, IntKind.bits]
  simp; omega)
abbrev mI (g m : Nat) (ks : BL) : Stm.Item := mapI Try.prog g 23 3 bV OkBk i64v m (ixI ks)
theorem slV_one (v : Value) (A : Option Addr) (k c : Nat) (h : v = .slice A k c) : oneCells [v] = true := by subst h; rfl
theorem groups_calls (A : Option Addr) (l : BL) (c : Nat) (hl : ∀ x ∈ l, x.length = 256) (hlb : l.length * 256 ≤ 140737488351232) (w0 : World) (hr : Row w0 A (blks l)) :
    Does Try.prog 28 [.slice A l.length c] w0 fun v w' => ∃ vs, vs.length = (ksN l l.length).length ∧ St w0 [] [vecI v 55 1 (ksN l l.length).length vs, starI (vecs vs ((ksN l l.length).map (occ l l.length)))] w' := by
  have hw := St.start (w := w0) .nil
  refine fn_enter Try.func28 rfl Try.ntmps28 rfl ?_
  repeat (first | refine X.p1 ?_ | refine X.p2 ?_ | refine X.p6 ?_ | refine X.p7 ?_ | refine X.p0 ?_ | refine X.p3 ?_ | refine X.p4 ?_ | refine X.p5 ?_ | refine X.p8 ?_ | refine X.p9 ?_ | refine X.q1 ?_ | refine X.q2 ?_ | refine X.q3 ?_ | refine X.q4 ?_ | refine X.q5 ?_ | refine X.q6 ?_ | refine X.q7 ?_ | refine X.q8 ?_ | refine X.q9 ?_ | refine X.q0 ?_ | refine X.m1 ?_ | refine X.m2 ?_ | refine X.m3 ?_ | refine X.m4 ?_ | refine X.m5 ?_ | refine X.m6 ?_ | refine X.l11 ?_ | refine X.l1 ?_ | refine X.l2 ?_ | refine X.l3 ?_ | refine X.l4 ?_ | refine X.l5 ?_ | refine X.l10 ?_ | refine X.l6 ?_ | refine X.l7 ?_ | refine X.l8 ?_ | refine X.l9 ?_ | refine X.m7 ?_ | refine X.m8 ?_ | (refine X.s1 ?_; intro w hw) | (refine X.s2 ?_; intro w hw) | refine X.e1 ?_ | refine X.e2 ?_ | (simp only [X.df]) | (simp (disch := omega) only [wi]))
  refine Mp.mkmap (e := 3) bV OkBk i64v hw bKey (fun gm w _ hw => ?_)
  repeat (first | refine X.p1 ?_ | refine X.p2 ?_ | refine X.p6 ?_ | refine X.p7 ?_ | refine X.p0 ?_ | refine X.p3 ?_ | refine X.p4 ?_ | refine X.p5 ?_ | refine X.p8 ?_ | refine X.p9 ?_ | refine X.q1 ?_ | refine X.q2 ?_ | refine X.q3 ?_ | refine X.q4 ?_ | refine X.q5 ?_ | refine X.q6 ?_ | refine X.q7 ?_ | refine X.q8 ?_ | refine X.q9 ?_ | refine X.q0 ?_ | refine X.m1 ?_ | refine X.m2 ?_ | refine X.m3 ?_ | refine X.m4 ?_ | refine X.m5 ?_ | refine X.m6 ?_ | refine X.l11 ?_ | refine X.l1 ?_ | refine X.l2 ?_ | refine X.l3 ?_ | refine X.l4 ?_ | refine X.l5 ?_ | refine X.l10 ?_ | refine X.l6 ?_ | refine X.l7 ?_ | refine X.l8 ?_ | refine X.l9 ?_ | refine X.m7 ?_ | refine X.m8 ?_ | (refine X.s1 ?_; intro w hw) | (refine X.s2 ?_; intro w hw) | refine X.e1 ?_ | refine X.e2 ?_ | (simp only [X.df]) | (simp (disch := omega) only [wi]))
  have hw := hw.nilVec (e := 55) (sz := 1)
  have hw := hw.star (l := []) .nil (fun i hi => by cases hi)
  rw [← ixI_nil] at hw
  refine X.loop (fun p : Nat × Value × List Value × Nat => [(3, p.2.1), (4, .map (some gm)), (10, .slice A l.length c), (11, .int .i64 (l.length : Int)), (12, .int .i64 (p.1 : Int))])
    (fun p w' => p.1 ≤ l.length ∧ p.2.2.2 ≤ p.1 ∧ p.2.2.1.length = (ksN l p.1).length ∧ St w0 [] [starI (vecs p.2.2.1 ((ksN l p.1).map (occ l p.1))), vecI p.2.1 55 1 (ksN l p.1).length p.2.2.1, mI gm p.2.2.2 (ksN l p.1)] w') (fun p => l.length - p.1) (0, .slice none 0 0, [], 0) ⟨Nat.zero_le _, Nat.le_refl _, rfl, hw⟩ ?_
  clear hw
  rintro ⟨i, vo, vs, m⟩ w ⟨hi, hm, hvl, hw⟩
  simp only at hi hm hvl hw
  have hkl := ks_len l i
  repeat (first | refine X.p1 ?_ | refine X.p2 ?_ | refine X.p6 ?_ | refine X.p7 ?_ | refine X.p0 ?_ | refine X.p3 ?_ | refine X.p4 ?_ | refine X.p5 ?_ | refine X.p8 ?_ | refine X.p9 ?_ | refine X.q1 ?_ | refine X.q2 ?_ | refine X.q3 ?_ | refine X.q4 ?_ | refine X.q5 ?_ | refine X.q6 ?_ | refine X.q7 ?_ | refine X.q8 ?_ | refine X.q9 ?_ | refine X.q0 ?_ | refine X.m1 ?_ | refine X.m2 ?_ | refine X.m3 ?_ | refine X.m4 ?_ | refine X.m5 ?_ | refine X.m6 ?_ | refine X.l11 ?_ | refine X.l1 ?_ | refine X.l2 ?_ | refine X.l3 ?_ | refine X.l4 ?_ | refine X.l5 ?_ | refine X.l10 ?_ | refine X.l6 ?_ | refine X.l7 ?_ | refine X.l8 ?_ | refine X.l9 ?_ | refine X.m7 ?_ | refine X.m8 ?_ | (refine X.s1 ?_; intro w hw) | (refine X.s2 ?_; intro w hw) | refine X.e1 ?_ | refine X.e2 ?_ | (simp only [X.df]) | (simp (disch := omega) only [wi]))
  refine X.cond (fun hlt => ?_) (fun hge => ?_)
  · have hlt : i < l.length := by omega
    have hbl : (cb l[i]).length = 256 := by rw [List.length_map]; exact hl _ (List.getElem_mem hlt)
    have hok : OkBk l[i] := hl _ (List.getElem_mem hlt)
    have hg : ((blks l).drop ((i : Int).toNat * 256)).take 256 = cb l[i] := by
      rw [Int.toNat_natCast]; exact piece_get l (fun x hx => by rw [List.length_map]; exact hl x hx) i hlt
    have hbo := oneCells_cb l[i]
    obtain ⟨g, o, rfl, hat⟩ := hr.some (blks_ne l hl hlt)
    have hks := ks_succ hlt
    have hnd := ks_nodup l (i + 1)
    have hkl1 := ks_len l (i + 1)
    have hmap := @map_set l (ksN l (i + 1)) i
    repeat (first | refine X.p1 ?_ | refine X.p2 ?_ | refine X.p6 ?_ | refine X.p7 ?_ | refine X.p0 ?_ | refine X.p3 ?_ | refine X.p4 ?_ | refine X.p5 ?_ | refine X.p8 ?_ | refine X.p9 ?_ | refine X.q1 ?_ | refine X.q2 ?_ | refine X.q3 ?_ | refine X.q4 ?_ | refine X.q5 ?_ | refine X.q6 ?_ | refine X.q7 ?_ | refine X.q8 ?_ | refine X.q9 ?_ | refine X.q0 ?_ | refine X.m1 ?_ | refine X.m2 ?_ | refine X.m3 ?_ | refine X.m4 ?_ | refine X.m5 ?_ | refine X.m6 ?_ | refine X.l11 ?_ | refine X.l1 ?_ | refine X.l2 ?_ | refine X.l3 ?_ | refine X.l4 ?_ | refine X.l5 ?_ | refine X.l10 ?_ | refine X.l6 ?_ | refine X.l7 ?_ | refine X.l8 ?_ | refine X.l9 ?_ | refine X.m7 ?_ | refine X.m8 ?_ | (refine X.s1 ?_; intro w hw) | (refine X.s2 ?_; intro w hw) | refine X.e1 ?_ | refine X.e2 ?_ | (simp only [X.df]) | (simp (disch := omega) only [wi]))
    refine ow_loadAt tab (row_at (hr.no (hw.kpNo ro_nil)) hg) rfl rfl rfl rfl rfl hbl ?_
    (first | refine X.nb ?_ | refine X.na ?_); intro g6 w _ hw
    repeat (first | refine X.p1 ?_ | refine X.p2 ?_ | refine X.p6 ?_ | refine X.p7 ?_ | refine X.p0 ?_ | refine X.p3 ?_ | refine X.p4 ?_ | refine X.p5 ?_ | refine X.p8 ?_ | refine X.p9 ?_ | refine X.q1 ?_ | refine X.q2 ?_ | refine X.q3 ?_ | refine X.q4 ?_ | refine X.q5 ?_ | refine X.q6 ?_ | refine X.q7 ?_ | refine X.q8 ?_ | refine X.q9 ?_ | refine X.q0 ?_ | refine X.m1 ?_ | refine X.m2 ?_ | refine X.m3 ?_ | refine X.m4 ?_ | refine X.m5 ?_ | refine X.m6 ?_ | refine X.l11 ?_ | refine X.l1 ?_ | refine X.l2 ?_ | refine X.l3 ?_ | refine X.l4 ?_ | refine X.l5 ?_ | refine X.l10 ?_ | refine X.l6 ?_ | refine X.l7 ?_ | refine X.l8 ?_ | refine X.l9 ?_ | refine X.m7 ?_ | refine X.m8 ?_ | (refine X.s1 ?_; intro w hw) | (refine X.s2 ?_; intro w hw) | refine X.e1 ?_ | refine X.e2 ?_ | (simp only [X.df]) | (simp (disch := omega) only [wi]))
    refine Mp.look (x := l[i]) hw (by (repeat (first | (with_reducible exact Pick.here) | (with_reducible exact Put.here) | (with_reducible apply Pick.there) | (with_reducible apply Put.there)))) bKeyed Try.underlying129 zInt (pInt 0 i640) hok ?_
    simp only [if_true]
    have hvi : ∀ ks : BL, vs.length = ks.length → (vecs vs (ks.map (occ l i))).length = ks.length := fun ks h => by rw [vecs_len (by rw [List.length_map]; exact h), List.length_map]
    by_cases hb : l[i] ∈ ksN l i
    · obtain ⟨j, hj, hkj, hix⟩ := ix_some hb
      rw [if_pos hb] at hks
      rw [hix]
      simp only [Option.isSome_some, atOr]
      have hset := hmap (j := j) hlt (by rw [hks]; exact hj) (by simp only [hks]; exact hkj) hnd
      obtain ⟨g3, c3, h3⟩ := vec_some hw (v := vo) (by (repeat (first | (with_reducible exact Pick.here) | (with_reducible exact Put.here) | (with_reducible apply Pick.there) | (with_reducible apply Put.there)))) (ne_nil (j := j) (by omega))
      subst h3
      rw [hks] at hset
      generalize ksN l i = ks at *
      have hvj := get_one (show j < vs.length by omega)
      have hgj : j < (vecs vs (ks.map (occ l i))).length := by rw [vecs_len (by rw [List.length_map]; exact hvl), List.length_map]; exact hj
      have hin : (vecs vs (ks.map (occ l i)))[j] = vecI (vs[j]'(by omega)) 3 1 (occ l i l[i]).length (nsC (occ l i l[i])) := by
        rw [vecs_get (by omega) (by rw [List.length_map]; exact hj), List.getElem_map, hkj]
      have hol := occ_len l i l[i]
      generalize vs[j]'(by omega) = u at hvj hin
      repeat (first | refine X.p1 ?_ | refine X.p2 ?_ | refine X.p6 ?_ | refine X.p7 ?_ | refine X.p0 ?_ | refine X.p3 ?_ | refine X.p4 ?_ | refine X.p5 ?_ | refine X.p8 ?_ | refine X.p9 ?_ | refine X.q1 ?_ | refine X.q2 ?_ | refine X.q3 ?_ | refine X.q4 ?_ | refine X.q5 ?_ | refine X.q6 ?_ | refine X.q7 ?_ | refine X.q8 ?_ | refine X.q9 ?_ | refine X.q0 ?_ | refine X.m1 ?_ | refine X.m2 ?_ | refine X.m3 ?_ | refine X.m4 ?_ | refine X.m5 ?_ | refine X.m6 ?_ | refine X.l11 ?_ | refine X.l1 ?_ | refine X.l2 ?_ | refine X.l3 ?_ | refine X.l4 ?_ | refine X.l5 ?_ | refine X.l10 ?_ | refine X.l6 ?_ | refine X.l7 ?_ | refine X.l8 ?_ | refine X.l9 ?_ | refine X.m7 ?_ | refine X.m8 ?_ | (refine X.s1 ?_; intro w hw) | (refine X.s2 ?_; intro w hw) | refine X.e1 ?_ | refine X.e2 ?_ | (simp only [X.df]) | (simp (disch := omega) only [wi]))
      refine st_loadV tab hw (by (repeat (first | (with_reducible exact Pick.here) | (with_reducible exact Put.here) | (with_reducible apply Pick.there) | (with_reducible apply Put.there)))) rfl rfl rfl rfl hvj ?_
      repeat (first | refine X.p1 ?_ | refine X.p2 ?_ | refine X.p6 ?_ | refine X.p7 ?_ | refine X.p0 ?_ | refine X.p3 ?_ | refine X.p4 ?_ | refine X.p5 ?_ | refine X.p8 ?_ | refine X.p9 ?_ | refine X.q1 ?_ | refine X.q2 ?_ | refine X.q3 ?_ | refine X.q4 ?_ | refine X.q5 ?_ | refine X.q6 ?_ | refine X.q7 ?_ | refine X.q8 ?_ | refine X.q9 ?_ | refine X.q0 ?_ | refine X.m1 ?_ | refine X.m2 ?_ | refine X.m3 ?_ | refine X.m4 ?_ | refine X.m5 ?_ | refine X.m6 ?_ | refine X.l11 ?_ | refine X.l1 ?_ | refine X.l2 ?_ | refine X.l3 ?_ | refine X.l4 ?_ | refine X.l5 ?_ | refine X.l10 ?_ | refine X.l6 ?_ | refine X.l7 ?_ | refine X.l8 ?_ | refine X.l9 ?_ | refine X.m7 ?_ | refine X.m8 ?_ | (refine X.s1 ?_; intro w hw) | (refine X.s2 ?_; intro w hw) | refine X.e1 ?_ | refine X.e2 ?_ | (simp only [X.df]) | (simp (disch := omega) only [wi]))
      refine X.c1 ?_; intro g7 w _ hw
      have hw := star_out (l := vecs vs (ks.map (occ l i))) (hw.perm (Pick.perm (i := starI (vecs vs (ks.map (occ l i)))) (by (repeat (first | (with_reducible exact Pick.here) | (with_reducible exact Put.here) | (with_reducible apply Pick.there) | (with_reducible apply Put.there)))))) (pick_perm _ j hgj) (vecs_own _ _)
      rw [hin] at hw
      (first | refine X.a1 ?_ | refine X.a3 ?_ | refine X.a2 ?_); intro u2 w hw
      rw [show vecI u2 3 1 ((occ l i l[i]).length + 1) (nsC (occ l i l[i]) ++ [i64v (i : Int)]) = vecI u2 3 1 (occ l i l[i] ++ [i]).length (nsC (occ l i l[i] ++ [i])) from by simp [nsC]] at hw
      obtain ⟨Au, cu, hu⟩ := vec_slice hw (v := u2) (by (repeat (first | (with_reducible exact Pick.here) | (with_reducible exact Put.here) | (with_reducible apply Pick.there) | (with_reducible apply Put.there))))
      subst hu
      repeat (first | refine X.p1 ?_ | refine X.p2 ?_ | refine X.p6 ?_ | refine X.p7 ?_ | refine X.p0 ?_ | refine X.p3 ?_ | refine X.p4 ?_ | refine X.p5 ?_ | refine X.p8 ?_ | refine X.p9 ?_ | refine X.q1 ?_ | refine X.q2 ?_ | refine X.q3 ?_ | refine X.q4 ?_ | refine X.q5 ?_ | refine X.q6 ?_ | refine X.q7 ?_ | refine X.q8 ?_ | refine X.q9 ?_ | refine X.q0 ?_ | refine X.m1 ?_ | refine X.m2 ?_ | refine X.m3 ?_ | refine X.m4 ?_ | refine X.m5 ?_ | refine X.m6 ?_ | refine X.l11 ?_ | refine X.l1 ?_ | refine X.l2 ?_ | refine X.l3 ?_ | refine X.l4 ?_ | refine X.l5 ?_ | refine X.l10 ?_ | refine X.l6 ?_ | refine X.l7 ?_ | refine X.l8 ?_ | refine X.l9 ?_ | refine X.m7 ?_ | refine X.m8 ?_ | (refine X.s1 ?_; intro w hw) | (refine X.s2 ?_; intro w hw) | refine X.e1 ?_ | refine X.e2 ?_ | (simp only [X.df]) | (simp (disch := omega) only [wi]))
      refine st_storeV tab hw rfl rfl rfl (by (repeat (first | (with_reducible exact Pick.here) | (with_reducible exact Put.here) | (with_reducible apply Pick.there) | (with_reducible apply Put.there)))) rfl rfl (by rw [Int.toNat_natCast]; omega) rfl ?_
      intro w hw
      rw [splice_set _ _ (by omega)] at hw
      have hw := star_in (l := vecs (vs.set j (.slice Au (occ l i l[i] ++ [i]).length cu)) (ks.map (occ l (i + 1)))) ((hw.perm (Pick.perm (i := starI ((vecs vs (ks.map (occ l i))).eraseIdx j)) (by (repeat (first | (with_reducible exact Pick.here) | (with_reducible exact Put.here) | (with_reducible apply Pick.there) | (with_reducible apply Put.there)))))).perm (Pick.perm (i := vecI (.slice Au (occ l i l[i] ++ [i]).length cu) 3 1 (occ l i l[i] ++ [i]).length (nsC (occ l i l[i] ++ [i]))) (by (repeat (first | (with_reducible exact Pick.here) | (with_reducible exact Put.here) | (with_reducible apply Pick.there) | (with_reducible apply Put.there)))))) (by rw [← hset, ← vecs_set (by rw [List.length_map]; exact hvl) j]; exact put_perm _ j hgj _) (vecs_own _ _)
      repeat (first | refine X.p1 ?_ | refine X.p2 ?_ | refine X.p6 ?_ | refine X.p7 ?_ | refine X.p0 ?_ | refine X.p3 ?_ | refine X.p4 ?_ | refine X.p5 ?_ | refine X.p8 ?_ | refine X.p9 ?_ | refine X.q1 ?_ | refine X.q2 ?_ | refine X.q3 ?_ | refine X.q4 ?_ | refine X.q5 ?_ | refine X.q6 ?_ | refine X.q7 ?_ | refine X.q8 ?_ | refine X.q9 ?_ | refine X.q0 ?_ | refine X.m1 ?_ | refine X.m2 ?_ | refine X.m3 ?_ | refine X.m4 ?_ | refine X.m5 ?_ | refine X.m6 ?_ | refine X.l11 ?_ | refine X.l1 ?_ | refine X.l2 ?_ | refine X.l3 ?_ | refine X.l4 ?_ | refine X.l5 ?_ | refine X.l10 ?_ | refine X.l6 ?_ | refine X.l7 ?_ | refine X.l8 ?_ | refine X.l9 ?_ | refine X.m7 ?_ | refine X.m8 ?_ | (refine X.s1 ?_; intro w hw) | (refine X.s2 ?_; intro w hw) | refine X.e1 ?_ | refine X.e2 ?_ | (simp only [X.df]) | (simp (disch := omega) only [wi]))
      refine X.again (i + 1, .slice (some ⟨g3, 0, none⟩) ks.length c3, vs.set j (.slice Au (occ l i l[i] ++ [i]).length cu), m) ⟨by simp only; omega, by simp only; omega, by simp only [hks]; rw [List.length_set]; exact hvl, ?_⟩ (by simp only; omega)
      simp only [hks]
      exact hw.sub (by (repeat (first | (with_reducible exact Split.nil) | ((with_reducible apply Split.cons); (next => (repeat (first | (with_reducible exact Pick.here) | (with_reducible exact Put.here) | (with_reducible apply Pick.there) | (with_reducible apply Put.there))))))))
    · have hix := ix_none hb
      rw [if_neg hb] at hks
      rw [hix]
      simp only [Option.isSome_none, atOr]
      obtain ⟨A3, c3, h3⟩ := vec_slice hw (v := vo) (by (repeat (first | (with_reducible exact Pick.here) | (with_reducible exact Put.here) | (with_reducible apply Pick.there) | (with_reducible apply Put.there))))
      subst h3
      have hnI : I64 ((ksN l i).length : Int) := by unfold I64; omega
      have hset := hmap (j := (ksN l i).length) hlt (by rw [hks]; simp) (by simp [hks]) hnd
      rw [hks] at hset
      repeat (first | refine X.p1 ?_ | refine X.p2 ?_ | refine X.p6 ?_ | refine X.p7 ?_ | refine X.p0 ?_ | refine X.p3 ?_ | refine X.p4 ?_ | refine X.p5 ?_ | refine X.p8 ?_ | refine X.p9 ?_ | refine X.q1 ?_ | refine X.q2 ?_ | refine X.q3 ?_ | refine X.q4 ?_ | refine X.q5 ?_ | refine X.q6 ?_ | refine X.q7 ?_ | refine X.q8 ?_ | refine X.q9 ?_ | refine X.q0 ?_ | refine X.m1 ?_ | refine X.m2 ?_ | refine X.m3 ?_ | refine X.m4 ?_ | refine X.m5 ?_ | refine X.m6 ?_ | refine X.l11 ?_ | refine X.l1 ?_ | refine X.l2 ?_ | refine X.l3 ?_ | refine X.l4 ?_ | refine X.l5 ?_ | refine X.l10 ?_ | refine X.l6 ?_ | refine X.l7 ?_ | refine X.l8 ?_ | refine X.l9 ?_ | refine X.m7 ?_ | refine X.m8 ?_ | (refine X.s1 ?_; intro w hw) | (refine X.s2 ?_; intro w hw) | refine X.e1 ?_ | refine X.e2 ?_ | (simp only [X.df]) | (simp (disch := omega) only [wi]))
      refine Mp.put (x := l[i]) (y := ((ksN l i).length : Int)) hw (by (repeat (first | (with_reducible exact Pick.here) | (with_reducible exact Put.here) | (with_reducible apply Pick.there) | (with_reducible apply Put.there)))) bKeyed Try.underlying129 bInj (by unfold maxLen; omega) hok (pInt _ hnI) (fun w hw => ?_)
      rw [ix_snoc _ _ hb] at hw
      repeat (first | refine X.p1 ?_ | refine X.p2 ?_ | refine X.p6 ?_ | refine X.p7 ?_ | refine X.p0 ?_ | refine X.p3 ?_ | refine X.p4 ?_ | refine X.p5 ?_ | refine X.p8 ?_ | refine X.p9 ?_ | refine X.q1 ?_ | refine X.q2 ?_ | refine X.q3 ?_ | refine X.q4 ?_ | refine X.q5 ?_ | refine X.q6 ?_ | refine X.q7 ?_ | refine X.q8 ?_ | refine X.q9 ?_ | refine X.q0 ?_ | refine X.m1 ?_ | refine X.m2 ?_ | refine X.m3 ?_ | refine X.m4 ?_ | refine X.m5 ?_ | refine X.m6 ?_ | refine X.l11 ?_ | refine X.l1 ?_ | refine X.l2 ?_ | refine X.l3 ?_ | refine X.l4 ?_ | refine X.l5 ?_ | refine X.l10 ?_ | refine X.l6 ?_ | refine X.l7 ?_ | refine X.l8 ?_ | refine X.l9 ?_ | refine X.m7 ?_ | refine X.m8 ?_ | (refine X.s1 ?_; intro w hw) | (refine X.s2 ?_; intro w hw) | refine X.e1 ?_ | refine X.e2 ?_ | (simp only [X.df]) | (simp (disch := omega) only [wi]))
      refine X.c1 ?_; intro g8 w _ hw
      (first | refine X.a1 ?_ | refine X.a3 ?_ | refine X.a2 ?_); intro v3 w hw
      have hw := hw.nilVec (e := 3) (sz := 1)
      have hw := star_in (l := vecs (vs ++ [.slice none 0 0]) ((ksN l i ++ [l[i]]).map (occ l i))) ((hw.perm (Pick.perm (i := starI (vecs vs ((ksN l i).map (occ l i)))) (by (repeat (first | (with_reducible exact Pick.here) | (with_reducible exact Put.here) | (with_reducible apply Pick.there) | (with_reducible apply Put.there)))))).perm (Pick.perm (i := vecI (.slice none 0 0) 3 1 0 []) (by (repeat (first | (with_reducible exact Pick.here) | (with_reducible exact Put.here) | (with_reducible apply Pick.there) | (with_reducible apply Put.there)))))) (by rw [List.map_append, List.map_cons, List.map_nil, occ_nil hb, vecs_snoc (by rw [List.length_map]; exact hvl)]; exact (List.perm_append_singleton _ _).symm) (vecs_own _ _)
      obtain ⟨g3, c3, h3⟩ := vec_some hw (v := v3) (by (repeat (first | (with_reducible exact Pick.here) | (with_reducible exact Put.here) | (with_reducible apply Pick.there) | (with_reducible apply Put.there)))) (by simp)
      subst h3
      have hL : (ksN l i).length + 1 = (ksN l i ++ [l[i]]).length := by simp
      have hvl : (vs ++ [Value.slice none 0 0]).length = (ksN l i ++ [l[i]]).length := by simp [hvl]
      have hj : (ksN l i).length < (ksN l i ++ [l[i]]).length := by simp
      rw [hL] at hw ⊢
      generalize vs ++ [Value.slice none 0 0] = vs at hw hvl
      obtain ⟨j, hjj⟩ : ∃ j, j = (ksN l i).length := ⟨_, rfl⟩
      have hkj : ∀ h : j < (ksN l i ++ [l[i]]).length, (ksN l i ++ [l[i]])[j] = l[i] := by subst hjj; simp
      rw [← hjj] at hset hj ⊢
      have hkj := hkj hj
      generalize ksN l i ++ [l[i]] = ks at *
      have hvj := get_one (show j < vs.length by omega)
      have hgj : j < (vecs vs (ks.map (occ l i))).length := by rw [vecs_len (by rw [List.length_map]; exact hvl), List.length_map]; exact hj
      have hin : (vecs vs (ks.map (occ l i)))[j] = vecI (vs[j]'(by omega)) 3 1 (occ l i l[i]).length (nsC (occ l i l[i])) := by
        rw [vecs_get (by omega) (by rw [List.length_map]; exact hj), List.getElem_map, hkj]
      have hol := occ_len l i l[i]
      generalize vs[j]'(by omega) = u at hvj hin
      repeat (first | refine X.p1 ?_ | refine X.p2 ?_ | refine X.p6 ?_ | refine X.p7 ?_ | refine X.p0 ?_ | refine X.p3 ?_ | refine X.p4 ?_ | refine X.p5 ?_ | refine X.p8 ?_ | refine X.p9 ?_ | refine X.q1 ?_ | refine X.q2 ?_ | refine X.q3 ?_ | refine X.q4 ?_ | refine X.q5 ?_ | refine X.q6 ?_ | refine X.q7 ?_ | refine X.q8 ?_ | refine X.q9 ?_ | refine X.q0 ?_ | refine X.m1 ?_ | refine X.m2 ?_ | refine X.m3 ?_ | refine X.m4 ?_ | refine X.m5 ?_ | refine X.m6 ?_ | refine X.l11 ?_ | refine X.l1 ?_ | refine X.l2 ?_ | refine X.l3 ?_ | refine X.l4 ?_ | refine X.l5 ?_ | refine X.l10 ?_ | refine X.l6 ?_ | refine X.l7 ?_ | refine X.l8 ?_ | refine X.l9 ?_ | refine X.m7 ?_ | refine X.m8 ?_ | (refine X.s1 ?_; intro w hw) | (refine X.s2 ?_; intro w hw) | refine X.e1 ?_ | refine X.e2 ?_ | (simp only [X.df]) | (simp (disch := omega) only [wi]))
      refine st_loadV tab hw (by (repeat (first | (with_reducible exact Pick.here) | (with_reducible exact Put.here) | (with_reducible apply Pick.there) | (with_reducible apply Put.there)))) rfl rfl rfl rfl hvj ?_
      repeat (first | refine X.p1 ?_ | refine X.p2 ?_ | refine X.p6 ?_ | refine X.p7 ?_ | refine X.p0 ?_ | refine X.p3 ?_ | refine X.p4 ?_ | refine X.p5 ?_ | refine X.p8 ?_ | refine X.p9 ?_ | refine X.q1 ?_ | refine X.q2 ?_ | refine X.q3 ?_ | refine X.q4 ?_ | refine X.q5 ?_ | refine X.q6 ?_ | refine X.q7 ?_ | refine X.q8 ?_ | refine X.q9 ?_ | refine X.q0 ?_ | refine X.m1 ?_ | refine X.m2 ?_ | refine X.m3 ?_ | refine X.m4 ?_ | refine X.m5 ?_ | refine X.m6 ?_ | refine X.l11 ?_ | refine X.l1 ?_ | refine X.l2 ?_ | refine X.l3 ?_ | refine X.l4 ?_ | refine X.l5 ?_ | refine X.l10 ?_ | refine X.l6 ?_ | refine X.l7 ?_ | refine X.l8 ?_ | refine X.l9 ?_ | refine X.m7 ?_ | refine X.m8 ?_ | (refine X.s1 ?_; intro w hw) | (refine X.s2 ?_; intro w hw) | refine X.e1 ?_ | refine X.e2 ?_ | (simp only [X.df]) | (simp (disch := omega) only [wi]))
      refine X.c1 ?_; intro g7 w _ hw
      have hw := star_out (l := vecs vs (ks.map (occ l i))) (hw.perm (Pick.perm (i := starI (vecs vs (ks.map (occ l i)))) (by (repeat (first | (with_reducible exact Pick.here) | (with_reducible exact Put.here) | (with_reducible apply Pick.there) | (with_reducible apply Put.there)))))) (pick_perm _ j hgj) (vecs_own _ _)
      rw [hin] at hw
      (first | refine X.a1 ?_ | refine X.a3 ?_ | refine X.a2 ?_); intro u2 w hw
      rw [show vecI u2 3 1 ((occ l i l[i]).length + 1) (nsC (occ l i l[i]) ++ [i64v (i : Int)]) = vecI u2 3 1 (occ l i l[i] ++ [i]).length (nsC (occ l i l[i] ++ [i])) from by simp [nsC]] at hw
      obtain ⟨Au, cu, hu⟩ := vec_slice hw (v := u2) (by (repeat (first | (with_reducible exact Pick.here) | (with_reducible exact Put.here) | (with_reducible apply Pick.there) | (with_reducible apply Put.there))))
      subst hu
      repeat (first | refine X.p1 ?_ | refine X.p2 ?_ | refine X.p6 ?_ | refine X.p7 ?_ | refine X.p0 ?_ | refine X.p3 ?_ | refine X.p4 ?_ | refine X.p5 ?_ | refine X.p8 ?_ | refine X.p9 ?_ | refine X.q1 ?_ | refine X.q2 ?_ | refine X.q3 ?_ | refine X.q4 ?_ | refine X.q5 ?_ | refine X.q6 ?_ | refine X.q7 ?_ | refine X.q8 ?_ | refine X.q9 ?_ | refine X.q0 ?_ | refine X.m1 ?_ | refine X.m2 ?_ | refine X.m3 ?_ | refine X.m4 ?_ | refine X.m5 ?_ | refine X.m6 ?_ | refine X.l11 ?_ | refine X.l1 ?_ | refine X.l2 ?_ | refine X.l3 ?_ | refine X.l4 ?_ | refine X.l5 ?_ | refine X.l10 ?_ | refine X.l6 ?_ | refine X.l7 ?_ | refine X.l8 ?_ | refine X.l9 ?_ | refine X.m7 ?_ | refine X.m8 ?_ | (refine X.s1 ?_; intro w hw) | (refine X.s2 ?_; intro w hw) | refine X.e1 ?_ | refine X.e2 ?_ | (simp only [X.df]) | (simp (disch := omega) only [wi]))
      refine st_storeV tab hw rfl rfl rfl (by (repeat (first | (with_reducible exact Pick.here) | (with_reducible exact Put.here) | (with_reducible apply Pick.there) | (with_reducible apply Put.there)))) rfl rfl (by rw [Int.toNat_natCast]; omega) rfl ?_
      intro w hw
      rw [splice_set _ _ (by omega)] at hw
      have hw := star_in (l := vecs (vs.set j (.slice Au (occ l i l[i] ++ [i]).length cu)) (ks.map (occ l (i + 1)))) ((hw.perm (Pick.perm (i := starI ((vecs vs (ks.map (occ l i))).eraseIdx j)) (by (repeat (first | (with_reducible exact Pick.here) | (with_reducible exact Put.here) | (with_reducible apply Pick.there) | (with_reducible apply Put.there)))))).perm (Pick.perm (i := vecI (.slice Au (occ l i l[i] ++ [i]).length cu) 3 1 (occ l i l[i] ++ [i]).length (nsC (occ l i l[i] ++ [i]))) (by (repeat (first | (with_reducible exact Pick.here) | (with_reducible exact Put.here) | (with_reducible apply Pick.there) | (with_reducible apply Put.there)))))) (by rw [← hset, ← vecs_set (by rw [List.length_map]; exact hvl) j]; exact put_perm _ j hgj _) (vecs_own _ _)
      repeat (first | refine X.p1 ?_ | refine X.p2 ?_ | refine X.p6 ?_ | refine X.p7 ?_ | refine X.p0 ?_ | refine X.p3 ?_ | refine X.p4 ?_ | refine X.p5 ?_ | refine X.p8 ?_ | refine X.p9 ?_ | refine X.q1 ?_ | refine X.q2 ?_ | refine X.q3 ?_ | refine X.q4 ?_ | refine X.q5 ?_ | refine X.q6 ?_ | refine X.q7 ?_ | refine X.q8 ?_ | refine X.q9 ?_ | refine X.q0 ?_ | refine X.m1 ?_ | refine X.m2 ?_ | refine X.m3 ?_ | refine X.m4 ?_ | refine X.m5 ?_ | refine X.m6 ?_ | refine X.l11 ?_ | refine X.l1 ?_ | refine X.l2 ?_ | refine X.l3 ?_ | refine X.l4 ?_ | refine X.l5 ?_ | refine X.l10 ?_ | refine X.l6 ?_ | refine X.l7 ?_ | refine X.l8 ?_ | refine X.l9 ?_ | refine X.m7 ?_ | refine X.m8 ?_ | (refine X.s1 ?_; intro w hw) | (refine X.s2 ?_; intro w hw) | refine X.e1 ?_ | refine X.e2 ?_ | (simp only [X.df]) | (simp (disch := omega) only [wi]))
      refine X.again (i + 1, .slice (some ⟨g3, 0, none⟩) ks.length c3, vs.set j (.slice Au (occ l i l[i] ++ [i]).length cu), m + 1) ⟨by simp only; omega, by simp only; omega, by simp only [hks]; rw [List.length_set]; exact hvl, ?_⟩ (by simp only; omega)
      simp only [hks]
      exact hw.sub (by (repeat (first | (with_reducible exact Split.nil) | ((with_reducible apply Split.cons); (next => (repeat (first | (with_reducible exact Pick.here) | (with_reducible exact Put.here) | (with_reducible apply Pick.there) | (with_reducible apply Put.there))))))))
  · have hge : i = l.length := by omega
    subst hge
    repeat (first | refine X.p1 ?_ | refine X.p2 ?_ | refine X.p6 ?_ | refine X.p7 ?_ | refine X.p0 ?_ | refine X.p3 ?_ | refine X.p4 ?_ | refine X.p5 ?_ | refine X.p8 ?_ | refine X.p9 ?_ | refine X.q1 ?_ | refine X.q2 ?_ | refine X.q3 ?_ | refine X.q4 ?_ | refine X.q5 ?_ | refine X.q6 ?_ | refine X.q7 ?_ | refine X.q8 ?_ | refine X.q9 ?_ | refine X.q0 ?_ | refine X.m1 ?_ | refine X.m2 ?_ | refine X.m3 ?_ | refine X.m4 ?_ | refine X.m5 ?_ | refine X.m6 ?_ | refine X.l11 ?_ | refine X.l1 ?_ | refine X.l2 ?_ | refine X.l3 ?_ | refine X.l4 ?_ | refine X.l5 ?_ | refine X.l10 ?_ | refine X.l6 ?_ | refine X.l7 ?_ | refine X.l8 ?_ | refine X.l9 ?_ | refine X.m7 ?_ | refine X.m8 ?_ | (refine X.s1 ?_; intro w hw) | (refine X.s2 ?_; intro w hw) | refine X.e1 ?_ | refine X.e2 ?_ | (simp only [X.df]) | (simp (disch := omega) only [wi]))
    have hw : St w0 [] [vecI vo 55 1 (ksN l l.length).length vs, starI (vecs vs ((ksN l l.length).map (occ l l.length)))] w := hw.sub (by (repeat (first | (with_reducible exact Split.nil) | ((with_reducible apply Split.cons); (next => (repeat (first | (with_reducible exact Pick.here) | (with_reducible exact Put.here) | (with_reducible apply Pick.there) | (with_reducible apply Put.there))))))))
    exact xw_ret (vs := [_]) Try.results28 ⟨rfl, trivial⟩ ⟨vs, hvl, hw⟩
end Go.Proofs.Ytbfpgigbakhplaa.Gr
