/- Slices that a function makes and lets grow: append, literals. -/
import Derived.Test.YtehekgigmbnlfaaDoorQx
import Derived.Maps.AppendAt
import Derived.OwnWalk
import Derived.Great.Walk
set_option linter.unusedVariables false
set_option linter.unusedSimpArgs false
namespace Go.Proofs.YtehekgigmbnlfaaDoor.Ap
open Go.RowKit Go.Proofs.YtehekgigmbnlfaaDoor.Sx Go.Proofs.YtehekgigmbnlfaaDoor.Mx Go.Proofs.YtehekgigmbnlfaaDoor.Bw Go.Proofs.YtehekgigmbnlfaaDoor.By
variable {P : Program}

/-- A slice at the head of a block of its own, that nothing else looks into. -/
abbrev Own (w : World) (base : Nat) (e : TypeId) (sz : Nat) (v : Value) (n : Nat) (xs : List Value) : Prop := w.ownsRow base e sz v n xs
def OwnB (v : Value) (g : Nat) : Prop := v.ownBlock = some g
theorem kp_grown {w w' : World} {v : Value} (h : w.grownBy w' v.ownBlock) : Kp (OwnB v) w w' := ⟨h.os, h.tape, h.output, h.size, fun k hk hn => h.block k hk (fun e => hn e.symm)⟩
theorem Own.kp {w w' : World} {base : Nat} {e : TypeId} {sz : Nat} {v : Value} {n : Nat} {xs : List Value} {S : Nat → Prop} (h : Own w base e sz v n xs) (k : Kp S w w') (hn : ∀ g, base ≤ g → g < w.heap.size → OwnB v g → ¬ S g) : Own w' base e sz v n xs := by
  refine ⟨h.1, ?_⟩
  rcases h.2 with h2 | ⟨g, cap, cur, rfl, hb, hc, h3⟩
  · exact .inl h2
  · have hlt := (Array.getElem?_eq_some_iff.1 hc).1
    exact .inr ⟨g, cap, cur, rfl, hb, (k.block g hlt (hn g hb hlt rfl)).trans hc, h3⟩
theorem Own.no {w w' : World} {base : Nat} {e : TypeId} {sz : Nat} {v : Value} {n : Nat} {xs : List Value} (h : Own w base e sz v n xs) (k : Kp No w w') : Own w' base e sz v n xs := h.kp k (fun _ _ _ _ hs => hs)
theorem Own.lt {w : World} {base : Nat} {e : TypeId} {sz : Nat} {v : Value} {n : Nat} {xs : List Value} (h : Own w base e sz v n xs) {g : Nat} (hg : OwnB v g) : base ≤ g ∧ g < w.heap.size := World.ownsRow.lt h g hg
theorem own_mono {w : World} {base base' : Nat} {e : TypeId} {sz : Nat} {v : Value} {n : Nat} {xs : List Value} (h : Own w base e sz v n xs) (hb : base' ≤ base) : Own w base' e sz v n xs :=
  ⟨h.1, h.2.imp id (fun ⟨g, cap, cur, h1, h2, h3⟩ => ⟨g, cap, cur, h1, Nat.le_trans hb h2, h3⟩)⟩
theorem own_nil {w : World} {base : Nat} {e : TypeId} {sz : Nat} : Own w base e sz (.slice none 0 0) 0 [] := World.ownsRow_nil _ _ _ _
theorem Own.trans {w0 w w' : World} {base : Nat} {e : TypeId} {sz : Nat} {v : Value} {n : Nat} {xs : List Value} {S : Nat → Prop} (k0 : Kp S w0 w) (h : Own w base e sz v n xs) (hb : w0.heap.size ≤ base) (k : Kp (OwnB v) w w') : Kp S w0 w' :=
  k0.trans k (fun i hi => .inr (by have := h.lt hi; omega))

/-- What a slice reads as. -/
def Row (w : World) (A : Option Addr) (xs : List Value) : Prop := xs = [] ∨ ∃ g o, A = some ⟨g, o, none⟩ ∧ At w g o xs
theorem Row.kp {w w' : World} {A : Option Addr} {xs : List Value} {S : Nat → Prop} (h : Row w A xs) (k : Kp S w w') (hn : ∀ a, A = some a → ¬ S a.block) : Row w' A xs := by
  rcases h with h | ⟨g, o, rfl, ha⟩
  · exact .inl h
  · exact .inr ⟨g, o, rfl, ha.kp k (hn _ rfl)⟩
theorem Row.no {w w' : World} {A : Option Addr} {xs : List Value} (h : Row w A xs) (k : Kp No w w') : Row w' A xs := h.kp k (fun _ _ hs => hs)
theorem Row.some {w : World} {A : Option Addr} {xs : List Value} (h : Row w A xs) (hne : xs ≠ []) : ∃ g o, A = some ⟨g, o, none⟩ ∧ At w g o xs := h.resolve_left hne
theorem Own.row {w : World} {base : Nat} {e : TypeId} {sz : Nat} {v : Value} {n : Nat} {xs : List Value} (h : Own w base e sz v n xs) : ∃ A c, v = .slice A n c ∧ Row w A xs ∧ ∀ a, A = some a → base ≤ a.block ∧ a.block < w.heap.size := by
  rcases h.2 with ⟨rfl, rfl⟩ | ⟨g, cap, cur, rfl, hb, hc, h3, _, h5, h6⟩
  · exact ⟨none, 0, rfl, .inl (List.eq_nil_of_length_eq_zero (by rw [h.1]; simp)), fun _ h => by cases h⟩
  · refine ⟨_, _, rfl, .inr ⟨g, 0, rfl, fun j v hv => ?_⟩, fun a ha => by cases ha; exact ⟨hb, (Array.getElem?_eq_some_iff.1 hc).1⟩⟩
    rw [Nat.zero_add]
    have hv' : (cur.toList.take (n * sz))[j]? = some v := by rw [h6]; exact hv
    rw [List.getElem?_take] at hv'
    split at hv'
    · simp only [World.cell?, hc]
      simpa using hv'
    · cases hv'
theorem At.row {w : World} {g o : Nat} {cs : List Value} (h : At w g o cs) : Row w (some ⟨g, o, none⟩) cs := .inr ⟨g, o, rfl, h⟩

/-- What the type table says of an element: its zero, how many cells, how many bytes. -/
def infoOf (P : Program) (e : TypeId) : Option (Option Value × Nat × Nat) := (P.info? e).map fun i => (i.zero, i.size, i.bytes)

theorem piece_get {T : Type} {cells : T → List Value} {sz : Nat} : ∀ (l : List T) (h : ∀ x ∈ l, (cells x).length = sz) (i : Nat) (hi : i < l.length), ((l.flatMap cells).drop (i * sz)).take sz = cells l[i]
  | x :: l, h, 0, _ => by
    have hx := h x (by simp)
    simp only [List.flatMap_cons, Nat.zero_mul, List.drop_zero, List.getElem_cons_zero]
    rw [List.take_append_of_le_length (by omega), List.take_of_length_le (by omega)]
  | x :: l, h, i + 1, hi => by
    have hx := h x (by simp)
    simp only [List.flatMap_cons, List.getElem_cons_succ]
    rw [show (i + 1) * sz = (cells x).length + i * sz from by rw [Nat.succ_mul, hx]; omega, List.drop_append]
    rw [List.drop_of_length_le (by omega), show (cells x).length + i * sz - (cells x).length = i * sz from by omega, List.nil_append]
    exact piece_get l (fun y hy => h y (by simp [hy])) i (by simpa using hi)
theorem flat_len {T : Type} {cells : T → List Value} {sz : Nat} (l : List T) (h : ∀ x ∈ l, (cells x).length = sz) : (l.flatMap cells).length = l.length * sz := by
  induction l with
  | nil => simp
  | cons x l ih => rw [List.flatMap_cons, List.length_append, ih (fun y hy => h y (by simp [hy])), h x (by simp), List.length_cons, Nat.succ_mul]; omega
/-- An element of many. -/
theorem At.elem {w : World} {g o sz : Nat} {T : Type} {cells : T → List Value} {l : List T} (h : At w g o (l.flatMap cells)) (hl : ∀ x ∈ l, (cells x).length = sz) (i : Nat) (hi : i < l.length) : At w g (o + i * sz) (cells l[i]) := by
  have := h.sub (i * sz) sz
  rwa [piece_get l hl i hi] at this

/-! literals: what 'fill' lays -/
theorem fold_set (off : Nat) : ∀ (vs : List Value) (k : Nat) (cs : Array Value), off + k + vs.length ≤ cs.size →
    (vs.zipIdx k).foldl (fun cs (x : Value × Nat) => cs.setIfInBounds (off + x.2) x.1) cs = (splice cs.toList (off + k) vs).toArray
  | [], k, cs, h => by simp [splice]
  | v :: vs, k, cs, h => by
    simp only [List.length_cons] at h
    rw [List.zipIdx_cons, List.foldl_cons, fold_set off vs (k + 1) _ (by simp; omega)]
    congr 1
    apply List.ext_getElem?
    intro i
    unfold splice
    simp only [Array.toList_setIfInBounds, List.append_assoc]
    rcases Nat.lt_trichotomy i (off + k) with h1 | h1 | h1
    · rw [List.getElem?_append_left (by simp; omega), List.getElem?_append_left (by simp; omega)]
      simp only [List.getElem?_take]
      rw [if_pos (by omega), if_pos h1, List.getElem?_set_ne (by omega)]
    · subst h1
      rw [List.getElem?_append_left (by simp; omega), List.getElem?_append_right (by simp; omega)]
      simp only [List.getElem?_take]
      rw [if_pos (by omega), List.getElem?_set_self (by simp; omega)]
      simp [show min (off + k) cs.size = off + k from by omega]
    · rw [List.getElem?_append_right (by simp; omega)]
      conv => rhs; rw [List.getElem?_append_right (by simp; omega)]
      simp only [List.length_take, List.length_set, Array.length_toList, show min (off + (k + 1)) cs.size = off + k + 1 from by omega, show min (off + k) cs.size = off + k from by omega]
      obtain ⟨j, rfl⟩ : ∃ j, i = off + k + 1 + j := ⟨i - (off + k + 1), by omega⟩
      rw [show off + k + 1 + j - (off + k + 1) = j from by omega, show off + k + 1 + j - (off + k) = j + 1 from by omega, List.cons_append, List.getElem?_cons_succ]
      rcases Nat.lt_or_ge j vs.length with h2 | h2
      · rw [List.getElem?_append_left h2, List.getElem?_append_left h2]
      · rw [List.getElem?_append_right h2, List.getElem?_append_right h2, List.getElem?_drop, List.getElem?_drop, List.getElem?_set_ne (by omega)]
        congr 1
        simp only [List.length_cons]
        omega
theorem fill_cons {place : Nat → Option (Nat × Nat)} {cs : List Value} {i off : Nat} {v : Value} {vs : List Value} {rest : List (Nat × Value)} (hp : place i = some (off, vs.length)) (hv : v.cells = vs.toArray) (hl : off + vs.length ≤ cs.length) :
    Instr.fill place cs.toArray ((i, v) :: rest) = Instr.fill place (splice cs off vs).toArray rest := by
  rw [Instr.fill, hp]
  simp only [hv, List.size_toArray]
  rw [if_neg (by simp; omega)]
  congr 1
  have := fold_set off vs 0 cs.toArray (by simpa using hl)
  simp only [Nat.add_zero] at this
  rw [← this]
  rw [← Array.foldl_toList, Array.toList_zipIdx]
theorem builtSlice_one {e : TypeId} {z v : Value} {sz bytes : Nat} {vs : List Value} (hi : infoOf P e = some (some z, sz, bytes)) (hv : v.cells = vs.toArray) (hl : vs.length = sz) (h0 : 0 < sz) (h1 : sz ≤ 16777216) : P.builtSlice e 1 [(0, v)] = some vs.toArray := by
  unfold infoOf at hi
  obtain ⟨i, hi, hzz⟩ := Option.map_eq_some_iff.1 hi
  simp only [Prod.mk.injEq] at hzz
  unfold Program.builtSlice
  simp only [hi, hzz.1, hzz.2.1]
  rw [if_neg (by omega)]
  have h2 := fill_cons (place := fun i => some (i * sz, sz)) (cs := ((Array.range (1 * sz)).map (z.cells[· % z.cells.size]!)).toList) (i := 0) (off := 0) (v := v) (vs := vs) (rest := []) (by simp [hl]) hv (by simp [hl])
  simp only [Array.toArray_toList] at h2
  rw [h2, Instr.fill, splice_all _ _ (by simp [hl])]

section rules
variable {n : Nat} {Q : Exit → Act → World → Prop} {L : Ctx} {w : World} {ops : Array Oper} {rest : List Oper} {d : Nat} {ty : TypeId} {pos : String} {af : Array Edge}

theorem ow_append (T : Tab P) {t e : TypeId} {s x : Operand} {v z : Value} {base sz bytes k g o m c : Nat} {xs news : List Value} (own : Own w base e sz v k xs) (ha : At w g o news) (hd : Nat.blt d n = true) (hs : ev L s = some v) (hx : ev L x = some (.slice (some ⟨g, o, none⟩) m c)) (ht : T.ty t = some (.slice e))
    (hi : infoOf P e = some (some z, sz, bytes)) (hz : z.cells.size = sz) (hp : (Nat.blt 0 sz && Nat.blt 0 bytes) = true) (hl : news.length = m * sz) (h1 : oneCells news = true) (hb : (k + m) * bytes ≤ 140737488355328) (hbase : base ≤ w.heap.size)
    (h : ∀ v' w', Own w' base e sz v' (k + m) (xs ++ news) → Kp (OwnB v) w w' → (v'.ownBlock = v.ownBlock ∨ v'.ownBlock = some w.heap.size) → Ow P n ops Q rest ((d, v') :: L) w') :
    Ow P n ops Q (⟨some d, .call { callee := .builtin .append, args := #[s, x], argTypes := #[t, t] }, ty, pos, af, none⟩ :: rest) L w := fun a hA => by
  unfold infoOf at hi
  obtain ⟨i, hi, hzz⟩ := Option.map_eq_some_iff.1 hi
  simp only [Prod.mk.injEq] at hzz
  simp only [Bool.and_eq_true, Nat.blt_eq] at hp
  have hk : k + m ≤ (k + m) * bytes := Nat.le_mul_of_pos_right _ hp.2
  exact wpList_append_own_at (P := P) (w := w) (o := ⟨some d, .call { callee := .builtin .append, args := #[s, x], argTypes := #[t, t] }, ty, pos, af, none⟩) rfl s x t rfl base e i z sz bytes (T.ty_ok _ _ ht) hi hzz.1 hzz.2.1 hzz.2.2 hz hp.1 v k xs (hA.ev hs) own ⟨g, o, none⟩ m c news (hA.ev hx) hl
    (fun j u hu => by rw [add_plain']; exact ha j u hu) (by simpa [oneCells] using h1) (by unfold maxLen; omega) hb hbase
    (fun v' w' h1 h2 _ h4 => h v' w' h1 (kp_grown h2) h4 _ (hA.put (by simpa [Nat.blt_eq] using hd) v'))

/-- make of an empty slice with room. -/
theorem ow_make0 (T : Tab P) {t e : TypeId} {x y : Operand} {z : Value} {kl kc : IntKind} {sz bytes m : Nat} (hd : Nat.blt d n = true) (hx : ev L x = some (.int kl 0)) (hy : ev L y = some (.int kc (m : Int))) (ht : T.ty t = some (.slice e)) (hi : infoOf P e = some (some z, sz, bytes)) (hb : bytes * m ≤ 281474976710656) (hm : m ≤ 9223372036854775807)
    (h : ∀ w', Own w' w.heap.size e sz (.slice (some ⟨w.heap.size, 0, none⟩) 0 m) 0 [] → Kp No w w' → w.heap.size < w'.heap.size → Ow P n ops Q rest ((d, .slice (some ⟨w.heap.size, 0, none⟩) 0 m) :: L) w') :
    Ow P n ops Q (⟨some d, .makeSlice t x y, ty, pos, af, none⟩ :: rest) L w := fun a hA => by
  unfold infoOf at hi
  obtain ⟨i, hi, hzz⟩ := Option.map_eq_some_iff.1 hi
  simp only [Prod.mk.injEq] at hzz
  exact wpList_make_own w rfl x y t rfl w.heap.size e i z sz (T.ty_ok _ _ ht) hi hzz.1 hzz.2.1 kl kc (m : Int) m (hA.ev hx) (hA.ev hy) rfl (by rw [hzz.2.2]; exact hb) (by unfold maxLen; omega) (Nat.le_refl _)
    (fun w' h1 h2 => h w' h1 ⟨h2.os, h2.tape, h2.output, h2.size, fun k hk _ => h2.block k hk (by simp)⟩ ((Own.lt h1 (show OwnB _ w.heap.size from rfl)).2) _ (hA.put (by simpa [Nat.blt_eq] using hd) _))

/-- append of nothing. -/
theorem ow_append0 (T : Tab P) {t e : TypeId} {s x : Operand} {v : Value} {A : Option Addr} {base sz k c : Nat} {xs : List Value} (own : Own w base e sz v k xs) (hd : Nat.blt d n = true) (hs : ev L s = some v) (hx : ev L x = some (.slice A 0 c)) (ht : T.ty t = some (.slice e)) (hz : T.sz e = some sz)
    (h : Ow P n ops Q rest ((d, v) :: L) w) :
    Ow P n ops Q (⟨some d, .call { callee := .builtin .append, args := #[s, x], argTypes := #[t, t] }, ty, pos, af, none⟩ :: rest) L w :=
  ow_run hd (fun a ha => by
    unfold execOp
    simp only [resolve, List.map_toArray, List.map_cons, List.map_nil, ha.ev hs, ha.ev hx]
    rw [run_ok_bind (w' := w) rfl]
    simp only [invoke, builtin]
    have hr : (Builtin.append_ #[t, t] ty #[v, .slice A 0 c]).run P w = .ok v w := by
      have hu := Go.run_underlying (T.ty_ok _ _ ht) w
      have hsr := Mx.run_sizeOf (T.sz_ok _ _ hz) w
      have hl : ∀ (a : Addr), (loadCells a 0).run P w = .ok #[] w := fun a => by simpa using run_loadCells_list (P := P) w a [] (fun j v hv => by simp at hv)
      rcases own.2 with ⟨rfl, rfl⟩ | ⟨g, cap, cur, rfl, hb, hc, hk, h5, h6, _⟩
      · cases A with
        | none => simp [Builtin.append_, hu, hsr, Builtin.lenOf, Builtin.firstCells, Sem.run_bind, Go.run_underlying (T.ty_ok _ _ ht)]
        | some A => simp [Builtin.append_, hu, hsr, Builtin.lenOf, Builtin.firstCells, Sem.run_bind, Go.run_underlying (T.ty_ok _ _ ht), hl]
      · cases A with
        | none => simp [Builtin.append_, hu, hsr, Builtin.lenOf, Builtin.firstCells, Sem.run_bind, Go.run_underlying (T.ty_ok _ _ ht), hk, storeCells]
        | some A => simp [Builtin.append_, hu, hsr, Builtin.lenOf, Builtin.firstCells, Sem.run_bind, Go.run_underlying (T.ty_ok _ _ ht), hl, hk, storeCells]
    rw [run_ok_bind hr]
    rfl) h
/-- append of a slice that reads as these cells. -/
theorem ow_appendR (T : Tab P) {t e : TypeId} {s x : Operand} {v z : Value} {A : Option Addr} {base sz bytes k m c : Nat} {xs news : List Value} (own : Own w base e sz v k xs) (hr : Row w A news) (hd : Nat.blt d n = true) (hs : ev L s = some v) (hx : ev L x = some (.slice A m c)) (ht : T.ty t = some (.slice e)) (hsz : T.sz e = some sz)
    (hi : infoOf P e = some (some z, sz, bytes)) (hz : z.cells.size = sz) (hp : (Nat.blt 0 sz && Nat.blt 0 bytes) = true) (hl : news.length = m * sz) (h1 : oneCells news = true) (hb : (k + m) * bytes ≤ 140737488355328) (hbase : base ≤ w.heap.size)
    (h : ∀ v' w', Own w' base e sz v' (k + m) (xs ++ news) → Kp (OwnB v) w w' → (v'.ownBlock = v.ownBlock ∨ v'.ownBlock = some w.heap.size) → Ow P n ops Q rest ((d, v') :: L) w') :
    Ow P n ops Q (⟨some d, .call { callee := .builtin .append, args := #[s, x], argTypes := #[t, t] }, ty, pos, af, none⟩ :: rest) L w := by
  rcases hr with rfl | ⟨g, o, rfl, ha⟩
  · have hm : m = 0 := by
      simp only [Bool.and_eq_true, Nat.blt_eq] at hp
      simp only [List.length_nil] at hl
      rcases Nat.mul_eq_zero.1 hl.symm with h | h
      · exact h
      · omega
    subst hm
    exact ow_append0 T own hd hs hx ht hsz (h v w (by simpa using own) Kp.refl (.inl rfl))
  · exact ow_append T own ha hd hs hx ht hi hz hp hl h1 hb hbase h

/-- An element's address in a slice that reads as these cells. -/
theorem ow_indexR (T : Tab P) {t e : TypeId} {x y : Operand} {A : Option Addr} {m c k : Nat} {ik : IntKind} {i : Int} {cs : List Value} (hr : Row w A cs) (hd : Nat.blt d n = true) (hx : ev L x = some (.slice A m c)) (hy : ev L y = some (.int ik i)) (ht : T.ty t = some (.slice e))
    (hz : T.sz e = some k) (h0 : 0 ≤ i) (h1 : i < (m : Int)) (hne : cs ≠ []) (h : ∀ g o, A = some ⟨g, o, none⟩ → At w g o cs → Ow P n ops Q rest ((d, .pointer (some ⟨g, o + i.toNat * k, none⟩)) :: L) w) : Ow P n ops Q (⟨some d, .indexAddr t x y, ty, pos, af, none⟩ :: rest) L w := by
  rcases hr with rfl | ⟨g, o, rfl, ha⟩
  · exact absurd rfl hne
  · exact ow_indexS T hd hx hy ht hz h0 h1 (h g o rfl ha)
/-- A load of cells that stand in memory. -/
theorem ow_loadAt (T : Tab P) {t : TypeId} {D : TypeDesc} {x : Operand} {g o k : Nat} {vs : List Value} (ha : At w g o vs) (hd : Nat.blt d n = true) (hx : ev L x = some (.pointer (some ⟨g, o, none⟩))) (ht : T.ty t = some D) (hD : aggB D = true) (hs : T.sz t = some k) (hk : vs.length = k)
    (h : Ow P n ops Q rest ((d, .agg vs.toArray) :: L) w) : Ow P n ops Q (⟨some d, .load t x, ty, pos, af, none⟩ :: rest) L w :=
  ow_load hd hx (run_loadVar_agg (T.ty_ok _ _ ht) hD (by rw [hk]; exact T.sz_ok _ _ hs) ha) h
theorem ow_loadAt1 (T : Tab P) {t : TypeId} {D : TypeDesc} {x : Operand} {g o : Nat} {v : Value} (ha : At w g o [v]) (hd : Nat.blt d n = true) (hx : ev L x = some (.pointer (some ⟨g, o, none⟩))) (ht : T.ty t = some D) (hD : aggB D = false)
    (h : Ow P n ops Q rest ((d, v) :: L) w) : Ow P n ops Q (⟨some d, .load t x, ty, pos, af, none⟩ :: rest) L w :=
  ow_load hd hx (run_loadVar_one (T.ty_ok _ _ ht) hD (by have := ha 0 v rfl; simpa using this)) h

def mapEvP (L : Ctx) : List (Nat × Operand) → Option (List (Nat × Value))
  | [] => some []
  | (i, x) :: xs => match ev L x with
    | some v => match mapEvP L xs with
      | some vs => some ((i, v) :: vs)
      | none => none
    | none => none
theorem mapEvP_ok {n : Nat} {L : Ctx} {a : Act} (h : Has n L a) : ∀ {xs : List (Nat × Operand)} {vs : List (Nat × Value)}, mapEvP L xs = some vs → (xs.map fun (i, x) => (i, a.eval x)) = vs
  | [], vs, he => by simp [mapEvP] at he; simp [he]
  | (i, x) :: xs, vs, he => by
    simp only [mapEvP] at he
    cases hx : ev L x with
    | none => simp [hx] at he
    | some v =>
      cases hr : mapEvP L xs with
      | none => simp [hx, hr] at he
      | some us =>
        simp [hx, hr] at he
        subst he
        simp [h.ev hx, mapEvP_ok h hr]
/-- A literal of a struct or an array. -/
theorem ow_build {t : TypeId} {parts : List (Nat × Operand)} {vs : List (Nat × Value)} {cs : List Value} (hd : Nat.blt d n = true) (hv : mapEvP L parts = some vs) (hz : P.built t vs = some cs.toArray)
    (hk : Ow P n ops Q rest ((d, .agg cs.toArray) :: L) w) : Ow P n ops Q (⟨some d, .build t ⟨parts⟩, ty, pos, af, none⟩ :: rest) L w :=
  ow_run hd (fun a ha => by
    unfold execOp
    simp only [List.map_toArray]
    have := mapEvP_ok ha hv
    rw [run_ok_bind (run_build w t _ cs.toArray (by simpa using this ▸ hz))]
    rfl) hk
/-- A slice literal. -/
theorem ow_buildSlice (T : Tab P) {t e : TypeId} {len : Nat} {parts : List (Nat × Operand)} {vs : List (Nat × Value)} {cs : List Value} (hd : Nat.blt d n = true) (hv : mapEvP L parts = some vs) (ht : T.ty t = some (.slice e)) (hf : P.builtSlice e len vs = some cs.toArray)
    (h : ∀ w', Kp No w w' → Blk w' w.heap.size e cs → w'.heap.size = w.heap.size + 1 → Ow P n ops Q rest ((d, .slice (some ⟨w.heap.size, 0, none⟩) len len) :: L) w') : Ow P n ops Q (⟨some d, .buildSlice t len ⟨parts⟩, ty, pos, af, none⟩ :: rest) L w := fun a ha =>
  Great.wpList_buildSliceTo (o := ⟨some d, .buildSlice t len ⟨parts⟩, ty, pos, af, none⟩) rfl t e len ⟨parts⟩ rfl w.heap.size rfl (some d) rfl (T.ty_ok _ _ ht) cs.toArray (by
    have := mapEvP_ok ha hv
    simpa using this ▸ hf)
    (h _ (kp_alloc _ _) (heap_alloc_new _ _) (by simp) _ (ha.put (by simpa [Nat.blt_eq] using hd) _))
theorem ow_buildSlice0 (T : Tab P) {t e : TypeId} {sz : Nat} (hd : Nat.blt d n = true) (ht : T.ty t = some (.slice e)) (hz : T.sz e = some sz)
    (h : ∀ w', Kp No w w' → Blk w' w.heap.size e [] → w'.heap.size = w.heap.size + 1 → Ow P n ops Q rest ((d, .slice (some ⟨w.heap.size, 0, none⟩) 0 0) :: L) w') : Ow P n ops Q (⟨some d, .buildSlice t 0 #[], ty, pos, af, none⟩ :: rest) L w :=
  ow_run hd (w' := w.alloc (.cells #[] e)) (fun a ha => by
    unfold execOp
    simp only [List.map_toArray, List.map_nil]
    rw [run_ok_bind (a := .slice (some ⟨w.heap.size, 0, none⟩) 0 0) (w' := w.alloc (.cells #[] e)) (by
      unfold Instr.buildSlice
      rw [run_ok_bind (Go.run_underlying (T.ty_ok _ _ ht) w)]
      simp only
      rw [run_ok_bind (Mx.run_sizeOf (T.sz_ok _ _ hz) w)]
      simp [Instr.fill, newRow, show Array.range 0 = #[] from rfl])]
    rfl) (h _ (kp_alloc _ _) (heap_alloc_new _ _) (by simp))
theorem own_of_blk {e : TypeId} {sz g m : Nat} {cs : List Value} {base : Nat} (hb : Blk w g e cs) (hl : cs.length = m * sz) (hm : m ≤ maxLen) (hbase : base ≤ g) : Own w base e sz (.slice (some ⟨g, 0, none⟩) m m) m cs :=
  ⟨hl, .inr ⟨g, m, cs.toArray, rfl, hbase, hb, Nat.le_refl _, hm, by simpa using hl, by simp [← hl]⟩⟩

/-- Bytes of a slice as a text. -/
theorem ow_toStringR (T : Tab P) {t u e : TypeId} {x : Operand} {A : Option Addr} {m c : Nat} (l : List Byte) (hr : Row w A (cb l)) (hd : Nat.blt d n = true) (hx : ev L x = some (.slice A m c)) (hs : T.ty t = some (.slice e)) (he : T.ty e = some (.int .u8)) (hu : T.ty u = some .string) (hl : l.length = m)
    (h : Ow P n ops Q rest ((d, str l) :: L) w) : Ow P n ops Q (⟨some d, .convert t u x, ty, pos, af, none⟩ :: rest) L w := by
  rcases hr with h2 | ⟨g, o, rfl, ha⟩
  · have h3 : l = [] := by simpa using h2
    subst h3
    subst hl
    exact ow_run hd (fun a ha' => by
      unfold execOp
      simp only [ha'.ev hx]
      rw [run_ok_bind (a := str []) (w' := w) (by
        rw [run_convert_bytes_string w t u e _ _ _ (T.ty_ok _ _ hs) (T.ty_ok _ _ he) (T.ty_ok _ _ hu)]
        cases A with
        | none => rfl
        | some A => rfl)]
      rfl) h
  · exact ow_toString T l ha hd hx hs he hu hl h
end rules
end Go.Proofs.YtehekgigmbnlfaaDoor.Ap
