/- More steps over what is known of memory: slices of arrays, texts and bytes, slices that grow. -/
import Derived.Test.YtehekgigmbnlfaaDoorSt
import Derived.Lib.ConvBytes
set_option linter.unusedVariables false
set_option linter.unusedSimpArgs false
namespace Go.Proofs.YtehekgigmbnlfaaDoor.Stm
open Go.RowKit Go.Proofs.YtehekgigmbnlfaaDoor.Sx Go.Proofs.YtehekgigmbnlfaaDoor.Mx Go.Proofs.YtehekgigmbnlfaaDoor.Bw Go.Proofs.YtehekgigmbnlfaaDoor.By Go.Proofs.YtehekgigmbnlfaaDoor.Ap Go.Proofs.YtehekgigmbnlfaaDoor.Qx Go.Proofs.YtehekgigmbnlfaaDoor.Mi
variable {P : Program}
section rules
variable {n : Nat} {Q : Exit → Act → World → Prop} {L : Ctx} {w w0 : World} {M0 M M' : List Item} {ops : Array Oper} {rest : List Oper} {d : Nat} {ty : TypeId} {pos : String} {af : Array Edge}

theorem St.blk {g : Nat} {t : TypeId} {cs : List Value} (hw : St w0 M0 M w) (hp : Pick (blkI g t cs) M M') : Blk w g t cs := hw.pick hp
/-- A result that lies in memory. -/
theorem cellA (T : Tab P) {g t k : Nat} {D : TypeDesc} {cs : List Value} (hw : St w0 M0 M w) (hp : Pick (blkI g t cs) M M') (ht : P.underlying t = some D) (hD : aggB D = true) (hs : T.sz t = some k) (hl : cs.length = k) : (loadVar t ⟨g, 0, none⟩).run P w = .ok (.agg cs.toArray) w :=
  blk_all (hw.pick hp) ht hD (by rw [hl]; exact T.sz_ok _ _ hs)
/-- A whole array as a slice. -/
theorem st_sliceAll (T : Tab P) {t e : TypeId} {x : Operand} {g o m k : Nat} (hd : Nat.blt d n = true) (hx : ev L x = some (.pointer (some ⟨g, o, none⟩))) (ht : T.ty t = some (.array m e)) (hz : T.sz e = some k)
    (h : Ow P n ops Q rest ((d, .slice (some ⟨g, o, none⟩) m m) :: L) w) : Ow P n ops Q (⟨some d, .slice t x none none none, ty, pos, af, none⟩ :: rest) L w :=
  ow_sliceArr T (vlo := none) (vhi := none) (l := 0) (h := m) hd hx rfl rfl ht hz rfl rfl (Nat.zero_le _) (Nat.le_refl _) (by
    have e : sAddr g o 0 m k = ⟨g, o, none⟩ := by unfold sAddr; split <;> simp
    rw [e]; exact h)
/-- A block's bytes as a text. -/
theorem st_toStr (T : Tab P) {t u e t' : TypeId} {x : Operand} {g m c : Nat} {l : List Byte} (hw : St w0 M0 M w) (hx : ev L x = some (.slice (some ⟨g, 0, none⟩) m c)) (hp : Pick (blkI g t' (cb l)) M M') (hs : T.ty t = some (.slice e)) (he : T.ty e = some (.int .u8)) (hu : T.ty u = some .string) (hd : Nat.blt d n = true) (hl : l.length = m)
    (h : Ow P n ops Q rest ((d, str l) :: L) w) : Ow P n ops Q (⟨some d, .convert t u x, ty, pos, af, none⟩ :: rest) L w :=
  ow_toString T l (by simpa using Blk.at_ (hw.pick hp) 0) hd hx hs he hu hl h
/-- A piece of a block's bytes as a text. -/
theorem st_toStrP (T : Tab P) {t u e t' : TypeId} {x : Operand} {g o m c : Nat} {l s : List Byte} (hw : St w0 M0 M w) (hx : ev L x = some (.slice (some ⟨g, o, none⟩) m c)) (hp : Pick (blkI g t' (cb l)) M M') (hs : T.ty t = some (.slice e)) (he : T.ty e = some (.int .u8)) (hu : T.ty u = some .string) (hd : Nat.blt d n = true) (hl : s.length = m) (hv : (l.drop o).take m = s)
    (h : Ow P n ops Q rest ((d, str s) :: L) w) : Ow P n ops Q (⟨some d, .convert t u x, ty, pos, af, none⟩ :: rest) L w :=
  ow_toString T s (by
    have h1 := At.take (Blk.at_ (hw.pick hp) o) m
    rw [show ((cb l).drop o).take m = cb s from by rw [← hv]; simp [List.map_take, List.map_drop]] at h1
    exact h1) hd hx hs he hu hl h
theorem st_toStrR (T : Tab P) {t u e : TypeId} {x : Operand} {A : Option Addr} {m c : Nat} {l : List Byte} (hw : St w0 M0 M w) (hx : ev L x = some (.slice A m c)) (hp : Pick (rowI A (cb l)) M M') (hs : T.ty t = some (.slice e)) (he : T.ty e = some (.int .u8)) (hu : T.ty u = some .string) (hd : Nat.blt d n = true) (hl : l.length = m)
    (h : Ow P n ops Q rest ((d, str l) :: L) w) : Ow P n ops Q (⟨some d, .convert t u x, ty, pos, af, none⟩ :: rest) L w :=
  ow_toStringR T l (hw.pick hp) hd hx hs he hu hl h
theorem st_toStrV (T : Tab P) {t u e ve : TypeId} {x : Operand} {v : Value} {m : Nat} {l : List Byte} (hw : St w0 M0 M w) (hx : ev L x = some v) (hp : Pick (vecI v ve 1 m (cb l)) M M') (hs : T.ty t = some (.slice e)) (he : T.ty e = some (.int .u8)) (hu : T.ty u = some .string) (hd : Nat.blt d n = true) (hl : l.length = m)
    (h : Ow P n ops Q rest ((d, str l) :: L) w) : Ow P n ops Q (⟨some d, .convert t u x, ty, pos, af, none⟩ :: rest) L w := by
  obtain ⟨A, c, rfl, hr⟩ := hw.vecRow hp
  exact ow_toStringR T l hr hd hx hs he hu hl h

theorem bytesWorld_kp (w : World) (e : TypeId) (s : ByteArray) : Kp No w (Lib.bytesWorld w e s) where
  os := rfl
  tape := rfl
  output := rfl
  size := by rw [Lib.bytesWorld_size]; omega
  block := fun k hk _ => Lib.bytesWorld_at_old w e s k hk
/-- A text's bytes as a slice. -/
theorem st_toBytes (T : Tab P) {t u e : TypeId} {x : Operand} {s : List Byte} (hw : St w0 M0 M w) (hd : Nat.blt d n = true) (hx : ev L x = some (str s)) (hs : T.ty t = some .string) (hu : T.ty u = some (.slice e)) (he : T.ty e = some (.int .u8))
    (h : ∀ g c w', Kp No w w' → St w0 M0 (rowI (some ⟨g, 0, none⟩) (cb s) :: M) w' → Ow P n ops Q rest ((d, .slice (some ⟨g, 0, none⟩) s.length c) :: L) w') : Ow P n ops Q (⟨some d, .convert t u x, ty, pos, af, none⟩ :: rest) L w := by
  refine ow_run hd (w' := Lib.bytesWorld w e (bs s)) (v := .slice (some ⟨w.heap.size, 0, none⟩) s.length (grownCap w (bs s).size 0 e)) (fun a ha => ?_) (h _ _ _ (bytesWorld_kp w e (bs s)) (hw.new (bytesWorld_kp w e (bs s)) ?_ ?_))
  · unfold execOp
    simp only [ha.ev hx]
    rw [run_ok_bind (Lib.run_convert_string_bytes w t u e (bs s) (T.ty_ok _ _ hs) (T.ty_ok _ _ hu) (T.ty_ok _ _ he)), bs_size]
    rfl
  · refine .inr ⟨_, _, rfl, fun j v hv => ?_⟩
    have hj : j < s.length := by
      have := (List.getElem?_eq_some_iff.1 hv).1
      simpa using this
    rw [Nat.zero_add, Lib.bytesWorld_cell w e (bs s) j (by rw [bs_size]; exact hj), ← hv]
    simp [bs, hj]
  · rintro g ⟨_, a, h1, h2⟩
    cases h1
    exact Nat.le_of_eq h2

/-- A literal slice without elements: a slice that may grow. -/
theorem st_slice0 (T : Tab P) {t e : TypeId} {sz : Nat} (hw : St w0 M0 M w) (hd : Nat.blt d n = true) (ht : T.ty t = some (.slice e)) (hz : T.sz e = some sz)
    (h : ∀ v w', Kp No w w' → St w0 M0 (vecI v e sz 0 [] :: M) w' → Ow P n ops Q rest ((d, v) :: L) w') : Ow P n ops Q (⟨some d, .buildSlice t 0 #[], ty, pos, af, none⟩ :: rest) L w :=
  ow_buildSlice0 T hd ht hz (fun w' k b _ => h _ w' k (hw.newVec k (own_of_blk b (by simp) (Nat.zero_le _) (Nat.le_refl _))))
/-- append of one element (a literal slice of one is built first; then this). -/
theorem st_appendB (T : Tab P) {t e tb : TypeId} {s x : Operand} {v z : Value} {g sz bytes k m c : Nat} {xs news : List Value} {Mx : Value → List Item} (hw : St w0 M0 M w) (hs : ev L s = some v) (hx : ev L x = some (.slice (some ⟨g, 0, none⟩) m c)) (hpb : Pick (blkI g tb news) M M') (ht : T.ty t = some (.slice e)) (hsz : T.sz e = some sz)
    (hp : ∀ v', Put (vecI v e sz k xs) (vecI v' e sz (k + m) (xs ++ news)) M (Mx v')) (hd : Nat.blt d n = true)
    (hi : infoOf P e = some (some z, sz, bytes)) (hz : z.cells.size = sz) (hpos : (Nat.blt 0 sz && Nat.blt 0 bytes) = true) (hl : news.length = m * sz) (h1 : oneCells news = true) (hb : (k + m) * bytes ≤ 140737488355328)
    (h : ∀ v' w', St w0 M0 (Mx v') w' → Ow P n ops Q rest ((d, v') :: L) w') :
    Ow P n ops Q (⟨some d, .call { callee := .builtin .append, args := #[s, x], argTypes := #[t, t] }, ty, pos, af, none⟩ :: rest) L w :=
  st_appendR T hw hs hx ht hsz (blk_rowI (hw.pick hpb)) hp hd hi hz hpos hl h1 hb h
theorem st_appendV (T : Tab P) {t e : TypeId} {s x : Operand} {v z : Value} {A : Option Addr} {sz bytes k m c : Nat} {xs news : List Value} {Mx : Value → List Item} (hw : St w0 M0 M w) (hs : ev L s = some v) (hx : ev L x = some (.slice A m c)) (hpr : Pick (rowI A news) M M') (ht : T.ty t = some (.slice e)) (hsz : T.sz e = some sz)
    (hp : ∀ v', Put (vecI v e sz k xs) (vecI v' e sz (k + m) (xs ++ news)) M (Mx v')) (hd : Nat.blt d n = true)
    (hi : infoOf P e = some (some z, sz, bytes)) (hz : z.cells.size = sz) (hpos : (Nat.blt 0 sz && Nat.blt 0 bytes) = true) (hl : news.length = m * sz) (h1 : oneCells news = true) (hb : (k + m) * bytes ≤ 140737488355328)
    (h : ∀ v' w', St w0 M0 (Mx v') w' → Ow P n ops Q rest ((d, v') :: L) w') :
    Ow P n ops Q (⟨some d, .call { callee := .builtin .append, args := #[s, x], argTypes := #[t, t] }, ty, pos, af, none⟩ :: rest) L w :=
  st_appendR T hw hs hx ht hsz (hw.pick hpr) hp hd hi hz hpos hl h1 hb h
/-- A literal slice of one. -/
theorem st_slice1 (T : Tab P) (Z : Zs P) {t e : TypeId} {x : Operand} {v z : Value} {sz bytes : Nat} {vs : List Value} (hw : St w0 M0 M w) (hx : ev L x = some v) (hv : v.cells = vs.toArray) (ht : T.ty t = some (.slice e)) (hi : Z.i e = some (z, sz, bytes)) (hd : Nat.blt d n = true) (hl : vs.length = sz)
    (h : ∀ g w', Kp No w w' → St w0 M0 (blkI g e vs :: M) w' → Ow P n ops Q rest ((d, .slice (some ⟨g, 0, none⟩) 1 1) :: L) w') : Ow P n ops Q (⟨some d, .buildSlice t 1 ⟨[(0, x)]⟩, ty, pos, af, none⟩ :: rest) L w := by
  obtain ⟨h1, h2, h3, h4, h5⟩ := Z.iok _ _ _ _ hi
  exact ow_buildSlice T hd (vs := [(0, v)]) (by simp only [mapEvP, hx]) ht (builtSlice_one h1 hv hl h3 h5) (fun w' k b _ => h _ w' k (hw.new k b (fun g hg => Nat.le_of_eq (show g = _ from hg).symm)))
/-- append to a slice that grows: of a block's cells, of a slice that came in. -/
theorem st_app (T : Tab P) (Z : Zs P) {t e tb : TypeId} {s x : Operand} {v z : Value} {g sz bytes k m c : Nat} {xs news : List Value} (hw : St w0 M0 M w) (hs : ev L s = some v) (hx : ev L x = some (.slice (some ⟨g, 0, none⟩) m c)) (hpb : ∃ M1, Pick (blkI g tb news) M M1) (ht : T.ty t = some (.slice e)) (hi : Z.i e = some (z, sz, bytes))
    (hp : Pick (vecI v e sz k xs) M M') (hd : Nat.blt d n = true) (hsz : T.sz e = some sz) (hl : news.length = m * sz) (h1 : oneCells news = true) (hb : (k + m) * bytes ≤ 140737488355328)
    (h : ∀ v' w', St w0 M0 (vecI v' e sz (k + m) (xs ++ news) :: M') w' → Ow P n ops Q rest ((d, v') :: L) w') :
    Ow P n ops Q (⟨some d, .call { callee := .builtin .append, args := #[s, x], argTypes := #[t, t] }, ty, pos, af, none⟩ :: rest) L w := by
  obtain ⟨i1, i2, i3, i4, i5⟩ := Z.iok _ _ _ _ hi
  obtain ⟨M1, hpb⟩ := hpb
  exact st_appendR T (Mx := fun v' => vecI v' e sz (k + m) (xs ++ news) :: M') (hw.perm hp.perm) hs hx ht hsz (blk_rowI (hw.pick hpb)) (fun v' => .here) hd i1 i2 (by simp [Nat.blt_eq, i3, i4]) hl h1 hb h
theorem st_appR (T : Tab P) (Z : Zs P) {t e : TypeId} {s x : Operand} {v z : Value} {A : Option Addr} {sz bytes k m c : Nat} {xs news : List Value} (hw : St w0 M0 M w) (hs : ev L s = some v) (hx : ev L x = some (.slice A m c)) (hpb : ∃ M1, Pick (rowI A news) M M1) (ht : T.ty t = some (.slice e)) (hi : Z.i e = some (z, sz, bytes))
    (hp : Pick (vecI v e sz k xs) M M') (hd : Nat.blt d n = true) (hsz : T.sz e = some sz) (hl : news.length = m * sz) (h1 : oneCells news = true) (hb : (k + m) * bytes ≤ 140737488355328)
    (h : ∀ v' w', St w0 M0 (vecI v' e sz (k + m) (xs ++ news) :: M') w' → Ow P n ops Q rest ((d, v') :: L) w') :
    Ow P n ops Q (⟨some d, .call { callee := .builtin .append, args := #[s, x], argTypes := #[t, t] }, ty, pos, af, none⟩ :: rest) L w := by
  obtain ⟨i1, i2, i3, i4, i5⟩ := Z.iok _ _ _ _ hi
  obtain ⟨M1, hpb⟩ := hpb
  exact st_appendR T (Mx := fun v' => vecI v' e sz (k + m) (xs ++ news) :: M') (hw.perm hp.perm) hs hx ht hsz (hw.pick hpb) (fun v' => .here) hd i1 i2 (by simp [Nat.blt_eq, i3, i4]) hl h1 hb h
/-- A piece of a slice that came in, from its head on. -/
theorem st_loadR0 (T : Tab P) {t : TypeId} {D : TypeDesc} {x : Operand} {g o k : Nat} {cs vs : List Value} (hw : St w0 M0 M w) (hx : ev L x = some (.pointer (some ⟨g, o, none⟩))) (hp : Pick (rowI (some ⟨g, o, none⟩) cs) M M') (ht : T.ty t = some D) (hD : aggB D = true) (hd : Nat.blt d n = true) (hs : T.sz t = some k) (hv : cs.take k = vs) (hl : vs.length = k)
    (h : Ow P n ops Q rest ((d, .agg vs.toArray) :: L) w) : Ow P n ops Q (⟨some d, .load t x, ty, pos, af, none⟩ :: rest) L w :=
  st_loadRA T (j := 0) hw hx hp ht hD hd hs (by rw [List.drop_zero]; exact hv) hl h
/-- A piece of a block as a text, told by its cells. -/
theorem st_toStrC (T : Tab P) {t u e t' : TypeId} {x : Operand} {g o m c : Nat} {cs : List Value} {s : List Byte} (hw : St w0 M0 M w) (hx : ev L x = some (.slice (some ⟨g, o, none⟩) m c)) (hp : Pick (blkI g t' cs) M M') (hs : T.ty t = some (.slice e)) (he : T.ty e = some (.int .u8)) (hu : T.ty u = some .string) (hd : Nat.blt d n = true) (hv : (cs.drop o).take m = cb s) (hl : s.length = m)
    (h : Ow P n ops Q rest ((d, str s) :: L) w) : Ow P n ops Q (⟨some d, .convert t u x, ty, pos, af, none⟩ :: rest) L w :=
  ow_toString T s (by
    have h1 := At.take (Blk.at_ (hw.pick hp) o) m
    rw [hv] at h1
    exact h1) hd hx hs he hu hl h
/-- append of a piece of a block. -/
theorem st_appP (T : Tab P) (Z : Zs P) {t e tb : TypeId} {s x : Operand} {v z : Value} {g o sz bytes k m c : Nat} {xs news cs : List Value} (hw : St w0 M0 M w) (hs : ev L s = some v) (hx : ev L x = some (.slice (some ⟨g, o, none⟩) m c)) (hpb : ∃ M1, Pick (blkI g tb cs) M M1) (ht : T.ty t = some (.slice e)) (hi : Z.i e = some (z, sz, bytes))
    (hp : Pick (vecI v e sz k xs) M M') (hd : Nat.blt d n = true) (hsz : T.sz e = some sz) (hv : (cs.drop o).take (m * sz) = news) (hl : news.length = m * sz) (h1 : oneCells news = true) (hb : (k + m) * bytes ≤ 140737488355328)
    (h : ∀ v' w', St w0 M0 (vecI v' e sz (k + m) (xs ++ news) :: M') w' → Ow P n ops Q rest ((d, v') :: L) w') :
    Ow P n ops Q (⟨some d, .call { callee := .builtin .append, args := #[s, x], argTypes := #[t, t] }, ty, pos, af, none⟩ :: rest) L w := by
  obtain ⟨i1, i2, i3, i4, i5⟩ := Z.iok _ _ _ _ hi
  obtain ⟨M1, hpb⟩ := hpb
  exact st_appendR T (Mx := fun v' => vecI v' e sz (k + m) (xs ++ news) :: M') (hw.perm hp.perm) hs hx ht hsz (.inr ⟨g, o, rfl, by
    have h1 := At.take (Blk.at_ (hw.pick hpb) o) (m * sz)
    rw [hv] at h1
    exact h1⟩) (fun v' => .here) hd i1 i2 (by simp [Nat.blt_eq, i3, i4]) hl h1 hb h
/-- A slice as a pointer to an array. -/
theorem st_arrayAt (T : Tab P) {t e : TypeId} {x : Operand} {A : Option Addr} {m k c : Nat} (hd : Nat.blt d n = true) (hx : ev L x = some (.slice A m c)) (ht : T.ty t = some (.array k e)) (hm : k ≤ m)
    (h : Ow P n ops Q rest ((d, .pointer A) :: L) w) : Ow P n ops Q (⟨some d, .sliceToArrayPointer t x, ty, pos, af, none⟩ :: rest) L w :=
  ow_run hd (fun a ha => by
    unfold execOp
    simp only [ha.ev hx, Instr.arrayAt]
    rw [run_ok_bind (a := .pointer A) (w' := w) (by
      rw [run_ok_bind (Go.run_underlying (T.ty_ok _ _ ht) w)]
      simp only
      rw [if_neg (by omega)]
      rfl)]
    rfl) h
/-- An element of many cells of an array that is no variable. -/
theorem st_indexVA (T : Tab P) {t e : TypeId} {De : TypeDesc} {x y : Operand} {cs vs : List Value} {m k : Nat} {ik : IntKind} {i : Int} (hd : Nat.blt d n = true) (hx : ev L x = some (.agg cs.toArray)) (hy : ev L y = some (.int ik i)) (ht : T.ty t = some (.array m e)) (hte : T.ty e = some De) (hD : aggB De = true) (hz : T.sz e = some k)
    (h0 : 0 ≤ i) (h1 : i < (m : Int)) (hv : (cs.drop (i.toNat * k)).take k = vs) (hl : vs.length = k) (h : Ow P n ops Q rest ((d, .agg vs.toArray) :: L) w) : Ow P n ops Q (⟨some d, .index t x y, ty, pos, af, none⟩ :: rest) L w :=
  ow_run hd (fun a ha => by
    unfold execOp
    simp only [ha.ev hx, ha.ev hy, Instr.index]
    rw [run_ok_bind (a := .agg vs.toArray) (w' := w) (by
      rw [run_ok_bind (a := (ik, i)) (w' := w) rfl]
      simp only
      rw [run_ok_bind (Go.run_underlying (T.ty_ok _ _ ht) w)]
      simp only [h0, h1, and_self, if_true]
      rw [run_ok_bind (Mx.run_sizeOf (T.sz_ok _ _ hz) w), Eqs.run_part (cs := vs) (T.ty_ok _ _ hte) (T.sz_ok _ _ hz) (fun e => by rw [hD] at e; cases e) hv hl]
      simp [Eqs.mkv, hD])]
    rfl) h

/-- A literal slice of bytes, converted to the type it has: from here on it is only read. -/
theorem st_mark (T : Tab P) {t e : TypeId} {x : Operand} {g m c : Nat} {cs : List Value} (hw : St w0 M0 M w) (hx : ev L x = some (.slice (some ⟨g, 0, none⟩) m c)) (hp : Pick (blkI g e cs) M M') (ht : T.ty t = some (.slice e)) (he : T.ty e = some (.int .u8)) (hd : Nat.blt d n = true)
    (h : ∀ w', St w0 M0 (rowI (some ⟨g, 0, none⟩) cs :: M') w' → Ow P n ops Q rest ((d, .slice (some ⟨g, 0, none⟩) m c) :: L) w') : Ow P n ops Q (⟨some d, .convert t t x, ty, pos, af, none⟩ :: rest) L w := by
  have hb : Blk w g e cs := hw.pick hp
  have hb' : w.heap[g]? = some (.cells cs.toArray e (0, 0)) := hb
  have hlt := Blk.lt hb
  have hgg : (w.freeze ⟨g, cs.toArray.size, none⟩ 1).heap[g]? = some (.cells cs.toArray e (cs.toArray.size, cs.toArray.size + 1)) := by
    unfold World.freeze
    rw [if_neg (by decide)]
    simp only [Array.getElem?_modify, hb']
    simp
  have hgo : ∀ k, k ≠ g → (w.freeze ⟨g, cs.toArray.size, none⟩ 1).heap[k]? = w.heap[k]? := fun k hk => by
    unfold World.freeze
    rw [if_neg (by decide)]
    simp only [Array.getElem?_modify]
    rw [if_neg (fun e => hk e.symm)]
  have kp : Kp (Only g) w (w.freeze ⟨g, cs.toArray.size, none⟩ 1) := ⟨rfl, rfl, rfl, by unfold World.freeze; rw [if_neg (by decide)]; simp, fun k _ hn => hgo k hn⟩
  refine ow_run hd (w' := w.freeze ⟨g, cs.toArray.size, none⟩ 1) (fun a ha => ?_) (h _ ?_)
  · unfold execOp
    simp only [ha.ev hx]
    have hsh : w.shape? g = some (e, cs.toArray.size) := by simp [World.shape?, hb']
    rw [run_ok_bind (a := .slice (some ⟨g, 0, none⟩) m c) (w' := w.freeze ⟨g, cs.toArray.size, none⟩ 1) (by
      unfold convert
      rw [run_ok_bind (Go.run_underlying (T.ty_ok _ _ ht) w), run_ok_bind (Go.run_underlying (T.ty_ok _ _ ht) w)]
      simp only
      rw [run_ok_bind (Go.run_underlying (T.ty_ok _ _ he) w)]
      simp only [beq_self_eq_true]
      rw [run_ok_bind (a := ()) (w' := w.freeze ⟨g, cs.toArray.size, none⟩ 1) (by
        have hsh' : w.shape? g = some (e, cs.length) := by rw [hsh]; simp
        simp [markStringish, hsh'])]
      rfl)]
    rfl
  · refine (hw.perm hp.perm).turn (i := blkI g e cs) .here rfl (kp.mono (fun _ h => h)) ?_ (fun k hk => .inl ?_)
    · refine .inr ⟨g, 0, rfl, fun j v hv => ?_⟩
      simp only [World.cell?, hgg, Nat.zero_add]
      simpa using hv
    · obtain ⟨_, a, h1, h2⟩ := hk
      cases h1
      exact h2.symm
/-- append to a slice without room: a slice of one's own. -/
theorem st_appNew (T : Tab P) (Z : Zs P) {t e : TypeId} {s x : Operand} {z : Value} {gs os g o sz bytes k c m cx : Nat} {olds news : List Value} (hw : St w0 M0 M w) (hs : ev L s = some (.slice (some ⟨gs, os, none⟩) k c)) (hro : Row w (some ⟨gs, os, none⟩) olds) (hx : ev L x = some (.slice (some ⟨g, o, none⟩) m cx)) (hrn : Row w (some ⟨g, o, none⟩) news) (ht : T.ty t = some (.slice e)) (hi : Z.i e = some (z, sz, bytes)) (hd : Nat.blt d n = true)
    (hlo : olds.length = k * sz) (hl : news.length = m * sz) (hroom : c < k + m) (hb : (k + m) * bytes ≤ 140737488355328)
    (h : ∀ v' w', Kp No w w' → St w0 M0 (vecI v' e sz (k + m) (olds ++ news) :: M) w' → Ow P n ops Q rest ((d, v') :: L) w') :
    Ow P n ops Q (⟨some d, .call { callee := .builtin .append, args := #[s, x], argTypes := #[t, t] }, ty, pos, af, none⟩ :: rest) L w := by
  obtain ⟨i1, i2, i3, i4, i5⟩ := Z.iok _ _ _ _ hi
  unfold infoOf at i1
  obtain ⟨i, hi', hzz⟩ := Option.map_eq_some_iff.1 i1
  simp only [Prod.mk.injEq] at hzz
  obtain ⟨z1, z2, z3⟩ := hzz
  have hk : k + m ≤ (k + m) * bytes := Nat.le_mul_of_pos_right _ i4
  have h63 : k + m ≤ maxLen := by unfold maxLen; omega
  have holds : ∀ j v, olds[j]? = some v → w.cell? ((⟨gs, os, none⟩ : Addr).add j) = some v := fun j v hv => by
    rw [add_plain']; exact row_at (j := 0) (k := olds.length) hro (by simp) j v hv
  have hnews : ∀ j v, news[j]? = some v → w.cell? ((⟨g, o, none⟩ : Addr).add j) = some v := fun j v hv => by
    rw [add_plain']; exact row_at (j := 0) (k := news.length) hrn (by simp) j v hv
  have hr := run_append_grow (P := P) w t ty e i z (T.ty_ok _ _ ht) hi' z1 ⟨gs, os, none⟩ k c olds (by rw [z2]; exact hlo) holds ⟨g, o, none⟩ m cx news (by rw [z2]; exact hl) hnews hroom (by omega) (by rw [z3]; exact growslice_fits hroom hb)
  have hge := grownCap_ge w (k + m) c e
  have hcm : grownCap w (k + m) c e ≤ maxLen := grownCap_le_maxLen w (k + m) c e h63
  have kp : Kp No w (w.drew.alloc (.cells (olds.toArray ++ news.toArray ++ Builtin.zeroCells z.cells (grownCap w (k + m) c e - (k + m))) e)) := ⟨rfl, rfl, rfl, by simp, fun k hk _ => heap_alloc_old w.drew _ hk⟩
  refine ow_run hd (fun a ha => ?_) (h _ _ kp (hw.newVec kp ⟨?_, .inr ⟨w.heap.size, _, _, rfl, Nat.le_refl _, heap_alloc_new w.drew _, hge, hcm, ?_, ?_⟩⟩))
  · unfold execOp
    simp only [resolve, List.map_toArray, List.map_cons, List.map_nil, ha.ev hs, ha.ev hx]
    rw [run_ok_bind (w' := w) rfl]
    simp only [invoke, builtin]
    rw [run_ok_bind hr]
    rfl
  · rw [List.length_append, hlo, hl, Nat.add_mul]
  · simp only [Array.size_append, List.size_toArray, size_zeroCells, i2, hlo, hl, ← Nat.add_mul]
    congr 1
    omega
  · simp only [Array.toList_append, List.append_assoc]
    rw [← List.append_assoc, show (k + m) * sz = (olds ++ news).length from by rw [List.length_append, hlo, hl, Nat.add_mul]]
    exact List.take_left

/-- A block as a slice that may grow. -/
theorem St.blkVec {g m sz : Nat} {e : TypeId} {cs : List Value} (hw : St w0 M0 M w) (hp : Put (blkI g e cs) (vecI (.slice (some ⟨g, 0, none⟩) m m) e sz m cs) M M') (hl : cs.length = m * sz) (hm : m ≤ maxLen) : St w0 M0 M' w :=
  hw.as hp (fun b => own_of_blk b hl hm (Nat.zero_le _)) (fun _ => rfl) (fun k hk => by
    have : some g = some k := hk
    cases this; rfl)

/-- What a struct's or an array's literal comes to. -/
theorem built_zero {t : TypeId} {zc : List Value} (h : P.built t [] = some zc.toArray) (hf : P.underlying t = some (.struct (P.fieldsOf t))) {places : List (Nat × Nat)} (hp : ((P.fieldsOf t).toList.mapM fun f => (P.info? f.type).map fun i => (f.offset, i.size)) = some places) (parts : List (Nat × Value)) :
    P.built t parts = Instr.fill (places.toArray[·]?) zc.toArray parts := by
  unfold Program.built at h ⊢
  cases hi : P.info? t with
  | none => rw [hi] at h; simp at h
  | some it =>
    rw [hi, hf] at h
    simp only [hf, hp] at h ⊢
    cases hz : it.zero with
    | none => rw [hz] at h; simp at h
    | some z =>
      rw [hz] at h
      simp only [Instr.fill, Option.some.injEq] at h ⊢
      rw [h]
theorem fill_nil {place : Nat → Option (Nat × Nat)} {cs : Array Value} : Instr.fill place cs [] = some cs := by simp [Instr.fill]
theorem splice_mid (a b vs c : List Value) (h : vs.length = b.length) : splice (a ++ (b ++ c)) a.length vs = a ++ (vs ++ c) := by
  unfold splice
  rw [List.take_left, List.drop_append, List.drop_of_length_le (by omega), List.nil_append, show a.length + vs.length - a.length = b.length from by omega, List.drop_left, List.append_assoc]
theorem splice_end (a b vs : List Value) (h : vs.length = b.length) : splice (a ++ b) a.length vs = a ++ vs := by
  have := splice_mid a b vs [] h
  simpa using this
/-- A vector's length as len says. -/
theorem vec_slice {v : Value} {e : TypeId} {sz k : Nat} {xs : List Value} (hw : St w0 M0 M w) (hp : Pick (vecI v e sz k xs) M M') : ∃ A c, v = .slice A k c := by
  obtain ⟨A, c, h, _⟩ := hw.vecRow hp
  exact ⟨A, c, h⟩
end rules
end Go.Proofs.YtehekgigmbnlfaaDoor.Stm
