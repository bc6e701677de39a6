/- Memory in a walk: blocks that are known, what a step leaves as it was; loads, stores, new variables, addresses. -/
import Derived.Test.YtehekgigmbnlfaaDoorSx
import Derived.Laws.CopyRow
import Derived.Laws.Rows
set_option linter.unusedVariables false
set_option linter.unusedSimpArgs false
namespace Go.Proofs.YtehekgigmbnlfaaDoor.Mx
open Go.RowKit Go.Proofs.YtehekgigmbnlfaaDoor.Sx
variable {P : Program}

/-- Block g holds these cells, and may be written. -/
def Blk (w : World) (g : Nat) (t : TypeId) (cs : List Value) : Prop := w.heap[g]? = some (.cells cs.toArray t (0, 0))
theorem Blk.lt {w : World} {g : Nat} {t : TypeId} {cs : List Value} (h : Blk w g t cs) : g < w.heap.size := (Array.getElem?_eq_some_iff.1 h).1

/-- But for the blocks of S (and new ones) nothing has turned. -/
structure Kp (S : Nat → Prop) (w w' : World) : Prop where
  os : w'.os = w.os
  tape : w'.tape = w.tape
  output : w'.output = w.output
  size : w.heap.size ≤ w'.heap.size
  block : ∀ k, k < w.heap.size → ¬ S k → w'.heap[k]? = w.heap[k]?
def No (_ : Nat) : Prop := False
def Only (g k : Nat) : Prop := k = g
theorem Kp.refl {S : Nat → Prop} {w : World} : Kp S w w := ⟨rfl, rfl, rfl, Nat.le_refl _, fun _ _ _ => rfl⟩
theorem Kp.trans {S : Nat → Prop} {a b c : World} (h : Kp S a b) {S' : Nat → Prop} (k : Kp S' b c) (hS : ∀ i, S' i → S i ∨ a.heap.size ≤ i) : Kp S a c :=
  ⟨k.os.trans h.os, k.tape.trans h.tape, k.output.trans h.output, Nat.le_trans h.size k.size, fun i hi hn => (k.block i (Nat.lt_of_lt_of_le hi h.size) (fun hs => (hS i hs).elim hn (fun hge => absurd hi (Nat.not_lt.2 hge)))).trans (h.block i hi hn)⟩
theorem Kp.no {S : Nat → Prop} {a b c : World} (h : Kp S a b) (k : Kp No b c) : Kp S a c := h.trans k (fun _ hs => hs.elim)
theorem Kp.mono {S S' : Nat → Prop} {w w' : World} (h : Kp S w w') (hS : ∀ i, S i → S' i) : Kp S' w w' := ⟨h.os, h.tape, h.output, h.size, fun k hk hn => h.block k hk (fun hs => hn (hS k hs))⟩
theorem Kp.below {w w' : World} (h : Kp No w w') : Below w.heap.size w w' := ⟨h.os, h.tape, h.output, h.size, fun k hk => h.block k hk (fun hs => hs)⟩
theorem Kp.of_below {w w' : World} (h : Below w.heap.size w w') : Kp No w w' := ⟨h.os, h.tape, h.output, h.size, fun k hk _ => h.block k hk⟩
theorem Kp.cell {S : Nat → Prop} {w w' : World} (h : Kp S w w') {a : Addr} {v : Value} (hc : w.cell? a = some v) (hn : ¬ S a.block) : w'.cell? a = some v := by
  have hlt : a.block < w.heap.size := block_lt_of_cell hc
  rw [← hc]
  exact World.cell?_of_block (w := w) (h.block _ hlt hn)
theorem Blk.kp {S : Nat → Prop} {w w' : World} {g : Nat} {t : TypeId} {cs : List Value} (h : Blk w g t cs) (k : Kp S w w') (hn : ¬ S g) : Blk w' g t cs := (k.block g h.lt hn).trans h
theorem Blk.no {w w' : World} {g : Nat} {t : TypeId} {cs : List Value} (h : Blk w g t cs) (k : Kp No w w') : Blk w' g t cs := h.kp k (fun hs => hs)
theorem Blk.cell {w : World} {g : Nat} {t : TypeId} {cs : List Value} (h : Blk w g t cs) (i : Nat) : w.cell? ⟨g, i, none⟩ = cs[i]? := by
  simp [World.cell?, show w.heap[g]? = _ from h]

theorem kp_alloc (w : World) (o : Obj) : Kp No w (w.alloc o) := ⟨rfl, rfl, rfl, by simp, fun k hk _ => Below.heap_alloc w o k hk⟩
theorem kp_setRow (w : World) (g : Nat) (cs : Array Value) : Kp (Only g) w (w.setRow g cs) := ⟨rfl, rfl, rfl, by simp, fun k _ hn => setRow_other w g k cs hn⟩
theorem kp_drew (w : World) : Kp No w { w with drawn := w.drawn + 1 } := ⟨rfl, rfl, rfl, Nat.le_refl _, fun _ _ _ => rfl⟩

section rules
variable {n : Nat} {Q : Exit → Act → World → Prop} {L : Ctx} {w : World} {ops : Array Oper} {rest : List Oper} {d : Nat} {ty : TypeId} {pos : String} {af : Array Edge}

theorem run_newVar (t : TypeId) (v : Value) (w : World) : (Go.newVar t v).run P w = .ok ⟨w.heap.size, 0, none⟩ (w.alloc (.cells v.cells t)) := rfl

/-- A new variable that holds a value. -/
theorem ow_box {t : TypeId} {x : Operand} {v : Value} {cs : List Value} (hd : Nat.blt d n = true) (hx : ev L x = some v) (hcs : v.cells = cs.toArray)
    (h : ∀ w', Kp No w w' → Blk w' w.heap.size t cs → w'.heap.size = w.heap.size + 1 → Ow P n ops Q rest ((d, .pointer (some ⟨w.heap.size, 0, none⟩)) :: L) w') : Ow P n ops Q (⟨some d, .box t x, ty, pos, af, none⟩ :: rest) L w :=
  ow_run hd (w' := w.alloc (.cells cs.toArray t)) (v := .pointer (some ⟨w.heap.size, 0, none⟩)) (fun a ha => by
    unfold execOp
    simp only [ha.ev hx, Instr.box]
    rw [← hcs]
    rfl) (h _ (kp_alloc _ _) (heap_alloc_new _ _) (by simp))

def zeroOf (P : Program) (t : TypeId) : Option Value := (P.info? t).bind (·.zero)
theorem run_zeroValue {t : TypeId} {z : Value} (hz : zeroOf P t = some z) (w : World) : (zeroValue t).run P w = .ok z w := by
  unfold zeroOf at hz
  cases hi : P.info? t with
  | none => simp [hi] at hz
  | some i =>
    rw [hi] at hz
    have hz' : i.zero = some z := hz
    simp [zeroValue, typeInfo, Sem.run_bind, hi, hz']
/-- A new variable, zero. -/
theorem ow_alloc {t : TypeId} {z : Value} {cs : List Value} (hd : Nat.blt d n = true) (hz : zeroOf P t = some z) (hcs : z.cells = cs.toArray)
    (h : ∀ w', Kp No w w' → Blk w' w.heap.size t cs → w'.heap.size = w.heap.size + 1 → Ow P n ops Q rest ((d, .pointer (some ⟨w.heap.size, 0, none⟩)) :: L) w') : Ow P n ops Q (⟨some d, .alloc t, ty, pos, af, none⟩ :: rest) L w :=
  ow_run hd (w' := w.alloc (.cells cs.toArray t)) (v := .pointer (some ⟨w.heap.size, 0, none⟩)) (fun a ha => by
    unfold execOp Instr.alloc
    simp only
    rw [run_ok_bind (a := .pointer (some ⟨w.heap.size, 0, none⟩)) (w' := w.alloc (.cells cs.toArray t)) (by
      rw [run_ok_bind (run_zeroValue hz w), ← hcs]
      rfl)]
    rfl) (h _ (kp_alloc _ _) (heap_alloc_new _ _) (by simp))

/-- Has the type many cells? -/
def aggB : TypeDesc → Bool
  | .struct _ => true
  | .array _ _ => true
  | _ => false
theorem run_isAgg {t : TypeId} {D : TypeDesc} (ht : P.underlying t = some D) (w : World) : (isAgg t).run P w = .ok (aggB D) w := by
  unfold isAgg
  rw [run_ok_bind (Go.run_underlying ht w)]
  cases D <;> rfl
theorem run_sizeOf {t : TypeId} {k : Nat} (h : (P.info? t).map (·.size) = some k) (w : World) : (sizeOf t).run P w = .ok k w := by
  cases hi : P.info? t with
  | none => simp [hi] at h
  | some i =>
    have : i.size = k := by simpa [hi] using h
    simp [sizeOf, typeInfo, Sem.run_bind, hi, this]

theorem add_plain' (g o j : Nat) : (⟨g, o, none⟩ : Addr).add j = ⟨g, o + j, none⟩ := by unfold Addr.add; split <;> simp_all

/-- A whole variable of many cells read out of memory. -/
theorem run_loadVar_agg {t : TypeId} {D : TypeDesc} {g o : Nat} {cs : List Value} (ht : P.underlying t = some D) (hD : aggB D = true) (hs : (P.info? t).map (·.size) = some cs.length) (hc : ∀ j v, cs[j]? = some v → w.cell? ⟨g, o + j, none⟩ = some v) :
    (loadVar t ⟨g, o, none⟩).run P w = .ok (.agg cs.toArray) w := by
  unfold loadVar
  rw [run_ok_bind (run_isAgg ht w), hD]
  simp only [if_true]
  rw [run_ok_bind (run_sizeOf hs w), run_ok_bind (run_loadCells_list (P := P) w ⟨g, o, none⟩ cs (fun j v hv => by rw [add_plain']; exact hc j v hv))]
  rfl
theorem run_loadVar_one {t : TypeId} {D : TypeDesc} {a : Addr} {v : Value} (ht : P.underlying t = some D) (hD : aggB D = false) (hc : w.cell? a = some v) : (loadVar t a).run P w = .ok v w := by
  unfold loadVar
  rw [run_ok_bind (run_isAgg ht w), hD]
  simp [hc, Go.load, Sem.run]

theorem run_load {t : TypeId} {x : Operand} {a : Addr} {v : Value} (hx : ev L x = some (.pointer (some a))) (hr : (loadVar t a).run P w = .ok v w) {act : Act} (ha : Has n L act) {o : Oper} (ho : o.op = .load t x) : (execOp act.eval o).run P w = .ok (.value v) w := by
  unfold execOp
  rw [ho]
  simp only [ha.ev hx, Instr.loadAt, Instr.sureAddr]
  rw [run_ok_bind (a := v) (w' := w) (by rw [run_ok_bind (a := a) (w' := w) rfl]; exact hr)]
  rfl
/-- A load of a variable. -/
theorem ow_load {t : TypeId} {x : Operand} {a : Addr} {v : Value} (hd : Nat.blt d n = true) (hx : ev L x = some (.pointer (some a))) (hr : (loadVar t a).run P w = .ok v w)
    (h : Ow P n ops Q rest ((d, v) :: L) w) : Ow P n ops Q (⟨some d, .load t x, ty, pos, af, none⟩ :: rest) L w :=
  ow_run hd (fun _ ha => run_load hx hr ha rfl) h

theorem blk_row {g o : Nat} {t t' : TypeId} {D : TypeDesc} {cs : List Value} (hb : Blk w g t' cs) (k : Nat) (ht : P.underlying t = some D) (hD : aggB D = true) (hs : (P.info? t).map (·.size) = some k) (hk : o + k ≤ cs.length) :
    (loadVar t ⟨g, o, none⟩).run P w = .ok (.agg ((cs.drop o).take k).toArray) w := by
  refine run_loadVar_agg ht hD (by rw [hs]; simp; omega) (fun j v hv => ?_)
  rw [hb.cell]
  simp only [List.getElem?_take, List.getElem?_drop] at hv
  split at hv
  · exact hv
  · cases hv
theorem blk_all {g : Nat} {t t' : TypeId} {D : TypeDesc} {cs : List Value} (hb : Blk w g t' cs) (ht : P.underlying t = some D) (hD : aggB D = true) (hs : (P.info? t).map (·.size) = some cs.length) :
    (loadVar t ⟨g, 0, none⟩).run P w = .ok (.agg cs.toArray) w := by
  refine run_loadVar_agg ht hD hs (fun j v hv => ?_)
  rw [hb.cell, Nat.zero_add]
  exact hv
theorem blk_one {g o : Nat} {t t' : TypeId} {D : TypeDesc} {cs : List Value} {v : Value} (hb : Blk w g t' cs) (ht : P.underlying t = some D) (hD : aggB D = false) (hv : cs[o]? = some v) :
    (loadVar t ⟨g, o, none⟩).run P w = .ok v w := run_loadVar_one ht hD (by rw [hb.cell]; exact hv)

/-- Cells laid over others. -/
def splice (cs : List Value) (o : Nat) (vs : List Value) : List Value := cs.take o ++ vs ++ cs.drop (o + vs.length)
def oneCells (vs : List Value) : Bool := vs.all Value.oneCell'

/-- A store of a variable. -/
theorem ow_store {t t' : TypeId} {x y : Operand} {g o : Nat} {v : Value} {cs vs : List Value} (hx : ev L x = some (.pointer (some ⟨g, o, none⟩))) (hy : ev L y = some v) (hv : v.cells = vs.toArray) (hb : Blk w g t' cs)
    (hs : (P.info? t).map (·.size) = some vs.length) (hk : o + vs.length ≤ cs.length) (h1 : oneCells vs = true)
    (h : ∀ w', Kp (Only g) w w' → Blk w' g t' (splice cs o vs) → w'.heap.size = w.heap.size → Ow P n ops Q rest L w') : Ow P n ops Q (⟨none, .store t x y, ty, pos, af, none⟩ :: rest) L w :=
  ow_skip (w' := w.setRow g (splice cs o vs).toArray) (fun a ha => by
    have hst := run_storeCells_at P g o t' vs 0 cs.toArray w hb (by simpa using hk) (by simpa [oneCells] using h1)
    unfold execOp
    simp only [ha.ev hx, ha.ev hy, Instr.storeAt, Instr.sureAddr]
    rw [run_ok_bind (a := ()) (w' := w.setRow g (splice cs o vs).toArray) (by
      rw [run_ok_bind (a := ⟨g, o, none⟩) (w' := w) rfl]
      unfold storeVar
      rw [run_ok_bind (run_sizeOf hs w)]
      simp only [hv, List.size_toArray, ne_eq, not_true_eq_false, if_false]
      simpa [splice] using hst)]
    rfl) (h _ (kp_setRow _ _ _) (setRow_heap w g _ _ _ _ hb) (by simp))

/-- A field's address. -/
theorem ow_field {s : TypeId} {x : Operand} {g o f k : Nat} {fs : Array Field} {fd : Field} (hd : Nat.blt d n = true) (hx : ev L x = some (.pointer (some ⟨g, o, none⟩))) (hs : P.underlying s = some (.struct fs)) (hf : fs[f]? = some fd)
    (hz : (P.info? fd.type).map (·.size) = some (k + 1)) (h : Ow P n ops Q rest ((d, .pointer (some ⟨g, o + fd.offset, none⟩)) :: L) w) : Ow P n ops Q (⟨some d, .fieldAddr s x f, ty, pos, af, none⟩ :: rest) L w :=
  ow_run hd (fun a ha => by
    unfold execOp
    simp only [ha.ev hx, Instr.fieldAt]
    rw [run_ok_bind (a := .pointer (some ⟨g, o + fd.offset, none⟩)) (w' := w) (by
      rw [run_ok_bind (Go.run_underlying hs w)]
      simp only [hf]
      rw [run_ok_bind (a := ⟨g, o, none⟩) (w' := w) rfl]
      rw [run_ok_bind (a := ⟨g, o + fd.offset, none⟩) (w' := w) (by
        unfold fieldPlace
        rw [run_ok_bind (run_sizeOf hz w), if_neg (by omega), add_plain']
        rfl)]
      rfl)]
    rfl) h

/-- An element's address, of an array behind a pointer. -/
theorem ow_index {t e : TypeId} {x y : Operand} {g o m k : Nat} {ik : IntKind} {i : Int} (hd : Nat.blt d n = true) (hx : ev L x = some (.pointer (some ⟨g, o, none⟩))) (hy : ev L y = some (.int ik i)) (ht : P.underlying t = some (.array m e))
    (hz : (P.info? e).map (·.size) = some k) (h0 : 0 ≤ i) (h1 : i < (m : Int)) (h : Ow P n ops Q rest ((d, .pointer (some ⟨g, o + i.toNat * k, none⟩)) :: L) w) : Ow P n ops Q (⟨some d, .indexAddr t x y, ty, pos, af, none⟩ :: rest) L w :=
  ow_run hd (fun a ha => by
    unfold execOp
    simp only [ha.ev hx, ha.ev hy, Instr.indexAt]
    rw [run_ok_bind (a := .pointer (some ⟨g, o + i.toNat * k, none⟩)) (w' := w) (by
      rw [run_ok_bind (a := (ik, i)) (w' := w) rfl]
      simp only
      rw [run_ok_bind (Go.run_underlying ht w)]
      simp only
      rw [run_ok_bind (a := ⟨g, o, none⟩) (w' := w) rfl]
      rw [run_ok_bind (a := (some ⟨g, o, none⟩, m, e)) (w' := w) rfl]
      simp only
      rw [run_ok_bind (Go.run_underlying ht w)]
      simp only [h0, h1, and_self, if_true]
      rw [run_ok_bind (run_sizeOf hz w), add_plain']
      rfl)]
    rfl) h
/-- .. of a slice. -/
theorem ow_index_slice {t e : TypeId} {x y : Operand} {g o m c k : Nat} {ik : IntKind} {i : Int} (hd : Nat.blt d n = true) (hx : ev L x = some (.slice (some ⟨g, o, none⟩) m c)) (hy : ev L y = some (.int ik i)) (ht : P.underlying t = some (.slice e))
    (hz : (P.info? e).map (·.size) = some k) (h0 : 0 ≤ i) (h1 : i < (m : Int)) (h : Ow P n ops Q rest ((d, .pointer (some ⟨g, o + i.toNat * k, none⟩)) :: L) w) : Ow P n ops Q (⟨some d, .indexAddr t x y, ty, pos, af, none⟩ :: rest) L w :=
  ow_run hd (fun a ha => by
    unfold execOp
    simp only [ha.ev hx, ha.ev hy, Instr.indexAt]
    rw [run_ok_bind (a := .pointer (some ⟨g, o + i.toNat * k, none⟩)) (w' := w) (by
      rw [run_ok_bind (a := (ik, i)) (w' := w) rfl]
      simp only
      rw [run_ok_bind (Go.run_underlying ht w)]
      simp only
      rw [run_ok_bind (a := (some ⟨g, o, none⟩, m, e)) (w' := w) rfl]
      simp only
      rw [run_ok_bind (Go.run_underlying ht w)]
      simp only [h0, h1, and_self, if_true]
      rw [run_ok_bind (run_sizeOf hz w), add_plain']
      rfl)]
    rfl) h

/-! the same, by the seat's table -/
/-- Where a field lies, and its type. -/
def fieldAt : List Field → Nat → Option (Nat × TypeId)
  | [], _ => none
  | ⟨_, ft, off, _, _, _, _⟩ :: _, 0 => some (off, ft)
  | _ :: l, i + 1 => fieldAt l i
theorem fieldAt_eq : ∀ (l : List Field) (i off : Nat) (ft : TypeId), fieldAt l i = some (off, ft) → ∃ fd, l[i]? = some fd ∧ fd.offset = off ∧ fd.type = ft
  | [], i, off, ft, h => by simp [fieldAt] at h
  | ⟨_, _, _, _, _, _, _⟩ :: l, 0, off, ft, h => by
    simp only [fieldAt, Option.some.injEq, Prod.mk.injEq] at h
    exact ⟨_, rfl, h.1, h.2⟩
  | _ :: l, i + 1, off, ft, h => by simpa using fieldAt_eq l i off ft h
theorem ow_fieldT (T : Tab P) {s ft : TypeId} {x : Operand} {g o f k off : Nat} {fs : List Field} (hd : Nat.blt d n = true) (hx : ev L x = some (.pointer (some ⟨g, o, none⟩))) (hs : T.ty s = some (.struct ⟨fs⟩)) (hf : fieldAt fs f = some (off, ft))
    (hz : T.sz ft = some (k + 1)) (h : Ow P n ops Q rest ((d, .pointer (some ⟨g, o + off, none⟩)) :: L) w) : Ow P n ops Q (⟨some d, .fieldAddr s x f, ty, pos, af, none⟩ :: rest) L w := by
  obtain ⟨fd, hfd, rfl, rfl⟩ := fieldAt_eq fs f off ft hf
  exact ow_field hd hx (T.ty_ok _ _ hs) (by simpa using hfd) (T.sz_ok _ _ hz) h
theorem ow_load1 (T : Tab P) {t t' : TypeId} {D : TypeDesc} {x : Operand} {g o : Nat} {cs : List Value} {v : Value} (hb : Blk w g t' cs) (hd : Nat.blt d n = true) (hx : ev L x = some (.pointer (some ⟨g, o, none⟩))) (ht : T.ty t = some D) (hD : aggB D = false) (hv : nth cs o = some v)
    (h : Ow P n ops Q rest ((d, v) :: L) w) : Ow P n ops Q (⟨some d, .load t x, ty, pos, af, none⟩ :: rest) L w :=
  ow_load hd hx (blk_one hb (T.ty_ok _ _ ht) hD (by rw [← nth_eq]; exact hv)) h
theorem ow_loadA (T : Tab P) {t t' : TypeId} {D : TypeDesc} {x : Operand} {g k : Nat} {cs : List Value} (hb : Blk w g t' cs) (hd : Nat.blt d n = true) (hx : ev L x = some (.pointer (some ⟨g, 0, none⟩))) (ht : T.ty t = some D) (hD : aggB D = true) (hs : T.sz t = some k) (hk : cs.length = k)
    (h : Ow P n ops Q rest ((d, .agg cs.toArray) :: L) w) : Ow P n ops Q (⟨some d, .load t x, ty, pos, af, none⟩ :: rest) L w :=
  ow_load hd hx (blk_all hb (T.ty_ok _ _ ht) hD (by rw [hk]; exact T.sz_ok _ _ hs)) h
theorem ow_loadM (T : Tab P) {t t' : TypeId} {D : TypeDesc} {x : Operand} {g o k : Nat} {cs : List Value} (hb : Blk w g t' cs) (hd : Nat.blt d n = true) (hx : ev L x = some (.pointer (some ⟨g, o, none⟩))) (ht : T.ty t = some D) (hD : aggB D = true) (hs : T.sz t = some k) (hk : o + k ≤ cs.length)
    (h : Ow P n ops Q rest ((d, .agg ((cs.drop o).take k).toArray) :: L) w) : Ow P n ops Q (⟨some d, .load t x, ty, pos, af, none⟩ :: rest) L w :=
  ow_load hd hx (blk_row hb k (T.ty_ok _ _ ht) hD (T.sz_ok _ _ hs) hk) h
theorem ow_storeT (T : Tab P) {t t' : TypeId} {x y : Operand} {g o k : Nat} {v : Value} {cs vs : List Value} (hb : Blk w g t' cs) (hx : ev L x = some (.pointer (some ⟨g, o, none⟩))) (hy : ev L y = some v) (hv : v.cells = vs.toArray)
    (hs : T.sz t = some k) (hl : vs.length = k) (hk : o + k ≤ cs.length) (h1 : oneCells vs = true)
    (h : ∀ w', Kp (Only g) w w' → Blk w' g t' (splice cs o vs) → w'.heap.size = w.heap.size → Ow P n ops Q rest L w') : Ow P n ops Q (⟨none, .store t x y, ty, pos, af, none⟩ :: rest) L w :=
  ow_store hx hy hv hb (by rw [hl]; exact T.sz_ok _ _ hs) (by omega) h1 h
theorem splice_all (cs vs : List Value) (h : cs.length = vs.length) : splice cs 0 vs = vs := by
  unfold splice
  rw [List.take_zero, List.nil_append, Nat.zero_add, ← h, List.drop_length, List.append_nil]
/-- A store of the whole variable. -/
theorem ow_storeA (T : Tab P) {t t' : TypeId} {x y : Operand} {g k : Nat} {v : Value} {cs vs : List Value} (hb : Blk w g t' cs) (hx : ev L x = some (.pointer (some ⟨g, 0, none⟩))) (hy : ev L y = some v) (hv : v.cells = vs.toArray)
    (hs : T.sz t = some k) (hl : vs.length = k) (hk : cs.length = k) (h1 : oneCells vs = true)
    (h : ∀ w', Kp (Only g) w w' → Blk w' g t' vs → w'.heap.size = w.heap.size → Ow P n ops Q rest L w') : Ow P n ops Q (⟨none, .store t x y, ty, pos, af, none⟩ :: rest) L w :=
  ow_storeT T hb hx hy hv hs hl (by omega) h1 (fun w' k' b' s' => h w' k' (by rw [splice_all cs vs (by omega)] at b'; exact b') s')
theorem ow_indexT (T : Tab P) {t e : TypeId} {x y : Operand} {g o m k : Nat} {ik : IntKind} {i : Int} (hd : Nat.blt d n = true) (hx : ev L x = some (.pointer (some ⟨g, o, none⟩))) (hy : ev L y = some (.int ik i)) (ht : T.ty t = some (.array m e))
    (hz : T.sz e = some k) (h0 : 0 ≤ i) (h1 : i < (m : Int)) (h : Ow P n ops Q rest ((d, .pointer (some ⟨g, o + i.toNat * k, none⟩)) :: L) w) : Ow P n ops Q (⟨some d, .indexAddr t x y, ty, pos, af, none⟩ :: rest) L w :=
  ow_index hd hx hy (T.ty_ok _ _ ht) (T.sz_ok _ _ hz) h0 h1 h
theorem ow_indexS (T : Tab P) {t e : TypeId} {x y : Operand} {g o m c k : Nat} {ik : IntKind} {i : Int} (hd : Nat.blt d n = true) (hx : ev L x = some (.slice (some ⟨g, o, none⟩) m c)) (hy : ev L y = some (.int ik i)) (ht : T.ty t = some (.slice e))
    (hz : T.sz e = some k) (h0 : 0 ≤ i) (h1 : i < (m : Int)) (h : Ow P n ops Q rest ((d, .pointer (some ⟨g, o + i.toNat * k, none⟩)) :: L) w) : Ow P n ops Q (⟨some d, .indexAddr t x y, ty, pos, af, none⟩ :: rest) L w :=
  ow_index_slice hd hx hy (T.ty_ok _ _ ht) (T.sz_ok _ _ hz) h0 h1 h
end rules
end Go.Proofs.YtehekgigmbnlfaaDoor.Mx
