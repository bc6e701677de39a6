/- Slices that a function makes and lets grow: append, literals. -/
import Derived.Test.YtbfpgigbakhplaaQx
import Derived.Maps.AppendAt
import Derived.OwnWalk
import Derived.Great.Walk
set_option linter.unusedVariables false
set_option linter.unusedSimpArgs false
namespace Go.Proofs.Ytbfpgigbakhplaa.Ap
open Go.RowKit Go.Proofs.Ytbfpgigbakhplaa.Sx Go.Proofs.Ytbfpgigbakhplaa.Mx Go.Proofs.Ytbfpgigbakhplaa.Bw Go.Proofs.Ytbfpgigbakhplaa.By
variable {P : Program}

/-- A slice at the head of a block of its own, that nothing else looks into. -/
abbrev Own (w : World) (base : Nat) (e : TypeId) (sz : Nat) (v : Value) (n : Nat) (xs : List Value) : Prop := w.ownsRow base e sz v n xs
def OwnB (v : Value) (g : Nat) : Prop := v.ownBlock = some g
theorem kp_grown {w w' : World} {v : Value} (h : w.grownBy w' v.ownBlock) : Kp (OwnB v) w w' := ⟨h.os, h.tape, h.output, h.size, fun k hk hn => h.block k hk (fun e => hn e.symm)⟩
theorem Own.kp {w w' : World} {base : Nat} {e : TypeId} {sz : Nat} {v : Value} {n : Nat} {xs : List Value} {S : Nat → Prop} (h : Own w base e sz v n xs) (k : Kp S w w') (hn : ∀ g, base ≤ g → g < w.heap.size → OwnB v g → ¬ S g) : Own w' base e sz v n xs := by
  refine ⟨h.1, ?_⟩
  rcases h.2 with h2 | ⟨g, cap, cur, rfl, hb, hc, h3⟩
  · exact .inl h2
  · have hlt := (Array.getElem?_eq_some_iff.1 hc).1
    exact .inr ⟨g, cap, cur, rfl, hb, (k.block g hlt (hn g hb hlt rfl)).trans hc, h3⟩
theorem Own.no {w w' : World} {base : Nat} {e : TypeId} {sz : Nat} {v : Value} {n : Nat} {xs : List Value} (h : Own w base e sz v n xs) (k : Kp No w w') : Own w' base e sz v n xs := h.kp k (fun _ _ _ _ hs => hs)
theorem Own.lt {w : World} {base : Nat} {e : TypeId} {sz : Nat} {v : Value} {n : Nat} {xs : List Value} (h : Own w base e sz v n xs) {g : Nat} (hg : OwnB v g) : base ≤ g ∧ g < w.heap.size := World.ownsRow.lt h g hg
theorem own_nil {w : World} {base : Nat} {e : TypeId} {sz : Nat} : Own w base e sz (.slice none 0 0) 0 [] := World.ownsRow_nil _ _ _ _
theorem Own.trans {w0 w w' : World} {base : Nat} {e : TypeId} {sz : Nat} {v : Value} {n : Nat} {xs : List Value} {S : Nat → Prop} (k0 : Kp S w0 w) (h : Own w base e sz v n xs) (hb : w0.heap.size ≤ base) (k : Kp (OwnB v) w w') : Kp S w0 w' :=
  k0.trans k (fun i hi => .inr (by have := h.lt hi; omega))

/-- What a slice reads as. -/
def Row (w : World) (A : Option Addr) (xs : List Value) : Prop := (A = none ∧ xs = []) ∨ ∃ g o, A = some ⟨g, o, none⟩ ∧ At w g o xs
theorem Row.kp {w w' : World} {A : Option Addr} {xs : List Value} {S : Nat → Prop} (h : Row w A xs) (k : Kp S w w') (hn : ∀ a, A = some a → ¬ S a.block) : Row w' A xs := by
  rcases h with h | ⟨g, o, rfl, ha⟩
  · exact .inl h
  · exact .inr ⟨g, o, rfl, ha.kp k (hn _ rfl)⟩
theorem Row.no {w w' : World} {A : Option Addr} {xs : List Value} (h : Row w A xs) (k : Kp No w w') : Row w' A xs := h.kp k (fun _ _ hs => hs)
theorem Own.row {w : World} {base : Nat} {e : TypeId} {sz : Nat} {v : Value} {n : Nat} {xs : List Value} (h : Own w base e sz v n xs) : ∃ A c, v = .slice A n c ∧ Row w A xs ∧ ∀ a, A = some a → base ≤ a.block ∧ a.block < w.heap.size := by
  rcases h.2 with ⟨rfl, rfl⟩ | ⟨g, cap, cur, rfl, hb, hc, h3, _, h5, h6⟩
  · exact ⟨none, 0, rfl, .inl ⟨rfl, List.eq_nil_of_length_eq_zero (by rw [h.1]; simp)⟩, fun _ h => by cases h⟩
  · refine ⟨_, _, rfl, .inr ⟨g, 0, rfl, fun j v hv => ?_⟩, fun a ha => by cases ha; exact ⟨hb, (Array.getElem?_eq_some_iff.1 hc).1⟩⟩
    rw [Nat.zero_add]
    have hv' : (cur.toList.take (n * sz))[j]? = some v := by rw [h6]; exact hv
    rw [List.getElem?_take] at hv'
    split at hv'
    · simp only [World.cell?, hc]
      simpa using hv'
    · cases hv'
theorem At.row {w : World} {g o : Nat} {cs : List Value} (h : At w g o cs) : Row w (some ⟨g, o, none⟩) cs := .inr ⟨g, o, rfl, h⟩

/-- What the type table says of an element: its zero, how many cells, how many bytes. -/
def infoOf (P : Program) (e : TypeId) : Option (Option Value × Nat × Nat) := (P.info? e).map fun i => (i.zero, i.size, i.bytes)

section rules
variable {n : Nat} {Q : Exit → Act → World → Prop} {L : Ctx} {w : World} {ops : Array Oper} {rest : List Oper} {d : Nat} {ty : TypeId} {pos : String} {af : Array Edge}

theorem ow_append (T : Tab P) {t e : TypeId} {s x : Operand} {v z : Value} {base sz bytes k g o m c : Nat} {xs news : List Value} (own : Own w base e sz v k xs) (ha : At w g o news) (hd : Nat.blt d n = true) (hs : ev L s = some v) (hx : ev L x = some (.slice (some ⟨g, o, none⟩) m c)) (ht : T.ty t = some (.slice e))
    (hi : infoOf P e = some (some z, sz, bytes)) (hz : Nat.beq z.cells.size sz = true) (hp : (Nat.blt 0 sz && Nat.blt 0 bytes) = true) (hl : news.length = m * sz) (h1 : oneCells news = true) (hb : (k + m) * bytes ≤ 140737488355328) (hbase : base ≤ w.heap.size)
    (h : ∀ v' w', Own w' base e sz v' (k + m) (xs ++ news) → Kp (OwnB v) w w' → (v'.ownBlock = v.ownBlock ∨ v'.ownBlock = some w.heap.size) → Ow P n ops Q rest ((d, v') :: L) w') :
    Ow P n ops Q (⟨some d, .call { callee := .builtin .append, args := #[s, x], argTypes := #[t, t] }, ty, pos, af, none⟩ :: rest) L w := fun a hA => by
  unfold infoOf at hi
  obtain ⟨i, hi, hzz⟩ := Option.map_eq_some_iff.1 hi
  simp only [Prod.mk.injEq] at hzz
  simp only [Bool.and_eq_true, Nat.blt_eq] at hp
  have hk : k + m ≤ (k + m) * bytes := Nat.le_mul_of_pos_right _ hp.2
  exact wpList_append_own_at (P := P) (w := w) (o := ⟨some d, .call { callee := .builtin .append, args := #[s, x], argTypes := #[t, t] }, ty, pos, af, none⟩) rfl s x t rfl base e i z sz bytes (T.ty_ok _ _ ht) hi hzz.1 hzz.2.1 hzz.2.2 (Nat.eq_of_beq_eq_true hz) hp.1 v k xs (hA.ev hs) own ⟨g, o, none⟩ m c news (hA.ev hx) hl
    (fun j u hu => by rw [add_plain']; exact ha j u hu) (by simpa [oneCells] using h1) (by unfold maxLen; omega) hb hbase
    (fun v' w' h1 h2 _ h4 => h v' w' h1 (kp_grown h2) h4 _ (hA.put (by simpa [Nat.blt_eq] using hd) v'))

def mapEvP (L : Ctx) : List (Nat × Operand) → Option (List (Nat × Value))
  | [] => some []
  | (i, x) :: xs => match ev L x with
    | some v => match mapEvP L xs with
      | some vs => some ((i, v) :: vs)
      | none => none
    | none => none
theorem mapEvP_ok {n : Nat} {L : Ctx} {a : Act} (h : Has n L a) : ∀ {xs : List (Nat × Operand)} {vs : List (Nat × Value)}, mapEvP L xs = some vs → (xs.map fun (i, x) => (i, a.eval x)) = vs
  | [], vs, he => by simp [mapEvP] at he; simp [he]
  | (i, x) :: xs, vs, he => by
    simp only [mapEvP] at he
    cases hx : ev L x with
    | none => simp [hx] at he
    | some v =>
      cases hr : mapEvP L xs with
      | none => simp [hx, hr] at he
      | some us =>
        simp [hx, hr] at he
        subst he
        simp [h.ev hx, mapEvP_ok h hr]
/-- A slice literal. -/
theorem ow_buildSlice (T : Tab P) {t e : TypeId} {len : Nat} {parts : List (Nat × Operand)} {vs : List (Nat × Value)} {cs : List Value} (hd : Nat.blt d n = true) (hv : mapEvP L parts = some vs) (ht : T.ty t = some (.slice e)) (hf : P.builtSlice e len vs = some cs.toArray)
    (h : ∀ w', Kp No w w' → Blk w' w.heap.size e cs → w'.heap.size = w.heap.size + 1 → Ow P n ops Q rest ((d, .slice (some ⟨w.heap.size, 0, none⟩) len len) :: L) w') : Ow P n ops Q (⟨some d, .buildSlice t len ⟨parts⟩, ty, pos, af, none⟩ :: rest) L w := fun a ha =>
  Great.wpList_buildSliceTo (o := ⟨some d, .buildSlice t len ⟨parts⟩, ty, pos, af, none⟩) rfl t e len ⟨parts⟩ rfl w.heap.size rfl (some d) rfl (T.ty_ok _ _ ht) cs.toArray (by
    have := mapEvP_ok ha hv
    simpa using this ▸ hf)
    (h _ (kp_alloc _ _) (heap_alloc_new _ _) (by simp) _ (ha.put (by simpa [Nat.blt_eq] using hd) _))
theorem ow_buildSlice0 (T : Tab P) {t e : TypeId} {sz : Nat} (hd : Nat.blt d n = true) (ht : T.ty t = some (.slice e)) (hz : T.sz e = some sz)
    (h : ∀ w', Kp No w w' → Blk w' w.heap.size e [] → w'.heap.size = w.heap.size + 1 → Ow P n ops Q rest ((d, .slice (some ⟨w.heap.size, 0, none⟩) 0 0) :: L) w') : Ow P n ops Q (⟨some d, .buildSlice t 0 #[], ty, pos, af, none⟩ :: rest) L w :=
  ow_run hd (w' := w.alloc (.cells #[] e)) (fun a ha => by
    unfold execOp
    simp only [List.map_toArray, List.map_nil]
    rw [run_ok_bind (a := .slice (some ⟨w.heap.size, 0, none⟩) 0 0) (w' := w.alloc (.cells #[] e)) (by
      unfold Instr.buildSlice
      rw [run_ok_bind (Go.run_underlying (T.ty_ok _ _ ht) w)]
      simp only
      rw [run_ok_bind (Mx.run_sizeOf (T.sz_ok _ _ hz) w)]
      simp [Instr.fill, newRow, show Array.range 0 = #[] from rfl])]
    rfl) (h _ (kp_alloc _ _) (heap_alloc_new _ _) (by simp))
theorem own_of_blk {e : TypeId} {sz g m : Nat} {cs : List Value} {base : Nat} (hb : Blk w g e cs) (hl : cs.length = m * sz) (hm : m ≤ maxLen) (hbase : base ≤ g) : Own w base e sz (.slice (some ⟨g, 0, none⟩) m m) m cs :=
  ⟨hl, .inr ⟨g, m, cs.toArray, rfl, hbase, hb, Nat.le_refl _, hm, by simpa using hl, by simp [← hl]⟩⟩

/-- Bytes of a slice as a text. -/
theorem ow_toStringR (T : Tab P) {t u e : TypeId} {x : Operand} {A : Option Addr} {m c : Nat} (l : List Byte) (hr : Row w A (cb l)) (hd : Nat.blt d n = true) (hx : ev L x = some (.slice A m c)) (hs : T.ty t = some (.slice e)) (he : T.ty e = some (.int .u8)) (hu : T.ty u = some .string) (hl : l.length = m)
    (h : Ow P n ops Q rest ((d, str l) :: L) w) : Ow P n ops Q (⟨some d, .convert t u x, ty, pos, af, none⟩ :: rest) L w := by
  rcases hr with ⟨rfl, h2⟩ | ⟨g, o, rfl, ha⟩
  · have h3 : l = [] := by simpa using h2
    subst h3
    subst hl
    exact ow_run hd (fun a ha' => by
      unfold execOp
      simp only [ha'.ev hx]
      rw [run_ok_bind (a := str []) (w' := w) (by
        rw [run_convert_bytes_string w t u e _ _ _ (T.ty_ok _ _ hs) (T.ty_ok _ _ he) (T.ty_ok _ _ hu)]
        simp only [List.length_nil]
        rfl)]
      rfl) h
  · exact ow_toString T l ha hd hx hs he hu hl h
end rules
end Go.Proofs.Ytbfpgigbakhplaa.Ap
