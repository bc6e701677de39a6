/- Bytes: strings, arrays and slices of them in a walk. -/
import Derived.Test.YtehekgigmbnlfaaDoorMx
import Derived.Test.YtehekgigmbnlfaaDoorBw
import Derived.Laws.BytesArg
import Derived.Lib.ConvBytes
set_option linter.unusedVariables false
set_option linter.unusedSimpArgs false
namespace Go.Proofs.YtehekgigmbnlfaaDoor.By
open Go.RowKit Go.Proofs.YtehekgigmbnlfaaDoor.Sx Go.Proofs.YtehekgigmbnlfaaDoor.Mx Go.Proofs.YtehekgigmbnlfaaDoor.Bw
variable {P : Program}

abbrev Byte := BitVec 8
abbrev by8 (b : Byte) : Value := .int .u8 b.toNat
abbrev u16 (X : BitVec 16) : Value := .int .u16 X.toNat
abbrev u32 (X : BitVec 32) : Value := .int .u32 X.toNat
abbrev u64 (X : BitVec 64) : Value := .int .u64 X.toNat
/-- A text of bytes. -/
def bs (l : List Byte) : ByteArray := ⟨(l.map UInt8.ofBitVec).toArray⟩
def ofBA (s : ByteArray) : List Byte := s.data.toList.map UInt8.toBitVec
theorem bs_ofBA (s : ByteArray) : bs (ofBA s) = s := by
  obtain ⟨⟨l⟩⟩ := s
  simp only [bs, ofBA, List.map_map]
  congr 1
  rw [show (UInt8.ofBitVec ∘ UInt8.toBitVec) = id from rfl, List.map_id]
theorem ofBA_bs (l : List Byte) : ofBA (bs l) = l := by
  simp only [bs, ofBA, List.map_map]
  rw [show (UInt8.toBitVec ∘ UInt8.ofBitVec) = id from rfl, List.map_id]
theorem bs_size (l : List Byte) : (bs l).size = l.length := by simp [bs, ByteArray.size]
theorem bs_inj {l m : List Byte} : bs l = bs m ↔ l = m := ⟨fun h => by rw [← ofBA_bs l, h, ofBA_bs], fun h => by rw [h]⟩
theorem bs_append (l m : List Byte) : bs l ++ bs m = bs (l ++ m) := by
  have : (bs l ++ bs m).data = (bs (l ++ m)).data := by simp [bs]
  cases h : bs l ++ bs m
  rw [h] at this
  simp only at this
  rw [this]
theorem bs_extract (l : List Byte) (a b : Nat) : (bs l).extract a b = bs ((l.take b).drop a) := by
  have : ((bs l).extract a b).data = (bs ((l.take b).drop a)).data := by
    simp only [ByteArray.data_extract, bs]
    apply Array.ext'
    simp [List.map_drop, List.map_take, List.extract_eq_take_drop, List.take_drop]
    rcases Nat.lt_or_ge b a with h | h
    · rw [show b - a = 0 from by omega]
      simp
      omega
    · rw [show a + (b - a) = b from by omega]
  cases h : (bs l).extract a b
  rw [h] at this
  simp only at this
  rw [this]
theorem bs_nil : bs [] = ByteArray.empty := rfl
theorem bs_get (l : List Byte) (i : Nat) : (bs l)[i]? = (l[i]?).map UInt8.ofBitVec := by
  by_cases h : i < l.length
  · rw [List.getElem?_eq_getElem h]
    have h' : i < (bs l).size := by rw [bs_size]; exact h
    rw [getElem?_pos (bs l) i h']
    simp only [Option.map_some]
    congr 1
    show (bs l).data[i]'_ = _
    simp [bs]
  · have h' : ¬ i < (bs l).size := by rw [bs_size]; exact h
    rw [getElem?_neg (bs l) i h', List.getElem?_eq_none (by omega)]
    rfl

abbrev str (l : List Byte) : Value := .string (bs l)
abbrev cb (l : List Byte) : List Value := l.map by8
/-- An array of bytes. -/
abbrev blk (l : List Byte) : Value := .agg (cb l).toArray
theorem oneCells_cb (l : List Byte) : oneCells (cb l) = true := by simp [oneCells, cb]; intro x _; rfl
theorem cells_blk (l : List Byte) : (blk l).cells = (cb l).toArray := rfl
theorem cb_inj {l m : List Byte} (h : cb l = cb m) : l = m := by
  induction l generalizing m with
  | nil => cases m with
    | nil => rfl
    | cons y m => simp [cb] at h
  | cons x l ih => cases m with
    | nil => simp [cb] at h
    | cons y m =>
      simp only [cb, List.map_cons, List.cons.injEq] at h
      have hx : x = y := by
        have h1 := h.1
        simp only [by8, Value.int.injEq, true_and] at h1
        exact BitVec.eq_of_toNat_eq (by omega)
      rw [hx, ih h.2]

/-- From a place on these cells stand in memory. -/
def At (w : World) (g o : Nat) (cs : List Value) : Prop := ∀ j v, cs[j]? = some v → w.cell? ⟨g, o + j, none⟩ = some v
theorem At.kp {S : Nat → Prop} {w w' : World} {g o : Nat} {cs : List Value} (h : At w g o cs) (k : Kp S w w') (hn : ¬ S g) : At w' g o cs := fun j v hv => k.cell (h j v hv) hn
theorem At.no {w w' : World} {g o : Nat} {cs : List Value} (h : At w g o cs) (k : Kp No w w') : At w' g o cs := h.kp k (fun hs => hs)
theorem Blk.at_ {w : World} {g : Nat} {t : TypeId} {cs : List Value} (h : Blk w g t cs) (o : Nat) : At w g o (cs.drop o) := fun j v hv => by
  rw [h.cell]; simpa using hv
theorem At.sub {w : World} {g o : Nat} {cs : List Value} (h : At w g o cs) (i k : Nat) : At w g (o + i) ((cs.drop i).take k) := fun j v hv => by
  simp only [List.getElem?_take, List.getElem?_drop] at hv
  split at hv
  · have := h (i + j) v hv
    rwa [← Nat.add_assoc] at this
  · cases hv
theorem At.take {w : World} {g o : Nat} {cs : List Value} (h : At w g o cs) (k : Nat) : At w g o (cs.take k) := by simpa using h.sub 0 k

/-- A slice that reads as these cells. -/
def Sl (w : World) (v : Value) (m : Nat) (cs : List Value) : Prop := ∃ A c, v = .slice A m c ∧ (cs = [] ∨ ∃ g o, A = some ⟨g, o, none⟩ ∧ At w g o cs)

theorem run_loadAt {w : World} {g o : Nat} {cs : List Value} (h : At w g o cs) (m : Nat) (hm : m = cs.length) : (loadCells ⟨g, o, none⟩ m).run P w = .ok cs.toArray w := by
  subst hm
  exact run_loadCells_list (P := P) w ⟨g, o, none⟩ cs (fun j v hv => by rw [add_plain']; exact h j v hv)

section rules
variable {n : Nat} {Q : Exit → Act → World → Prop} {L : Ctx} {w : World} {ops : Array Oper} {rest : List Oper} {d : Nat} {ty : TypeId} {pos : String} {af : Array Edge}

theorem fold_push (l : List Byte) (s : ByteArray) : ((l.map fun b => (b.toNat : Int)).foldl (fun r n => r.push (UInt8.ofNat n.toNat)) s) = s ++ bs l := by
  have h1 := foldl_push_bytes (l.map fun b => (b.toNat : Int)) s
  rw [h1]
  have : (⟨s.data ++ ((l.map fun b => (b.toNat : Int)).map fun n => UInt8.ofNat n.toNat).toArray⟩ : ByteArray).data = (s ++ bs l).data := by
    simp only [bs, ByteArray.data_append]
    congr 1
    congr 1
    rw [List.map_map]
    apply List.map_congr_left
    intro b _
    simp only [Function.comp, Int.toNat_natCast]
    apply UInt8.toNat_inj.1
    simp
  cases h : s ++ bs l
  rw [h] at this
  simp only at this
  rw [this]

theorem run_toString {t u e : TypeId} {g o m c : Nat} {l : List Byte} (hs : P.underlying t = some (.slice e)) (he : P.underlying e = some (.int .u8)) (hd : P.underlying u = some .string) (hl : l.length = m) (ha : At w g o (cb l)) :
    (convert t u (.slice (some ⟨g, o, none⟩) m c)).run P w = .ok (str l) w := by
  rw [run_convert_bytes_string w t u e _ _ _ hs he hd]
  have hc : (loadCells ⟨g, o, none⟩ m).run P w = .ok ((l.map fun b => (b.toNat : Int)).map (Value.int .u8)).toArray w := by
    rw [run_loadAt ha m (by simp [hl])]
    simp [cb, Function.comp_def]
  rw [run_bytesToString w _ _ _ _ hc, fold_push]
  rw [← bs_nil, bs_append]
  rfl

/-- Bytes of a slice as a text. -/
theorem ow_toString (T : Tab P) {t u e : TypeId} {x : Operand} {g o m c : Nat} (l : List Byte) (ha : At w g o (cb l)) (hd : Nat.blt d n = true) (hx : ev L x = some (.slice (some ⟨g, o, none⟩) m c)) (hs : T.ty t = some (.slice e)) (he : T.ty e = some (.int .u8)) (hu : T.ty u = some .string) (hl : l.length = m)
    (h : Ow P n ops Q rest ((d, str l) :: L) w) : Ow P n ops Q (⟨some d, .convert t u x, ty, pos, af, none⟩ :: rest) L w :=
  ow_run hd (fun a ha' => by
    unfold execOp
    simp only [ha'.ev hx]
    rw [run_ok_bind (run_toString (T.ty_ok _ _ hs) (T.ty_ok _ _ he) (T.ty_ok _ _ hu) hl ha)]
    rfl) h

/-- A slice of an array in memory; bounds that fit. -/
def sAddr (g o l m k : Nat) : Addr := if m = l then ⟨g, o, none⟩ else ⟨g, o + l * k, none⟩
theorem run_bound {k : IntKind} {i : Int} {y : Nat} (c : BoundsCode) (h0 : 0 ≤ i) (h1 : i ≤ (y : Int)) : (Instr.sliceBound (.int k i) y c).run P w = .ok i.toNat w := by
  unfold Instr.sliceBound
  rw [run_ok_bind (a := (k, i)) (w' := w) rfl]
  simp [h0, h1]
def boundV (L : Ctx) : Option Operand → Option Value → Prop
  | none, v => v = none
  | some x, v => ∃ u, ev L x = some u ∧ v = some u
theorem boundV_ok {n : Nat} {L : Ctx} {a : Act} (ha : Has n L a) {x : Option Operand} {v : Option Value} (h : boundV L x v) : x.map a.eval = v := by
  cases x with
  | none => simpa [boundV] using h.symm
  | some x =>
    obtain ⟨u, hu, rfl⟩ := h
    simp [ha.ev hu]

/-- The low and the high bound: what they come to. -/
def lowOf : Option Value → Option Int
  | none => some 0
  | some (.int _ i) => some i
  | _ => none
def highOf (m : Nat) : Option Value → Option Int
  | none => some m
  | some (.int _ i) => some i
  | _ => none
theorem run_boundsI {isS : Bool} {len cap : Nat} {lo hi : Option Value} {l h : Int} (hl : lowOf lo = some l) (hh : highOf len hi = some h) (h0 : 0 ≤ l) (h1 : l ≤ h) (h2 : h ≤ (cap : Int)) (hlc : len ≤ cap) :
    (Instr.sliceBounds isS len cap lo hi none).run P w = .ok (l.toNat, h.toNat, cap) w := by
  unfold Instr.sliceBounds
  simp only
  rw [run_ok_bind (a := cap) (w' := w) rfl]
  have hh' : (match hi with
    | some v => Instr.sliceBound v cap (if isS = true then BoundsCode.sliceAcap else BoundsCode.sliceAlen)
    | none => (pure len : Sem Nat)).run P w = .ok h.toNat w := by
    cases hi with
    | none => simp [highOf] at hh; subst hh; simp
    | some v =>
      cases v <;> simp [highOf] at hh
      subst hh
      exact run_bound _ (by omega) h2
  have hl' : (match lo with
    | some v => Instr.sliceBound v h.toNat BoundsCode.sliceB
    | none => (pure 0 : Sem Nat)).run P w = .ok l.toNat w := by
    cases lo with
    | none => simp [lowOf] at hl; subst hl; simp
    | some v =>
      cases v <;> simp [lowOf] at hl
      subst hl
      exact run_bound _ h0 (by omega)
  cases hi with
  | none =>
    simp only at hh' ⊢
    rw [run_ok_bind hh']
    cases lo with
    | none => simp only at hl' ⊢; rw [run_ok_bind hl']; rfl
    | some v => simp only [Option.isSome_none, Bool.false_eq_true, if_false] at hl' ⊢; rw [run_ok_bind hl']; rfl
  | some u =>
    simp only at hh' ⊢
    rw [run_ok_bind hh']
    cases lo with
    | none => simp only at hl' ⊢; rw [run_ok_bind hl']; rfl
    | some v => simp only [Option.isSome_none, Bool.false_eq_true, if_false] at hl' ⊢; rw [run_ok_bind hl']; rfl

theorem run_bounds {isS : Bool} {len cap : Nat} {lo hi : Option Value} {l h : Nat} (hl : lowOf lo = some (l : Int)) (hh : highOf len hi = some (h : Int)) (h1 : l ≤ h) (h2 : h ≤ cap) (hlc : len ≤ cap) :
    (Instr.sliceBounds isS len cap lo hi none).run P w = .ok (l, h, cap) w := by
  have := run_boundsI (P := P) (w := w) (isS := isS) hl hh (by omega) (by omega) (by omega) hlc
  simpa using this

theorem ow_sliceArr (T : Tab P) {t e : TypeId} {x : Operand} {lo hi : Option Operand} {vlo vhi : Option Value} {g o m k : Nat} {l h : Nat} (hd : Nat.blt d n = true) (hx : ev L x = some (.pointer (some ⟨g, o, none⟩))) (hlo : boundV L lo vlo) (hhi : boundV L hi vhi) (ht : T.ty t = some (.array m e)) (hz : T.sz e = some k)
    (hl : lowOf vlo = some (l : Int)) (hh : highOf m vhi = some (h : Int)) (h1 : l ≤ h) (h2 : h ≤ m)
    (hk : Ow P n ops Q rest ((d, .slice (some (sAddr g o l m k)) (h - l) (m - l)) :: L) w) : Ow P n ops Q (⟨some d, .slice t x lo hi none, ty, pos, af, none⟩ :: rest) L w :=
  ow_run hd (fun a ha => by
    unfold execOp
    simp only [ha.ev hx, boundV_ok ha hlo, boundV_ok ha hhi, Option.map_none, Instr.sliceAt]
    rw [run_ok_bind (a := .slice (some (sAddr g o l m k)) (h - l) (m - l)) (w' := w) (by
      rw [run_ok_bind (Go.run_underlying (T.ty_ok _ _ ht) w)]
      simp only
      rw [run_ok_bind (a := ⟨g, o, none⟩) (w' := w) rfl, run_ok_bind (run_bounds (isS := false) hl hh h1 h2 (Nat.le_refl m))]
      simp only
      rw [run_ok_bind (Mx.run_sizeOf (T.sz_ok _ _ hz) w)]
      simp only [sAddr, add_plain']
      rfl)]
    rfl) hk

/-- A piece of a text. -/
theorem ow_sliceStr (T : Tab P) {t : TypeId} {x : Operand} {lo hi : Option Operand} {vlo vhi : Option Value} {s : List Byte} {l h : Nat} (hd : Nat.blt d n = true) (hx : ev L x = some (str s)) (hlo : boundV L lo vlo) (hhi : boundV L hi vhi) (ht : T.ty t = some .string)
    (hl : lowOf vlo = some (l : Int)) (hh : highOf s.length vhi = some (h : Int)) (h1 : l ≤ h) (h2 : h ≤ s.length)
    (hk : Ow P n ops Q rest ((d, str ((s.take h).drop l)) :: L) w) : Ow P n ops Q (⟨some d, .slice t x lo hi none, ty, pos, af, none⟩ :: rest) L w :=
  ow_run hd (fun a ha => by
    unfold execOp
    simp only [ha.ev hx, boundV_ok ha hlo, boundV_ok ha hhi, Option.map_none, Instr.sliceAt]
    rw [run_ok_bind (a := str ((s.take h).drop l)) (w' := w) (by
      rw [run_ok_bind (Go.run_underlying (T.ty_ok _ _ ht) w)]
      simp only [Instr.slice]
      rw [run_ok_bind (Go.run_underlying (T.ty_ok _ _ ht) w)]
      simp only [Option.isSome_none, Bool.false_eq_true, if_false, bs_size]
      rw [run_ok_bind (run_bounds (isS := false) hl hh h1 h2 (Nat.le_refl _)), bs_extract]
      rfl)]
    rfl) hk

/-- A byte of a text. -/
theorem ow_indexStr (T : Tab P) {t : TypeId} {x y : Operand} {s : List Byte} {k : IntKind} {i : Int} {b : Byte} (hd : Nat.blt d n = true) (hx : ev L x = some (str s)) (hy : ev L y = some (.int k i)) (ht : T.ty t = some .string) (h0 : 0 ≤ i) (hb : s[i.toNat]? = some b)
    (hk : Ow P n ops Q rest ((d, by8 b) :: L) w) : Ow P n ops Q (⟨some d, .index t x y, ty, pos, af, none⟩ :: rest) L w :=
  ow_run hd (fun a ha => by
    unfold execOp
    simp only [ha.ev hx, ha.ev hy, Instr.index]
    rw [run_ok_bind (a := by8 b) (w' := w) (by
      rw [run_ok_bind (a := (k, i)) (w' := w) rfl]
      simp only
      rw [run_ok_bind (Go.run_underlying (T.ty_ok _ _ ht) w)]
      simp only [h0, if_true, bs_get, hb, Option.map_some]
      rfl)]
    rfl) hk

/-- copy: bytes of a text into a slice in memory. -/
theorem ow_copyStr (T : Tab P) {dT sT e tb : TypeId} {x y : Operand} {g o dl dc : Nat} {s : List Byte} {cs : List Value} (hb : Blk w g tb cs) (hd : Nat.blt d n = true) (hx : ev L x = some (.slice (some ⟨g, o, none⟩) dl dc)) (hy : ev L y = some (str s)) (ht : T.ty dT = some (.slice e)) (hz : T.sz e = some 1)
    (hfit : o + Nat.min s.length dl ≤ cs.length)
    (h : ∀ w', Kp (Only g) w w' → Blk w' g tb (splice cs o (cb (s.take (Nat.min s.length dl)))) → w'.heap.size = w.heap.size → Ow P n ops Q rest ((d, .int .i64 ((Nat.min s.length dl : Nat) : Int)) :: L) w') :
    Ow P n ops Q (⟨some d, .call { callee := .builtin .copy, args := #[x, y], argTypes := #[dT, sT] }, ty, pos, af, none⟩ :: rest) L w :=
  ow_run hd (w' := w.setRow g (splice cs o (cb (s.take (Nat.min s.length dl)))).toArray) (fun a ha => by
    have hlen : (cb (s.take (Nat.min s.length dl))).length = Nat.min s.length dl := by
      simp only [cb, List.length_map, List.length_take]
      exact Nat.min_eq_left (Nat.min_le_left _ _)
    have hst := run_storeCells_at P g o tb (cb (s.take (Nat.min s.length dl))) 0 cs.toArray w hb (by rw [hlen]; simpa using hfit) (by
      have := oneCells_cb (s.take (Nat.min s.length dl)); simpa [oneCells] using this)
    unfold execOp
    simp only [resolve, List.map_toArray, List.map_cons, List.map_nil, ha.ev hx, ha.ev hy]
    rw [run_ok_bind (w' := w) rfl]
    simp only [invoke, builtin]
    rw [run_ok_bind (a := .int .i64 ((Nat.min s.length dl : Nat) : Int)) (w' := w.setRow g (splice cs o (cb (s.take (Nat.min s.length dl)))).toArray) (by
      unfold Builtin.copy_
      simp only [List.getElem?_toArray, List.getElem?_cons_zero, List.getElem?_cons_succ]
      rw [run_ok_bind (Go.run_underlying (T.ty_ok _ _ ht) w)]
      simp only [Builtin.lenOf, bs_size]
      rw [run_ok_bind (a := s.length) (w' := w) rfl, run_ok_bind (Mx.run_sizeOf (T.sz_ok _ _ hz) w)]
      simp only [Builtin.firstCells, bs_extract, List.drop_zero]
      rw [run_ok_bind (a := (cb (s.take (Nat.min s.length dl))).toArray) (w' := w) (by
        show Result.ok _ w = _
        congr 1
        simp [bs, cb, Function.comp_def])]
      simp only
      rw [run_ok_bind (a := ()) (w' := w.setRow g (splice cs o (cb (s.take (Nat.min s.length dl)))).toArray) (by simpa [splice] using hst)]
      rfl)]
    rfl) (h _ (kp_setRow _ _ _) (setRow_heap w g _ _ _ _ hb) (by simp))

theorem toList_bs (l : List Byte) : (bs l).toList = l.map UInt8.ofBitVec := by rw [ByteArray.toList_eq]; rfl
theorem beq_bs (a b : List Byte) : ((bs a).toList == (bs b).toList) = decide (a = b) := by
  rw [Bool.eq_iff_iff]
  simp only [beq_iff_eq, decide_eq_true_eq, toList_bs]
  constructor
  · intro h
    have := congrArg (List.map UInt8.toBitVec) h
    simpa [List.map_map, Function.comp_def] using this
  · intro h; rw [h]
/-- Texts compared, and put together. -/
theorem ow_eqS {t t' : TypeId} {x y : Operand} {a b : List Byte} (hd : Nat.blt d n = true) (hx : ev L x = some (str a)) (hy : ev L y = some (str b))
    (hk : Ow P n ops Q rest ((d, .bool (decide (a = b))) :: L) w) : Ow P n ops Q (⟨some d, .binOp .eql t x y t', ty, pos, af, none⟩ :: rest) L w :=
  ow_run hd (run_binOp rfl hx hy (by
    rw [run_ok_bind (a := ()) (by unfold eqGuard; rfl)]
    unfold binOp Op.stringOp
    simp only [beq_bs]
    rfl)) hk
theorem ow_neS {t t' : TypeId} {x y : Operand} {a b : List Byte} (hd : Nat.blt d n = true) (hx : ev L x = some (str a)) (hy : ev L y = some (str b))
    (hk : Ow P n ops Q rest ((d, .bool (!decide (a = b))) :: L) w) : Ow P n ops Q (⟨some d, .binOp .neq t x y t', ty, pos, af, none⟩ :: rest) L w :=
  ow_run hd (run_binOp rfl hx hy (by
    rw [run_ok_bind (a := ()) (by unfold eqGuard; rfl)]
    unfold binOp Op.stringOp
    simp only [beq_bs]
    rfl)) hk
theorem ow_addS {t t' : TypeId} {x y : Operand} {a b : List Byte} (hd : Nat.blt d n = true) (hx : ev L x = some (str a)) (hy : ev L y = some (str b)) (hl : a.length + b.length ≤ 9223372036854775807)
    (hk : Ow P n ops Q rest ((d, str (a ++ b)) :: L) w) : Ow P n ops Q (⟨some d, .binOp .add t x y t', ty, pos, af, none⟩ :: rest) L w :=
  ow_run hd (run_binOp rfl hx hy (by
    rw [run_ok_bind (a := ()) (by unfold eqGuard; rfl)]
    unfold binOp Op.stringOp
    have : IntKind.i64.max = 9223372036854775807 := by decide
    simp only [bs_size, bs_append, this]
    rw [if_neg (by omega)]
    rfl)) hk

/-- A literal without parts: zero. -/
theorem ow_build0 {t : TypeId} {cs : List Value} (hd : Nat.blt d n = true) (hz : P.built t [] = some cs.toArray)
    (hk : Ow P n ops Q rest ((d, .agg cs.toArray) :: L) w) : Ow P n ops Q (⟨some d, .build t #[], ty, pos, af, none⟩ :: rest) L w :=
  ow_run hd (fun a ha => by
    unfold execOp
    simp only [List.map_toArray, List.map_nil]
    rw [run_ok_bind (run_build w t #[] cs.toArray hz)]
    rfl) hk
end rules
end Go.Proofs.YtehekgigmbnlfaaDoor.By
