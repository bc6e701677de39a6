/- Pointers against nil; slices and maps made new at any time; places in what is made. -/
import Derived.Test.YtnpnphcklmlchaaMp
import Derived.Test.YtnpnphcklmlchaaBd
import Derived.Laws.MakeOwn
set_option linter.unusedVariables false
set_option linter.unusedSimpArgs false
namespace Go.Proofs.Ytnpnphcklmlchaa.Dp
open Go.RowKit Go.Proofs.Ytnpnphcklmlchaa.Sx Go.Proofs.Ytnpnphcklmlchaa.Mx Go.Proofs.Ytnpnphcklmlchaa.By Go.Proofs.Ytnpnphcklmlchaa.Ap Go.Proofs.Ytnpnphcklmlchaa.Qx Go.Proofs.Ytnpnphcklmlchaa.Stm Go.Proofs.Ytnpnphcklmlchaa.X Go.Proofs.Ytnpnphcklmlchaa.Mf Go.Proofs.Ytnpnphcklmlchaa.Mp Go.Maps
variable {P : Program}
section rules
variable {n : Nat} {Q : Exit → Act → World → Prop} {L : Ctx} {w w0 : World} {M0 M M' : List Stm.Item} {ops : Array Oper} {rest : List Oper} {d : Nat} {ty : TypeId} {pos : String} {af : Array Edge} {v : Value}
/-- Is a pointer nil? -/
theorem eqIn_nil {t te : TypeId} (ht : P.underlying t = some (.pointer te)) (p : Option Addr) (w : World) : (Op.equal t (.pointer p) (.pointer none)).run P w = .ok p.isNone w := by
  have h : ∀ d : Nat, (Op.equalIn (d + 1) t (.pointer p) (.pointer none)).run P w = .ok p.isNone w := fun d => by
    cases p <;> simp [Op.equalIn, Go.run_underlying ht]
  simp [Op.equal, Op.maxDepth, h 9999]
theorem run_ptr_nil {t te : TypeId} (ht : P.underlying t = some (.pointer te)) (p : Option Addr) (xo yo : Operand) (w : World) : (do eqGuard .eql t xo yo (.pointer p) (.pointer none); binOp .eql t (.pointer p) (.pointer none)).run P w = .ok (.bool p.isNone) w := by
  have hg : (eqGuard .eql t xo yo (.pointer p) (.pointer none)).run P w = .ok () w := by
    unfold eqGuard
    cases p <;> simp
  rw [run_ok_bind hg]
  simp only [binOp]
  simp [eqIn_nil ht]
theorem run_ptr_nnil {t te : TypeId} (ht : P.underlying t = some (.pointer te)) (p : Option Addr) (xo yo : Operand) (w : World) : (do eqGuard .neq t xo yo (.pointer p) (.pointer none); binOp .neq t (.pointer p) (.pointer none)).run P w = .ok (.bool (!p.isNone)) w := by
  have hg : (eqGuard .neq t xo yo (.pointer p) (.pointer none)).run P w = .ok () w := by
    unfold eqGuard
    cases p <;> simp
  rw [run_ok_bind hg]
  simp only [binOp]
  simp [eqIn_nil ht]
section ptr
variable [C : TC P]
theorem pn1 {t te t' : TypeId} {x y : Operand} {p : Option Addr} (h : Ow P n ops Q rest ((d, .bool p.isNone) :: L) w) (ht : C.tab.ty t = some (.pointer te) := by exact rfl) (hx : ev L x = some (.pointer p) := by exact rfl) (hy : ev L y = some (.pointer none) := by exact rfl) (hd : Nat.blt d n = true := by exact rfl) : Ow P n ops Q (⟨some d, .binOp .eql t x y t', ty, pos, af, none⟩ :: rest) L w :=
  ow_run hd (run_binOp rfl hx hy (run_ptr_nil (C.tab.ty_ok _ _ ht) p x y w)) h
theorem pn2 {t te t' : TypeId} {x y : Operand} {p : Option Addr} (h : Ow P n ops Q rest ((d, .bool (!p.isNone)) :: L) w) (ht : C.tab.ty t = some (.pointer te) := by exact rfl) (hx : ev L x = some (.pointer p) := by exact rfl) (hy : ev L y = some (.pointer none) := by exact rfl) (hd : Nat.blt d n = true := by exact rfl) : Ow P n ops Q (⟨some d, .binOp .neq t x y t', ty, pos, af, none⟩ :: rest) L w :=
  ow_run hd (run_binOp rfl hx hy (run_ptr_nnil (C.tab.ty_ok _ _ ht) p x y w)) h
omit C in
/-- Is a slice nil? -/
theorem eqSl_nil {t te : TypeId} (ht : P.underlying t = some (.slice te)) (p : Option Addr) (m c : Nat) (w : World) : (Op.equal t (.slice p m c) (.slice none 0 0)).run P w = .ok p.isNone w := by
  have h : ∀ d : Nat, (Op.equalIn (d + 1) t (.slice p m c) (.slice none 0 0)).run P w = .ok p.isNone w := fun d => by
    cases p <;> simp [Op.equalIn, Go.run_underlying ht]
  simp [Op.equal, Op.maxDepth, h 9999]
omit C in
theorem run_sl_nil {t te : TypeId} (ht : P.underlying t = some (.slice te)) (p : Option Addr) (m c : Nat) (xo yo : Operand) (w : World) : (do eqGuard .eql t xo yo (.slice p m c) (.slice none 0 0); binOp .eql t (.slice p m c) (.slice none 0 0)).run P w = .ok (.bool p.isNone) w := by
  have hg : (eqGuard .eql t xo yo (.slice p m c) (.slice none 0 0)).run P w = .ok () w := by
    unfold eqGuard
    cases p <;> simp
  rw [run_ok_bind hg]
  simp only [binOp]
  simp [eqSl_nil ht]
theorem sn1 {t te t' : TypeId} {x y : Operand} {p : Option Addr} {m c : Nat} (h : Ow P n ops Q rest ((d, .bool p.isNone) :: L) w) (ht : C.tab.ty t = some (.slice te) := by exact rfl) (hx : ev L x = some (.slice p m c) := by exact rfl) (hy : ev L y = some (.slice none 0 0) := by exact rfl) (hd : Nat.blt d n = true := by exact rfl) : Ow P n ops Q (⟨some d, .binOp .eql t x y t', ty, pos, af, none⟩ :: rest) L w :=
  ow_run hd (run_binOp rfl hx hy (run_sl_nil (C.tab.ty_ok _ _ ht) p m c x y w)) h
section regions
variable {l : List Oper} {kd : Ks} {F : Nat → New} {Kt : Kont} {π : List Nat} {z : World} {K : Nat → Prop} {i : Nat} {g : Option (Nat × Bool)} {b : Bool}
theorem yn1 {t te t' : TypeId} {x y : Operand} {p : Option Addr} (h : Y.Nw P n l kd F Kt π z K ((d, .bool p.isNone) :: L) w) (ho : nth l i = some ⟨some d, .binOp .eql t x y t', ty, pos, af, g⟩ := by exact rfl) (hk : k3 (kd i) = .quiet := by exact rfl) (hd : Nat.blt d n = true := by exact rfl) (hg : Mi.wantB l.toArray L g = some b := by exact rfl) (ht : C.tab.ty t = some (.pointer te) := by exact rfl) (hx : ev L x = some (.pointer p) := by exact rfl) (hy : ev L y = some (.pointer none) := by exact rfl) (hb : b = true := by first | (with_reducible exact rfl) | decide | (simp <;> fail)) : Y.Nw P n l kd F Kt (i :: π) z K L w := Y.nw_any ho hk hd hg hb (fun w0 => pn1 fin ht hx hy hd) (fun _ => ⟨_, rfl⟩) h
theorem yn2 {t te t' : TypeId} {x y : Operand} {p : Option Addr} (h : Y.Nw P n l kd F Kt π z K ((d, .bool (!p.isNone)) :: L) w) (ho : nth l i = some ⟨some d, .binOp .neq t x y t', ty, pos, af, g⟩ := by exact rfl) (hk : k3 (kd i) = .quiet := by exact rfl) (hd : Nat.blt d n = true := by exact rfl) (hg : Mi.wantB l.toArray L g = some b := by exact rfl) (ht : C.tab.ty t = some (.pointer te) := by exact rfl) (hx : ev L x = some (.pointer p) := by exact rfl) (hy : ev L y = some (.pointer none) := by exact rfl) (hb : b = true := by first | (with_reducible exact rfl) | decide | (simp <;> fail)) : Y.Nw P n l kd F Kt (i :: π) z K L w := Y.nw_any ho hk hd hg hb (fun w0 => pn2 fin ht hx hy hd) (fun _ => ⟨_, rfl⟩) h
omit C in
/-- A look-up in a region. -/
theorem ylook {κ ν : Type} {enc : κ → Value} {ok : κ → Prop} {V : ν → Value} {f : κ → Option ν} {k e t : TypeId} {bb m : Nat} {mo xo : Operand} {c : Bool} {x : κ} {zv : Value} {zd : Dt} {zp : List MemPlace} (hw : St w0 M0 M w) (hp : Pick (mapI P bb k e enc ok V m f) M M') (Kk : Keyed P k) (ht : P.underlying t = some (.map k e)) (hz : zeroOf P e = some zv) (hzd : plainElem P e zv = some (zd, zp)) (hx : ok x)
    (h : Y.Nw P n l kd F Kt π z K ((d, if c then .tuple #[atOr V zv (f x), .bool (f x).isSome] else atOr V zv (f x)) :: L) w) (ho : nth l i = some ⟨some d, .lookup t mo xo c, ty, pos, af, g⟩ := by exact rfl) (hk : kd i = .r := by exact rfl) (hd : Nat.blt d n = true := by exact rfl) (hg : Mi.wantB l.toArray L g = some b := by exact rfl) (hm : ev L mo = some (.map (some bb)) := by exact rfl) (hxo : ev L xo = some (enc x) := by exact rfl) (hb : b = true := by first | (with_reducible exact rfl) | decide | (simp <;> fail)) : Y.Nw P n l kd F Kt (i :: π) z K L w :=
  Y.nw_read ho hk hd hg hb (fun w2 k2 => Mp.look (hw.no k2) hp Kk ht hz hzd hx fin hm hxo hd) (fun _ => ⟨_, rfl⟩) h
end regions
end ptr
theorem is1 (a : Addr) : (some a).isNone = false := rfl
theorem is0 : (none : Option Addr).isNone = true := rfl
/-! What is made new at any time. -/
def cellsOf0 (z : Value) (k : Nat) : List Value := (madeCells z.cells k).toList
/-- A slice made with its elements. -/
theorem fr_make {t e : TypeId} {x y : Operand} {z : Value} {kl kc : IntKind} {sz bytes m : Nat} {o : Oper} (ho : o.op = .makeSlice t x y) (ht : P.underlying t = some (.slice e)) (hi : infoOf P e = some (some z, sz, bytes)) (hb : bytes * m ≤ 281474976710656) (hm : m ≤ 9223372036854775807) {a : Act} (ha : Has n L a) (hx : ev L x = some (.int kl (m : Int))) (hy : ev L y = some (.int kc (m : Int))) :
    Fr P o a ⟨fun g => .slice (some ⟨g, 0, none⟩) m m, fun g => blkI g e (cellsOf0 z (m * sz))⟩ := by
  unfold infoOf at hi
  obtain ⟨i, hi, hzz⟩ := Option.map_eq_some_iff.1 hi
  simp only [Prod.mk.injEq] at hzz
  obtain ⟨h1, h2, h3⟩ := hzz
  refine ⟨fun w => ⟨w.alloc (.cells (madeCells z.cells (m * sz)) e), ?_, kp_alloc _ _, ?_, by simp⟩, fun g k hk => hk⟩
  · unfold execOp
    rw [ho]
    simp only [ha.ev hx, ha.ev hy]
    have hr := run_make (P := P) w t e i z ht hi h1 kl kc m m (by omega) (Int.le_refl _) (by rw [h3, ← Int.natCast_mul]; omega) (by omega)
    simp only [Int.toNat_natCast, h2] at hr
    rw [run_ok_bind hr]
    rfl
  · have := heap_alloc_new w (.cells (madeCells z.cells (m * sz)) e)
    show (w.alloc _).heap[w.heap.size]? = some (.cells (cellsOf0 z (m * sz)).toArray e (0, 0))
    rw [this]
    simp [cellsOf0]
/-- A map made. -/
theorem fr_map {κ ν : Type} {t k e : TypeId} {o : Oper} (enc : κ → Value) (ok : κ → Prop) (V : ν → Value) (ho : o.op = .makeMap t none) (hok : ∀ x, ok x → ∃ kl, keyOf P k (enc x) = some kl) (a : Act) : Fr P o a ⟨fun g => .map (some g), fun g => mapI P g k e enc ok V 0 (fun _ => (none : Option ν))⟩ :=
  ⟨fun w => ⟨w.alloc (.map #[] 0), by
    unfold execOp
    rw [ho]
    simp only [Option.map_none]
    rw [run_ok_bind (run_makeMap (P := P) t w)]
    rfl, kp_alloc _ _, holds_new hok w, by simp⟩, fun g x hx => hx⟩
end rules
end Go.Proofs.Ytnpnphcklmlchaa.Dp
