/- References compared: the order, and the program's comparisons. -/
import Derived.Test.YtbfpgigbakhplaaNd1
import Derived.Test.YtbfpgigbakhplaaZr
import Derived.Sort.Grow
import Derived.Lib.BytesEntry
set_option linter.unusedVariables false
set_option linter.unusedSimpArgs false
namespace Go.Proofs.Ytbfpgigbakhplaa.Ord
open Go.RowKit Go.Proofs.Ytbfpgigbakhplaa.Sx Go.Proofs.Ytbfpgigbakhplaa.Mx Go.Proofs.Ytbfpgigbakhplaa.Bw Go.Proofs.Ytbfpgigbakhplaa.By Go.Proofs.Ytbfpgigbakhplaa.Eqs Go.Proofs.Ytbfpgigbakhplaa.Qx Go.Proofs.Ytbfpgigbakhplaa.Ap Go.Proofs.Ytbfpgigbakhplaa.Mi Go.Proofs.Ytbfpgigbakhplaa.Stm Go.Proofs.Ytbfpgigbakhplaa.Fl Go.Proofs.Ytbfpgigbakhplaa.Wd Go.Proofs.Ytbfpgigbakhplaa.Nd
open Go.Sort (grow grow_grow grow_empty alloc_eq_grow)
/-! ### Plain: references in order. -/
def beV : List Byte → Nat
  | [] => 0
  | x :: l => x.toNat * 256 ^ l.length + beV l
def sgn (x y : Nat) : Int := if x < y then -1 else if y < x then 1 else 0
theorem beV_lt : ∀ l : List Byte, beV l < 256 ^ l.length
  | [] => by simp [beV]
  | x :: l => by
    have ih := beV_lt l
    have hx := x.isLt
    rw [beV, List.length_cons, Nat.pow_succ]
    have : (x.toNat + 1) * 256 ^ l.length ≤ 256 * 256 ^ l.length := Nat.mul_le_mul_right _ (by omega)
    rw [Nat.add_mul, Nat.one_mul] at this
    omega
theorem two_lt {K x y A B : Nat} (hA : A < K) (hB : B < K) : (x * K + A < y * K + B ↔ x < y ∨ (x = y ∧ A < B)) := by
  rcases Nat.lt_trichotomy x y with h | h | h
  · have : (x + 1) * K ≤ y * K := Nat.mul_le_mul_right _ h
    rw [Nat.add_mul, Nat.one_mul] at this
    exact ⟨fun _ => .inl h, fun _ => by omega⟩
  · subst h
    exact ⟨fun h => .inr ⟨rfl, by omega⟩, fun h => by omega⟩
  · have : (y + 1) * K ≤ x * K := Nat.mul_le_mul_right _ h
    rw [Nat.add_mul, Nat.one_mul] at this
    exact ⟨fun h2 => by omega, fun h2 => by omega⟩
theorem sgn_two {K x y A B : Nat} (hA : A < K) (hB : B < K) : sgn (x * K + A) (y * K + B) = if sgn x y ≠ 0 then sgn x y else sgn A B := by
  unfold sgn
  simp only [two_lt hA hB, two_lt hB hA]
  rcases Nat.lt_trichotomy x y with h | h | h
  · simp [h]
  · subst h; simp
  · have h1 : ¬ x < y := by omega
    have h2 : ¬ x = y := by omega
    simp [h, h1, h2]
theorem cmp_be : ∀ a b : List Byte, a.length = b.length → Lib.compareBytes (a.map UInt8.ofBitVec) (b.map UInt8.ofBitVec) = sgn (beV a) (beV b)
  | [], [], _ => rfl
  | x :: a, y :: b, h => by
    have hl : a.length = b.length := by simpa using h
    have ih := cmp_be a b hl
    rw [List.map_cons, List.map_cons, Lib.compareBytes, ih, beV, beV, ← hl, sgn_two (beV_lt a) (by rw [hl]; exact beV_lt b)]
    have e1 : (UInt8.ofBitVec x < UInt8.ofBitVec y) ↔ x.toNat < y.toNat := by rw [UInt8.lt_iff_toNat_lt]; simp
    have e2 : (UInt8.ofBitVec y < UInt8.ofBitVec x) ↔ y.toNat < x.toNat := by rw [UInt8.lt_iff_toNat_lt]; simp
    unfold sgn
    simp only [e1, e2]
    by_cases h1 : x.toNat < y.toNat
    · simp [h1]
    · by_cases h2 : y.toNat < x.toNat
      · simp [h1, h2]
      · simp [h1, h2]
def key (r : Ref) : Nat := r.1.toNat * 256 ^ 32 + beV r.2
def cmpR (r s : Ref) : Int := sgn (key r) (key s)
theorem cmpR_eq {r s : Ref} (hr : OkR r) (hs : OkR s) : cmpR r s = if sgn r.1.toNat s.1.toNat ≠ 0 then sgn r.1.toNat s.1.toNat else sgn (beV r.2) (beV s.2) := by
  have h1 := beV_lt r.2
  have h2 := beV_lt s.2
  rw [hr] at h1
  rw [hs] at h2
  exact sgn_two h1 h2
theorem sgn_b (x y : Nat) : -1 ≤ sgn x y ∧ sgn x y ≤ 1 := by
  unfold sgn; split
  · omega
  · split <;> omega
/-! ### Worlds: so many draws, some blocks more. -/
def Gn (w w' : World) : Prop := ∃ q os, w' = grow (w.drewN q) os
theorem Gn.refl {w : World} : Gn w w := ⟨0, #[], by rw [grow_empty]; rfl⟩
theorem Gn.trans {a b c : World} (h : Gn a b) (k : Gn b c) : Gn a c := by
  obtain ⟨q, os, rfl⟩ := h
  obtain ⟨q', os', rfl⟩ := k
  exact ⟨q + q', os ++ os', by rw [← grow_grow]; show grow (grow ((a.drewN q).drewN q') os) os' = _; rw [World.drewN_drewN]⟩
theorem Gn.alloc {w : World} (o : Obj) : Gn w (w.alloc o) := ⟨0, #[o], alloc_eq_grow w o⟩
theorem Gn.drew {w : World} : Gn w { w with drawn := w.drawn + 1 } := ⟨1, #[], by rw [grow_empty]; rfl⟩
theorem Gn.kp {w w' : World} (h : Gn w w') : Kp No w w' := by
  obtain ⟨q, os, rfl⟩ := h
  refine ⟨rfl, rfl, rfl, ?_, fun k hk _ => ?_⟩
  · show w.heap.size ≤ (w.heap ++ os).size
    rw [Array.size_append]; omega
  · show (w.heap ++ os)[k]? = w.heap[k]?
    exact Array.getElem?_append_left hk
section rules
variable {P : Program} {n : Nat} {Q : Exit → Act → World → Prop} {L : Ctx} {w w0 : World} {ops : Array Oper} {rest : List Oper} {d : Nat} {ty : TypeId} {pos : String} {af : Array Edge}
theorem ow_boxE {t : TypeId} {x : Operand} {v : Value} {cs : List Value} (hd : Nat.blt d n = true) (hx : ev L x = some v) (hcs : v.cells = cs.toArray)
    (h : ∀ w', Gn w w' → Blk w' w.heap.size t cs → w'.heap.size = w.heap.size + 1 → Ow P n ops Q rest ((d, .pointer (some ⟨w.heap.size, 0, none⟩)) :: L) w') : Ow P n ops Q (⟨some d, .box t x, ty, pos, af, none⟩ :: rest) L w :=
  ow_run hd (w' := w.alloc (.cells cs.toArray t)) (v := .pointer (some ⟨w.heap.size, 0, none⟩)) (fun a ha => by
    unfold execOp
    simp only [ha.ev hx, Instr.box]
    rw [← hcs]
    rfl) (h _ (Gn.alloc _) (heap_alloc_new _ _) (by simp))
theorem ow_buildE (T : Tab P) {t e : TypeId} {len : Nat} {parts : List (Nat × Operand)} {vs : List (Nat × Value)} {cs : List Value} (hd : Nat.blt d n = true) (hv : mapEvP L parts = some vs) (ht : T.ty t = some (.slice e)) (hf : P.builtSlice e len vs = some cs.toArray)
    (h : ∀ w', Gn w w' → Blk w' w.heap.size e cs → w'.heap.size = w.heap.size + 1 → Ow P n ops Q rest ((d, .slice (some ⟨w.heap.size, 0, none⟩) len len) :: L) w') : Ow P n ops Q (⟨some d, .buildSlice t len ⟨parts⟩, ty, pos, af, none⟩ :: rest) L w := fun a ha =>
  Great.wpList_buildSliceTo (o := ⟨some d, .buildSlice t len ⟨parts⟩, ty, pos, af, none⟩) rfl t e len ⟨parts⟩ rfl w.heap.size rfl (some d) rfl (T.ty_ok _ _ ht) cs.toArray (by
    have := mapEvP_ok ha hv
    simpa using this ▸ hf)
    (h _ (Gn.alloc _) (heap_alloc_new _ _) (by simp) _ (ha.put (by simpa [Nat.blt_eq] using hd) _))
theorem cw_mixE {id : Nat} {l : List Oper} (π : List Nat) (ex : List (Nat × Kind)) (h : ∀ w1, Gn w w1 → Mw P n l (autoK l ex) Q π (Gn w1) L w1) (hm : P.follows .mixedOrders = true) (hB : mixB .any l (autoK l ex) π = true) : Cw P n (.region id l.toArray true) Q L w := fun a ha =>
  wp_region_mix hm hB (C := Gn { w with drawn := w.drawn + 1 }) Gn.refl (h _ Gn.drew a ha)
/-- Bytes compared by the machine. -/
theorem run_cmp {g1 o1 c1 g2 o2 c2 : Nat} {a b : List Byte} (h1 : At w g1 o1 (cb a)) (h2 : At w g2 o2 (cb b)) (hl : a.length = b.length) :
    (Extern.BytealgCompare.compare #[.slice (some ⟨g1, o1, none⟩) a.length c1, .slice (some ⟨g2, o2, none⟩) b.length c2]).run P w = .ok (.int .i64 (sgn (beV a) (beV b))) w := by
  have key : ∀ (g o : Nat) (l : List Byte), At w g o (cb l) → (Extern.Bytes.loadBytes ⟨g, o, none⟩ l.length .empty).run P w = .ok (bs l) w := fun g o l h => by
    have := Lib.run_loadBytesX (P := P) w (l.map fun b => (b.toNat : Int)) ⟨g, o, none⟩ .empty (fun j x hj => by
      rw [add_plain']
      refine h j _ ?_
      rw [List.getElem?_map] at hj ⊢
      cases hlj : l[j]? with
      | none => rw [hlj] at hj; cases hj
      | some y => rw [hlj] at hj; simp at hj ⊢; exact hj)
    rw [List.length_map] at this
    rw [this]
    congr 1
    unfold bs Lib.bytesOf
    apply ByteArray.ext
    simp only [ByteArray.data_empty, Array.empty_append]
    congr 1
    rw [List.map_map]
    apply List.map_congr_left
    intro y _
    simp only [Function.comp, Int.toNat_natCast]
    apply UInt8.toNat_inj.1
    simp
  change Sem.run P (do pure (goInt (Extern.BytealgCompare.cmp (← Extern.Bytes.loadBytes ⟨g1, o1, none⟩ a.length .empty) (← Extern.Bytes.loadBytes ⟨g2, o2, none⟩ b.length .empty)))) w = _
  rw [run_ok_bind (key _ _ _ h1), run_ok_bind (key _ _ _ h2), Lib.cmp_eq]
  simp only [bs]
  rw [cmp_be a b hl]
  rfl
theorem ow_cmp {f : FuncId} {fn : Func} {fo x y : Operand} {ats : Array TypeId} {g1 o1 c1 g2 o2 c2 n1 n2 : Nat} {a b : List Byte} (h1 : At w g1 o1 (cb a)) (h2 : At w g2 o2 (cb b)) (hl : a.length = b.length) (ha : a.length = n1) (hb' : b.length = n2)
    (hf : P.funcs[f]? = some fn) (hname : (fn.name == "runtime.NumGoroutine") = false) (hb : fn.body.isNone = true) (hn : Extern.findNext fn = none) (he : Extern.find fn = some Extern.BytealgCompare.compare)
    (h : Ow P n ops Q rest ((d, .int .i64 (sgn (beV a) (beV b))) :: L) w)
    (hfo : ev L fo = some (.func (.func f) #[] #[]) := by exact rfl) (hx : ev L x = some (.slice (some ⟨g1, o1, none⟩) n1 c1) := by exact rfl) (hy : ev L y = some (.slice (some ⟨g2, o2, none⟩) n2 c2) := by exact rfl) (hd : Nat.blt d n = true := by exact rfl) :
    Ow P n ops Q (⟨some d, .call { callee := .value fo, args := #[x, y], argTypes := ats }, ty, pos, af, none⟩ :: rest) L w := by
  subst ha
  subst hb'
  refine ow_run hd (fun a' ha => ?_) h
  unfold execOp
  simp only [resolve, ha.ev hfo, Deferred.ofValue, List.map_toArray, List.map_cons, List.map_nil, ha.ev hx, ha.ev hy]
  rw [Sem.run_bind]
  simp only [Sem.run_pure, Result.andThen_ok, invoke]
  have := run_callFunc_extern hf hname hb hn he #[.slice (some ⟨g1, o1, none⟩) a.length c1, .slice (some ⟨g2, o2, none⟩) b.length c2] w
  rw [run_cmp h1 h2 hl] at this
  simpa [Result.andThen] using this
end rules
def or2 (a b : Int) : Int := if a ≠ 0 then a else b
abbrev i64v (n : Int) : Value := .int .i64 n
attribute [local irreducible] Ow Cw Xw Mw
set_option maxHeartbeats 4000000
theorem fn95 : Try.prog.funcs[95]? = some Try.f95 := by kernel_rfl
theorem isNaN_calls (x : BitVec 32) (w0 : World) : Does Try.prog 89 [u32 x] w0 fun v w' => v = .bool false ∧ w0 = w' := by
  refine fn_enter Try.func89 rfl Try.ntmps89 rfl ?_
  repeat (first | refine X.p1 ?_ | refine X.p2 ?_ | refine X.p6 ?_ | refine X.p7 ?_ | refine X.p0 ?_ | refine X.p3 ?_ | refine X.p4 ?_ | refine X.p5 ?_ | refine X.p8 ?_ | refine X.p9 ?_ | refine X.q1 ?_ | refine X.q2 ?_ | refine X.q3 ?_ | refine X.q4 ?_ | refine X.q5 ?_ | refine X.q6 ?_ | refine X.q7 ?_ | refine X.q8 ?_ | refine X.q9 ?_ | refine X.q0 ?_ | refine X.m1 ?_ | refine X.m2 ?_ | refine X.m3 ?_ | refine X.m4 ?_ | refine X.m5 ?_ | refine X.m6 ?_ | refine X.l11 ?_ | refine X.l1 ?_ | refine X.l2 ?_ | refine X.l3 ?_ | refine X.l4 ?_ | refine X.l5 ?_ | refine X.l10 ?_ | refine X.l6 ?_ | refine X.l7 ?_ | refine X.l8 ?_ | refine X.l9 ?_ | refine X.m7 ?_ | refine X.m8 ?_ | (refine X.s1 ?_; intro w hw) | (refine X.s2 ?_; intro w hw) | refine X.e1 ?_ | refine X.e2 ?_ | (simp only [X.df]) | (simp (disch := omega) only [wi]))
  exact xw_ret (vs := [_]) Try.results89 ⟨rfl, trivial⟩ ⟨by simp [resOf], rfl⟩
theorem cmpU_calls (x y : BitVec 32) (w0 : World) : Does Try.prog 82 [u32 x, u32 y] w0 fun v w' => v = i64v (sgn x.toNat y.toNat) ∧ w0 = w' := by
  refine fn_enter Try.func82 rfl Try.ntmps82 rfl ?_
  repeat (first | refine X.p1 ?_ | refine X.p2 ?_ | refine X.p6 ?_ | refine X.p7 ?_ | refine X.p0 ?_ | refine X.p3 ?_ | refine X.p4 ?_ | refine X.p5 ?_ | refine X.p8 ?_ | refine X.p9 ?_ | refine X.q1 ?_ | refine X.q2 ?_ | refine X.q3 ?_ | refine X.q4 ?_ | refine X.q5 ?_ | refine X.q6 ?_ | refine X.q7 ?_ | refine X.q8 ?_ | refine X.q9 ?_ | refine X.q0 ?_ | refine X.m1 ?_ | refine X.m2 ?_ | refine X.m3 ?_ | refine X.m4 ?_ | refine X.m5 ?_ | refine X.m6 ?_ | refine X.l11 ?_ | refine X.l1 ?_ | refine X.l2 ?_ | refine X.l3 ?_ | refine X.l4 ?_ | refine X.l5 ?_ | refine X.l10 ?_ | refine X.l6 ?_ | refine X.l7 ?_ | refine X.l8 ?_ | refine X.l9 ?_ | refine X.m7 ?_ | refine X.m8 ?_ | (refine X.s1 ?_; intro w hw) | (refine X.s2 ?_; intro w hw) | refine X.e1 ?_ | refine X.e2 ?_ | (simp only [X.df]) | (simp (disch := omega) only [wi]))
  refine X.call rfl rfl Try.func89 (isNaN_calls x w0) ?_; rintro _ w ⟨rfl, rfl⟩
  repeat (first | refine X.p1 ?_ | refine X.p2 ?_ | refine X.p6 ?_ | refine X.p7 ?_ | refine X.p0 ?_ | refine X.p3 ?_ | refine X.p4 ?_ | refine X.p5 ?_ | refine X.p8 ?_ | refine X.p9 ?_ | refine X.q1 ?_ | refine X.q2 ?_ | refine X.q3 ?_ | refine X.q4 ?_ | refine X.q5 ?_ | refine X.q6 ?_ | refine X.q7 ?_ | refine X.q8 ?_ | refine X.q9 ?_ | refine X.q0 ?_ | refine X.m1 ?_ | refine X.m2 ?_ | refine X.m3 ?_ | refine X.m4 ?_ | refine X.m5 ?_ | refine X.m6 ?_ | refine X.l11 ?_ | refine X.l1 ?_ | refine X.l2 ?_ | refine X.l3 ?_ | refine X.l4 ?_ | refine X.l5 ?_ | refine X.l10 ?_ | refine X.l6 ?_ | refine X.l7 ?_ | refine X.l8 ?_ | refine X.l9 ?_ | refine X.m7 ?_ | refine X.m8 ?_ | (refine X.s1 ?_; intro w hw) | (refine X.s2 ?_; intro w hw) | refine X.e1 ?_ | refine X.e2 ?_ | (simp only [X.df]) | (simp (disch := omega) only [wi]))
  refine X.call rfl rfl Try.func89 (isNaN_calls y w0) ?_; rintro _ w ⟨rfl, rfl⟩
  repeat (first | refine X.p1 ?_ | refine X.p2 ?_ | refine X.p6 ?_ | refine X.p7 ?_ | refine X.p0 ?_ | refine X.p3 ?_ | refine X.p4 ?_ | refine X.p5 ?_ | refine X.p8 ?_ | refine X.p9 ?_ | refine X.q1 ?_ | refine X.q2 ?_ | refine X.q3 ?_ | refine X.q4 ?_ | refine X.q5 ?_ | refine X.q6 ?_ | refine X.q7 ?_ | refine X.q8 ?_ | refine X.q9 ?_ | refine X.q0 ?_ | refine X.m1 ?_ | refine X.m2 ?_ | refine X.m3 ?_ | refine X.m4 ?_ | refine X.m5 ?_ | refine X.m6 ?_ | refine X.l11 ?_ | refine X.l1 ?_ | refine X.l2 ?_ | refine X.l3 ?_ | refine X.l4 ?_ | refine X.l5 ?_ | refine X.l10 ?_ | refine X.l6 ?_ | refine X.l7 ?_ | refine X.l8 ?_ | refine X.l9 ?_ | refine X.m7 ?_ | refine X.m8 ?_ | (refine X.s1 ?_; intro w hw) | (refine X.s2 ?_; intro w hw) | refine X.e1 ?_ | refine X.e2 ?_ | (simp only [X.df]) | (simp (disch := omega) only [wi]))
  have hs : ∀ z, sgn x.toNat y.toNat = z → i64v z = i64v (sgn x.toNat y.toNat) := fun z h => by rw [h]
  by_cases h1 : x.toNat < y.toNat
  · have d1 : decide ((x.toNat : Int) < (y.toNat : Int)) = true := decide_eq_true (by omega)
    repeat (first | refine X.p1 ?_ | refine X.p2 ?_ | refine X.p6 ?_ | refine X.p7 ?_ | refine X.p0 ?_ | refine X.p3 ?_ | refine X.p4 ?_ | refine X.p5 ?_ | refine X.p8 ?_ | refine X.p9 ?_ | refine X.q1 ?_ | refine X.q2 ?_ | refine X.q3 ?_ | refine X.q4 ?_ | refine X.q5 ?_ | refine X.q6 ?_ | refine X.q7 ?_ | refine X.q8 ?_ | refine X.q9 ?_ | refine X.q0 ?_ | refine X.m1 ?_ | refine X.m2 ?_ | refine X.m3 ?_ | refine X.m4 ?_ | refine X.m5 ?_ | refine X.m6 ?_ | refine X.l11 ?_ | refine X.l1 ?_ | refine X.l2 ?_ | refine X.l3 ?_ | refine X.l4 ?_ | refine X.l5 ?_ | refine X.l10 ?_ | refine X.l6 ?_ | refine X.l7 ?_ | refine X.l8 ?_ | refine X.l9 ?_ | refine X.m7 ?_ | refine X.m8 ?_ | (refine X.s1 ?_; intro w hw) | (refine X.s2 ?_; intro w hw) | refine X.e1 ?_ | refine X.e2 ?_ | (simp only [X.df, d1]) | (simp (disch := omega) only [wi]))
    exact xw_ret (vs := [_]) Try.results82 ⟨rfl, trivial⟩ ⟨hs _ (by simp [sgn, h1]), rfl⟩
  · have d1 : decide ((x.toNat : Int) < (y.toNat : Int)) = false := decide_eq_false (by omega)
    by_cases h2 : y.toNat < x.toNat
    · have d2 : decide ((x.toNat : Int) > (y.toNat : Int)) = true := decide_eq_true (by omega)
      repeat (first | refine X.p1 ?_ | refine X.p2 ?_ | refine X.p6 ?_ | refine X.p7 ?_ | refine X.p0 ?_ | refine X.p3 ?_ | refine X.p4 ?_ | refine X.p5 ?_ | refine X.p8 ?_ | refine X.p9 ?_ | refine X.q1 ?_ | refine X.q2 ?_ | refine X.q3 ?_ | refine X.q4 ?_ | refine X.q5 ?_ | refine X.q6 ?_ | refine X.q7 ?_ | refine X.q8 ?_ | refine X.q9 ?_ | refine X.q0 ?_ | refine X.m1 ?_ | refine X.m2 ?_ | refine X.m3 ?_ | refine X.m4 ?_ | refine X.m5 ?_ | refine X.m6 ?_ | refine X.l11 ?_ | refine X.l1 ?_ | refine X.l2 ?_ | refine X.l3 ?_ | refine X.l4 ?_ | refine X.l5 ?_ | refine X.l10 ?_ | refine X.l6 ?_ | refine X.l7 ?_ | refine X.l8 ?_ | refine X.l9 ?_ | refine X.m7 ?_ | refine X.m8 ?_ | (refine X.s1 ?_; intro w hw) | (refine X.s2 ?_; intro w hw) | refine X.e1 ?_ | refine X.e2 ?_ | (simp only [X.df, d1, d2]) | (simp (disch := omega) only [wi]))
      exact xw_ret (vs := [_]) Try.results82 ⟨rfl, trivial⟩ ⟨hs _ (by simp [sgn, h1, h2]), rfl⟩
    · have d2 : decide ((x.toNat : Int) > (y.toNat : Int)) = false := decide_eq_false (by omega)
      repeat (first | refine X.p1 ?_ | refine X.p2 ?_ | refine X.p6 ?_ | refine X.p7 ?_ | refine X.p0 ?_ | refine X.p3 ?_ | refine X.p4 ?_ | refine X.p5 ?_ | refine X.p8 ?_ | refine X.p9 ?_ | refine X.q1 ?_ | refine X.q2 ?_ | refine X.q3 ?_ | refine X.q4 ?_ | refine X.q5 ?_ | refine X.q6 ?_ | refine X.q7 ?_ | refine X.q8 ?_ | refine X.q9 ?_ | refine X.q0 ?_ | refine X.m1 ?_ | refine X.m2 ?_ | refine X.m3 ?_ | refine X.m4 ?_ | refine X.m5 ?_ | refine X.m6 ?_ | refine X.l11 ?_ | refine X.l1 ?_ | refine X.l2 ?_ | refine X.l3 ?_ | refine X.l4 ?_ | refine X.l5 ?_ | refine X.l10 ?_ | refine X.l6 ?_ | refine X.l7 ?_ | refine X.l8 ?_ | refine X.l9 ?_ | refine X.m7 ?_ | refine X.m8 ?_ | (refine X.s1 ?_; intro w hw) | (refine X.s2 ?_; intro w hw) | refine X.e1 ?_ | refine X.e2 ?_ | (simp only [X.df, d1, d2]) | (simp (disch := omega) only [wi]))
      exact xw_ret (vs := [_]) Try.results82 ⟨rfl, trivial⟩ ⟨hs _ (by simp [sgn, h1, h2]), rfl⟩
theorem or_calls (g : Nat) (a b : Int) (w0 : World) (hb : Blk w0 g 3 [i64v a, i64v b]) : Does Try.prog 81 [.slice (some ⟨g, 0, none⟩) 2 2] w0 fun v w' => v = i64v (or2 a b) ∧ w0 = w' := by
  refine fn_enter Try.func81 rfl Try.ntmps81 rfl ?_
  repeat (first | refine X.p1 ?_ | refine X.p2 ?_ | refine X.p6 ?_ | refine X.p7 ?_ | refine X.p0 ?_ | refine X.p3 ?_ | refine X.p4 ?_ | refine X.p5 ?_ | refine X.p8 ?_ | refine X.p9 ?_ | refine X.q1 ?_ | refine X.q2 ?_ | refine X.q3 ?_ | refine X.q4 ?_ | refine X.q5 ?_ | refine X.q6 ?_ | refine X.q7 ?_ | refine X.q8 ?_ | refine X.q9 ?_ | refine X.q0 ?_ | refine X.m1 ?_ | refine X.m2 ?_ | refine X.m3 ?_ | refine X.m4 ?_ | refine X.m5 ?_ | refine X.m6 ?_ | refine X.l11 ?_ | refine X.l1 ?_ | refine X.l2 ?_ | refine X.l3 ?_ | refine X.l4 ?_ | refine X.l5 ?_ | refine X.l10 ?_ | refine X.l6 ?_ | refine X.l7 ?_ | refine X.l8 ?_ | refine X.l9 ?_ | refine X.m7 ?_ | refine X.m8 ?_ | (refine X.s1 ?_; intro w hw) | (refine X.s2 ?_; intro w hw) | refine X.e1 ?_ | refine X.e2 ?_ | (simp only [X.df]) | (simp (disch := omega) only [wi]))
  refine X.loop (fun i : Nat => [(3, i64v 0), (6, .slice (some ⟨g, 0, none⟩) 2 2), (7, i64v 2), (8, i64v (i : Int))]) (fun i w' => w0 = w' ∧ i ≤ 2 ∧ (1 ≤ i → a = 0) ∧ (2 ≤ i → b = 0)) (fun i => 2 - i) 0 ⟨rfl, by omega, by omega, by omega⟩ ?_
  rintro i w ⟨rfl, hi, ha, hb0⟩
  repeat (first | refine X.p1 ?_ | refine X.p2 ?_ | refine X.p6 ?_ | refine X.p7 ?_ | refine X.p0 ?_ | refine X.p3 ?_ | refine X.p4 ?_ | refine X.p5 ?_ | refine X.p8 ?_ | refine X.p9 ?_ | refine X.q1 ?_ | refine X.q2 ?_ | refine X.q3 ?_ | refine X.q4 ?_ | refine X.q5 ?_ | refine X.q6 ?_ | refine X.q7 ?_ | refine X.q8 ?_ | refine X.q9 ?_ | refine X.q0 ?_ | refine X.m1 ?_ | refine X.m2 ?_ | refine X.m3 ?_ | refine X.m4 ?_ | refine X.m5 ?_ | refine X.m6 ?_ | refine X.l11 ?_ | refine X.l1 ?_ | refine X.l2 ?_ | refine X.l3 ?_ | refine X.l4 ?_ | refine X.l5 ?_ | refine X.l10 ?_ | refine X.l6 ?_ | refine X.l7 ?_ | refine X.l8 ?_ | refine X.l9 ?_ | refine X.m7 ?_ | refine X.m8 ?_ | (refine X.s1 ?_; intro w hw) | (refine X.s2 ?_; intro w hw) | refine X.e1 ?_ | refine X.e2 ?_ | (simp only [X.df]) | (simp (disch := omega) only [wi]))
  refine X.cond (fun hlt => ?_) (fun hge => ?_)
  · have hlt : i < 2 := by omega
    repeat (first | refine X.p1 ?_ | refine X.p2 ?_ | refine X.p6 ?_ | refine X.p7 ?_ | refine X.p0 ?_ | refine X.p3 ?_ | refine X.p4 ?_ | refine X.p5 ?_ | refine X.p8 ?_ | refine X.p9 ?_ | refine X.q1 ?_ | refine X.q2 ?_ | refine X.q3 ?_ | refine X.q4 ?_ | refine X.q5 ?_ | refine X.q6 ?_ | refine X.q7 ?_ | refine X.q8 ?_ | refine X.q9 ?_ | refine X.q0 ?_ | refine X.m1 ?_ | refine X.m2 ?_ | refine X.m3 ?_ | refine X.m4 ?_ | refine X.m5 ?_ | refine X.m6 ?_ | refine X.l11 ?_ | refine X.l1 ?_ | refine X.l2 ?_ | refine X.l3 ?_ | refine X.l4 ?_ | refine X.l5 ?_ | refine X.l10 ?_ | refine X.l6 ?_ | refine X.l7 ?_ | refine X.l8 ?_ | refine X.l9 ?_ | refine X.m7 ?_ | refine X.m8 ?_ | (refine X.s1 ?_; intro w hw) | (refine X.s2 ?_; intro w hw) | refine X.e1 ?_ | refine X.e2 ?_ | (simp only [X.df]) | (simp (disch := omega) only [wi]))
    by_cases h0 : i = 0
    · subst h0
      refine ow_load1 tab hb rfl rfl rfl rfl (v := i64v a) rfl ?_
      by_cases hz : a = 0
      · subst hz
        repeat (first | refine X.p1 ?_ | refine X.p2 ?_ | refine X.p6 ?_ | refine X.p7 ?_ | refine X.p0 ?_ | refine X.p3 ?_ | refine X.p4 ?_ | refine X.p5 ?_ | refine X.p8 ?_ | refine X.p9 ?_ | refine X.q1 ?_ | refine X.q2 ?_ | refine X.q3 ?_ | refine X.q4 ?_ | refine X.q5 ?_ | refine X.q6 ?_ | refine X.q7 ?_ | refine X.q8 ?_ | refine X.q9 ?_ | refine X.q0 ?_ | refine X.m1 ?_ | refine X.m2 ?_ | refine X.m3 ?_ | refine X.m4 ?_ | refine X.m5 ?_ | refine X.m6 ?_ | refine X.l11 ?_ | refine X.l1 ?_ | refine X.l2 ?_ | refine X.l3 ?_ | refine X.l4 ?_ | refine X.l5 ?_ | refine X.l10 ?_ | refine X.l6 ?_ | refine X.l7 ?_ | refine X.l8 ?_ | refine X.l9 ?_ | refine X.m7 ?_ | refine X.m8 ?_ | (refine X.s1 ?_; intro w hw) | (refine X.s2 ?_; intro w hw) | refine X.e1 ?_ | refine X.e2 ?_ | (simp only [X.df]) | (simp (disch := omega) only [wi]))
        exact X.again 1 ⟨rfl, by omega, fun _ => trivial, by omega⟩ (by omega)
      · have d0 : (a != 0) = true := by simp [hz]
        repeat (first | refine X.p1 ?_ | refine X.p2 ?_ | refine X.p6 ?_ | refine X.p7 ?_ | refine X.p0 ?_ | refine X.p3 ?_ | refine X.p4 ?_ | refine X.p5 ?_ | refine X.p8 ?_ | refine X.p9 ?_ | refine X.q1 ?_ | refine X.q2 ?_ | refine X.q3 ?_ | refine X.q4 ?_ | refine X.q5 ?_ | refine X.q6 ?_ | refine X.q7 ?_ | refine X.q8 ?_ | refine X.q9 ?_ | refine X.q0 ?_ | refine X.m1 ?_ | refine X.m2 ?_ | refine X.m3 ?_ | refine X.m4 ?_ | refine X.m5 ?_ | refine X.m6 ?_ | refine X.l11 ?_ | refine X.l1 ?_ | refine X.l2 ?_ | refine X.l3 ?_ | refine X.l4 ?_ | refine X.l5 ?_ | refine X.l10 ?_ | refine X.l6 ?_ | refine X.l7 ?_ | refine X.l8 ?_ | refine X.l9 ?_ | refine X.m7 ?_ | refine X.m8 ?_ | (refine X.s1 ?_; intro w hw) | (refine X.s2 ?_; intro w hw) | refine X.e1 ?_ | refine X.e2 ?_ | (simp only [X.df, d0]) | (simp (disch := omega) only [wi]))
        exact xw_ret (vs := [_]) Try.results81 ⟨rfl, trivial⟩ ⟨by simp [or2, hz, resOf], rfl⟩
    · obtain rfl : i = 1 := by omega
      refine ow_load1 tab hb rfl rfl rfl rfl (v := i64v b) rfl ?_
      by_cases hz : b = 0
      · subst hz
        repeat (first | refine X.p1 ?_ | refine X.p2 ?_ | refine X.p6 ?_ | refine X.p7 ?_ | refine X.p0 ?_ | refine X.p3 ?_ | refine X.p4 ?_ | refine X.p5 ?_ | refine X.p8 ?_ | refine X.p9 ?_ | refine X.q1 ?_ | refine X.q2 ?_ | refine X.q3 ?_ | refine X.q4 ?_ | refine X.q5 ?_ | refine X.q6 ?_ | refine X.q7 ?_ | refine X.q8 ?_ | refine X.q9 ?_ | refine X.q0 ?_ | refine X.m1 ?_ | refine X.m2 ?_ | refine X.m3 ?_ | refine X.m4 ?_ | refine X.m5 ?_ | refine X.m6 ?_ | refine X.l11 ?_ | refine X.l1 ?_ | refine X.l2 ?_ | refine X.l3 ?_ | refine X.l4 ?_ | refine X.l5 ?_ | refine X.l10 ?_ | refine X.l6 ?_ | refine X.l7 ?_ | refine X.l8 ?_ | refine X.l9 ?_ | refine X.m7 ?_ | refine X.m8 ?_ | (refine X.s1 ?_; intro w hw) | (refine X.s2 ?_; intro w hw) | refine X.e1 ?_ | refine X.e2 ?_ | (simp only [X.df]) | (simp (disch := omega) only [wi]))
        exact X.again 2 ⟨rfl, by omega, fun _ => ha (by omega), fun _ => trivial⟩ (by omega)
      · have d0 : (b != 0) = true := by simp [hz]
        repeat (first | refine X.p1 ?_ | refine X.p2 ?_ | refine X.p6 ?_ | refine X.p7 ?_ | refine X.p0 ?_ | refine X.p3 ?_ | refine X.p4 ?_ | refine X.p5 ?_ | refine X.p8 ?_ | refine X.p9 ?_ | refine X.q1 ?_ | refine X.q2 ?_ | refine X.q3 ?_ | refine X.q4 ?_ | refine X.q5 ?_ | refine X.q6 ?_ | refine X.q7 ?_ | refine X.q8 ?_ | refine X.q9 ?_ | refine X.q0 ?_ | refine X.m1 ?_ | refine X.m2 ?_ | refine X.m3 ?_ | refine X.m4 ?_ | refine X.m5 ?_ | refine X.m6 ?_ | refine X.l11 ?_ | refine X.l1 ?_ | refine X.l2 ?_ | refine X.l3 ?_ | refine X.l4 ?_ | refine X.l5 ?_ | refine X.l10 ?_ | refine X.l6 ?_ | refine X.l7 ?_ | refine X.l8 ?_ | refine X.l9 ?_ | refine X.m7 ?_ | refine X.m8 ?_ | (refine X.s1 ?_; intro w hw) | (refine X.s2 ?_; intro w hw) | refine X.e1 ?_ | refine X.e2 ?_ | (simp only [X.df, d0]) | (simp (disch := omega) only [wi]))
        exact xw_ret (vs := [_]) Try.results81 ⟨rfl, trivial⟩ ⟨by simp [or2, ha (by omega), resOf], rfl⟩
  · repeat (first | refine X.p1 ?_ | refine X.p2 ?_ | refine X.p6 ?_ | refine X.p7 ?_ | refine X.p0 ?_ | refine X.p3 ?_ | refine X.p4 ?_ | refine X.p5 ?_ | refine X.p8 ?_ | refine X.p9 ?_ | refine X.q1 ?_ | refine X.q2 ?_ | refine X.q3 ?_ | refine X.q4 ?_ | refine X.q5 ?_ | refine X.q6 ?_ | refine X.q7 ?_ | refine X.q8 ?_ | refine X.q9 ?_ | refine X.q0 ?_ | refine X.m1 ?_ | refine X.m2 ?_ | refine X.m3 ?_ | refine X.m4 ?_ | refine X.m5 ?_ | refine X.m6 ?_ | refine X.l11 ?_ | refine X.l1 ?_ | refine X.l2 ?_ | refine X.l3 ?_ | refine X.l4 ?_ | refine X.l5 ?_ | refine X.l10 ?_ | refine X.l6 ?_ | refine X.l7 ?_ | refine X.l8 ?_ | refine X.l9 ?_ | refine X.m7 ?_ | refine X.m8 ?_ | (refine X.s1 ?_; intro w hw) | (refine X.s2 ?_; intro w hw) | refine X.e1 ?_ | refine X.e2 ?_ | (simp only [X.df]) | (simp (disch := omega) only [wi]))
    exact xw_ret (vs := [_]) Try.results81 ⟨rfl, trivial⟩ ⟨by simp [or2, ha (by omega), hb0 (by omega), resOf], rfl⟩
theorem bcmp_calls (g1 g2 : Nat) (a b : List Byte) (ha : a.length = 32) (hb : b.length = 32) (w0 : World) (h1 : At w0 g1 0 (cb a)) (h2 : At w0 g2 0 (cb b)) : Does Try.prog 90 [.slice (some ⟨g1, 0, none⟩) 32 32, .slice (some ⟨g2, 0, none⟩) 32 32] w0 fun v w' => v = i64v (sgn (beV a) (beV b)) ∧ w0 = w' := by
  refine fn_enter Try.func90 rfl Try.ntmps90 rfl ?_
  repeat (first | refine X.p1 ?_ | refine X.p2 ?_ | refine X.p6 ?_ | refine X.p7 ?_ | refine X.p0 ?_ | refine X.p3 ?_ | refine X.p4 ?_ | refine X.p5 ?_ | refine X.p8 ?_ | refine X.p9 ?_ | refine X.q1 ?_ | refine X.q2 ?_ | refine X.q3 ?_ | refine X.q4 ?_ | refine X.q5 ?_ | refine X.q6 ?_ | refine X.q7 ?_ | refine X.q8 ?_ | refine X.q9 ?_ | refine X.q0 ?_ | refine X.m1 ?_ | refine X.m2 ?_ | refine X.m3 ?_ | refine X.m4 ?_ | refine X.m5 ?_ | refine X.m6 ?_ | refine X.l11 ?_ | refine X.l1 ?_ | refine X.l2 ?_ | refine X.l3 ?_ | refine X.l4 ?_ | refine X.l5 ?_ | refine X.l10 ?_ | refine X.l6 ?_ | refine X.l7 ?_ | refine X.l8 ?_ | refine X.l9 ?_ | refine X.m7 ?_ | refine X.m8 ?_ | (refine X.s1 ?_; intro w hw) | (refine X.s2 ?_; intro w hw) | refine X.e1 ?_ | refine X.e2 ?_ | (simp only [X.df]) | (simp (disch := omega) only [wi]))
  refine ow_cmp h1 h2 (by rw [ha, hb]) ha hb fn95 (by kernel_rfl) (by kernel_rfl) (by kernel_rfl) (by kernel_rfl) ?_
  repeat (first | refine X.p1 ?_ | refine X.p2 ?_ | refine X.p6 ?_ | refine X.p7 ?_ | refine X.p0 ?_ | refine X.p3 ?_ | refine X.p4 ?_ | refine X.p5 ?_ | refine X.p8 ?_ | refine X.p9 ?_ | refine X.q1 ?_ | refine X.q2 ?_ | refine X.q3 ?_ | refine X.q4 ?_ | refine X.q5 ?_ | refine X.q6 ?_ | refine X.q7 ?_ | refine X.q8 ?_ | refine X.q9 ?_ | refine X.q0 ?_ | refine X.m1 ?_ | refine X.m2 ?_ | refine X.m3 ?_ | refine X.m4 ?_ | refine X.m5 ?_ | refine X.m6 ?_ | refine X.l11 ?_ | refine X.l1 ?_ | refine X.l2 ?_ | refine X.l3 ?_ | refine X.l4 ?_ | refine X.l5 ?_ | refine X.l10 ?_ | refine X.l6 ?_ | refine X.l7 ?_ | refine X.l8 ?_ | refine X.l9 ?_ | refine X.m7 ?_ | refine X.m8 ?_ | (refine X.s1 ?_; intro w hw) | (refine X.s2 ?_; intro w hw) | refine X.e1 ?_ | refine X.e2 ?_ | (simp only [X.df]) | (simp (disch := omega) only [wi]))
  exact xw_ret (vs := [_]) Try.results90 ⟨rfl, trivial⟩ ⟨rfl, rfl⟩
theorem dcmp_calls (a b : List Byte) (ha : a.length = 32) (hb : b.length = 32) (w0 : World) : Does Try.prog 83 [blk a, blk b] w0 fun v w' => v = i64v (sgn (beV a) (beV b)) ∧ Gn w0 w' := by
  refine fn_enter Try.func83 rfl Try.ntmps83 rfl ?_
  repeat (first | refine X.p1 ?_ | refine X.p2 ?_ | refine X.p6 ?_ | refine X.p7 ?_ | refine X.p0 ?_ | refine X.p3 ?_ | refine X.p4 ?_ | refine X.p5 ?_ | refine X.p8 ?_ | refine X.p9 ?_ | refine X.q1 ?_ | refine X.q2 ?_ | refine X.q3 ?_ | refine X.q4 ?_ | refine X.q5 ?_ | refine X.q6 ?_ | refine X.q7 ?_ | refine X.q8 ?_ | refine X.q9 ?_ | refine X.q0 ?_ | refine X.m1 ?_ | refine X.m2 ?_ | refine X.m3 ?_ | refine X.m4 ?_ | refine X.m5 ?_ | refine X.m6 ?_ | refine X.l11 ?_ | refine X.l1 ?_ | refine X.l2 ?_ | refine X.l3 ?_ | refine X.l4 ?_ | refine X.l5 ?_ | refine X.l10 ?_ | refine X.l6 ?_ | refine X.l7 ?_ | refine X.l8 ?_ | refine X.l9 ?_ | refine X.m7 ?_ | refine X.m8 ?_ | (refine X.s1 ?_; intro w hw) | (refine X.s2 ?_; intro w hw) | refine X.e1 ?_ | refine X.e2 ?_ | (simp only [X.df]) | (simp (disch := omega) only [wi]))
  refine ow_boxE (cs := cb a) rfl rfl rfl (fun w1 k1 b1 s1 => ?_)
  repeat (first | refine X.p1 ?_ | refine X.p2 ?_ | refine X.p6 ?_ | refine X.p7 ?_ | refine X.p0 ?_ | refine X.p3 ?_ | refine X.p4 ?_ | refine X.p5 ?_ | refine X.p8 ?_ | refine X.p9 ?_ | refine X.q1 ?_ | refine X.q2 ?_ | refine X.q3 ?_ | refine X.q4 ?_ | refine X.q5 ?_ | refine X.q6 ?_ | refine X.q7 ?_ | refine X.q8 ?_ | refine X.q9 ?_ | refine X.q0 ?_ | refine X.m1 ?_ | refine X.m2 ?_ | refine X.m3 ?_ | refine X.m4 ?_ | refine X.m5 ?_ | refine X.m6 ?_ | refine X.l11 ?_ | refine X.l1 ?_ | refine X.l2 ?_ | refine X.l3 ?_ | refine X.l4 ?_ | refine X.l5 ?_ | refine X.l10 ?_ | refine X.l6 ?_ | refine X.l7 ?_ | refine X.l8 ?_ | refine X.l9 ?_ | refine X.m7 ?_ | refine X.m8 ?_ | (refine X.s1 ?_; intro w hw) | (refine X.s2 ?_; intro w hw) | refine X.e1 ?_ | refine X.e2 ?_ | (simp only [X.df]) | (simp (disch := omega) only [wi]))
  refine ow_boxE (cs := cb b) rfl rfl rfl (fun w2 k2 b2 s2 => ?_)
  repeat (first | refine X.p1 ?_ | refine X.p2 ?_ | refine X.p6 ?_ | refine X.p7 ?_ | refine X.p0 ?_ | refine X.p3 ?_ | refine X.p4 ?_ | refine X.p5 ?_ | refine X.p8 ?_ | refine X.p9 ?_ | refine X.q1 ?_ | refine X.q2 ?_ | refine X.q3 ?_ | refine X.q4 ?_ | refine X.q5 ?_ | refine X.q6 ?_ | refine X.q7 ?_ | refine X.q8 ?_ | refine X.q9 ?_ | refine X.q0 ?_ | refine X.m1 ?_ | refine X.m2 ?_ | refine X.m3 ?_ | refine X.m4 ?_ | refine X.m5 ?_ | refine X.m6 ?_ | refine X.l11 ?_ | refine X.l1 ?_ | refine X.l2 ?_ | refine X.l3 ?_ | refine X.l4 ?_ | refine X.l5 ?_ | refine X.l10 ?_ | refine X.l6 ?_ | refine X.l7 ?_ | refine X.l8 ?_ | refine X.l9 ?_ | refine X.m7 ?_ | refine X.m8 ?_ | (refine X.s1 ?_; intro w hw) | (refine X.s2 ?_; intro w hw) | refine X.e1 ?_ | refine X.e2 ?_ | (simp only [X.df]) | (simp (disch := omega) only [wi]))
  refine cw_mixE [0, 1, 2, 3] [] (fun w3 k3 => ?_) (by kernel_rfl) (by kernel_rfl)
  have a3 : At w3 w0.heap.size 0 (cb a) := by have := Blk.at_ (((b1.no k2.kp).no k3.kp)) 0; rwa [List.drop_zero] at this
  have b3 : At w3 w1.heap.size 0 (cb b) := by have := Blk.at_ ((b2.no k3.kp)) 0; rwa [List.drop_zero] at this
  repeat (first | refine X.r1 ?_ | refine X.r2 ?_ | refine X.r4 ?_ | refine X.r3 ?_ | refine X.rm1 ?_ | refine X.rm2 ?_ | refine X.rm3 ?_ | refine X.rm4 ?_ | refine X.rm5 ?_ | refine X.rl11 ?_ | refine X.rl1 ?_ | refine X.rl2 ?_ | refine X.rl3 ?_ | refine X.rl5 ?_ | refine X.rl6 ?_ | refine X.rm8 ?_ | refine X.re1 ?_ | refine X.re2 ?_ | (simp only [X.df]) | (simp (disch := omega) only [wi]))
  refine X.act ?_
  refine X.call rfl rfl Try.func90 (bcmp_calls _ _ a b ha hb w3 a3 b3) ?_
  rintro _ w4 ⟨rfl, rfl⟩
  refine mid_a Gn.refl ?_
  repeat (first | refine X.r1 ?_ | refine X.r2 ?_ | refine X.r4 ?_ | refine X.r3 ?_ | refine X.rm1 ?_ | refine X.rm2 ?_ | refine X.rm3 ?_ | refine X.rm4 ?_ | refine X.rm5 ?_ | refine X.rl11 ?_ | refine X.rl1 ?_ | refine X.rl2 ?_ | refine X.rl3 ?_ | refine X.rl5 ?_ | refine X.rl6 ?_ | refine X.rm8 ?_ | refine X.re1 ?_ | refine X.re2 ?_ | (simp only [X.df]) | (simp (disch := omega) only [wi]))
  repeat (first | refine X.p1 ?_ | refine X.p2 ?_ | refine X.p6 ?_ | refine X.p7 ?_ | refine X.p0 ?_ | refine X.p3 ?_ | refine X.p4 ?_ | refine X.p5 ?_ | refine X.p8 ?_ | refine X.p9 ?_ | refine X.q1 ?_ | refine X.q2 ?_ | refine X.q3 ?_ | refine X.q4 ?_ | refine X.q5 ?_ | refine X.q6 ?_ | refine X.q7 ?_ | refine X.q8 ?_ | refine X.q9 ?_ | refine X.q0 ?_ | refine X.m1 ?_ | refine X.m2 ?_ | refine X.m3 ?_ | refine X.m4 ?_ | refine X.m5 ?_ | refine X.m6 ?_ | refine X.l11 ?_ | refine X.l1 ?_ | refine X.l2 ?_ | refine X.l3 ?_ | refine X.l4 ?_ | refine X.l5 ?_ | refine X.l10 ?_ | refine X.l6 ?_ | refine X.l7 ?_ | refine X.l8 ?_ | refine X.l9 ?_ | refine X.m7 ?_ | refine X.m8 ?_ | (refine X.s1 ?_; intro w hw) | (refine X.s2 ?_; intro w hw) | refine X.e1 ?_ | refine X.e2 ?_ | (simp only [X.df]) | (simp (disch := omega) only [wi]))
  exact xw_ret (vs := [_]) Try.results83 ⟨rfl, trivial⟩ ⟨rfl, (k1.trans k2).trans k3⟩
theorem two64 (a b : Int) : Try.prog.builtSlice 3 2 [(0, i64v a), (1, i64v b)] = some [i64v a, i64v b].toArray := by kernel_rfl
theorem cmp_calls (r s : Ref) (hr : OkR r) (hs : OkR s) (w0 : World) : Does Try.prog 64 [refV r, refV s] w0 fun v w' => v = i64v (cmpR r s) ∧ Gn w0 w' := by
  have hlr : (cb r.2).length = 32 := by rw [List.length_map]; exact hr
  have hls : (cb s.2).length = 32 := by rw [List.length_map]; exact hs
  refine fn_enter Try.func64 rfl Try.ntmps64 rfl ?_
  repeat (first | refine X.p1 ?_ | refine X.p2 ?_ | refine X.p6 ?_ | refine X.p7 ?_ | refine X.p0 ?_ | refine X.p3 ?_ | refine X.p4 ?_ | refine X.p5 ?_ | refine X.p8 ?_ | refine X.p9 ?_ | refine X.q1 ?_ | refine X.q2 ?_ | refine X.q3 ?_ | refine X.q4 ?_ | refine X.q5 ?_ | refine X.q6 ?_ | refine X.q7 ?_ | refine X.q8 ?_ | refine X.q9 ?_ | refine X.q0 ?_ | refine X.m1 ?_ | refine X.m2 ?_ | refine X.m3 ?_ | refine X.m4 ?_ | refine X.m5 ?_ | refine X.m6 ?_ | refine X.l11 ?_ | refine X.l1 ?_ | refine X.l2 ?_ | refine X.l3 ?_ | refine X.l4 ?_ | refine X.l5 ?_ | refine X.l10 ?_ | refine X.l6 ?_ | refine X.l7 ?_ | refine X.l8 ?_ | refine X.l9 ?_ | refine X.m7 ?_ | refine X.m8 ?_ | (refine X.s1 ?_; intro w hw) | (refine X.s2 ?_; intro w hw) | refine X.e1 ?_ | refine X.e2 ?_ | (simp only [X.df]) | (simp (disch := omega) only [wi]))
  refine ow_boxE (cs := refC r) rfl rfl rfl (fun w1 k1 b1 s1 => ?_)
  repeat (first | refine X.p1 ?_ | refine X.p2 ?_ | refine X.p6 ?_ | refine X.p7 ?_ | refine X.p0 ?_ | refine X.p3 ?_ | refine X.p4 ?_ | refine X.p5 ?_ | refine X.p8 ?_ | refine X.p9 ?_ | refine X.q1 ?_ | refine X.q2 ?_ | refine X.q3 ?_ | refine X.q4 ?_ | refine X.q5 ?_ | refine X.q6 ?_ | refine X.q7 ?_ | refine X.q8 ?_ | refine X.q9 ?_ | refine X.q0 ?_ | refine X.m1 ?_ | refine X.m2 ?_ | refine X.m3 ?_ | refine X.m4 ?_ | refine X.m5 ?_ | refine X.m6 ?_ | refine X.l11 ?_ | refine X.l1 ?_ | refine X.l2 ?_ | refine X.l3 ?_ | refine X.l4 ?_ | refine X.l5 ?_ | refine X.l10 ?_ | refine X.l6 ?_ | refine X.l7 ?_ | refine X.l8 ?_ | refine X.l9 ?_ | refine X.m7 ?_ | refine X.m8 ?_ | (refine X.s1 ?_; intro w hw) | (refine X.s2 ?_; intro w hw) | refine X.e1 ?_ | refine X.e2 ?_ | (simp only [X.df]) | (simp (disch := omega) only [wi]))
  refine ow_boxE (cs := refC s) rfl rfl rfl (fun w2 k2 b2 s2 => ?_)
  repeat (first | refine X.p1 ?_ | refine X.p2 ?_ | refine X.p6 ?_ | refine X.p7 ?_ | refine X.p0 ?_ | refine X.p3 ?_ | refine X.p4 ?_ | refine X.p5 ?_ | refine X.p8 ?_ | refine X.p9 ?_ | refine X.q1 ?_ | refine X.q2 ?_ | refine X.q3 ?_ | refine X.q4 ?_ | refine X.q5 ?_ | refine X.q6 ?_ | refine X.q7 ?_ | refine X.q8 ?_ | refine X.q9 ?_ | refine X.q0 ?_ | refine X.m1 ?_ | refine X.m2 ?_ | refine X.m3 ?_ | refine X.m4 ?_ | refine X.m5 ?_ | refine X.m6 ?_ | refine X.l11 ?_ | refine X.l1 ?_ | refine X.l2 ?_ | refine X.l3 ?_ | refine X.l4 ?_ | refine X.l5 ?_ | refine X.l10 ?_ | refine X.l6 ?_ | refine X.l7 ?_ | refine X.l8 ?_ | refine X.l9 ?_ | refine X.m7 ?_ | refine X.m8 ?_ | (refine X.s1 ?_; intro w hw) | (refine X.s2 ?_; intro w hw) | refine X.e1 ?_ | refine X.e2 ?_ | (simp only [X.df]) | (simp (disch := omega) only [wi]))
  refine cw_mixE [0, 1, 2, 3, 5, 6, 7, 8, 4, 9, 10, 11, 12] [] (fun w3 k3 => ?_) (by kernel_rfl) (by kernel_rfl)
  have a3 : Blk w3 w0.heap.size 89 (refC r) := (b1.no k2.kp).no k3.kp
  have b3 : Blk w3 w1.heap.size 89 (refC s) := b2.no k3.kp
  repeat (first | refine X.r1 ?_ | refine X.r2 ?_ | refine X.r4 ?_ | refine X.r3 ?_ | refine X.rm1 ?_ | refine X.rm2 ?_ | refine X.rm3 ?_ | refine X.rm4 ?_ | refine X.rm5 ?_ | refine X.rl11 ?_ | refine X.rl1 ?_ | refine X.rl2 ?_ | refine X.rl3 ?_ | refine X.rl5 ?_ | refine X.rl6 ?_ | refine X.rm8 ?_ | refine X.re1 ?_ | refine X.re2 ?_ | (simp only [X.df]) | (simp (disch := omega) only [wi]))
  refine mw_read rfl rfl rfl rfl rfl (fun w4 k4 => ow_load1 tab (a3.no k4.kp) rfl rfl rfl rfl (v := u32 r.1) rfl fin) (fun _ => ⟨_, rfl⟩) ?_
  repeat (first | refine X.r1 ?_ | refine X.r2 ?_ | refine X.r4 ?_ | refine X.r3 ?_ | refine X.rm1 ?_ | refine X.rm2 ?_ | refine X.rm3 ?_ | refine X.rm4 ?_ | refine X.rm5 ?_ | refine X.rl11 ?_ | refine X.rl1 ?_ | refine X.rl2 ?_ | refine X.rl3 ?_ | refine X.rl5 ?_ | refine X.rl6 ?_ | refine X.rm8 ?_ | refine X.re1 ?_ | refine X.re2 ?_ | (simp only [X.df]) | (simp (disch := omega) only [wi]))
  refine mw_read rfl rfl rfl rfl rfl (fun w4 k4 => ow_load1 tab (b3.no k4.kp) rfl rfl rfl rfl (v := u32 s.1) rfl fin) (fun _ => ⟨_, rfl⟩) ?_
  repeat (first | refine X.r1 ?_ | refine X.r2 ?_ | refine X.r4 ?_ | refine X.r3 ?_ | refine X.rm1 ?_ | refine X.rm2 ?_ | refine X.rm3 ?_ | refine X.rm4 ?_ | refine X.rm5 ?_ | refine X.rl11 ?_ | refine X.rl1 ?_ | refine X.rl2 ?_ | refine X.rl3 ?_ | refine X.rl5 ?_ | refine X.rl6 ?_ | refine X.rm8 ?_ | refine X.re1 ?_ | refine X.re2 ?_ | (simp only [X.df]) | (simp (disch := omega) only [wi]))
  refine mw_read rfl rfl rfl rfl rfl (fun w4 k4 => ow_loadAt tab (g := w0.heap.size) (o := 0 + 1) (vs := cb r.2) (Blk.at_ (a3.no k4.kp) 1) rfl rfl rfl rfl rfl hlr fin) (fun _ => ⟨_, rfl⟩) ?_
  repeat (first | refine X.r1 ?_ | refine X.r2 ?_ | refine X.r4 ?_ | refine X.r3 ?_ | refine X.rm1 ?_ | refine X.rm2 ?_ | refine X.rm3 ?_ | refine X.rm4 ?_ | refine X.rm5 ?_ | refine X.rl11 ?_ | refine X.rl1 ?_ | refine X.rl2 ?_ | refine X.rl3 ?_ | refine X.rl5 ?_ | refine X.rl6 ?_ | refine X.rm8 ?_ | refine X.re1 ?_ | refine X.re2 ?_ | (simp only [X.df]) | (simp (disch := omega) only [wi]))
  refine mw_read rfl rfl rfl rfl rfl (fun w4 k4 => ow_loadAt tab (g := w1.heap.size) (o := 0 + 1) (vs := cb s.2) (Blk.at_ (b3.no k4.kp) 1) rfl rfl rfl rfl rfl hls fin) (fun _ => ⟨_, rfl⟩) ?_
  repeat (first | refine X.r1 ?_ | refine X.r2 ?_ | refine X.r4 ?_ | refine X.r3 ?_ | refine X.rm1 ?_ | refine X.rm2 ?_ | refine X.rm3 ?_ | refine X.rm4 ?_ | refine X.rm5 ?_ | refine X.rl11 ?_ | refine X.rl1 ?_ | refine X.rl2 ?_ | refine X.rl3 ?_ | refine X.rl5 ?_ | refine X.rl6 ?_ | refine X.rm8 ?_ | refine X.re1 ?_ | refine X.re2 ?_ | (simp only [X.df]) | (simp (disch := omega) only [wi]))
  refine X.act ?_
  refine X.call rfl rfl Try.func82 (cmpU_calls r.1 s.1 w3) ?_
  rintro _ w4 ⟨rfl, rfl⟩
  refine mid_a Gn.refl ?_
  repeat (first | refine X.r1 ?_ | refine X.r2 ?_ | refine X.r4 ?_ | refine X.r3 ?_ | refine X.rm1 ?_ | refine X.rm2 ?_ | refine X.rm3 ?_ | refine X.rm4 ?_ | refine X.rm5 ?_ | refine X.rl11 ?_ | refine X.rl1 ?_ | refine X.rl2 ?_ | refine X.rl3 ?_ | refine X.rl5 ?_ | refine X.rl6 ?_ | refine X.rm8 ?_ | refine X.re1 ?_ | refine X.re2 ?_ | (simp only [X.df]) | (simp (disch := omega) only [wi]))
  refine X.act ?_
  refine X.call rfl rfl Try.func83 (dcmp_calls r.2 s.2 hr hs w3) ?_
  rintro _ w4 ⟨rfl, k4⟩
  refine mid_a k4 ?_
  repeat (first | refine X.r1 ?_ | refine X.r2 ?_ | refine X.r4 ?_ | refine X.r3 ?_ | refine X.rm1 ?_ | refine X.rm2 ?_ | refine X.rm3 ?_ | refine X.rm4 ?_ | refine X.rm5 ?_ | refine X.rl11 ?_ | refine X.rl1 ?_ | refine X.rl2 ?_ | refine X.rl3 ?_ | refine X.rl5 ?_ | refine X.rl6 ?_ | refine X.rm8 ?_ | refine X.re1 ?_ | refine X.re2 ?_ | (simp only [X.df]) | (simp (disch := omega) only [wi]))
  refine X.act ?_
  refine ow_buildE tab rfl rfl rfl (two64 _ _) (fun w5 k5 b5 s5 => ?_)
  refine mid_a (k4.trans k5) ?_
  repeat (first | refine X.r1 ?_ | refine X.r2 ?_ | refine X.r4 ?_ | refine X.r3 ?_ | refine X.rm1 ?_ | refine X.rm2 ?_ | refine X.rm3 ?_ | refine X.rm4 ?_ | refine X.rm5 ?_ | refine X.rl11 ?_ | refine X.rl1 ?_ | refine X.rl2 ?_ | refine X.rl3 ?_ | refine X.rl5 ?_ | refine X.rl6 ?_ | refine X.rm8 ?_ | refine X.re1 ?_ | refine X.re2 ?_ | (simp only [X.df]) | (simp (disch := omega) only [wi]))
  refine X.act ?_
  refine X.call rfl rfl Try.func81 (or_calls _ _ _ w5 b5) ?_
  rintro _ w6 ⟨rfl, rfl⟩
  refine mid_a (k4.trans k5) ?_
  repeat (first | refine X.r1 ?_ | refine X.r2 ?_ | refine X.r4 ?_ | refine X.r3 ?_ | refine X.rm1 ?_ | refine X.rm2 ?_ | refine X.rm3 ?_ | refine X.rm4 ?_ | refine X.rm5 ?_ | refine X.rl11 ?_ | refine X.rl1 ?_ | refine X.rl2 ?_ | refine X.rl3 ?_ | refine X.rl5 ?_ | refine X.rl6 ?_ | refine X.rm8 ?_ | refine X.re1 ?_ | refine X.re2 ?_ | (simp only [X.df]) | (simp (disch := omega) only [wi]))
  repeat (first | refine X.p1 ?_ | refine X.p2 ?_ | refine X.p6 ?_ | refine X.p7 ?_ | refine X.p0 ?_ | refine X.p3 ?_ | refine X.p4 ?_ | refine X.p5 ?_ | refine X.p8 ?_ | refine X.p9 ?_ | refine X.q1 ?_ | refine X.q2 ?_ | refine X.q3 ?_ | refine X.q4 ?_ | refine X.q5 ?_ | refine X.q6 ?_ | refine X.q7 ?_ | refine X.q8 ?_ | refine X.q9 ?_ | refine X.q0 ?_ | refine X.m1 ?_ | refine X.m2 ?_ | refine X.m3 ?_ | refine X.m4 ?_ | refine X.m5 ?_ | refine X.m6 ?_ | refine X.l11 ?_ | refine X.l1 ?_ | refine X.l2 ?_ | refine X.l3 ?_ | refine X.l4 ?_ | refine X.l5 ?_ | refine X.l10 ?_ | refine X.l6 ?_ | refine X.l7 ?_ | refine X.l8 ?_ | refine X.l9 ?_ | refine X.m7 ?_ | refine X.m8 ?_ | (refine X.s1 ?_; intro w hw) | (refine X.s2 ?_; intro w hw) | refine X.e1 ?_ | refine X.e2 ?_ | (simp only [X.df]) | (simp (disch := omega) only [wi]))
  exact xw_ret (vs := [_]) Try.results64 ⟨rfl, trivial⟩ ⟨by rw [cmpR_eq hr hs]; rfl, (((k1.trans k2).trans k3).trans k4).trans k5⟩
end Go.Proofs.Ytbfpgigbakhplaa.Ord
