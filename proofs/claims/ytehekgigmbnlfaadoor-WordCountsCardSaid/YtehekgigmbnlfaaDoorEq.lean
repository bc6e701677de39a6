/- Go's == on arrays and structs without pointers: it is equality of what they are made of. -/
import Derived.Test.YtehekgigmbnlfaaDoorBy
import Derived.Laws.StructEq
set_option linter.unusedVariables false
set_option linter.unusedSimpArgs false
namespace Go.Proofs.YtehekgigmbnlfaaDoor.Eqs
open Go.RowKit Go.Proofs.YtehekgigmbnlfaaDoor.Sx Go.Proofs.YtehekgigmbnlfaaDoor.Mx Go.Proofs.YtehekgigmbnlfaaDoor.Bw Go.Proofs.YtehekgigmbnlfaaDoor.By
variable {P : Program}

/-- The value of a type out of its cells. -/
def mkv (D : TypeDesc) (cs : List Value) : Value := if aggB D = true then .agg cs.toArray else cs.headD undef

/-- '==' at a type decides equality of the data. -/
structure EqT (P : Program) (t : TypeId) (D : TypeDesc) {T : Type} [DecidableEq T] (cells : T → List Value) (ok : T → Prop) (dep sz : Nat) : Prop where
  desc : P.underlying t = some D
  size : (P.info? t).map (·.size) = some sz
  len : ∀ x, ok x → (cells x).length = sz
  one : aggB D = false → sz = 1
  eq : ∀ k w x y, dep ≤ k → ok x → ok y → (Op.equalIn k t (mkv D (cells x)) (mkv D (cells y))).run P w = .ok (decide (x = y)) w

theorem run_part {t : TypeId} {D : TypeDesc} {sz : Nat} (hD : P.underlying t = some D) (hs : (P.info? t).map (·.size) = some sz) (h1 : aggB D = false → sz = 1) {xs : Array Value} {o : Nat} {cs : List Value} (hcs : (xs.toList.drop o).take sz = cs) (hl : cs.length = sz) (w : World) :
    (part t xs o).run P w = .ok (mkv D cs) w := by
  unfold part mkv
  rw [run_ok_bind (run_isAgg hD w)]
  cases ha : aggB D with
  | true =>
    simp only [if_true]
    rw [run_ok_bind (Mx.run_sizeOf hs w)]
    have : xs.extract o (o + sz) = cs.toArray := by
      apply Array.ext'
      rw [← hcs]
      simp [Array.toList_extract, List.extract_eq_take_drop]
    rw [this]
    rfl
  | false =>
    have h1 := h1 ha
    subst h1
    simp only [Bool.false_eq_true, if_false]
    match cs, hl with
    | [v], _ =>
      have hv : xs[o]? = some v := by
        have := congrArg (fun l : List Value => l[0]?) hcs
        simpa using this
      rw [hv]
      rfl

theorem eq_u {w : Nat} (k : IntKind) {t : TypeId} (ht : P.underlying t = some (.int k)) (hs : (P.info? t).map (·.size) = some 1) : EqT P t (.int k) (fun b : BitVec w => [.int k b.toNat]) (fun _ => True) 1 1 where
  desc := ht
  size := hs
  len := fun _ _ => rfl
  one := fun _ => rfl
  eq := fun d w x y hd _ _ => by
    obtain ⟨d, rfl⟩ : ∃ m, d = m + 1 := ⟨d - 1, by omega⟩
    show (Op.equalIn (d + 1) t (.int k x.toNat) (.int k y.toNat)).run P w = _
    rw [run_equalIn_int w d t k k _ _ ht]
    congr 1
    rw [Bool.eq_iff_iff]
    simp only [beq_iff_eq, decide_eq_true_eq]
    exact ⟨fun h => BitVec.eq_of_toNat_eq (by omega), fun h => by rw [h]⟩
theorem eq_i64 {t : TypeId} (ht : P.underlying t = some (.int .i64)) (hs : (P.info? t).map (·.size) = some 1) : EqT P t (.int .i64) (fun n : Int => [.int .i64 n]) (fun _ => True) 1 1 where
  desc := ht
  size := hs
  len := fun _ _ => rfl
  one := fun _ => rfl
  eq := fun d w x y hd _ _ => by
    obtain ⟨d, rfl⟩ : ∃ m, d = m + 1 := ⟨d - 1, by omega⟩
    show (Op.equalIn (d + 1) t (.int .i64 x) (.int .i64 y)).run P w = _
    rw [run_equalIn_int w d t .i64 .i64 _ _ ht]
    congr 1
theorem eq_bool {t : TypeId} (ht : P.underlying t = some .bool) (hs : (P.info? t).map (·.size) = some 1) : EqT P t .bool (fun b : Bool => [.bool b]) (fun _ => True) 1 1 where
  desc := ht
  size := hs
  len := fun _ _ => rfl
  one := fun _ => rfl
  eq := fun d w x y hd _ _ => by
    obtain ⟨d, rfl⟩ : ∃ m, d = m + 1 := ⟨d - 1, by omega⟩
    show (Op.equalIn (d + 1) t (.bool x) (.bool y)).run P w = _
    rw [run_equalIn_bool' w d t _ _ ht]
    congr 1
theorem eq_str {t : TypeId} (ht : P.underlying t = some .string) (hs : (P.info? t).map (·.size) = some 1) : EqT P t .string (fun s : List Byte => [str s]) (fun _ => True) 1 1 where
  desc := ht
  size := hs
  len := fun _ _ => rfl
  one := fun _ => rfl
  eq := fun d w x y hd _ _ => by
    obtain ⟨d, rfl⟩ : ∃ m, d = m + 1 := ⟨d - 1, by omega⟩
    show (Op.equalIn (d + 1) t (str x) (str y)).run P w = _
    rw [run_equalIn_string w d t _ _ ht, ByteArray.toList_eq, ByteArray.toList_eq]
    congr 1
    rw [Bool.eq_iff_iff]
    simp only [beq_iff_eq, decide_eq_true_eq]
    constructor
    · intro h
      have := congrArg (List.map UInt8.toBitVec) h
      rw [← ofBA_bs x, ← ofBA_bs y]
      exact this
    · intro h; rw [h]

theorem flat_piece {T : Type} {cells : T → List Value} {sz : Nat} : ∀ (l : List T) (h : ∀ x ∈ l, (cells x).length = sz) (i : Nat) (hi : i < l.length), ((l.flatMap cells).drop (i * sz)).take sz = cells l[i]
  | x :: l, h, 0, _ => by
    have hx := h x (by simp)
    simp only [List.flatMap_cons, Nat.zero_mul, List.drop_zero, List.getElem_cons_zero]
    rw [List.take_append_of_le_length (by omega), List.take_of_length_le (by omega)]
  | x :: l, h, i + 1, hi => by
    have hx := h x (by simp)
    simp only [List.flatMap_cons, List.getElem_cons_succ]
    rw [show (i + 1) * sz = (cells x).length + i * sz from by rw [Nat.succ_mul, hx]; omega, List.drop_append]
    rw [List.drop_of_length_le (by omega), show (cells x).length + i * sz - (cells x).length = i * sz from by omega, List.nil_append]
    exact flat_piece l (fun y hy => h y (by simp [hy])) i (by simpa using hi)

/-- A loop that asks each element, until one says no. -/
theorem run_all {α : Type} (g : α → Sem Bool) (b : α → Bool) : ∀ (l : List α), (∀ a ∈ l, ∀ w, (g a).run P w = .ok (b a) w) → ∀ (w : World) (f : α → Option Bool × Unit → Sem (ForInStep (Option Bool × Unit))),
    (∀ a r w, (f a r).run P w = ((g a).run P w).andThen fun x w' => .ok (if x = true then ForInStep.yield (none, ()) else ForInStep.done (some false, ())) w') →
    (forIn l (none, ()) f).run P w = .ok (if l.all b = true then (none, ()) else (some false, ())) w
  | [], _, w, f, _ => by simp
  | a :: l, h, w, f, hf => by
    simp only [List.forIn_cons]
    rw [Sem.run_bind, hf, h a (by simp) w]
    simp only [Result.andThen_ok]
    by_cases hb : b a = true
    · have e : (a :: l).all b = l.all b := by simp [hb]
      rw [e, if_pos hb]
      exact run_all g b l (fun x hx => h x (by simp [hx])) w f hf
    · have e : (a :: l).all b = false := by simp [hb]
      rw [e, if_neg hb, if_neg (by decide)]
      rfl

theorem eq_array {t e : TypeId} {De : TypeDesc} {n : Nat} {T : Type} [DecidableEq T] {cells : T → List Value} {ok : T → Prop} {dep sz : Nat} (ht : P.underlying t = some (.array n e)) (hs : (P.info? t).map (·.size) = some (n * sz)) (he : EqT P e De cells ok dep sz) :
    EqT P t (.array n e) (fun l : List T => l.flatMap cells) (fun l => l.length = n ∧ ∀ x ∈ l, ok x) (dep + 1) (n * sz) where
  desc := ht
  size := hs
  len := fun l hl => by
    rw [List.length_flatMap]
    have : ∀ (m : List T), (∀ x ∈ m, ok x) → (m.map fun x => (cells x).length).sum = m.length * sz := by
      intro m
      induction m with
      | nil => intro _; simp
      | cons x m ih => intro h; simp only [List.map_cons, List.sum_cons, List.length_cons, ih (fun y hy => h y (by simp [hy])), he.len x (h x (by simp)), Nat.succ_mul]; omega
    rw [this l hl.2, hl.1]
  one := fun h => by simp [aggB] at h
  eq := fun d w x y hd hx hy => by
    obtain ⟨d, rfl⟩ : ∃ m, d = m + 1 := ⟨d - 1, by omega⟩
    show (Op.equalIn (d + 1) t (.agg (x.flatMap cells).toArray) (.agg (y.flatMap cells).toArray)).run P w = _
    have hp : ∀ (x : List T), x.length = n ∧ (∀ a ∈ x, ok a) → ∀ i (hi : i < x.length) w, (part e (x.flatMap cells).toArray (i * sz)).run P w = .ok (mkv De (cells x[i])) w := fun x hx i hi w =>
      run_part he.desc he.size he.one (by
        show ((x.flatMap cells).drop (i * sz)).take sz = _
        exact flat_piece x (fun a ha => he.len a (hx.2 a ha)) i hi) (he.len _ (hx.2 _ (List.getElem_mem hi))) w
    unfold Op.equalIn
    rw [run_ok_bind (Go.run_underlying ht w)]
    simp only
    have hsz : (List.range' ([:n] : Std.Legacy.Range).start ([:n] : Std.Legacy.Range).size ([:n] : Std.Legacy.Range).step) = List.range' 0 n := by simp [Std.Legacy.Range.size]
    rw [run_ok_bind (Mx.run_sizeOf he.size w), Std.Legacy.Range.forIn_eq_forIn_range', hsz]
    have hall := run_all (P := P) (fun i => do
      let a ← part e (x.flatMap cells).toArray (i * sz)
      let b ← part e (y.flatMap cells).toArray (i * sz)
      Op.equalIn d e a b) (fun i => decide (x[i]? = y[i]?)) (List.range' 0 n) (fun i hi w => by
        have hin : i < n := by simpa using hi
        have hxi : i < x.length := by omega
        have hyi : i < y.length := by omega
        show Sem.run P (part e (x.flatMap cells).toArray (i * sz) >>= fun a => part e (y.flatMap cells).toArray (i * sz) >>= fun b => Op.equalIn d e a b) w = _
        rw [run_ok_bind (hp x hx i hxi w), run_ok_bind (hp y hy i hyi w), he.eq d w _ _ (by omega) (hx.2 _ (List.getElem_mem hxi)) (hy.2 _ (List.getElem_mem hyi))]
        congr 1
        rw [List.getElem?_eq_getElem hxi, List.getElem?_eq_getElem hyi, Bool.eq_iff_iff]
        simp) w
    rw [run_ok_bind (hall _ (fun i r w => by
      simp only [Sem.run_bind]
      cases (part e (x.flatMap cells).toArray (i * sz)).run P w with
      | halt h w1 => rfl
      | ok a w1 =>
        simp only [Result.andThen_ok]
        cases (part e (y.flatMap cells).toArray (i * sz)).run P w1 with
        | halt h w2 => rfl
        | ok b w2 =>
          simp only [Result.andThen_ok]
          cases (Op.equalIn d e a b).run P w2 with
          | halt h w3 => rfl
          | ok r w3 => cases r <;> rfl))]
    have hxy : (List.range' 0 n).all (fun i => decide (x[i]? = y[i]?)) = decide (x = y) := by
      rw [Bool.eq_iff_iff]
      simp only [List.all_eq_true, decide_eq_true_eq]
      constructor
      · intro h
        apply List.ext_getElem?
        intro i
        by_cases hi : i < n
        · exact h i (by simpa using hi)
        · rw [List.getElem?_eq_none (by omega), List.getElem?_eq_none (by omega)]
      · intro h i _
        rw [h]
    rw [hxy]
    cases decide (x = y) <;> rfl

/-- Two data of unlike kinds, one behind the other, in a struct. -/
theorem eq_fields_cons {d : Nat} {xs ys : Array Value} {f : Field} {fs : List Field} {D : TypeDesc} {T : Type} [DecidableEq T] {cells : T → List Value} {ok : T → Prop} {dep sz : Nat} (hn : (f.name == "_") = false) (he : EqT P f.type D cells ok dep sz) (hd : dep ≤ d) {x y : T} (hx : ok x) (hy : ok y)
    (hpx : (xs.toList.drop f.offset).take sz = cells x) (hpy : (ys.toList.drop f.offset).take sz = cells y) {r : Bool} {w : World} (hr : (Op.eqFields d xs ys fs).run P w = .ok r w) :
    (Op.eqFields d xs ys (f :: fs)).run P w = .ok (decide (x = y) && r) w := by
  have hn' : f.name ≠ "_" := by simpa using hn
  simp only [Op.eqFields]
  rw [if_pos hn', run_ok_bind (run_part he.desc he.size he.one hpx (he.len x hx) w), run_ok_bind (run_part he.desc he.size he.one hpy (he.len y hy) w), run_ok_bind (he.eq d w x y hd hx hy)]
  cases decide (x = y) with
  | true => simpa using hr
  | false => rfl

theorem eq_map {t : TypeId} {D : TypeDesc} {T U : Type} [DecidableEq T] [DecidableEq U] {cells : T → List Value} {ok : T → Prop} {dep sz : Nat} (h : EqT P t D cells ok dep sz) (g : U → T) (hg : ∀ a b, g a = g b ↔ a = b) {ok' : U → Prop} (hok : ∀ a, ok' a → ok (g a)) : EqT P t D (fun a => cells (g a)) ok' dep sz where
  desc := h.desc
  size := h.size
  len := fun x hx => h.len _ (hok x hx)
  one := h.one
  eq := fun k w x y hk hx hy => by
    rw [h.eq k w _ _ hk (hok x hx) (hok y hy)]
    congr 1
    rw [Bool.eq_iff_iff]
    simp [hg]

theorem eq_struct2 {t : TypeId} {f1 f2 : Field} {D1 D2 : TypeDesc} {T1 T2 : Type} [DecidableEq T1] [DecidableEq T2] {c1 : T1 → List Value} {c2 : T2 → List Value} {o1 : T1 → Prop} {o2 : T2 → Prop} {d1 d2 s1 s2 : Nat} (ht : P.underlying t = some (.struct #[f1, f2])) (hs : (P.info? t).map (·.size) = some (s1 + s2)) (hp : P.stoodInHeld t = false)
    (n1 : (f1.name == "_") = false) (n2 : (f2.name == "_") = false) (off1 : f1.offset = 0) (off2 : f2.offset = s1) (h1 : EqT P f1.type D1 c1 o1 d1 s1) (h2 : EqT P f2.type D2 c2 o2 d2 s2) :
    EqT P t (.struct #[f1, f2]) (fun a : T1 × T2 => c1 a.1 ++ c2 a.2) (fun a => o1 a.1 ∧ o2 a.2) (max d1 d2 + 1) (s1 + s2) where
  desc := ht
  size := hs
  len := fun a h => by rw [List.length_append, h1.len _ h.1, h2.len _ h.2]
  one := fun h => by simp [aggB] at h
  eq := fun d w x y hd hx hy => by
    obtain ⟨d, rfl⟩ : ∃ m, d = m + 1 := ⟨d - 1, by omega⟩
    show (Op.equalIn (d + 1) t (.agg (c1 x.1 ++ c2 x.2).toArray) (.agg (c1 y.1 ++ c2 y.2).toArray)).run P w = _
    have hf : P.fieldsOf t = #[f1, f2] := by simp [Program.fieldsOf, ht]
    rw [run_equalIn_struct w d t _ _ (by rw [hf]; exact ht) hp, hf]
    have l1x := h1.len _ hx.1
    have l1y := h1.len _ hy.1
    have l2x := h2.len _ hx.2
    have l2y := h2.len _ hy.2
    have e2 := eq_fields_cons (P := P) (d := d) (xs := (c1 x.1 ++ c2 x.2).toArray) (ys := (c1 y.1 ++ c2 y.2).toArray) (f := f2) (fs := []) n2 h2 (by omega) hx.2 hy.2
      (by rw [off2, ← l1x, List.drop_left, List.take_of_length_le (by omega)]) (by rw [off2, ← l1y, List.drop_left, List.take_of_length_le (by omega)]) (r := true) (w := w) rfl
    have e1 := eq_fields_cons (P := P) (d := d) (xs := (c1 x.1 ++ c2 x.2).toArray) (ys := (c1 y.1 ++ c2 y.2).toArray) (f := f1) (fs := [f2]) n1 h1 (by omega) hx.1 hy.1
      (by rw [off1, List.drop_zero, ← l1x, List.take_left]) (by rw [off1, List.drop_zero, ← l1y, List.take_left]) e2
    rw [e1]
    congr 1
    rw [Bool.eq_iff_iff]
    simp [Prod.ext_iff]

section rules
variable {n : Nat} {Q : Exit → Act → World → Prop} {L : Ctx} {w : World} {ops : Array Oper} {rest : List Oper} {d : Nat} {ty : TypeId} {pos : String} {af : Array Edge}
/-- An element of an array that is no variable. -/
theorem ow_indexV (T : Tab P) {t e : TypeId} {De : TypeDesc} {x y : Operand} {cs : List Value} {m : Nat} {ik : IntKind} {i : Int} {v : Value} (hd : Nat.blt d n = true) (hx : ev L x = some (.agg cs.toArray)) (hy : ev L y = some (.int ik i)) (ht : T.ty t = some (.array m e)) (hte : T.ty e = some De) (hD : aggB De = false) (hz : T.sz e = some 1)
    (h0 : 0 ≤ i) (h1 : i < (m : Int)) (hv : cs[i.toNat]? = some v) (h : Ow P n ops Q rest ((d, v) :: L) w) : Ow P n ops Q (⟨some d, .index t x y, ty, pos, af, none⟩ :: rest) L w :=
  ow_run hd (fun a ha => by
    unfold execOp
    simp only [ha.ev hx, ha.ev hy, Instr.index]
    rw [run_ok_bind (a := v) (w' := w) (by
      rw [run_ok_bind (a := (ik, i)) (w' := w) rfl]
      simp only
      rw [run_ok_bind (Go.run_underlying (T.ty_ok _ _ ht) w)]
      simp only [h0, h1, and_self, if_true]
      rw [run_ok_bind (Mx.run_sizeOf (T.sz_ok _ _ hz) w), run_part (cs := [v]) (T.ty_ok _ _ hte) (T.sz_ok _ _ hz) (fun _ => rfl) (by
        have hlt : i.toNat < cs.length := by
          rcases Nat.lt_or_ge i.toNat cs.length with h | h
          · exact h
          · rw [List.getElem?_eq_none h] at hv; cases hv
        rw [List.getElem?_eq_getElem hlt] at hv
        cases hv
        rw [Nat.mul_one, List.drop_eq_getElem_cons hlt]
        rfl) rfl]
      simp [mkv, hD])]
    rfl) h
/-- '==' of two structs or arrays. -/
theorem ow_eqA {t t' : TypeId} {D : TypeDesc} {T : Type} [DecidableEq T] {cells : T → List Value} {ok : T → Prop} {dep sz : Nat} (he : EqT P t D cells ok dep sz) {x y : Operand} {a b : T} (hdep : Nat.ble dep 10000 = true) (hD : aggB D = true) (hg : P.eqGuardType P.depth t = false) (ha : ok a) (hb : ok b) (hd : Nat.blt d n = true)
    (hx : ev L x = some (.agg (cells a).toArray)) (hy : ev L y = some (.agg (cells b).toArray)) (h : Ow P n ops Q rest ((d, .bool (decide (a = b))) :: L) w) : Ow P n ops Q (⟨some d, .binOp .eql t x y t', ty, pos, af, none⟩ :: rest) L w :=
  ow_run hd (run_binOp rfl hx hy (by
    rw [run_ok_bind (run_eqGuard_agg w .eql t x y _ _ hg), run_eql_struct]
    have := he.eq 10000 w a b (Nat.le_of_ble_eq_true hdep) ha hb
    simp only [mkv, hD, if_true] at this
    rw [this]; rfl)) h
theorem ow_neA {t t' : TypeId} {D : TypeDesc} {T : Type} [DecidableEq T] {cells : T → List Value} {ok : T → Prop} {dep sz : Nat} (he : EqT P t D cells ok dep sz) {x y : Operand} {a b : T} (hdep : Nat.ble dep 10000 = true) (hD : aggB D = true) (hg : P.eqGuardType P.depth t = false) (ha : ok a) (hb : ok b) (hd : Nat.blt d n = true)
    (hx : ev L x = some (.agg (cells a).toArray)) (hy : ev L y = some (.agg (cells b).toArray)) (h : Ow P n ops Q rest ((d, .bool (!decide (a = b))) :: L) w) : Ow P n ops Q (⟨some d, .binOp .neq t x y t', ty, pos, af, none⟩ :: rest) L w :=
  ow_run hd (run_binOp rfl hx hy (by
    rw [run_ok_bind (run_eqGuard_agg w .neq t x y _ _ hg), run_neq_struct]
    have := he.eq 10000 w a b (Nat.le_of_ble_eq_true hdep) ha hb
    simp only [mkv, hD, if_true] at this
    rw [this]; rfl)) h
end rules
end Go.Proofs.YtehekgigmbnlfaaDoor.Eqs
