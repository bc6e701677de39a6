/- Maps of one's own: what stands at each key, as a function. -/
import Derived.Test.YtnpnphcklmlchaaMg
import Derived.Maps.OwnSet
import Derived.DeepKeys4
set_option linter.unusedVariables false
set_option linter.unusedSimpArgs false
namespace Go.Proofs.Ytnpnphcklmlchaa.Mp
open Go.RowKit Go.Proofs.Ytnpnphcklmlchaa.Sx Go.Proofs.Ytnpnphcklmlchaa.Mx Go.Proofs.Ytnpnphcklmlchaa.By Go.Proofs.Ytnpnphcklmlchaa.Qx Go.Proofs.Ytnpnphcklmlchaa.Stm Go.Proofs.Ytnpnphcklmlchaa.X Go.Maps
variable {P : Program}
abbrev Dt := DataW Unit

/-! ### Keys -/
def Key (P : Program) (d : Nat) (t : TypeId) (cs : List Value) : Prop := ∃ L, P.keyLits d t cs = some L
theorem mapM_some {α β : Type} {f : α → Option β} : ∀ {l : List α}, (∀ a ∈ l, ∃ b, f a = some b) → ∃ bs, l.mapM f = some bs
  | [], _ => ⟨[], rfl⟩
  | a :: l, h => by
    obtain ⟨b, hb⟩ := h a (by simp)
    obtain ⟨bs, hbs⟩ := mapM_some (l := l) (fun x hx => h x (by simp [hx]))
    exact ⟨b :: bs, by simp [List.mapM_cons, hb, hbs]⟩
theorem key_int {d : Nat} {t : TypeId} {q : IntKind} {n : Int} (ht : P.underlying t = some (.int q)) (hw : (Lit.int q n).wf = true) : Key P (d + 1) t [.int q n] := ⟨[.int q n], by simp [Program.keyLits, ht, hw]⟩
theorem key_bool {d : Nat} {t : TypeId} {b : Bool} (ht : P.underlying t = some .bool) : Key P (d + 1) t [.bool b] := ⟨[.bool b], by simp [Program.keyLits, ht]⟩
theorem key_str {d : Nat} {t : TypeId} {s : ByteArray} (ht : P.underlying t = some .string) (hs : s.size ≤ maxLen) : Key P (d + 1) t [.string s] := ⟨[.string s.data.toList], by simp [Program.keyLits, ht, hs]⟩
theorem wf_u8 (b : Byte) : (Lit.int .u8 (b.toNat : Int)).wf = true := by
  have := b.isLt
  simp only [Lit.wf, Bool.and_eq_true, decide_eq_true_eq, IntKind.min, IntKind.max, IntKind.signed, IntKind.bits]
  simp
  omega
theorem key_bytes {d n : Nat} {t e : TypeId} (ht : P.underlying t = some (.array n e)) (he : P.underlying e = some (.int .u8)) (hc : P.cellsOf e = 1) (hct : P.cellsOf t = n) {l : List Byte} (hl : l.length = n) : Key P (d + 2) t (cb l) := by
  have hm : ∃ bs, (List.range n).mapM (fun i => P.keyLits (d + 1) e (((cb l).drop (i * P.cellsOf e)).take (P.cellsOf e))) = some bs := mapM_some (fun i hi => by
    have hi := List.mem_range.1 hi
    rw [hc, Nat.mul_one]
    have e1 : ((cb l).drop i).take 1 = [Value.int .u8 (l[i]'(by omega)).toNat] := by
      rw [List.drop_eq_getElem_cons (by rw [List.length_map]; omega)]
      simp [cb]
    rw [e1]
    exact key_int he (wf_u8 _))
  obtain ⟨bs, hbs⟩ := hm
  have step : ∀ d', (List.range n).mapM (fun i => P.keyLits d' e (((cb l).drop (i * P.cellsOf e)).take (P.cellsOf e))) = some bs → P.keyLits (d' + 1) t (cb l) = some bs.flatten := fun d' hb => by
    simp only [Program.keyLits, ht]
    rw [if_pos (by rw [List.length_map, hl, hct]), hb]
    rfl
  exact ⟨bs.flatten, step (d + 1) hbs⟩
theorem key_struct2 {d : Nat} {t : TypeId} {f1 f2 : Field} {c1 c2 : List Value} (ht : P.underlying t = some (.struct #[f1, f2])) (hn : (#[f1, f2].all (·.name != "_")) = true) (hlen : (c1 ++ c2).length = P.cellsOf t) (o1 : f1.offset = 0) (l1 : P.cellsOf f1.type = c1.length) (o2 : f2.offset = c1.length) (l2 : P.cellsOf f2.type = c2.length)
    (h1 : Key P d f1.type c1) (h2 : Key P d f2.type c2) : Key P (d + 1) t (c1 ++ c2) := by
  obtain ⟨L1, h1⟩ := h1
  obtain ⟨L2, h2⟩ := h2
  refine ⟨[L1, L2].flatten, ?_⟩
  simp only [Program.keyLits, ht]
  rw [if_pos ⟨hlen, hn⟩]
  have e1 : ((c1 ++ c2).drop f1.offset).take (P.cellsOf f1.type) = c1 := by rw [o1, l1]; simp
  have e2 : ((c1 ++ c2).drop f2.offset).take (P.cellsOf f2.type) = c2 := by rw [o2, l2]; simp
  simp only [List.mapM_cons, List.mapM_nil, e1, e2, h1, h2]
  rfl
theorem key_agg {k : TypeId} {cs : List Value} (hwide : (match P.underlying k with | some (.array _ _) | some (.struct _) => true | _ => false) = true) (hkt : P.keyType k = true) (hl : cs.length = P.cellsOf k) (h : Key P (P.types.size + 1) k cs) : ∃ kl, keyOf P k (.agg cs.toArray) = some kl := by
  obtain ⟨L, h⟩ := h
  have hf : (Value.agg cs.toArray).formed P k = true := by
    simp only [Value.formed]
    split at hwide <;> simp_all
  refine ⟨.string (keyBytes L), ?_⟩
  unfold keyOf
  split at hwide <;> first | (cases hwide; done) | (rename_i hk; simp only [hk, hkt, hf, Bool.and_self, if_true]; simp [Value.cells, h])
theorem key_i {k : TypeId} {q : IntKind} {n : Int} (hk : P.underlying k = some (.int q)) (hw : (Lit.int q n).wf = true) : keyOf P k (.int q n) = some (.int q n) := by simp [keyOf, mapKey, hk, hw]

/-! ### The map -/
/-- What stands at each key. -/
def Says (P : Program) (k e : TypeId) {κ ν : Type} (enc : κ → Value) (ok : κ → Prop) (V : ν → Value) (f : κ → Option ν) (D : Dt) : Prop :=
  IsMap D ∧ ∀ x, ok x → ∃ kl, keyOf P k (enc x) = some kl ∧ has D kl = (f x).isSome ∧ ∀ v, f x = some v → ∃ d, plainElem P e (V v) = some (d, []) ∧ ∀ z, D.atKey kl z = d
def mapI (P : Program) (b : Nat) (k e : TypeId) {κ ν : Type} (enc : κ → Value) (ok : κ → Prop) (V : ν → Value) (n : Nat) (f : κ → Option ν) : Stm.Item where
  own := true
  foot := fun g => g = b
  holds := fun w => ∃ D : Dt, w.ownsMap P k (plainElem P e) b n D ∧ Says P k e enc ok V f D
  inb := fun {w} ⟨D, h, _⟩ {g} hg => by subst hg; exact h.lt
  keep := fun {w w'} ⟨D, ⟨es, clock, hb, F, hs, hD⟩, h2⟩ hk => ⟨D, ⟨es, clock, (hk b rfl).trans hb, F, hs, hD⟩, h2⟩

def back : Dt → Option Value
  | .lit (.bool b) => some (.bool b)
  | .lit (.int q n) => some (.int q n)
  | .lit (.string l) => some (.string ⟨l.toArray⟩)
  | _ => none
theorem back_ok {e : TypeId} {v : Value} {d : Dt} {p : List MemPlace} (h : plainElem P e v = some (d, p)) : back d = some v := by
  unfold plainElem at h
  split at h
  · cases h; rfl
  · split at h
    · rename_i hc
      obtain ⟨rfl, _⟩ := hc
      cases h; rfl
    · cases h
  · split at h
    · cases h; rfl
    · cases h
  · cases h
theorem plain_inj {e : TypeId} {v v' : Value} {d : Dt} {p p' : List MemPlace} (h : plainElem P e v = some (d, p)) (h' : plainElem P e v' = some (d, p')) : v = v' := by
  have := (back_ok h).symm.trans (back_ok h')
  simpa using this

/-- The zero, or what stands there. -/
def atOr {ν : Type} (V : ν → Value) (z : Value) : Option ν → Value
  | some v => V v
  | none => z

section rules
variable {n : Nat} {Q : Exit → Act → World → Prop} {L : Ctx} {w w0 : World} {M0 M M' : List Stm.Item} {ops : Array Oper} {rest : List Oper} {d : Nat} {ty : TypeId} {pos : String} {af : Array Edge} {v : Value}
variable {κ ν : Type} {enc : κ → Value} {ok : κ → Prop} {V : ν → Value} {f : κ → Option ν} {k e t : TypeId} {b m : Nat}

theorem run_look (K : Keyed P k) (ht : P.underlying t = some (.map k e)) {z : Value} (hz : zeroOf P e = some z) {zd : Dt} {zp : List MemPlace} (hzd : plainElem P e z = some (zd, zp)) (h : (mapI P b k e enc ok V m f).holds w) {x : κ} (hx : ok x) (c : Bool) :
    (Instr.lookup t (.map (some b)) (enc x) c).run P w = .ok (if c then .tuple #[atOr V z (f x), .bool (f x).isSome] else atOr V z (f x)) w := by
  obtain ⟨D, hD, him, hs⟩ := h
  obtain ⟨kl, hkey, hhas, hat⟩ := hs x hx
  have hz' := run_zeroValue hz w
  have val : ∀ v ps, plainElem P e v = some (D.atKey kl zd, ps) → v = atOr V z (f x) := by
    intro v ps hv
    cases hf : f x with
    | none =>
      rw [hf] at hhas
      rw [atKey_of_not_has hhas zd] at hv
      exact plain_inj hv hzd
    | some y =>
      obtain ⟨dd, h1, h2⟩ := hat y hf
      rw [h2] at hv
      exact plain_inj hv h1
  cases c with
  | false =>
    obtain ⟨v, ps, hrun, hv⟩ := hD.lookup K ht hz' hzd hkey
    rw [hrun, val v ps hv]
    simp
  | true =>
    obtain ⟨v, ps, hrun, hv⟩ := hD.look_ok K ht hz' hzd hkey
    rw [hrun, val v ps hv, hhas]
    simp

/-- A new map. -/
theorem holds_new (hok : ∀ x, ok x → ∃ kl, keyOf P k (enc x) = some kl) (w : World) : (mapI P w.heap.size k e enc ok V 0 (fun _ => (none : Option ν))).holds (w.alloc (.map #[] 0)) :=
  ⟨.map [], World.ownsMap_made w P k _, isMap_empty, fun x hx => by
    obtain ⟨kl, h⟩ := hok x hx
    exact ⟨kl, h, rfl, fun v hv => by cases hv⟩⟩
theorem mkmap (enc : κ → Value) (ok : κ → Prop) (V : ν → Value) (hw : St w0 M0 M w) (hok : ∀ x, ok x → ∃ kl, keyOf P k (enc x) = some kl) (h : ∀ g w', Kp No w w' → St w0 M0 (mapI P g k e enc ok V 0 (fun _ => (none : Option ν)) :: M) w' → Ow P n ops Q rest ((d, .map (some g)) :: L) w') (hd : Nat.blt d n = true := by exact rfl) :
    Ow P n ops Q (⟨some d, .makeMap t none, ty, pos, af, none⟩ :: rest) L w :=
  ow_run hd (w' := w.alloc (.map #[] 0)) (v := .map (some w.heap.size)) (fun a ha => by
    unfold execOp
    simp only [Option.map_none]
    rw [run_ok_bind (run_makeMap (P := P) t w)]
    rfl) (h _ _ (kp_alloc _ _) (hw.new (kp_alloc _ _) (holds_new hok w) (fun g hg => Nat.le_of_eq (show g = _ from hg).symm)))
/-- A look-up. -/
theorem look {mo xo : Operand} {c : Bool} {x : κ} {z : Value} {zd : Dt} {zp : List MemPlace} (hw : St w0 M0 M w) (hp : Pick (mapI P b k e enc ok V m f) M M') (K : Keyed P k) (ht : P.underlying t = some (.map k e)) (hz : zeroOf P e = some z) (hzd : plainElem P e z = some (zd, zp)) (hx : ok x)
    (h : Ow P n ops Q rest ((d, if c then .tuple #[atOr V z (f x), .bool (f x).isSome] else atOr V z (f x)) :: L) w) (hm : ev L mo = some (.map (some b)) := by exact rfl) (hxo : ev L xo = some (enc x) := by exact rfl) (hd : Nat.blt d n = true := by exact rfl) :
    Ow P n ops Q (⟨some d, .lookup t mo xo c, ty, pos, af, none⟩ :: rest) L w :=
  ow_run hd (fun a ha => by
    unfold execOp
    simp only [ha.ev hm, ha.ev hxo]
    rw [run_ok_bind (run_look K ht hz hzd (hw.pick hp) hx c)]
    rfl) h
/-- The function, turned at a key. -/
def upd [DecidableEq κ] (f : κ → Option ν) (x : κ) (y : ν) : κ → Option ν := fun x' => if x' = x then some y else f x'
theorem says_put [DecidableEq κ] {D : Dt} (K : Keyed P k) (hinj : ∀ x x', ok x → ok x' → enc x = enc x' → x = x') (h : Says P k e enc ok V f D) {x : κ} (hx : ok x) {kl : Lit} (hkey : keyOf P k (enc x) = some kl) {y : ν} {dd : Dt} (hy : plainElem P e (V y) = some (dd, [])) : Says P k e enc ok V (upd f x y) (D.put kl dd) := by
  refine ⟨h.1.put kl dd, fun x' hx' => ?_⟩
  obtain ⟨kl', hk', hh, hat⟩ := h.2 x' hx'
  by_cases he : x' = x
  · subst he
    rw [hkey] at hk'
    cases hk'
    exact ⟨kl, hkey, by rw [has_put_same h.1 (K.key hkey)]; simp [upd], fun v hv => by
      simp [upd] at hv
      subst hv
      exact ⟨dd, hy, fun z => atKey_put_same h.1 (K.key hkey) dd z⟩⟩
  · have hne : kl' ≠ kl := fun e => he (hinj _ _ hx' hx (K.inj hk' (e ▸ hkey)))
    exact ⟨kl', hk', by rw [has_put_other hne, hh]; simp [upd, he], fun v hv => by
      simp [upd, he] at hv
      obtain ⟨d', h1, h2⟩ := hat v hv
      exact ⟨d', h1, fun z => by rw [atKey_put_other hne]; exact h2 z⟩⟩
/-- A map is written. -/
theorem put [DecidableEq κ] {mo xo yo : Operand} {x : κ} {y : ν} {dd : Dt} (hw : St w0 M0 M w) (hp : Put (mapI P b k e enc ok V m f) (mapI P b k e enc ok V (m + 1) (upd f x y)) M M') (K : Keyed P k) (ht : P.underlying t = some (.map k e)) (hinj : ∀ x x', ok x → ok x' → enc x = enc x' → x = x') (hn : m < maxLen) (hx : ok x) (hyd : plainElem P e (V y) = some (dd, []))
    (h : ∀ w', St w0 M0 M' w' → Ow P n ops Q rest L w') (hm : ev L mo = some (.map (some b)) := by exact rfl) (hxo : ev L xo = some (enc x) := by exact rfl) (hyo : ev L yo = some (V y) := by exact rfl) :
    Ow P n ops Q (⟨none, .mapUpdate t mo xo yo, ty, pos, af, none⟩ :: rest) L w := by
  obtain ⟨N, p1, p2⟩ := hp.ex
  obtain ⟨D, hD, hS⟩ := hw.pre.all (mapI P b k e enc ok V m f) (p1.mem_iff.2 (by simp))
  obtain ⟨kl, hkey, _, _⟩ := hS.2 x hx
  obtain ⟨w', hrun, hD', hg⟩ := hD.update K ht hn hkey hyd
  refine ow_skip (w' := w') (fun a ha => ?_) (h w' ?_)
  · unfold execOp
    simp only [ha.ev hm, ha.ev hxo, ha.ev hyo]
    rw [run_ok_bind hrun]
    rfl
  · refine hw.turn hp rfl ⟨hg.os, hg.tape, hg.output, hg.size, fun i hi hne => hg.block i hi (fun e => hne (by cases e; rfl))⟩ ⟨_, hD', says_put K hinj hS hx hkey hyd⟩ (fun g hg' => .inl hg')
end rules
end Go.Proofs.Ytnpnphcklmlchaa.Mp
