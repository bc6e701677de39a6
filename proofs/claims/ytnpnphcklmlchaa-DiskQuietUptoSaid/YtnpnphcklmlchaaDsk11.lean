/- A quiet disk: what is read is what was written last. -/
import Derived.Test.YtnpnphcklmlchaaDsk10
import Derived.Test.YtnpnphcklmlchaaSlt8
set_option linter.unusedVariables false
set_option linter.unusedSimpArgs false
namespace Go.Proofs.Ytnpnphcklmlchaa.Dsk
open Go.RowKit Go.Proofs.Ytnpnphcklmlchaa.Sx Go.Proofs.Ytnpnphcklmlchaa.Mx Go.Proofs.Ytnpnphcklmlchaa.Bw Go.Proofs.Ytnpnphcklmlchaa.By Go.Proofs.Ytnpnphcklmlchaa.Eqs Go.Proofs.Ytnpnphcklmlchaa.Qx Go.Proofs.Ytnpnphcklmlchaa.Ap Go.Proofs.Ytnpnphcklmlchaa.Mi Go.Proofs.Ytnpnphcklmlchaa.Stm Go.Proofs.Ytnpnphcklmlchaa.Fl Go.Proofs.Ytnpnphcklmlchaa.Mp Go.Proofs.Ytnpnphcklmlchaa.Mf Go.Proofs.Ytnpnphcklmlchaa.Dp Go.Proofs.Ytnpnphcklmlchaa.Bd Go.Maps
/-! What is done. -/
abbrev Ac := Int × Int × Byte × (Option Addr × Nat × Nat) × (Int × Bool)
def acC (a : Ac) : List Value := [Value.int .i64 a.1] ++ [Value.int .i64 a.2.1] ++ [Value.int .u8 a.2.2.1.toNat] ++ [Value.slice a.2.2.2.1.1 a.2.2.2.1.2.1 a.2.2.2.1.2.2] ++ ([Value.int .i64 a.2.2.2.2.1] ++ [Value.bool a.2.2.2.2.2])
def acsC (xs : List Ac) : List Value := xs.flatMap acC
theorem acsC_len (xs : List Ac) : (acsC xs).length = xs.length * 6 := flat_len xs (fun _ _ => rfl)
theorem acsC_get (xs : List Ac) (i f : Nat) (hi : i < xs.length) (hf : f < 6) (v : Value) (hv : (acC xs[i])[f]? = some v) : (acsC xs)[(i : Int).toNat * 6 + f]? = some v := by
  have h := piece_get (sz := 6) (cells := acC) xs (fun _ _ => rfl) i hi
  rw [Int.toNat_natCast]
  rw [← hv, ← h, List.getElem?_take, if_pos hf, List.getElem?_drop]
  rfl
/-! One quiet disk. -/
structure QuD (gb gp m : Nat) (D : Dk) (B : Bs) : Prop where
  b : OkB B
  nb : B.n = 20
  vb : D.vb = .slice (some ⟨gb, 0, none⟩) 20 20
  vp : D.vp = .slice (some ⟨gp, 0, none⟩) 20 20
  pl : D.vpl = .slice none 0 0
  dead : D.dead = false
  f : D.f = fun _ => none
  ops : 0 ≤ D.ops ∧ D.ops ≤ m
  ev : D.ev ≤ m
  k : D.k ≤ m
  ll : D.log.length = D.k * 258
  lo : oneCells D.log = true
  ps : ∀ i, (B.ps.getD i []).length ≤ m
theorem QuD.ok {gb gp m : Nat} {D : Dk} {B : Bs} (h : QuD gb gp m D B) (hm : m ≤ 8388608) : OkD gb gp D B := by
  have h1 := h.ops
  have h2 := h.ev
  have h3 := h.k
  exact ⟨h.b, by rw [h.vb, h.nb], by rw [h.vp, h.nb], ⟨h1.1, by omega⟩, by omega, by omega, fun i => by have := h.ps i; omega⟩
theorem QuD.ev0 {gb gp m : Nat} {D : Dk} {B : Bs} (h : QuD gb gp m D B) : evA D = false ∧ evZ D = false := by
  unfold evA evZ; rw [h.f]; exact ⟨rfl, rfl⟩
theorem qu_newN (n gb gp gc : Nat) (hn : n = 20) : QuD gb gp 0 (dk0' n gb gp gc) (bs0 n) := by
  refine ⟨bs0_ok n (by omega), hn, ?_, ?_, rfl, rfl, rfl, ⟨Int.le_refl 0, Int.le_refl 0⟩, Nat.le_refl 0, Nat.le_refl 0, ?_, rfl, fun i => ?_⟩
  · show Value.slice _ n n = _; rw [hn]
  · show Value.slice _ n n = _; rw [hn]
  · show ([] : List Value).length = 0 * 258; rfl
  · have : (bs0 n).ps.getD i [] = [] := by
      show (List.replicate n []).getD i [] = []
      rw [List.getD_eq_getElem?_getD, List.getElem?_replicate]; split <;> rfl
    rw [this]; exact Nat.le_refl _
theorem qu_new (gb gp gc : Nat) : QuD gb gp 0 (dk0' 20 gb gp gc) (bs0 20) := qu_newN 20 gb gp gc rfl
theorem QuD.up {gb gp m m' : Nat} {D : Dk} {B : Bs} (h : QuD gb gp m D B) (hm : m ≤ m') : QuD gb gp m' D B := by
  obtain ⟨h1, h2, h3, h4, h5, h6, h7, h8, h9, h10, h11, h12, h13⟩ := h
  exact ⟨h1, h2, h3, h4, h5, h6, h7, ⟨h8.1, by omega⟩, by omega, by omega, h11, h12, fun i => Nat.le_trans (h13 i) hm⟩
theorem qu_write {gb gp m : Nat} {D : Dk} {B : Bs} (h : QuD gb gp m D B) (at_ : Nat) (b : List Byte) (hb : b.length = 256) (vl u : Value) : QuD gb gp (m + 1) (wrD D at_ b vl) (wrB D B at_ b u) ∧ (wrB D B at_ b u).bl = B.bl.set at_ b := by
  obtain ⟨ha, hz⟩ := h.ev0
  have hh := h
  obtain ⟨h1, h2, h3, h4, h5, h6, h7, h8, h9, h10, h11, h12, h13⟩ := h
  have ha2 : evA (opD D) = false := ha
  have hz2 : evZ (opD D) = false := hz
  have eB : wrB D B at_ b u = layB B at_ (D.ops + 1) b u := by unfold wrB; rw [ha, if_neg (by decide)]
  have eD : wrD D at_ b vl = evD (opD D) (rwC 2 at_ b) vl := rfl
  have ek : (evD (opD D) (rwC 2 at_ b) vl).k = D.k + 1 := by show (if evA (opD D) then (opD D).k else (opD D).k + 1) = _; rw [ha2]; rfl
  have el : (evD (opD D) (rwC 2 at_ b) vl).log = D.log ++ rwC 2 at_ b := by show (if evA (opD D) then (opD D).log else (opD D).log ++ rwC 2 at_ b) = _; rw [ha2]; rfl
  have ed : (evD (opD D) (rwC 2 at_ b) vl).dead = false := by show ((opD D).dead || evA (opD D) || evZ (opD D)) = _; rw [ha2, hz2, show (opD D).dead = false from h6]; rfl
  rw [eB, eD]
  refine ⟨⟨layB_ok h1 at_ _ b hb u, h2, h3, h4, h5, ed, h7, ⟨?_, ?_⟩, ?_, ?_, ?_, ?_, fun i => ?_⟩, rfl⟩
  · show 0 ≤ D.ops + 1; omega
  · show D.ops + 1 ≤ ((m + 1 : Nat) : Int); omega
  · show D.ev + 1 ≤ m + 1; omega
  · rw [ek]; omega
  · rw [ek, el, List.length_append, h11, rwC_len _ _ hb, Nat.add_mul, Nat.one_mul]
  · rw [el]; exact oneApp _ _ h12 (rwC_one _ _ _)
  · show ((B.ps.set at_ (B.ps.getD at_ [] ++ [(D.ops + 1, b)])).getD i []).length ≤ m + 1
    rw [List.getD_eq_getElem?_getD, List.getElem?_set]
    have h14 := h13 at_
    have h15 := h13 i
    rw [List.getD_eq_getElem?_getD] at h15
    split
    · split
      · simp only [Option.getD_some, List.length_append, List.length_singleton]; omega
      · simp
    · omega
theorem qu_read {gb gp m : Nat} {D : Dk} {B : Bs} (h : QuD gb gp m D B) (at_ : Int) (b : List Byte) (hb : b.length = 256) (vl : Value) : QuD gb gp (m + 1) (rdD D at_ b vl) B := by
  obtain ⟨h1, h2, h3, h4, h5, h6, h7, h8, h9, h10, h11, h12, h13⟩ := h
  refine ⟨h1, h2, h3, h4, h5, h6, h7, ⟨?_, ?_⟩, ?_, ?_, ?_, ?_, fun i => Nat.le_succ_of_le (h13 i)⟩
  · show 0 ≤ D.ops + 1; omega
  · show D.ops + 1 ≤ ((m + 1 : Nat) : Int); omega
  · show D.ev ≤ m + 1; omega
  · show D.k + 1 ≤ m + 1; omega
  · show (D.log ++ _).length = (D.k + 1) * 258; rw [List.length_append, h11, rwC_len _ _ hb, Nat.add_mul, Nat.one_mul]
  · exact oneApp _ _ h12 (rwC_one _ _ _)
theorem qu_len {gb gp m : Nat} {D : Dk} {B : Bs} (h : QuD gb gp m D B) (i : Nat) (hi : i < 20) : (B.bl.getD i []).length = 256 := by
  have hi' : i < B.bl.length := by rw [h.b.nb, h.nb]; exact hi
  rw [List.getD_eq_getElem?_getD, List.getElem?_eq_getElem hi']
  exact h.b.b256 _ (List.getElem_mem _)
/-! What stands where. -/
def Stands (bl : List (List Byte)) (f : Int → Option Byte) : Prop := bl.length = 20 ∧ ∀ j : Nat, j < 20 → bl.getD j [] = fb ((f j).getD 0)
theorem stands_new : Stands (List.replicate 20 (zb 256)) (fun _ => none) := ⟨List.length_replicate .., fun j hj => by
  rw [List.getD_eq_getElem?_getD, List.getElem?_replicate, if_pos hj]; rfl⟩
theorem stands_set {bl : List (List Byte)} {f : Int → Option Byte} (h : Stands bl f) (n : Nat) (hn : n < 20) (x : Byte) : Stands (bl.set n (fb x)) (upd f (n : Int) x) := ⟨by rw [List.length_set, h.1], fun j hj => by
  have h2 := h.2 j hj
  rw [List.getD_eq_getElem?_getD] at h2 ⊢
  rw [List.getElem?_set]
  by_cases e : n = j
  · subst e
    rw [if_pos rfl, if_pos (by rw [h.1]; exact hn)]
    simp [upd]
  · rw [if_neg e, h2]
    have : ¬ ((j : Int) = (n : Int)) := fun h => e (by omega)
    simp [upd, this]⟩
theorem tmod20 (a : Int) : ∃ n : Nat, n < 20 ∧ ((a.tmod 20 = (n : Int)) ∨ (a.tmod 20 = -(n : Int) ∧ 0 < n)) := by
  rcases Int.eq_nat_or_neg a with ⟨k, rfl | rfl⟩
  · exact ⟨k % 20, Nat.mod_lt _ (by decide), .inl (by rw [show (20 : Int) = ((20 : Nat) : Int) from rfl, ← Int.ofNat_tmod])⟩
  · refine ⟨k % 20, Nat.mod_lt _ (by decide), ?_⟩
    have e : (-(k : Int)).tmod 20 = -((k % 20 : Nat) : Int) := by rw [Int.neg_tmod, show (20 : Int) = ((20 : Nat) : Int) from rfl, ← Int.ofNat_tmod]
    rcases Nat.eq_zero_or_pos (k % 20) with h | h
    · left; rw [e, h]; rfl
    · right; exact ⟨e, h⟩
/-! A disk as one thing. -/
def dsS (gd gb gp : Nat) (D : Dk) (B : Bs) : Stm.Item := starI (dsI gd gb gp D B)
theorem star_starI_own (l : List Stm.Item) : (starI l).own = true := rfl
theorem dsI_own (gd gb gp : Nat) (D : Dk) (B : Bs) : ∀ i ∈ dsI gd gb gp D B, i.own = true := by
  intro i hi
  simp only [dsI, List.mem_cons, List.not_mem_nil, or_false] at hi
  rcases hi with rfl | rfl | rfl | rfl | rfl | rfl <;> rfl
theorem ds_pre {gd gb gp : Nat} {D : Dk} {B : Bs} {w0 w : World} {M0 M M' : List Stm.Item} (hw : St w0 M0 M w) (hp : Pick (dsS gd gb gp D B) M M') : Pre (dsI gd gb gp D B) w := Slt.star_pre (hw.pick hp)
section rules
variable {P : Program} {n : Nat} {L : Ctx} {w w0 : World} {M0 M M' : List Stm.Item} {ops : Array Oper} {rest : List Oper} {d : Nat} {ty : TypeId} {pos : String} {af : Array Edge}
variable [C : X.TC P] {l : List Oper} {kd : Ks} {F : Nat → New} {Kt : Kont} {π : List Nat} {z : World} {K : Nat → Prop} {i : Nat} {g : Option (Nat × Bool)} {b : Bool}
omit C in
theorem yneA {t t' : TypeId} {D : TypeDesc} {T : Type} [DecidableEq T] {cells : T → List Value} {ok : T → Prop} {dep sz : Nat} (he : EqT P t D cells ok dep sz) {x y : Operand} {a c : T} (hdep : Nat.ble dep 10000 = true) (hD : aggB D = true) (hgt : P.eqGuardType P.depth t = false) (ha : ok a) (hb : ok c)
    (h : Y.Nw P n l kd F Kt π z K ((d, .bool (!decide (a = c))) :: L) w) (ho : nth l i = some ⟨some d, .binOp .neq t x y t', ty, pos, af, g⟩ := by exact rfl) (hk : k3 (kd i) = .quiet := by exact rfl) (hd : Nat.blt d n = true := by exact rfl) (hg : Mi.wantB l.toArray L g = some b := by exact rfl)
    (hx : ev L x = some (.agg (cells a).toArray) := by exact rfl) (hy : ev L y = some (.agg (cells c).toArray) := by exact rfl) (hb' : b = true := by first | (with_reducible exact rfl) | decide | (simp <;> fail)) : Y.Nw P n l kd F Kt (i :: π) z K L w :=
  Y.nw_any ho hk hd hg hb' (fun w0 => ow_neA he hdep hD hgt ha hb hd hx hy fin) (fun _ => ⟨_, rfl⟩) h
end rules
attribute [local irreducible] Ow Cw Xw Mw
set_option maxHeartbeats 4000000
theorem intKey (x : Int) (h : I64 x) : ∃ kl, keyOf Try.prog 3 (i64v x) = some kl := ⟨_, key_i Try.underlying3 (by
  obtain ⟨h1, h2⟩ := h
  simp only [Lit.wf, Bool.and_eq_true, decide_eq_true_eq, IntKind.min, IntKind.max, IntKind.signed, IntKind.bits]
  simp; omega)⟩
theorem intKeyed : Keyed Try.prog 3 := int_keyed Try.underlying3
theorem zU8 : zeroOf Try.prog 5 = some (by8 0) := by kernel_rfl
theorem pU8 (b : Byte) : plainElem (H := Unit) Try.prog 5 (by8 b) = some (.lit (.int .u8 b.toNat), []) := plainElem_int Try.underlying5 (wf_u8 b)
theorem intInj (x x' : Int) (h : I64 x) (h' : I64 x') (e : i64v x = i64v x') : x = x' := by injection e
end Go.Proofs.Ytnpnphcklmlchaa.Dsk
