/- The steps in a region where what is new may come at any time (Mf). -/
import Derived.Test.YtnpnphcklmlchaaMf
set_option linter.unusedVariables false
set_option linter.unusedSimpArgs false
namespace Go.Proofs.Ytnpnphcklmlchaa.Y
open Go.RowKit Go.Proofs.Ytnpnphcklmlchaa.Sx Go.Proofs.Ytnpnphcklmlchaa.Mx Go.Proofs.Ytnpnphcklmlchaa.Bw Go.Proofs.Ytnpnphcklmlchaa.By Go.Proofs.Ytnpnphcklmlchaa.Ap Go.Proofs.Ytnpnphcklmlchaa.Qx Go.Proofs.Ytnpnphcklmlchaa.Mi Go.Proofs.Ytnpnphcklmlchaa.Mf Go.Proofs.Ytnpnphcklmlchaa.Stm Go.Proofs.Ytnpnphcklmlchaa.X
variable {P : Program}
def Nw (P : Program) (n : Nat) (l : List Oper) (kd : Ks) (F : Nat → New) (Kt : Kont) (π : List Nat) (z : World) (K : Nat → Prop) (L : Ctx) (w : World) : Prop := ∀ a, Has n L a → wpF P l.toArray kd F Kt π z K a w
/-- What is known lies in K, and all that was at the function's start. -/
structure Ft (w0 y : World) (K : Nat → Prop) (M : List Stm.Item) : Prop where
  old : ∀ k, k < w0.heap.size → K k
  was : ∀ k, k < y.heap.size → K k
  foot : ∀ i ∈ M, ∀ g, i.foot g → K g
section base
variable {n : Nat} {l : List Oper} {kd : Ks} {F : Nat → New} {Kt : Kont} {Q : Exit → Act → World → Prop} {π : List Nat} {L : Ctx} {w w0 z y : World} {K : Nat → Prop} {M0 M M' : List Stm.Item} {i d : Nat} {op : Op} {ty : TypeId} {pos : String} {af : Array Edge} {g : Option (Nat × Bool)} {b : Bool} {v : Value} {dst : Option Tmp}
theorem nw_nil (h : ∀ w', Kp No w w' → Xw n .normal Q L w') : Nw P n l kd F (endK Q) [] z K L w := fun a ha w' k => h w' k a ha
theorem nw_beg {π : List Nat} (hfr : ∀ a, Has n L a → AllFr P l.toArray kd F π a) (h : Nw P n l kd F (endK Q) π z K L w) : Nw P n l kd F (begK P l.toArray kd F Q π) [] z K L w := fun a ha => ⟨hfr a ha, h a ha⟩
theorem nw_no (ho : nth l i = some ⟨some d, op, ty, pos, af, g⟩) (hd : Nat.blt d n = true) (hg : wantB l.toArray L g = some b) (hb : b = false) (hk : k3 (kd i) ≠ .new) (h : Nw P n l kd F Kt π z K ((d, undef) :: L) w) : Nw P n l kd F Kt (i :: π) z K L w := fun a ha => by
  subst hb
  have hw : Region.wanted ⟨some d, op, ty, pos, af, g⟩ (yielded l.toArray a.tmps) = false := wantB_ok ha hg
  have h' := h _ (ha.put (by simpa [Nat.blt_eq] using hd) undef)
  rw [wpF]
  refine ⟨_, nth_arr ho, ?_⟩
  cases hkk : k3 (kd i) with
  | quiet => exact ⟨undef, .inr ⟨hw, rfl⟩, h'⟩
  | act => simp only; rw [if_neg (by rw [hw]; decide)]; exact h'
  | new => exact absurd hkk hk
theorem nw_run (ho : nth l i = some ⟨some d, op, ty, pos, af, g⟩) (hk : k3 (kd i) = .quiet) (hd : Nat.blt d n = true) (hg : wantB l.toArray L g = some b) (hb : b = true)
    (hr : ∀ a w2, Has n L a → cl kd.S (kd i) z w w2 → (execOp a.eval ⟨some d, op, ty, pos, af, g⟩).run P w2 = .ok (.value v) w2) (h : Nw P n l kd F Kt π z K ((d, v) :: L) w) : Nw P n l kd F Kt (i :: π) z K L w := fun a ha => by
  subst hb
  refine (wpF_quiet hk).2 ⟨_, nth_arr ho, v, .inl ⟨wantB_ok ha hg, fun w2 h2 => hr a w2 ha h2⟩, h _ (ha.put (by simpa [Nat.blt_eq] using hd) v)⟩
theorem nw_pure (T : Tab P) (ho : nth l i = some ⟨some d, op, ty, pos, af, g⟩) (hk : k3 (kd i) = .quiet) (hd : Nat.blt d n = true) (hg : wantB l.toArray L g = some b) (hb : b = true) (he : pureOp T L op = some v) (h : Nw P n l kd F Kt π z K ((d, v) :: L) w) : Nw P n l kd F Kt (i :: π) z K L w :=
  nw_run ho hk hd hg hb (fun a w2 ha _ => pureOp_ok T (o := ⟨some d, op, ty, pos, af, g⟩) ha he w2) h
theorem nw_read (ho : nth l i = some ⟨some d, op, ty, pos, af, g⟩) (hk : kd i = .r) (hd : Nat.blt d n = true) (hg : wantB l.toArray L g = some b) (hb : b = true)
    (hr : ∀ w2, Kp No w w2 → Ow P n l.toArray (Qx.Fin d v w2) [⟨some d, op, ty, pos, af, none⟩] L w2) (hV : Valued ⟨some d, op, ty, pos, af, none⟩) (h : Nw P n l kd F Kt π z K ((d, v) :: L) w) : Nw P n l kd F Kt (i :: π) z K L w :=
  nw_run ho (by rw [hk]; rfl) hd hg hb (fun a w2 ha h2 => run_of_fin ha hd hV (hr w2 (by rw [hk] at h2; exact h2))) h
theorem nw_readO (ho : nth l i = some ⟨some d, op, ty, pos, af, g⟩) (hk : kd i = .o) (hd : Nat.blt d n = true) (hg : wantB l.toArray L g = some b) (hb : b = true)
    (hr : ∀ w2, Kp kd.S z w2 → Ow P n l.toArray (Qx.Fin d v w2) [⟨some d, op, ty, pos, af, none⟩] L w2) (hV : Valued ⟨some d, op, ty, pos, af, none⟩) (h : Nw P n l kd F Kt π z K ((d, v) :: L) w) : Nw P n l kd F Kt (i :: π) z K L w :=
  nw_run ho (by rw [hk]; rfl) hd hg hb (fun a w2 ha h2 => run_of_fin ha hd hV (hr w2 (by rw [hk] at h2; exact h2))) h
theorem nw_any (ho : nth l i = some ⟨some d, op, ty, pos, af, g⟩) (hk : k3 (kd i) = .quiet) (hd : Nat.blt d n = true) (hg : wantB l.toArray L g = some b) (hb : b = true)
    (hr : ∀ w2, Ow P n l.toArray (Qx.Fin d v w2) [⟨some d, op, ty, pos, af, none⟩] L w2) (hV : Valued ⟨some d, op, ty, pos, af, none⟩) (h : Nw P n l kd F Kt π z K ((d, v) :: L) w) : Nw P n l kd F Kt (i :: π) z K L w :=
  nw_run ho hk hd hg hb (fun a w2 ha _ => run_of_fin ha hd hV (hr w2)) h
/-- Behind an act. -/
def MidF (P : Program) (l : List Oper) (kd : Ks) (F : Nat → New) (Kt : Kont) (π : List Nat) (z : World) (K : Nat → Prop) (i : Nat) (w1 : World) : Exit → Act → World → Prop := fun e a w => e = .normal ∧ Kp (kpt kd.S (kd i) K z) w1 w ∧ wpF P l.toArray kd F Kt π (nxt (kd i) z w) (Grow K w1 w) a w
theorem nw_act (ho : nth l i = some ⟨dst, op, ty, pos, af, g⟩) (hk : k3 (kd i) = .act) (hg : wantB l.toArray L g = some b) (hb : b = true) (h : ∀ w1, Kp No w w1 → Ow P n l.toArray (MidF P l kd F Kt π z K i w1) [⟨dst, op, ty, pos, af, none⟩] L w1) : Nw P n l kd F Kt (i :: π) z K L w := fun a ha => by
  subst hb
  have hw : Region.wanted ⟨dst, op, ty, pos, af, g⟩ (yielded l.toArray a.tmps) = true := wantB_ok ha hg
  rw [wpF, hk]
  refine ⟨_, nth_arr ho, ?_⟩
  simp only
  rw [if_pos hw]
  intro w1 k1
  have h1 := h w1 k1 a ha
  unfold wpList at h1
  rw [if_pos (by simp [Region.wanted])] at h1
  rcases h1 with h1 | ⟨_, _, _, h2⟩
  · have h3 := wp_no (fun e a w h => h.1) h1
    exact wp_guard (o := ⟨dst, op, ty, pos, af, g⟩) (g := g) (Oper.wp_mono (fun a w h => h.2) h3)
  · cases h2.1
theorem nw_new (ho : nth l i = some ⟨some d, op, ty, pos, af, g⟩) (hk : k3 (kd i) = .new) (hd : Nat.blt d n = true) (h : ∀ k w1, Kp No w w1 → ((F i).item k).holds w1 → ¬ K k → k < w1.heap.size → Nw P n l kd F Kt π z (And1 K k) ((d, (F i).val k) :: L) w1) : Nw P n l kd F Kt (i :: π) z K L w := fun a ha => by
  rw [wpF, hk]
  refine ⟨_, nth_arr ho, fun k w1 k1 hi hn hlt => ?_⟩
  exact h k w1 k1 hi hn hlt _ (ha.put (by simpa [Nat.blt_eq] using hd) _)
theorem cw_mixF {id : Nat} {π1 π2 : List Nat} (hm : P.follows .mixedOrders = true) (hB : mixF .any l kd π1 π2 = true)
    (h : ∀ w1, Kp No w w1 → w1.heap.size = w.heap.size → Nw P n l kd F (begK P l.toArray kd F Q π2) π1 w1 (fun k => k < w.heap.size) L w1) : Cw P n (.region id l.toArray true) Q L w := fun a ha =>
  wp_region_mixF hm hB (h _ (kp_drew w) rfl a ha)

theorem split_all : ∀ M : List Stm.Item, Split M M []
  | [] => .nil
  | _ :: M => .cons .here (split_all M)
theorem Ft.grow {w1 w' : World} (hF : Ft w0 y K M) (hw : St w1 M M' w') : Ft w0 y (Grow K w1 w') M' where
  old := fun k hk => .inl (hF.old k hk)
  was := fun k hk => .inl (hF.was k hk)
  foot := fun i hi g hg => (hw.org i hi g hg).elim (fun h => .inr ⟨h, hw.pre.inb hi hg⟩) (fun ⟨j, hj, hf, _⟩ => .inl (hF.foot j hj g hf))
theorem St.trans {w1 w' : World} (h0 : St w0 M0 M w) (h : St w M M' w') : St w0 M0 M' w' := by
  have := h0.call (Mf := M) (F := []) (Mf' := M') (split_all M) h
  simpa using this
/-- Something new, come up before. -/
theorem ft_new {I : Stm.Item} {w1 : World} {k : Nat} (hw : St w0 M0 M w) (hF : Ft w0 y K M) (k1 : Kp No w w1) (hi : I.holds w1) (hf : ∀ x, I.foot x → x = k) (hn : ¬ K k) : St w0 M0 (I :: M) w1 ∧ Ft w0 y (And1 K k) (I :: M) := by
  have hw1 := hw.no k1
  refine ⟨⟨⟨fun j hj => (List.mem_cons.1 hj).elim (fun e => e ▸ hi) (hw1.pre.all j), .cons (fun j hj _ g hg hgj => hn (hf g hg ▸ hF.foot j hj g hgj)) hw1.pre.apart⟩, hw1.kp, fun j hj g hg => ?_⟩, ⟨fun x hx => .inl (hF.old x hx), fun x hx => .inl (hF.was x hx), fun j hj g hg => ?_⟩⟩
  · rcases List.mem_cons.1 hj with rfl | hj
    · refine .inl (Nat.not_lt.1 fun hlt => hn (hf g hg ▸ hF.old g hlt))
    · exact hw1.org j hj g hg
  · rcases List.mem_cons.1 hj with rfl | hj
    · exact .inr (hf g hg)
    · exact .inl (hF.foot j hj g hg)
end base
variable [C : TC P]
def noneI : Stm.Item where
  own := false
  foot := fun _ => False
  holds := fun _ => True
  inb := fun _ _ h => h.elim
  keep := fun _ _ => trivial
/-- What an operation of the region makes new. -/
def newOf (zs : Zs P) : Option Oper → New
  | some ⟨_, .alloc t, _, _, _, _⟩ => match zs.z t with
    | some v => ⟨fun g => .pointer (some ⟨g, 0, none⟩), fun g => blkI g t v.cells.toList⟩
    | none => ⟨fun _ => undef, fun _ => noneI⟩
  | _ => ⟨fun _ => undef, fun _ => noneI⟩
def frOp (zs : Zs P) : Option Oper → Bool
  | some ⟨_, .alloc t, _, _, _, _⟩ => (zs.z t).isSome
  | _ => false
theorem fr_ok {o : Oper} (h : frOp C.zs (some o) = true) (a : Act) : Fr P o a (newOf C.zs (some o)) := by
  obtain ⟨dst, op, ty, pos, af, g⟩ := o
  cases op <;> first | (cases h; done) | skip
  rename_i t
  simp only [frOp] at h
  cases hz : C.zs.z t with
  | none => rw [hz] at h; cases h
  | some v =>
    have hN : newOf C.zs (some ⟨dst, .alloc t, ty, pos, af, g⟩) = ⟨fun g => .pointer (some ⟨g, 0, none⟩), fun g => blkI g t v.cells.toList⟩ := by simp [newOf, hz]
    rw [hN]
    refine ⟨fun w => ⟨w.alloc (.cells v.cells t), ?_, kp_alloc _ _, ?_, by simp⟩, fun g k hk => hk⟩
    · unfold execOp Instr.alloc
      simp only
      rw [run_ok_bind (a := .pointer (some ⟨w.heap.size, 0, none⟩)) (w' := w.alloc (.cells v.cells t)) (by
        rw [run_ok_bind (run_zeroValue (C.zs.ok _ _ hz) w)]
        rfl)]
      rfl
    · exact heap_alloc_new _ _
def exF : List (Nat × Kd) → Nat → Option Kd
  | [], _ => none
  | (j, k) :: l, i => match Nat.beq j i with
    | true => some k
    | false => exF l i
def kdF : Kind → Kd
  | .q => .q
  | .r => .r
  | .a => .a
  | .s => .s
def autoF (l : List Oper) (ex : List (Nat × Kd)) (i : Nat) : Kd := match exF ex i with
  | some k => k
  | none => match nth l i with
    | some o => kdF (kindOf o.op)
    | none => .q
def ksF (l : List Oper) (ex : List (Nat × Kd)) (R : List Nat) : Ks := ⟨autoF l ex, match R with
  | [] => No
  | R => fun g => ¬ g ∈ R⟩
/-- What is said to be new can be; T: what else than variables is new, told with the region. -/
def frAll (zs : Zs P) (l : List Oper) (kd : Ks) (π : List Nat) (T : List (Nat × New)) : Bool := π.all fun i => match k3 (kd i) with
  | .new => frOp zs (nth l i) || T.any (fun p => Nat.beq p.1 i)
  | _ => true
def tabF : List (Nat × New) → Nat → Option New
  | [], _ => none
  | (j, k) :: l, i => match Nat.beq j i with
    | true => some k
    | false => tabF l i
def newsF (zs : Zs P) (l : List Oper) (T : List (Nat × New)) (i : Nat) : New := match tabF T i with
  | some N => N
  | none => newOf zs (nth l i)
def FrT (P : Program) (l : List Oper) (a : Act) : List (Nat × New) → Prop
  | [] => True
  | (i, N) :: T => (∃ o, nth l i = some o ∧ Fr P o a N) ∧ FrT P l a T
omit C in
theorem frT_ok {l : List Oper} {a : Act} {i : Nat} {o : Oper} (ho : nth l i = some o) : ∀ {T : List (Nat × New)}, FrT P l a T → ∀ N, tabF T i = some N → Fr P o a N
  | [], _, _, h => by simp [tabF] at h
  | (j, N') :: T, ⟨⟨o', ho', h1⟩, h2⟩, N, h => by
    rw [tabF] at h
    cases e : Nat.beq j i with
    | true =>
      rw [e] at h
      cases h
      have := Nat.eq_of_beq_eq_true e
      subst this
      rw [ho] at ho'
      cases ho'
      exact h1
    | false => rw [e] at h; exact frT_ok ho h2 N h
omit C in
theorem tabF_none {i : Nat} : ∀ {T : List (Nat × New)}, tabF T i = none → T.any (fun p => Nat.beq p.1 i) = false
  | [], _ => rfl
  | (j, N) :: T, h => by
    rw [tabF] at h
    cases e : Nat.beq j i with
    | true => rw [e] at h; cases h
    | false => rw [e] at h; simp only [List.any_cons, e, Bool.false_or]; exact tabF_none h
theorem frAll_ok {l : List Oper} {kd : Ks} {π : List Nat} {T : List (Nat × New)} (hf : frAll C.zs l kd π T = true) {a : Act} (hT : FrT P l a T) : AllFr P l.toArray kd (newsF C.zs l T) π a := fun i hi oi hk ho => by
  have h1 := List.all_eq_true.1 hf i hi
  rw [hk] at h1
  have h2 : nth l i = some oi := by rw [nth_eq]; simpa using ho
  simp only [h2, Bool.or_eq_true] at h1
  unfold newsF
  cases ht : tabF T i with
  | some N => exact frT_ok h2 hT N ht
  | none =>
    simp only [h2]
    rcases h1 with h1 | h1
    · exact fr_ok h1 a
    · rw [tabF_none ht] at h1; cases h1
section regions
variable {n : Nat} {l : List Oper} {kd : Ks} {F : Nat → New} {Kt : Kont} {Q : Exit → Act → World → Prop} {π : List Nat} {L : Ctx} {w w0 z y : World} {K : Nat → Prop} {M0 M M' : List Stm.Item} {i d : Nat} {op : Op} {ty : TypeId} {pos : String} {af : Array Edge} {g : Option (Nat × Bool)} {b : Bool} {v : Value} {dst : Option Tmp}
omit C
theorem r4 {j : Nat} (h : Nw P n l kd F Kt π z K ((d, undef) :: L) w) (ho : nth l i = some ⟨some d, op, ty, pos, af, some (j, b)⟩ := by exact rfl) (hy : noYield l.toArray L j = true := by exact rfl) (hd : Nat.blt d n = true := by exact rfl) (hk : k3 (kd i) ≠ .new := by decide) : Nw P n l kd F Kt (i :: π) z K L w := fun a ha => by
  have hw : Region.wanted ⟨some d, op, ty, pos, af, some (j, b)⟩ (yielded l.toArray a.tmps) = false := by simp [Region.wanted, noYield_ok ha hy]
  have h' := h _ (ha.put (by simpa [Nat.blt_eq] using hd) undef)
  rw [wpF]
  refine ⟨_, nth_arr ho, ?_⟩
  cases hkk : k3 (kd i) with
  | quiet => exact ⟨undef, .inr ⟨hw, rfl⟩, h'⟩
  | act => simp only; rw [if_neg (by rw [hw]; decide)]; exact h'
  | new => exact absurd hkk hk
theorem r3 (h : ∀ w', St w0 M0 M w' → Xw n .normal Q L w') (hw : St w0 M0 M w := by with_reducible assumption) : Nw P n l kd F (endK Q) [] z K L w := nw_nil (fun w' k => h w' (hw.no k))
theorem r2 (h : Nw P n l kd F Kt π z K ((d, undef) :: L) w) (ho : nth l i = some ⟨some d, op, ty, pos, af, g⟩ := by exact rfl) (hd : Nat.blt d n = true := by exact rfl) (hg : wantB l.toArray L g = some b := by exact rfl) (hb : b = false := by first | (with_reducible exact rfl) | decide | (simp <;> fail)) (hk : k3 (kd i) ≠ .new := by decide) : Nw P n l kd F Kt (i :: π) z K L w := nw_no ho hd hg hb hk h
include C
theorem r1 (h : Nw P n l kd F Kt π z K ((d, v) :: L) w) (ho : nth l i = some ⟨some d, op, ty, pos, af, g⟩ := by exact rfl) (hk : k3 (kd i) = .quiet := by exact rfl) (hd : Nat.blt d n = true := by exact rfl) (hg : wantB l.toArray L g = some b := by exact rfl) (he : pureOp C.tab L op = some v := by exact rfl) (hb : b = true := by first | (with_reducible exact rfl) | decide | (simp <;> fail)) : Nw P n l kd F Kt (i :: π) z K L w := nw_pure C.tab ho hk hd hg hb he h
theorem rm1 {s ft : TypeId} {x : Operand} {G o f k off : Nat} {fs : List Field} (h : Nw P n l kd F Kt π z K ((d, .pointer (some ⟨G, o + off, none⟩)) :: L) w) (ho : nth l i = some ⟨some d, .fieldAddr s x f, ty, pos, af, g⟩ := by exact rfl) (hk : k3 (kd i) = .quiet := by exact rfl) (hd : Nat.blt d n = true := by exact rfl) (hg : wantB l.toArray L g = some b := by exact rfl) (hx : ev L x = some (.pointer (some ⟨G, o, none⟩)) := by exact rfl) (hs : C.tab.ty s = some (.struct ⟨fs⟩) := by exact rfl) (hf : fieldAt fs f = some (off, ft) := by exact rfl)
    (hz : C.tab.sz ft = some (k + 1) := by exact rfl) (hb : b = true := by first | (with_reducible exact rfl) | decide | (simp <;> fail)) : Nw P n l kd F Kt (i :: π) z K L w := nw_any ho hk hd hg hb (fun w0 => ow_fieldT C.tab hd hx hs hf hz fin) (fun _ => ⟨_, rfl⟩) h
theorem rm2 {t e : TypeId} {x y : Operand} {G o m k : Nat} {ik : IntKind} {j : Int} (h : Nw P n l kd F Kt π z K ((d, .pointer (some ⟨G, o + j.toNat * k, none⟩)) :: L) w) (ho : nth l i = some ⟨some d, .indexAddr t x y, ty, pos, af, g⟩ := by exact rfl) (hk : k3 (kd i) = .quiet := by exact rfl) (hd : Nat.blt d n = true := by exact rfl) (hg : wantB l.toArray L g = some b := by exact rfl) (hx : ev L x = some (.pointer (some ⟨G, o, none⟩)) := by exact rfl) (hy : ev L y = some (.int ik j) := by exact rfl) (ht : C.tab.ty t = some (.array m e) := by exact rfl)
    (hz : C.tab.sz e = some k := by exact rfl) (hb : b = true := by first | (with_reducible exact rfl) | decide | (simp <;> fail)) (h0 : 0 ≤ j := by first | exact (by decide) | omega) (h1 : j < (m : Int) := by first | exact (by decide) | omega) : Nw P n l kd F Kt (i :: π) z K L w := nw_any ho hk hd hg hb (fun w0 => ow_indexT C.tab hd hx hy ht hz h0 h1 fin) (fun _ => ⟨_, rfl⟩) h
theorem rm3 {t e : TypeId} {x y : Operand} {G o m c k : Nat} {ik : IntKind} {j : Int} (h : Nw P n l kd F Kt π z K ((d, .pointer (some ⟨G, o + j.toNat * k, none⟩)) :: L) w) (ho : nth l i = some ⟨some d, .indexAddr t x y, ty, pos, af, g⟩ := by exact rfl) (hk : k3 (kd i) = .quiet := by exact rfl) (hd : Nat.blt d n = true := by exact rfl) (hg : wantB l.toArray L g = some b := by exact rfl) (hx : ev L x = some (.slice (some ⟨G, o, none⟩) m c) := by exact rfl) (hy : ev L y = some (.int ik j) := by exact rfl) (ht : C.tab.ty t = some (.slice e) := by exact rfl)
    (hz : C.tab.sz e = some k := by exact rfl) (hb : b = true := by first | (with_reducible exact rfl) | decide | (simp <;> fail)) (h0 : 0 ≤ j := by first | exact (by decide) | omega) (h1 : j < (m : Int) := by first | exact (by decide) | omega) : Nw P n l kd F Kt (i :: π) z K L w := nw_any ho hk hd hg hb (fun w0 => ow_indexS C.tab hd hx hy ht hz h0 h1 fin) (fun _ => ⟨_, rfl⟩) h
theorem rm4 {t e : TypeId} {x : Operand} {G o m k : Nat} (h : Nw P n l kd F Kt π z K ((d, .slice (some ⟨G, o, none⟩) m m) :: L) w) (ho : nth l i = some ⟨some d, .slice t x none none none, ty, pos, af, g⟩ := by exact rfl) (hk : k3 (kd i) = .quiet := by exact rfl) (hd : Nat.blt d n = true := by exact rfl) (hg : wantB l.toArray L g = some b := by exact rfl) (hx : ev L x = some (.pointer (some ⟨G, o, none⟩)) := by exact rfl) (ht : C.tab.ty t = some (.array m e) := by exact rfl) (hz : C.tab.sz e = some k := by exact rfl) (hb : b = true := by first | (with_reducible exact rfl) | decide | (simp <;> fail))
    : Nw P n l kd F Kt (i :: π) z K L w := nw_any ho hk hd hg hb (fun w0 => st_sliceAll C.tab hd hx ht hz fin) (fun _ => ⟨_, rfl⟩) h
theorem rm5 {t : TypeId} {cs : List Value} (h : Nw P n l kd F Kt π z K ((d, .agg cs.toArray) :: L) w) (ho : nth l i = some ⟨some d, .build t #[], ty, pos, af, g⟩ := by exact rfl) (hk : k3 (kd i) = .quiet := by exact rfl) (hd : Nat.blt d n = true := by exact rfl) (hg : wantB l.toArray L g = some b := by exact rfl) (hz : C.zs.b t = some cs := by exact rfl) (hb : b = true := by first | (with_reducible exact rfl) | decide | (simp <;> fail)) : Nw P n l kd F Kt (i :: π) z K L w := nw_any ho hk hd hg hb (fun w0 => st_build0 C.zs hd hz fin) (fun _ => ⟨_, rfl⟩) h
theorem rl1 {t t' : TypeId} {E : TypeDesc} {x : Operand} {G o : Nat} {cs : List Value} (h : Nw P n l kd F Kt π z K ((d, v) :: L) w) (ho : nth l i = some ⟨some d, .load t x, ty, pos, af, g⟩ := by exact rfl) (hk : kd i = .r := by exact rfl) (hd : Nat.blt d n = true := by exact rfl) (hg : wantB l.toArray L g = some b := by exact rfl) (hx : ev L x = some (.pointer (some ⟨G, o, none⟩)) := by exact rfl) (ht : C.tab.ty t = some E := by exact rfl) (hD : aggB E = false := by exact rfl) (hw : St w0 M0 M w := by with_reducible assumption)
    (hp : Pick (blkI G t' cs) M M' := by (repeat (first | (with_reducible exact Pick.here) | (with_reducible apply Pick.there))) <;> fail) (hv : nth cs o = some v := by exact rfl) (hb : b = true := by first | (with_reducible exact rfl) | decide | (simp <;> fail)) : Nw P n l kd F Kt (i :: π) z K L w := nw_read ho hk hd hg hb (fun w2 k2 => st_load1 C.tab (hw.no k2) hx hp ht hD hd hv fin) (fun _ => ⟨_, rfl⟩) h
theorem rl11 {t t' : TypeId} {E : TypeDesc} {x : Operand} {G o : Nat} {cs : List Value} (h : Nw P n l kd F Kt π z K ((d, v) :: L) w) (ho : nth l i = some ⟨some d, .load t x, ty, pos, af, g⟩ := by exact rfl) (hk : kd i = .r := by exact rfl) (hd : Nat.blt d n = true := by exact rfl) (hg : wantB l.toArray L g = some b := by exact rfl) (hx : ev L x = some (.pointer (some ⟨G, o, none⟩)) := by exact rfl) (ht : C.tab.ty t = some E := by exact rfl) (hD : aggB E = false := by exact rfl) (hw : St w0 M0 M w := by with_reducible assumption)
    (hp : Pick (blkI G t' cs) M M' := by (repeat (first | (with_reducible exact Pick.here) | (with_reducible apply Pick.there))) <;> fail) (hv : nth cs o = some v := by with_reducible assumption) (hb : b = true := by first | (with_reducible exact rfl) | decide | (simp <;> fail)) : Nw P n l kd F Kt (i :: π) z K L w := nw_read ho hk hd hg hb (fun w2 k2 => st_load1 C.tab (hw.no k2) hx hp ht hD hd hv fin) (fun _ => ⟨_, rfl⟩) h
theorem rl2 {t t' : TypeId} {E : TypeDesc} {x : Operand} {G k : Nat} {cs : List Value} (h : Nw P n l kd F Kt π z K ((d, .agg cs.toArray) :: L) w) (ho : nth l i = some ⟨some d, .load t x, ty, pos, af, g⟩ := by exact rfl) (hk : kd i = .r := by exact rfl) (hd : Nat.blt d n = true := by exact rfl) (hg : wantB l.toArray L g = some b := by exact rfl) (hx : ev L x = some (.pointer (some ⟨G, 0, none⟩)) := by exact rfl) (ht : C.tab.ty t = some E := by exact rfl) (hD : aggB E = true := by exact rfl) (hs : C.tab.sz t = some k := by exact rfl) (hw : St w0 M0 M w := by with_reducible assumption)
    (hp : Pick (blkI G t' cs) M M' := by (repeat (first | (with_reducible exact Pick.here) | (with_reducible apply Pick.there))) <;> fail) (hkk : cs.length = k := by first | (with_reducible exact rfl) | (with_reducible assumption) | (simp only [List.length_map, List.length_replicate] <;> fail) | ((simp only [List.length_map]); (with_reducible assumption)) | (exact rfl) | (simp <;> fail) | (simp; omega)) (hb : b = true := by first | (with_reducible exact rfl) | decide | (simp <;> fail))
    : Nw P n l kd F Kt (i :: π) z K L w := nw_read ho hk hd hg hb (fun w2 k2 => st_loadA C.tab (hw.no k2) hx hp ht hD hd hs hkk fin) (fun _ => ⟨_, rfl⟩) h
theorem rl3 {t u e t' : TypeId} {x : Operand} {G m c : Nat} {s : List Byte} (h : Nw P n l kd F Kt π z K ((d, str s) :: L) w) (ho : nth l i = some ⟨some d, .convert t u x, ty, pos, af, g⟩ := by exact rfl) (hk : kd i = .r := by exact rfl) (hd : Nat.blt d n = true := by exact rfl) (hg : wantB l.toArray L g = some b := by exact rfl) (hx : ev L x = some (.slice (some ⟨G, 0, none⟩) m c) := by exact rfl) (hw : St w0 M0 M w := by with_reducible assumption) (hp : Pick (blkI G t' (cb s)) M M' := by (repeat (first | (with_reducible exact Pick.here) | (with_reducible apply Pick.there))) <;> fail) (hs : C.tab.ty t = some (.slice e) := by exact rfl) (he : C.tab.ty e = some (.int .u8) := by exact rfl) (hu : C.tab.ty u = some .string := by exact rfl)
    (hl : s.length = m := by first | (with_reducible exact rfl) | (with_reducible assumption) | (simp only [List.length_map, List.length_replicate] <;> fail) | ((simp only [List.length_map]); (with_reducible assumption)) | (exact rfl) | (simp <;> fail) | (simp; omega)) (hb : b = true := by first | (with_reducible exact rfl) | decide | (simp <;> fail)) : Nw P n l kd F Kt (i :: π) z K L w := nw_read ho hk hd hg hb (fun w2 k2 => st_toStr C.tab (hw.no k2) hx hp hs he hu hd hl fin) (fun _ => ⟨_, rfl⟩) h
theorem rl5 {t u e t' : TypeId} {x : Operand} {G o m c : Nat} {cs : List Value} {s : List Byte} (h : Nw P n l kd F Kt π z K ((d, str s) :: L) w) (ho : nth l i = some ⟨some d, .convert t u x, ty, pos, af, g⟩ := by exact rfl) (hk : kd i = .r := by exact rfl) (hd : Nat.blt d n = true := by exact rfl) (hg : wantB l.toArray L g = some b := by exact rfl) (hx : ev L x = some (.slice (some ⟨G, o, none⟩) m c) := by exact rfl) (hw : St w0 M0 M w := by with_reducible assumption) (hp : Pick (blkI G t' cs) M M' := by (repeat (first | (with_reducible exact Pick.here) | (with_reducible apply Pick.there))) <;> fail) (hs : C.tab.ty t = some (.slice e) := by exact rfl) (he : C.tab.ty e = some (.int .u8) := by exact rfl) (hu : C.tab.ty u = some .string := by exact rfl)
    (hv : (cs.drop o).take m = cb s := by assumption) (hl : s.length = m := by first | (with_reducible exact rfl) | (with_reducible assumption) | (simp only [List.length_map, List.length_replicate] <;> fail) | ((simp only [List.length_map]); (with_reducible assumption)) | (exact rfl) | (simp <;> fail) | (simp; omega)) (hb : b = true := by first | (with_reducible exact rfl) | decide | (simp <;> fail)) : Nw P n l kd F Kt (i :: π) z K L w := nw_read ho hk hd hg hb (fun w2 k2 => st_toStrC C.tab (hw.no k2) hx hp hs he hu hd hv hl fin) (fun _ => ⟨_, rfl⟩) h
theorem rl6 {t t' : TypeId} {E : TypeDesc} {x : Operand} {G o k : Nat} {cs vs : List Value} (h : Nw P n l kd F Kt π z K ((d, .agg vs.toArray) :: L) w) (ho : nth l i = some ⟨some d, .load t x, ty, pos, af, g⟩ := by exact rfl) (hk : kd i = .r := by exact rfl) (hd : Nat.blt d n = true := by exact rfl) (hg : wantB l.toArray L g = some b := by exact rfl) (hx : ev L x = some (.pointer (some ⟨G, o, none⟩)) := by exact rfl) (ht : C.tab.ty t = some E := by exact rfl) (hD : aggB E = true := by exact rfl) (hs : C.tab.sz t = some k := by exact rfl) (hw : St w0 M0 M w := by with_reducible assumption)
    (hp : Pick (blkI G t' cs) M M' := by (repeat (first | (with_reducible exact Pick.here) | (with_reducible apply Pick.there))) <;> fail) (hv : (cs.drop o).take k = vs := by assumption) (hkk : o + k ≤ cs.length := by first | (exact (by decide)) | omega | (simp only [List.length_map, List.length_replicate]; omega) | (simp; omega)) (hb : b = true := by first | (with_reducible exact rfl) | decide | (simp <;> fail))
    : Nw P n l kd F Kt (i :: π) z K L w := nw_read ho hk hd hg hb (fun w2 k2 => st_loadP C.tab (hw.no k2) hx hp ht hD hd hs hkk hv fin) (fun _ => ⟨_, rfl⟩) h
omit C in
theorem blkSt {S : Nat → Prop} {G : Nat} {t' : TypeId} {cs : List Value} {w2 : World} (hz : St w0 M0 M z) (hp : Pick (blkI G t' cs) M M') (k : Kp S z w2) (hS : ¬ S G) : St w2 [blkI G t' cs] [blkI G t' cs] w2 :=
  have hb : Blk z G t' cs := hz.pick hp
  St.start ⟨fun i hi => by rw [List.mem_singleton.1 hi]; exact (k.block G hb.lt hS).trans hb, List.pairwise_singleton _ _⟩
theorem ro1 {t t' : TypeId} {E : TypeDesc} {x : Operand} {G o : Nat} {cs : List Value} (h : Nw P n l kd F Kt π z K ((d, v) :: L) w) (ho : nth l i = some ⟨some d, .load t x, ty, pos, af, g⟩ := by exact rfl) (hk : kd i = .o := by exact rfl) (hd : Nat.blt d n = true := by exact rfl) (hg : wantB l.toArray L g = some b := by exact rfl) (hx : ev L x = some (.pointer (some ⟨G, o, none⟩)) := by exact rfl) (ht : C.tab.ty t = some E := by exact rfl) (hD : aggB E = false := by exact rfl) (hS : ¬ kd.S G := by first | (with_reducible assumption) | exact fun h => h | exact fun h => h (by simp)) (hz : St w0 M0 M z := by with_reducible assumption)
    (hp : Pick (blkI G t' cs) M M' := by (repeat (first | (with_reducible exact Pick.here) | (with_reducible apply Pick.there))) <;> fail) (hv : nth cs o = some v := by exact rfl) (hb : b = true := by first | (with_reducible exact rfl) | decide | (simp <;> fail)) : Nw P n l kd F Kt (i :: π) z K L w := nw_readO ho hk hd hg hb (fun w2 k2 => st_load1 C.tab (blkSt hz hp k2 hS) hx .here ht hD hd hv fin) (fun _ => ⟨_, rfl⟩) h
theorem ro11 {t t' : TypeId} {E : TypeDesc} {x : Operand} {G o : Nat} {cs : List Value} (h : Nw P n l kd F Kt π z K ((d, v) :: L) w) (ho : nth l i = some ⟨some d, .load t x, ty, pos, af, g⟩ := by exact rfl) (hk : kd i = .o := by exact rfl) (hd : Nat.blt d n = true := by exact rfl) (hg : wantB l.toArray L g = some b := by exact rfl) (hx : ev L x = some (.pointer (some ⟨G, o, none⟩)) := by exact rfl) (ht : C.tab.ty t = some E := by exact rfl) (hD : aggB E = false := by exact rfl) (hS : ¬ kd.S G := by first | (with_reducible assumption) | exact fun h => h | exact fun h => h (by simp)) (hz : St w0 M0 M z := by with_reducible assumption)
    (hp : Pick (blkI G t' cs) M M' := by (repeat (first | (with_reducible exact Pick.here) | (with_reducible apply Pick.there))) <;> fail) (hv : nth cs o = some v := by with_reducible assumption) (hb : b = true := by first | (with_reducible exact rfl) | decide | (simp <;> fail)) : Nw P n l kd F Kt (i :: π) z K L w := nw_readO ho hk hd hg hb (fun w2 k2 => st_load1 C.tab (blkSt hz hp k2 hS) hx .here ht hD hd hv fin) (fun _ => ⟨_, rfl⟩) h
theorem ro2 {t t' : TypeId} {E : TypeDesc} {x : Operand} {G k : Nat} {cs : List Value} (h : Nw P n l kd F Kt π z K ((d, .agg cs.toArray) :: L) w) (ho : nth l i = some ⟨some d, .load t x, ty, pos, af, g⟩ := by exact rfl) (hk : kd i = .o := by exact rfl) (hd : Nat.blt d n = true := by exact rfl) (hg : wantB l.toArray L g = some b := by exact rfl) (hx : ev L x = some (.pointer (some ⟨G, 0, none⟩)) := by exact rfl) (ht : C.tab.ty t = some E := by exact rfl) (hD : aggB E = true := by exact rfl) (hs : C.tab.sz t = some k := by exact rfl) (hS : ¬ kd.S G := by first | (with_reducible assumption) | exact fun h => h | exact fun h => h (by simp)) (hz : St w0 M0 M z := by with_reducible assumption)
    (hp : Pick (blkI G t' cs) M M' := by (repeat (first | (with_reducible exact Pick.here) | (with_reducible apply Pick.there))) <;> fail) (hkk : cs.length = k := by first | (with_reducible exact rfl) | (with_reducible assumption) | (simp only [List.length_map, List.length_replicate] <;> fail) | ((simp only [List.length_map]); (with_reducible assumption)) | (exact rfl) | (simp <;> fail) | (simp; omega)) (hb : b = true := by first | (with_reducible exact rfl) | decide | (simp <;> fail))
    : Nw P n l kd F Kt (i :: π) z K L w := nw_readO ho hk hd hg hb (fun w2 k2 => st_loadA C.tab (blkSt hz hp k2 hS) hx .here ht hD hd hs hkk fin) (fun _ => ⟨_, rfl⟩) h
theorem ro3 {t u e t' : TypeId} {x : Operand} {G m c : Nat} {s : List Byte} (h : Nw P n l kd F Kt π z K ((d, str s) :: L) w) (ho : nth l i = some ⟨some d, .convert t u x, ty, pos, af, g⟩ := by exact rfl) (hk : kd i = .o := by exact rfl) (hd : Nat.blt d n = true := by exact rfl) (hg : wantB l.toArray L g = some b := by exact rfl) (hx : ev L x = some (.slice (some ⟨G, 0, none⟩) m c) := by exact rfl) (hS : ¬ kd.S G := by first | (with_reducible assumption) | exact fun h => h | exact fun h => h (by simp)) (hz : St w0 M0 M z := by with_reducible assumption) (hp : Pick (blkI G t' (cb s)) M M' := by (repeat (first | (with_reducible exact Pick.here) | (with_reducible apply Pick.there))) <;> fail) (hs : C.tab.ty t = some (.slice e) := by exact rfl) (he : C.tab.ty e = some (.int .u8) := by exact rfl) (hu : C.tab.ty u = some .string := by exact rfl)
    (hl : s.length = m := by first | (with_reducible exact rfl) | (with_reducible assumption) | (simp only [List.length_map, List.length_replicate] <;> fail) | ((simp only [List.length_map]); (with_reducible assumption)) | (exact rfl) | (simp <;> fail) | (simp; omega)) (hb : b = true := by first | (with_reducible exact rfl) | decide | (simp <;> fail)) : Nw P n l kd F Kt (i :: π) z K L w := nw_readO ho hk hd hg hb (fun w2 k2 => st_toStr C.tab (blkSt hz hp k2 hS) hx .here hs he hu hd hl fin) (fun _ => ⟨_, rfl⟩) h
theorem ro5 {t u e t' : TypeId} {x : Operand} {G o m c : Nat} {cs : List Value} {s : List Byte} (h : Nw P n l kd F Kt π z K ((d, str s) :: L) w) (ho : nth l i = some ⟨some d, .convert t u x, ty, pos, af, g⟩ := by exact rfl) (hk : kd i = .o := by exact rfl) (hd : Nat.blt d n = true := by exact rfl) (hg : wantB l.toArray L g = some b := by exact rfl) (hx : ev L x = some (.slice (some ⟨G, o, none⟩) m c) := by exact rfl) (hS : ¬ kd.S G := by first | (with_reducible assumption) | exact fun h => h | exact fun h => h (by simp)) (hz : St w0 M0 M z := by with_reducible assumption) (hp : Pick (blkI G t' cs) M M' := by (repeat (first | (with_reducible exact Pick.here) | (with_reducible apply Pick.there))) <;> fail) (hs : C.tab.ty t = some (.slice e) := by exact rfl) (he : C.tab.ty e = some (.int .u8) := by exact rfl) (hu : C.tab.ty u = some .string := by exact rfl)
    (hv : (cs.drop o).take m = cb s := by assumption) (hl : s.length = m := by first | (with_reducible exact rfl) | (with_reducible assumption) | (simp only [List.length_map, List.length_replicate] <;> fail) | ((simp only [List.length_map]); (with_reducible assumption)) | (exact rfl) | (simp <;> fail) | (simp; omega)) (hb : b = true := by first | (with_reducible exact rfl) | decide | (simp <;> fail)) : Nw P n l kd F Kt (i :: π) z K L w := nw_readO ho hk hd hg hb (fun w2 k2 => st_toStrC C.tab (blkSt hz hp k2 hS) hx .here hs he hu hd hv hl fin) (fun _ => ⟨_, rfl⟩) h
theorem ro6 {t t' : TypeId} {E : TypeDesc} {x : Operand} {G o k : Nat} {cs vs : List Value} (h : Nw P n l kd F Kt π z K ((d, .agg vs.toArray) :: L) w) (ho : nth l i = some ⟨some d, .load t x, ty, pos, af, g⟩ := by exact rfl) (hk : kd i = .o := by exact rfl) (hd : Nat.blt d n = true := by exact rfl) (hg : wantB l.toArray L g = some b := by exact rfl) (hx : ev L x = some (.pointer (some ⟨G, o, none⟩)) := by exact rfl) (ht : C.tab.ty t = some E := by exact rfl) (hD : aggB E = true := by exact rfl) (hs : C.tab.sz t = some k := by exact rfl) (hS : ¬ kd.S G := by first | (with_reducible assumption) | exact fun h => h | exact fun h => h (by simp)) (hz : St w0 M0 M z := by with_reducible assumption)
    (hp : Pick (blkI G t' cs) M M' := by (repeat (first | (with_reducible exact Pick.here) | (with_reducible apply Pick.there))) <;> fail) (hv : (cs.drop o).take k = vs := by assumption) (hkk : o + k ≤ cs.length := by first | (exact (by decide)) | omega | (simp only [List.length_map, List.length_replicate]; omega) | (simp; omega)) (hb : b = true := by first | (with_reducible exact rfl) | decide | (simp <;> fail))
    : Nw P n l kd F Kt (i :: π) z K L w := nw_readO ho hk hd hg hb (fun w2 k2 => st_loadP C.tab (blkSt hz hp k2 hS) hx .here ht hD hd hs hkk hv fin) (fun _ => ⟨_, rfl⟩) h
omit C
theorem rm8 {t t' : TypeId} {x y : Operand} {a c : List Byte} (h : Nw P n l kd F Kt π z K ((d, str (a ++ c)) :: L) w) (ho : nth l i = some ⟨some d, .binOp .add t x y t', ty, pos, af, g⟩ := by exact rfl) (hk : k3 (kd i) = .quiet := by exact rfl) (hd : Nat.blt d n = true := by exact rfl) (hg : wantB l.toArray L g = some b := by exact rfl) (hx : ev L x = some (str a) := by exact rfl) (hy : ev L y = some (str c) := by exact rfl) (hb : b = true := by first | (with_reducible exact rfl) | decide | (simp <;> fail)) (hl : a.length + c.length ≤ 9223372036854775807 := by first | omega | (simp only [List.length_append, List.length_map, List.length_replicate]; omega) | (simp; omega)) : Nw P n l kd F Kt (i :: π) z K L w := nw_any ho hk hd hg hb (fun w0 => ow_addS hd hx hy hl fin) (fun _ => ⟨_, rfl⟩) h
theorem rbl {t : TypeId} {parts : List (Nat × Operand)} {vs : List (Nat × Value)} {cs : List Value} (ho : nth l i = some ⟨some d, .build t ⟨parts⟩, ty, pos, af, g⟩) (hv : mapEvP L parts = some vs) (hz : P.built t vs = some cs.toArray) (h : Nw P n l kd F Kt π z K ((d, .agg cs.toArray) :: L) w) (hk : k3 (kd i) = .quiet := by exact rfl) (hd : Nat.blt d n = true := by exact rfl) (hg : wantB l.toArray L g = some b := by exact rfl) (hb : b = true := by first | (with_reducible exact rfl) | decide | (simp <;> fail)) : Nw P n l kd F Kt (i :: π) z K L w := nw_any ho hk hd hg hb (fun w0 => ow_build hd hv hz fin) (fun _ => ⟨_, rfl⟩) h
theorem re1 {t t' : TypeId} {x y : Operand} {a c : List Byte} (h : Nw P n l kd F Kt π z K ((d, .bool (decide (a = c))) :: L) w) (ho : nth l i = some ⟨some d, .binOp .eql t x y t', ty, pos, af, g⟩ := by exact rfl) (hk : k3 (kd i) = .quiet := by exact rfl) (hd : Nat.blt d n = true := by exact rfl) (hg : wantB l.toArray L g = some b := by exact rfl) (hx : ev L x = some (str a) := by exact rfl) (hy : ev L y = some (str c) := by exact rfl) (hb : b = true := by first | (with_reducible exact rfl) | decide | (simp <;> fail)) : Nw P n l kd F Kt (i :: π) z K L w := nw_any ho hk hd hg hb (fun w0 => ow_eqS hd hx hy fin) (fun _ => ⟨_, rfl⟩) h
theorem re2 {t t' : TypeId} {x y : Operand} {a c : List Byte} (h : Nw P n l kd F Kt π z K ((d, .bool (!decide (a = c))) :: L) w) (ho : nth l i = some ⟨some d, .binOp .neq t x y t', ty, pos, af, g⟩ := by exact rfl) (hk : k3 (kd i) = .quiet := by exact rfl) (hd : Nat.blt d n = true := by exact rfl) (hg : wantB l.toArray L g = some b := by exact rfl) (hx : ev L x = some (str a) := by exact rfl) (hy : ev L y = some (str c) := by exact rfl) (hb : b = true := by first | (with_reducible exact rfl) | decide | (simp <;> fail)) : Nw P n l kd F Kt (i :: π) z K L w := nw_any ho hk hd hg hb (fun w0 => ow_neS hd hx hy fin) (fun _ => ⟨_, rfl⟩) h
include C
/-- Begin a region: what it reads first; the rest. -/
theorem mix {id : Nat} (π1 π2 : List Nat) (ex : List (Nat × Kd)) (T : List (Nat × New)) {R : List Nat} (hw : St w0 M0 M w) (h : ∀ w1 K, St w0 M0 M w1 → Ft w0 w1 K M → Nw P n l (ksF l ex R) (newsF C.zs l T) (begK P l.toArray (ksF l ex R) (newsF C.zs l T) Q π2) π1 w1 K L w1) (hm : P.follows .mixedOrders = true := by kernel_rfl) (hB : mixF .any l (ksF l ex R) π1 π2 = true := by kernel_rfl) : Cw P n (.region id l.toArray true) Q L w :=
  cw_mixF hm hB (fun w1 k hs => h w1 _ (hw.no k) ⟨fun x hx => Nat.lt_of_lt_of_le hx hw.size, fun x hx => by rw [hs] at hx; exact hx, fun i hi g hg => hw.pre.inb hi hg⟩)
theorem beg {ex : List (Nat × Kd)} {R : List Nat} {π : List Nat} {T : List (Nat × New)} (hT : ∀ a, Has n L a → FrT P l a T) (h : Nw P n l (ksF l ex R) (newsF C.zs l T) (endK Q) π z K L w) (hf : frAll C.zs l (ksF l ex R) π T = true := by kernel_rfl) : Nw P n l (ksF l ex R) (newsF C.zs l T) (begK P l.toArray (ksF l ex R) (newsF C.zs l T) Q π) [] z K L w := nw_beg (fun a ha => frAll_ok hf (hT a ha)) h
theorem beg0 {ex : List (Nat × Kd)} {R : List Nat} {π : List Nat} (h : Nw P n l (ksF l ex R) (newsF C.zs l []) (endK Q) π z K L w) (hf : frAll C.zs l (ksF l ex R) π [] = true := by kernel_rfl) : Nw P n l (ksF l ex R) (newsF C.zs l []) (begK P l.toArray (ksF l ex R) (newsF C.zs l []) Q π) [] z K L w := beg (fun _ _ => trivial) h hf
omit C
/-- An act: hw0 as it was, hw told anew. -/
theorem act (hw : St w0 M0 M w) (h : ∀ w1, St w0 M0 M w1 → St w1 M M w1 → Ow P n l.toArray (MidF P l kd F Kt π z K i w1) [⟨dst, op, ty, pos, af, none⟩] L w1) (ho : nth l i = some ⟨dst, op, ty, pos, af, g⟩ := by exact rfl) (hk : k3 (kd i) = .act := by exact rfl) (hg : wantB l.toArray L g = some b := by exact rfl) (hb : b = true := by first | (with_reducible exact rfl) | decide | (simp <;> fail)) : Nw P n l kd F Kt (i :: π) z K L w :=
  nw_act ho hk hg hb (fun w1 k1 => h w1 (hw.no k1) (St.start (hw.no k1).pre))
theorem midA {w1 : World} (hw0 : St w0 M0 M w1) (hF : Ft w0 y K M) (hw : St w1 M M' w) (kk : Kp No w1 w) (h : ∀ K, St w0 M0 M' w → Ft w0 y K M' → Nw P n l kd F Kt π z K L w) (hk : kd i = .a := by exact rfl) : Ow P n l.toArray (MidF P l kd F Kt π z K i w1) [] L w := fun a ha => by
  refine ⟨rfl, by rw [hk]; exact kk, ?_⟩
  rw [hk]
  exact h _ (St.trans (w := w1) (w1 := w1) hw0 hw) (hF.grow hw) a ha
theorem midN {w1 : World} (hw0 : St w0 M0 M w1) (hF : Ft w0 y K M) (hw : St w1 M M' w) {G : Nat} (kk : Kp (Only G) w1 w) (hG : z.heap.size ≤ G) (h : ∀ K, St w0 M0 M' w → Ft w0 y K M' → Nw P n l kd F Kt π z K L w) {t : TypeId} {cs : List Value} {M2 : List Stm.Item} (hp : Pick (blkI G t cs) M M2 := by (repeat (first | (with_reducible exact Pick.here) | (with_reducible apply Pick.there))) <;> fail) (hk : kd i = .n := by exact rfl) : Ow P n l.toArray (MidF P l kd F Kt π z K i w1) [] L w := fun a ha => by
  refine ⟨rfl, by rw [hk]; exact kk.mono (fun g hg => (show g = G from hg) ▸ ⟨hF.foot (blkI G t cs) (hp.perm.mem_iff.2 (by simp)) G rfl, .inl hG⟩), ?_⟩
  rw [hk]
  exact h _ (St.trans (w := w1) (w1 := w1) hw0 hw) (hF.grow hw) a ha
/-- A store that leaves the blocks of S's complement as they are. -/
theorem midO {w1 : World} (hw0 : St w0 M0 M w1) (hF : Ft w0 y K M) (hw : St w1 M M' w) (hR : ∀ g, ¬ kd.S g → ∃ t cs, Blk w1 g t cs ∧ Blk w g t cs) (h : ∀ K, St w0 M0 M' w → Ft w0 y K M' → Nw P n l kd F Kt π z K L w) (hk : kd i = .n := by exact rfl) : Ow P n l.toArray (MidF P l kd F Kt π z K i w1) [] L w := fun a ha => by
  refine ⟨rfl, ?_, ?_⟩
  · rw [hk]
    have k := hw.kp
    refine ⟨k.os, k.tape, k.output, k.size, fun x hx hn => ?_⟩
    by_cases hS : kd.S x
    · exact k.block x hx (fun ⟨j, hj, _, hg⟩ => hn ⟨hF.foot j hj x hg, .inr hS⟩)
    · obtain ⟨t, cs, b1, b2⟩ := hR x hS
      exact Eq.trans (show w.heap[x]? = _ from b2) (show w1.heap[x]? = _ from b1).symm
  rw [hk]
  exact h _ (St.trans (w := w1) (w1 := w1) hw0 hw) (hF.grow hw) a ha
theorem midO1 {w1 : World} (hw0 : St w0 M0 M w1) (hF : Ft w0 y K M) (hw : St w1 M M' w) (h : ∀ K, St w0 M0 M' w → Ft w0 y K M' → Nw P n l kd F Kt π z K L w) {G : Nat} {t : TypeId} {cs : List Value} {M1 M2 : List Stm.Item} (hS : ∀ g, ¬ kd.S g → g = G := by exact fun g h => List.mem_singleton.1 (Classical.not_not.1 h)) (hp1 : Pick (blkI G t cs) M M1 := by (repeat (first | (with_reducible exact Pick.here) | (with_reducible apply Pick.there))) <;> fail) (hp2 : Pick (blkI G t cs) M' M2 := by (repeat (first | (with_reducible exact Pick.here) | (with_reducible apply Pick.there))) <;> fail) (hk : kd i = .n := by exact rfl) : Ow P n l.toArray (MidF P l kd F Kt π z K i w1) [] L w :=
  midO hw0 hF hw (fun g hg => by rw [hS g hg]; exact ⟨_, _, hw0.pick hp1, hw.pick hp2⟩) h hk
theorem midS {w1 : World} (hw0 : St w0 M0 M w1) (hF : Ft w0 y K M) (hw : St w1 M M' w) (h : ∀ K, St w0 M0 M' w → Ft w0 y K M' → Nw P n l kd F Kt π w K L w) (hk : kd i = .s := by exact rfl) : Ow P n l.toArray (MidF P l kd F Kt π z K i w1) [] L w := fun a ha => by
  refine ⟨rfl, by rw [hk]; exact hw.kp.mono (fun g ⟨j, hj, _, hg⟩ => hF.foot j hj g hg), ?_⟩
  rw [hk]
  exact h _ (St.trans (w := w1) (w1 := w1) hw0 hw) (hF.grow hw) a ha
/-- What is new is taken up. -/
theorem new {I : Nat → Stm.Item} {mk : Nat → Value} (hw : St w0 M0 M w) (hF : Ft w0 y K M) (h : ∀ k w1 K, St w0 M0 (I k :: M) w1 → Ft w0 y K (I k :: M) → Nw P n l kd F Kt π z K ((d, mk k) :: L) w1) (hI : F i = ⟨mk, I⟩ := by exact rfl) (hf : ∀ k x, (I k).foot x → x = k := by exact fun _ _ h => h) (ho : nth l i = some ⟨some d, op, ty, pos, af, g⟩ := by exact rfl) (hk : k3 (kd i) = .new := by exact rfl) (hd : Nat.blt d n = true := by exact rfl) : Nw P n l kd F Kt (i :: π) z K L w :=
  nw_new ho hk hd (fun k w1 k1 hi hn hlt => by
    rw [hI] at hi ⊢
    obtain ⟨h1, h2⟩ := ft_new hw hF k1 hi (hf k) hn
    exact h k w1 _ h1 h2)
include C
/-- A new variable, come up at any time. -/
theorem newA {t : TypeId} {zv : Value} {cs : List Value} (hw : St w0 M0 M w) (hF : Ft w0 y K M) (h : ∀ k w1 K, St w0 M0 (blkI k t cs :: M) w1 → Ft w0 y K (blkI k t cs :: M) → y.heap.size ≤ k → Nw P n l kd F Kt π z K ((d, .pointer (some ⟨k, 0, none⟩)) :: L) w1) (ho : nth l i = some ⟨some d, .alloc t, ty, pos, af, g⟩ := by exact rfl) (hI : F i = newOf C.zs (some ⟨some d, .alloc t, ty, pos, af, g⟩) := by exact rfl) (hz : C.zs.z t = some zv := by exact rfl) (hcs : zv.cells = cs.toArray := by exact rfl) (hk : k3 (kd i) = .new := by exact rfl) (hd : Nat.blt d n = true := by exact rfl) : Nw P n l kd F Kt (i :: π) z K L w := by
  have hN : F i = ⟨fun g => .pointer (some ⟨g, 0, none⟩), fun g => blkI g t cs⟩ := by
    rw [hI]; simp [newOf, hz, hcs]
  refine nw_new ho hk hd (fun k w1 k1 hi hn hlt => ?_)
  rw [hN] at hi ⊢
  obtain ⟨h1, h2⟩ := ft_new hw hF k1 hi (fun x hx => hx) hn
  exact h k w1 _ h1 h2 (Nat.not_lt.1 fun hx => hn (hF.was k hx))
end regions
end Go.Proofs.Ytnpnphcklmlchaa.Y
