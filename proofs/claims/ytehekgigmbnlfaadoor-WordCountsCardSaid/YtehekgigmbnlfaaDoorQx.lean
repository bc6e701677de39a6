/- Regions that draw their order: reads and calls of readers come in any order; what is forced to come last comes last. -/
import Derived.Test.YtehekgigmbnlfaaDoorBy
import Derived.StillTail
set_option linter.unusedVariables false
set_option linter.unusedSimpArgs false
namespace Go.Proofs.YtehekgigmbnlfaaDoor.Qx
open Go.RowKit Go.Proofs.YtehekgigmbnlfaaDoor.Sx Go.Proofs.YtehekgigmbnlfaaDoor.Mx
variable {P : Program}

def Gw (P : Program) (n : Nat) (ops : Array Oper) (C : World → Prop) (Q : Act → Prop) (l : List Oper) (L : Ctx) : Prop := ∀ a, Has n L a → wpQuiet P ops C Q l a

/-- The operation yields a value, whatever it is, or falls. -/
def Valued (o : Oper) : Prop := ∀ e, ∃ s : Sem Value, execOp e o = (do let v ← s; pure (.value v))
/-- What a read must come to. -/
def Fin (d : Nat) (v : Value) (w : World) : Exit → Act → World → Prop := fun e a w' => e = .normal ∧ w' = w ∧ a.tmps[d]? = some v

section rules
variable {n : Nat} {Q : Act → Prop} {L : Ctx} {w : World} {ops : Array Oper} {C : World → Prop} {rest : List Oper} {d : Nat} {op : Op} {ty : TypeId} {pos : String} {af : Array Edge} {v : Value}

theorem fin : Ow P n ops (Fin d v w) [] ((d, v) :: L) w := fun a ha => ⟨rfl, rfl, ha.slots d v (by rw [look_cons, if_pos rfl])⟩

theorem gw_nil (h : ∀ a, Has n L a → Q a) : Gw P n ops C Q [] L := fun a ha => h a ha
theorem gw_run (hd : Nat.blt d n = true) (he : ∀ w a, C w → Has n L a → (execOp a.eval ⟨some d, op, ty, pos, af, none⟩).run P w = .ok (.value v) w) (h : Gw P n ops C Q rest ((d, v) :: L)) : Gw P n ops C Q (⟨some d, op, ty, pos, af, none⟩ :: rest) L :=
  fun a ha => by
    unfold wpQuiet
    rw [if_pos (by simp [Region.wanted])]
    refine ⟨v, fun w hw => ?_, h _ (ha.put (by simpa [Nat.blt_eq] using hd) v)⟩
    unfold Oper.quietAt
    rw [he w a hw ha]
    exact ⟨rfl, rfl⟩
theorem gw_pure (T : Tab P) (hd : Nat.blt d n = true) (he : pureOp T L op = some v) (h : Gw P n ops C Q rest ((d, v) :: L)) : Gw P n ops C Q (⟨some d, op, ty, pos, af, none⟩ :: rest) L :=
  gw_run hd (fun w a _ ha => pureOp_ok T (o := ⟨some d, op, ty, pos, af, none⟩) ha he w) h
theorem gw_guard_yes {d : Option Tmp} {j : Nat} {b : Bool} (hy : guardOf ops L j = some b) (h : Gw P n ops C Q (⟨d, op, ty, pos, af, none⟩ :: rest) L) : Gw P n ops C Q (⟨d, op, ty, pos, af, some (j, b)⟩ :: rest) L :=
  fun a ha => by
    have h1 := h a ha
    unfold wpQuiet at h1 ⊢
    rw [if_pos (by simp [Region.wanted, guardOf_ok ha hy])]
    rw [if_pos (by simp [Region.wanted])] at h1
    exact h1
theorem gw_guardY {d : Option Tmp} {j : Nat} {b b' : Bool} (hy : guardOf ops L j = some b') (hb : (b' == b) = true) (h : Gw P n ops C Q (⟨d, op, ty, pos, af, none⟩ :: rest) L) : Gw P n ops C Q (⟨d, op, ty, pos, af, some (j, b)⟩ :: rest) L := gw_guard_yes (by rw [hy, eq_of_beq hb]) h
theorem gw_guard_no {j : Nat} {b b' : Bool} (hd : Nat.blt d n = true) (hy : guardOf ops L j = some b') (hb : (b' == b) = false) (h : Gw P n ops C Q rest ((d, undef) :: L)) : Gw P n ops C Q (⟨some d, op, ty, pos, af, some (j, b)⟩ :: rest) L :=
  fun a ha => by
    unfold wpQuiet
    rw [if_neg (by simp only [Region.wanted, guardOf_ok ha hy, Option.some_beq_some]; rw [hb]; simp)]
    exact h _ (ha.put (by simpa [Nat.blt_eq] using hd) undef)
/-- A read, by its rule of the walk in order. -/
theorem gw_of (hd : Nat.blt d n = true) (hV : Valued ⟨some d, op, ty, pos, af, none⟩) (h : ∀ w, C w → Ow P n ops (Fin d v w) [⟨some d, op, ty, pos, af, none⟩] L w) (hk : Gw P n ops C Q rest ((d, v) :: L)) : Gw P n ops C Q (⟨some d, op, ty, pos, af, none⟩ :: rest) L :=
  gw_run hd (fun w a hw ha => by
    have h1 := h w hw a ha
    unfold wpList at h1
    rw [if_pos (by simp [Region.wanted])] at h1
    have hlt : d < n := by simpa [Nat.blt_eq] using hd
    rcases h1 with h1 | ⟨_, a', w', h2⟩
    · unfold Oper.wp at h1
      obtain ⟨s, hs⟩ := hV a.eval
      rw [hs, Sem.run_bind] at h1 ⊢
      cases hr : s.run P w with
      | halt x w' =>
        rw [hr] at h1
        cases x <;> first | exact h1.elim | (have := h1.1; cases this)
      | ok u w' =>
        rw [hr] at h1
        obtain ⟨_, rfl, h3⟩ := (show Fin d v w .normal (a.put (some d) u) w' from h1)
        have h4 := (ha.put hlt u).slots d u (by rw [look_cons, if_pos rfl])
        rw [h3] at h4
        cases h4
        rfl
    · cases h2.1) hk
/-- A call that only reads. -/
theorem gw_call {f : FuncId} {xs : List Operand} {vs : List Value} {fn : Func} {body : Code} (hd : Nat.blt d n = true) (hc : callee L op = some (f, xs)) (hv : mapEv L xs = some vs)
    (hf : P.funcs[f]? = some fn) (hb : fn.body = some body) (hn : (fn.name == "runtime.NumGoroutine") = false)
    (hfn : ∀ w, C w → Does P f vs w fun v' w' => v' = v ∧ C w') (h : Gw P n ops C Q rest ((d, v) :: L)) : Gw P n ops C Q (⟨some d, op, ty, pos, af, none⟩ :: rest) L :=
  fun a ha => by
    unfold wpQuiet
    rw [if_pos (by simp [Region.wanted])]
    refine ⟨v, fun w hw => ?_, h _ (ha.put (by simpa [Nat.blt_eq] using hd) v)⟩
    unfold Oper.quietAt
    rw [callee_ok (o := ⟨some d, op, ty, pos, af, none⟩) hc hv hf hb hn ha]
    exact ⟨rfl, Calls.mono (hfn w hw) fun e w' ⟨u, he, hu, hcw⟩ => ⟨by rw [he, hu], hcw⟩⟩
end rules

section region
variable {n : Nat} {Q : Exit → Act → World → Prop} {L : Ctx} {w : World} {ops : Array Oper}
/-- Does reading leave everything as it was? -/
theorem no_call {f : FuncId} {vs : List Value} {v : Value} (h : ∀ w, Does P f vs w fun u w' => u = v ∧ Kp No w w') {w0 : World} : ∀ w, Kp No w0 w → Does P f vs w fun u w' => u = v ∧ Kp No w0 w' :=
  fun w k => (h w).mono fun _ _ ⟨hu, hk⟩ => ⟨hu, k.no hk⟩
theorem no_call_same {f : FuncId} {vs : List Value} {v : Value} (h : ∀ w, Does P f vs w fun u w' => u = v ∧ w = w') {w0 : World} : ∀ w, Kp No w0 w → Does P f vs w fun u w' => u = v ∧ Kp No w0 w' :=
  fun w k => (h w).mono fun _ _ ⟨hu, hk⟩ => ⟨hu, hk ▸ k⟩

theorem gq_nil (h : ∀ w', Kp No w w' → Xw n .normal Q L w') : Gw P n ops (Kp No w) (fun a => ∀ w', Kp No w w' → Q .normal a w') [] L := fun a ha w' hw' => h w' hw' a ha
/-- A region that only reads. -/
theorem cw_quiet {id : Nat} {l : List Oper} (hm : P.follows .mixedOrders = true) (hB : Region.lexB .any l.toArray = true)
    (h : Gw P n l.toArray (Kp No w) (fun a => ∀ w', Kp No w w' → Q .normal a w') l L) : Cw P n (.region id l.toArray true) Q L w :=
  fun a ha => wp_region_quiet (C := Kp No w) hm hB (kp_drew w) (by simpa using h a ha)

/-! reads, and behind them what comes last -/
def backB (md : Region.Mode) (ops : Array Oper) (n : Nat) : Bool :=
  (List.range n).all fun i => match ops[i]? with
    | some o => (o.after.all fun e => !Region.binds md e || decide (e.on < i)) && (match o.guard with
      | none => true
      | some (j, _) => decide (j < i))
    | none => false
theorem backB_spec {md : Region.Mode} {ops : Array Oper} {n i : Nat} (h : backB md ops n = true) (hi : i < n) : ∃ o, ops[i]? = some o ∧ (∀ e ∈ o.after, Region.binds md e = true → e.on < i) ∧ ∀ j b, o.guard = some (j, b) → j < i := by
  have h1 := List.all_eq_true.1 h i (List.mem_range.2 hi)
  cases ho : ops[i]? with
  | none => rw [ho] at h1; cases h1
  | some o =>
    rw [ho] at h1
    simp only [Bool.and_eq_true] at h1
    refine ⟨o, rfl, fun e he hb => ?_, fun j b hg => ?_⟩
    · have := Array.all_eq_true'.1 h1.1 e he
      simpa [hb] using this
    · have h2 := h1.2
      rw [hg] at h2
      simpa using h2

/-- What has come up, in the region and in its head alone. -/
structure Rel (ops : Array Oper) (n : Nat) (listed listed' : Array Bool) : Prop where
  size : listed.size = ops.size
  size' : listed'.size = n
  same : ∀ i, i < n → listed'.getD i true = listed.getD i true
  tail : ∀ t, n ≤ t → t < ops.size → listed.getD t true = false
theorem getD_tf {l : Array Bool} {i : Nat} (h : i < l.size) : l.getD i false = l.getD i true := by simp [h]
theorem Rel.set {ops : Array Oper} {n i : Nat} {l l' : Array Bool} (h : Rel ops n l l') (hi : i < n) : Rel ops n (l.setIfInBounds i true) (l'.setIfInBounds i true) where
  size := by simp [h.size]
  size' := by simp [h.size']
  same := fun j hj => by
    by_cases e : i = j
    · subst e
      by_cases hz : i < ops.size
      · simp [h.size', h.size, hj, hz]
      · have : l.size ≤ i := by rw [h.size]; omega
        simp [h.size', hj, this]
    · rw [getD_set_ne true e, getD_set_ne true e]; exact h.same j hj
  tail := fun t h1 h2 => by rw [getD_set_ne true (by omega)]; exact h.tail t h1 h2

/-- How many of the head are still to come. -/
def left (n : Nat) (l : Array Bool) : Nat := (List.range n).countP fun i => !l.getD i true
theorem left_set {n i : Nat} {l : Array Bool} (hi : i < n) (hs : l.size = n) (hun : l.getD i true = false) : left n l = left n (l.setIfInBounds i true) + 1 := by
  unfold left
  have key : ∀ (L : List Nat), L.Nodup → i ∈ L → L.countP (fun j => !l.getD j true) = L.countP (fun j => !(l.setIfInBounds i true).getD j true) + 1 := by
    intro L
    induction L with
    | nil => intro _ h; cases h
    | cons j L ih =>
      intro hnd hm
      have hnd' := List.nodup_cons.1 hnd
      by_cases e : i = j
      · subst e
        have hrest : L.countP (fun j => !l.getD j true) = L.countP (fun j => !(l.setIfInBounds i true).getD j true) := by
          apply List.countP_congr
          intro k hk
          have hne : i ≠ k := fun h => hnd'.1 (h ▸ hk)
          rw [getD_set_ne true hne]
        have h1 : (l.setIfInBounds i true).getD i true = true := by simp [hs, hi]
        rw [List.countP_cons_of_pos (by simp only [hun, Bool.not_false]), List.countP_cons_of_neg (by simp only [h1]; decide), hrest]
      · have hm' : i ∈ L := by
          rcases List.mem_cons.1 hm with h | h
          · exact absurd h e
          · exact h
        have := ih hnd'.2 hm'
        simp only [List.countP_cons, getD_set_ne true e]
        omega
  exact key _ List.nodup_range (List.mem_range.2 hi)

theorem mem_left {n : Nat} {l : Array Bool} (h : left n l = 0) {i : Nat} (hi : i < n) : l.getD i true = true := by
  unfold left at h
  have := List.countP_eq_zero.1 h i (List.mem_range.2 hi)
  simpa using this

theorem ready_min {md : Region.Mode} {ops : Array Oper} {n : Nat} {l : Array Bool} (hb : backB md ops n = true) (hs : l.size = ops.size) (hne : ∃ i, i < n ∧ l.getD i true = false) : Region.ready md ops l ≠ [] := by
  have key : ∀ (k i : Nat), i ≤ k → i < n → l.getD i true = false → ∃ j, j ∈ Region.ready md ops l := by
    intro k
    induction k with
    | zero =>
      intro i hik hin hun
      obtain ⟨o, ho, he, _⟩ := backB_spec hb hin
      exact ⟨i, mem_ready.2 ⟨hun, o, ho, fun e h1 h2 => absurd (he e h1 h2) (by omega)⟩⟩
    | succ k ih =>
      intro i hik hin hun
      obtain ⟨o, ho, he, _⟩ := backB_spec hb hin
      by_cases hall : ∀ e ∈ o.after, Region.binds md e = true → l.getD e.on false = true
      · exact ⟨i, mem_ready.2 ⟨hun, o, ho, hall⟩⟩
      · obtain ⟨e, h1⟩ := Classical.not_forall.1 hall
        obtain ⟨h1, h2⟩ := Classical.not_imp.1 h1
        obtain ⟨h2, h3⟩ := Classical.not_imp.1 h2
        have hlt := he e h1 h2
        have hsz : i < ops.size := (Array.getElem?_eq_some_iff.1 ho).1
        exact ih e.on (by omega) (by omega) (by rw [← getD_tf (by rw [hs]; omega)]; simpa using h3)
  obtain ⟨i, hi, hun⟩ := hne
  obtain ⟨j, hj⟩ := key i i (Nat.le_refl _) hi hun
  intro h
  rw [h] at hj
  cases hj

theorem any_of_head {md : Region.Mode} {C : World → Prop} {l : List Oper} {m g : Nat} (hm : m < l.length) (hg : g = l.length - m) (hs : Region.sinkB md l.toArray m = true) (hc : Region.chainB md l.toArray m = true) (hb : backB md l.toArray m = true)
    (hq : Region.seqB md l.toArray g m (Array.replicate m true ++ Array.replicate g false) = true) :
    ∀ (f : Nat) (listed listed' : Array Bool) (a : Act) (w : World), C w → Rel l.toArray m listed listed' → HeadInv md l.toArray m listed → left m listed' = f →
      wpAnyQ P md (l.take m).toArray C (fun a => ∀ w, C w → wpList P l.toArray Q (l.drop m) a w) f listed' a → wpAny P md l.toArray Q (f + g) listed a w
  | 0, listed, listed', a, w, hw, hr, inv, hl, h => by
    have e : listed = Array.replicate m true ++ Array.replicate g false := by
      apply Array.ext
      · rw [hr.size]; simp; omega
      · intro i h1 h2
        have hz : i < l.length := by have := hr.size; simp at this; omega
        by_cases hi : i < m
        · have h3 := mem_left hl hi
          rw [hr.same i hi] at h3
          simp only [Array.getD_eq_getD_getElem?, Array.getElem?_eq_getElem h1, Option.getD_some] at h3
          rw [h3]
          simp [Array.getElem_append, hi]
        · have h3 := hr.tail i (by omega) (by simpa using hz)
          simp only [Array.getD_eq_getD_getElem?, Array.getElem?_eq_getElem h1, Option.getD_some] at h3
          rw [h3]
          simp [Array.getElem_append, hi]
    rw [Nat.zero_add]
    have hd : (l.drop m).length = g := by simp [hg]
    have := wpAny_of_seq (md := md) (Q' := Q) (l.drop m) m listed a w (fun j => by simp [List.getElem?_drop]) (by rw [hd, e]; exact hq) (h.2 w hw)
    rwa [hd] at this
  | f + 1, listed, listed', a, w, hw, hr, inv, hl, h => by
    have hne : ∃ i, i < m ∧ listed'.getD i true = false := by
      have : 0 < left m listed' := by omega
      unfold left at this
      obtain ⟨i, hi, h1⟩ := List.countP_pos_iff.1 this
      exact ⟨i, List.mem_range.1 hi, by simpa using h1⟩
    obtain ⟨i0, hi0, hun0⟩ := hne
    rw [hr.same i0 hi0] at hun0
    have hne := ready_min hb hr.size ⟨i0, hi0, hun0⟩
    rw [show f + 1 + g = (f + g) + 1 from by omega]
    refine ⟨fun h0 => absurd h0 hne, fun j hj => ?_⟩
    have hjm : j < m := by
      rcases Nat.lt_or_ge j m with h | h
      · exact h
      · exact absurd hj (tail_waits hs hc (by simpa using hm) inv _ i0 rfl hi0 hun0 j h)
    obtain ⟨hjun, o, ho, hall⟩ := mem_ready.1 hj
    obtain ⟨o', ho', hback, hgd⟩ := backB_spec hb hjm
    have hoo : o' = o := Option.some.inj (ho'.symm.trans ho)
    subst hoo
    have ho2 : (l.take m).toArray[j]? = some o' := by
      simp only [List.getElem?_toArray] at ho' ⊢
      rw [List.getElem?_take, if_pos hjm]
      exact ho'
    have hjun' : listed'.getD j true = false := by rw [hr.same j hjm]; exact hjun
    have hj' : j ∈ Region.ready md (l.take m).toArray listed' := mem_ready.2 ⟨hjun', o', ho2, fun e he hbd => by
      have h1 := hall e he hbd
      have h2 := hback e he hbd
      rw [getD_tf (by rw [hr.size']; omega), hr.same _ (by omega), ← getD_tf (by rw [hr.size]; simp; omega)]
      exact h1⟩
    have h3 := h.2 j hj'
    have h4 : qOp P l.toArray C j (wpAnyQ P md (l.take m).toArray C (fun a => ∀ w, C w → wpList P l.toArray Q (l.drop m) a w) f (listed'.setIfInBounds j true)) a := by
      unfold qOp at h3 ⊢
      rw [ho2] at h3
      rw [ho]
      simp only at h3 ⊢
      have hwant : Region.wanted o' (yielded l.toArray a.tmps) = Region.wanted o' (yielded (l.take m).toArray a.tmps) := by
        unfold Region.wanted
        cases hgu : o'.guard with
        | none => rfl
        | some p =>
          obtain ⟨k, b⟩ := p
          have hk := hgd k b hgu
          simp only
          have : yielded l.toArray a.tmps k = yielded (l.take m).toArray a.tmps k := by
            unfold yielded
            simp only [List.getElem?_toArray, List.getElem?_take]
            rw [if_pos (by omega)]
          rw [this]
      rw [hwant]
      exact h3
    have hl' : left m (listed'.setIfInBounds j true) = f := by have := left_set hjm hr.size' hjun'; omega
    exact wpOp_of_qOp hw (fun a' w' hw' hK => any_of_head hm hg hs hc hb hq f _ _ a' w' hw' (hr.set hjm) (inv.set hj hjm) hl' hK) h4

theorem gt_nil {tl : List Oper} (h : ∀ w', Kp No w w' → Ow P n ops Q tl L w') {ops' : Array Oper} : Gw P n ops' (Kp No w) (fun a => ∀ w', Kp No w w' → wpList P ops Q tl a w') [] L := fun a ha w' hw' => h w' hw' a ha
/-- A region of reads (the first m operations), then the others in their order. -/
theorem cw_quietT {id m : Nat} {l : List Oper} (hm : P.follows .mixedOrders = true) (hB : Region.lexB .any (l.take m).toArray = true) (h1 : (Nat.blt m l.length && Region.sinkB .any l.toArray m && Region.chainB .any l.toArray m && backB .any l.toArray m
      && Region.seqB .any l.toArray (l.length - m) m (Array.replicate m true ++ Array.replicate (l.length - m) false)) = true)
    (h : Gw P n (l.take m).toArray (Kp No w) (fun a => ∀ w', Kp No w w' → wpList P l.toArray Q (l.drop m) a w') (l.take m) L) : Cw P n (.region id l.toArray true) Q L w :=
  fun a ha => by
    simp only [Bool.and_eq_true, Nat.blt_eq] at h1
    obtain ⟨⟨⟨⟨hlt, hs⟩, hc⟩, hb⟩, hq⟩ := h1
    refine wp_region_any hm ?_
    have htl : (l.take m).length = m := by simp; omega
    simp only [Region.lexB, Bool.and_eq_true] at hB
    have hx := wpAnyQ_lex (C := Kp No w) (md := .any) hB.1 (l.take m) 0 (Array.replicate (l.take m).toArray.size false) a (by simp) (by simpa using hB.2) (h a ha)
    have hz : left m (Array.replicate (l.take m).toArray.size false) = (l.take m).length := by
      unfold left
      rw [List.countP_eq_length.2 (by
        intro i hi
        have hi' : i < m := List.mem_range.1 hi
        simp [htl, hi']), List.length_range, htl]
    have := any_of_head (P := P) (Q := Q) (C := Kp No w) hlt rfl hs hc hb hq _ (Array.replicate l.toArray.size false) _ a _ (kp_drew w) ⟨by simp, by simp only [Array.size_replicate, List.size_toArray, htl], fun i hi => by
        have hi2 : i < l.length := by omega
        have hi3 : i < min m l.length := by omega
        simp [hi2, hi3], fun t h1 h2 => by
        have : t < l.length := by simpa using h2
        simp [this]⟩ ⟨by simp, fun j oj _ hl => (by rw [getD_replicate_false] at hl; cases hl), fun t _ ht => getD_in (by simpa using ht) (getD_replicate_false _ _)⟩ hz hx
    rw [htl, show m + (l.length - m) = l.toArray.size from by simp; omega] at this
    exact this
end region
end Go.Proofs.YtehekgigmbnlfaaDoor.Qx
