/- Regions that draw their order, in general: one order serves for all; reads may come at any time, what acts comes one behind the other. -/
import Derived.Test.YtehekgigmbnlfaaDoorQx
set_option linter.unusedVariables false
set_option linter.unusedSimpArgs false
namespace Go.Proofs.YtehekgigmbnlfaaDoor.Mi
open Go.RowKit Go.Proofs.YtehekgigmbnlfaaDoor.Sx Go.Proofs.YtehekgigmbnlfaaDoor.Mx Go.Proofs.YtehekgigmbnlfaaDoor.Qx
variable {P : Program}

/-- q: of its operands alone; r: reads memory; a: acts, and leaves what was known; s: stores. -/
inductive Kind where
  | q | r | a | s
deriving DecidableEq

def NoQ : Exit → Act → World → Prop := fun _ _ _ => False
def cls (k : Kind) (C : World → Prop) : World → Prop := match k with
  | .q => fun _ => True
  | _ => C
def quietK : Kind → Bool
  | .q => true
  | .r => true
  | _ => false

/-- The operation yields the value and leaves the world, in every world of the class (or does not come up). -/
def Yv (P : Program) (ops : Array Oper) (C : World → Prop) (o : Oper) (v : Value) (a : Act) : Prop :=
  (Region.wanted o (yielded ops a.tmps) = true ∧ ∀ w, C w → (execOp a.eval o).run P w = .ok (.value v) w) ∨ (Region.wanted o (yielded ops a.tmps) = false ∧ v = undef)
theorem Yv.of_same {ops : Array Oper} {C : World → Prop} {o : Oper} {v : Value} {a a' : Act} (h : Yv P ops C o v a) (he : execOp a'.eval o = execOp a.eval o) (hw : Region.wanted o (yielded ops a'.tmps) = Region.wanted o (yielded ops a.tmps)) : Yv P ops C o v a' := by
  unfold Yv at *
  rw [he, hw]
  exact h

/-- The operations in this order. -/
def wpMix (P : Program) (ops : Array Oper) (kd : Nat → Kind) (Q : Exit → Act → World → Prop) : List Nat → (World → Prop) → Act → World → Prop
  | [], C, a, w => Q .normal a w
  | i :: π, C, a, w => ∃ o, ops[i]? = some o ∧ match kd i with
    | .a => if Region.wanted o (yielded ops a.tmps) then o.wp P a w (fun a' w' => C w' ∧ wpMix P ops kd Q π C a' w') NoQ else wpMix P ops kd Q π C (a.put o.dst undef) w
    | .s => if Region.wanted o (yielded ops a.tmps) then o.wp P a w (fun a' w' => ∃ C', C' w' ∧ wpMix P ops kd Q π C' a' w') NoQ else wpMix P ops kd Q π C (a.put o.dst undef) w
    | k => ∃ v, Yv P ops (cls k C) o v a ∧ wpMix P ops kd Q π C (a.put o.dst v) w

section
variable {ops : Array Oper} {kd : Nat → Kind} {Q : Exit → Act → World → Prop}

theorem wpMix_quiet {i : Nat} {π : List Nat} {C : World → Prop} {a : Act} {w : World} (hk : quietK (kd i) = true) : wpMix P ops kd Q (i :: π) C a w ↔ ∃ o, ops[i]? = some o ∧ ∃ v, Yv P ops (cls (kd i) C) o v a ∧ wpMix P ops kd Q π C (a.put o.dst v) w := by
  rw [wpMix]
  cases h : kd i <;> simp [h, quietK] at hk ⊢

/-- What must hold of two operations that come in this order, if the second may come first. -/
def compat (ops : Array Oper) (kd : Nat → Kind) (j i : Nat) : Bool :=
  match ops[j]?, ops[i]? with
  | some oj, some oi => oi.apart ops oj && (match kd i with
    | .s => kd j == .q
    | _ => quietK (kd j))
  | _, _ => false
theorem compat_spec {j i : Nat} {oi : Oper} (h : compat ops kd j i = true) (hi : ops[i]? = some oi) : ∃ oj, ops[j]? = some oj ∧ oi.apart ops oj = true ∧ quietK (kd j) = true ∧ (kd i = .s → kd j = .q) := by
  unfold compat at h
  rw [hi] at h
  cases hj : ops[j]? with
  | none => rw [hj] at h; cases h
  | some oj =>
    rw [hj] at h
    simp only [Bool.and_eq_true] at h
    refine ⟨oj, rfl, h.1, ?_, fun hs => ?_⟩
    · cases hk : kd i <;> rw [hk] at h <;> simp only at h <;> first | exact h.2 | (have := h.2; simp only [beq_iff_eq] at this; rw [this]; rfl)
    · rw [hs] at h; simpa using h.2

variable (hsel : ∀ (j : Nat) (o : Oper) cs b, ops[j]? = some o → o.op ≠ .select cs b)
include hsel

theorem pull_q {i : Nat} {oi : Oper} {l2 : List Nat} {C : World → Prop} {w : World} (hi : ops[i]? = some oi) (hq : quietK (kd i) = true) : ∀ (l1 : List Nat) (a : Act), (∀ j ∈ l1, compat ops kd j i = true) → wpMix P ops kd Q (l1 ++ i :: l2) C a w →
    ∃ v, Yv P ops (cls (kd i) C) oi v a ∧ wpMix P ops kd Q (l1 ++ l2) C (a.put oi.dst v) w
  | [], a, _, h => by
    obtain ⟨o, ho, h⟩ := (wpMix_quiet hq).1 h
    rw [hi] at ho
    cases ho
    exact h
  | j :: l1, a, hc, h => by
    obtain ⟨oj, hj, hap, hqj, _⟩ := compat_spec (hc j (by simp)) hi
    obtain ⟨o, ho, u, hu, h⟩ := (wpMix_quiet hqj).1 h
    rw [hj] at ho
    cases ho
    obtain ⟨v, hv, h⟩ := pull_q hi hq l1 _ (fun k hk => hc k (by simp [hk])) h
    obtain ⟨h1, h2, h3⟩ := Oper.apart_spec hap
    refine ⟨v, hv.of_same (execOp_put oi (fun cs b => hsel i oi cs b hi) a oj.dst u h3).symm (wanted_put oi a oj.dst u h3).symm, (wpMix_quiet hqj).2 ⟨oj, hj, u, ?_, ?_⟩⟩
    · exact hu.of_same (execOp_put oj (fun cs b => hsel j oj cs b hj) a oi.dst v h1) (wanted_put oj a oi.dst v h1)
    · rw [Act.put_comm a v u h2]
      exact h

omit hsel in
/-- An operation acts in a state that another's value has been put into, as without it. -/
theorem wp_put {oi oj : Oper} {a : Act} {u : Value} {w : World} {K K2 : Act → World → Prop} (he : execOp (a.put oj.dst u).eval oi = execOp a.eval oi)
    (h : oi.wp P (a.put oj.dst u) w K NoQ) (hK : ∀ (b : Act) v w', b.tmps = a.tmps → K ((b.put oj.dst u).put oi.dst v) w' → K2 (b.put oi.dst v) w') : oi.wp P a w K2 NoQ := by
  unfold Oper.wp at h ⊢
  rw [he] at h
  generalize (execOp a.eval oi).run P w = r at *
  cases r with
  | halt x w' => cases x <;> exact h
  | ok nx w' =>
    cases nx with
    | value v => exact hK a v w' rfl h
    | skip => exact hK a undef w' rfl h
    | defer d => exact hK { a with defers := d :: a.defers } undef w' rfl (by
        have e : ({ (a.put oj.dst u) with defers := d :: (a.put oj.dst u).defers } : Act) = ({ a with defers := d :: a.defers } : Act).put oj.dst u := by
          cases oj.dst <;> rfl
        have h' : K (({ (a.put oj.dst u) with defers := d :: (a.put oj.dst u).defers } : Act).put oi.dst undef) w' := h
        rw [e] at h'
        exact h')
    | enter f args =>
      refine Calls.mono (show Calls P f args w' _ from h) fun e w'' he => ?_
      cases e with
      | returned v => exact hK a v w'' rfl he
      | panicked c => exact he
      | outgrown => obtain ⟨_, _, h⟩ := he; exact h.elim
    | row f args => exact Rows.mono (show Rows P f args w' _ from h) fun v w'' he => hK a v w'' rfl he
    | _ => exact h

theorem pull_a {i : Nat} {oi : Oper} {l2 : List Nat} {C : World → Prop} {w : World} (hi : ops[i]? = some oi) (hk : kd i = .a) : ∀ (l1 : List Nat) (a : Act), (∀ j ∈ l1, compat ops kd j i = true) → wpMix P ops kd Q (l1 ++ i :: l2) C a w →
    if Region.wanted oi (yielded ops a.tmps) then oi.wp P a w (fun a' w' => C w' ∧ wpMix P ops kd Q (l1 ++ l2) C a' w') NoQ else wpMix P ops kd Q (l1 ++ l2) C (a.put oi.dst undef) w
  | [], a, _, h => by
    rw [List.nil_append, wpMix, hk] at h
    obtain ⟨o, ho, h⟩ := h
    rw [hi] at ho
    cases ho
    exact h
  | j :: l1, a, hc, h => by
    obtain ⟨oj, hj, hap, hqj, _⟩ := compat_spec (hc j (by simp)) hi
    obtain ⟨o, ho, u, hu, h⟩ := (wpMix_quiet hqj).1 h
    rw [hj] at ho
    cases ho
    have h' := pull_a hi hk l1 _ (fun k hk => hc k (by simp [hk])) h
    obtain ⟨h1, h2, h3⟩ := Oper.apart_spec hap
    rw [wanted_put oi a oj.dst u h3] at h'
    have keep : ∀ (b : Act) v, b.tmps = a.tmps → Yv P ops (cls (kd j) C) oj u (b.put oi.dst v) := fun b v hb => by
      have e1 : b.eval = a.eval := by funext x; cases x <;> simp [Act.eval, hb]
      exact hu.of_same ((execOp_put oj (fun cs b => hsel j oj cs b hj) b oi.dst v h1).trans (by rw [e1])) ((wanted_put oj b oi.dst v h1).trans (by rw [hb]))
    split
    · rename_i hw
      rw [if_pos hw] at h'
      refine wp_put (execOp_put oi (fun cs b => hsel i oi cs b hi) a oj.dst u h3) h' (fun b v w' hb hh => ⟨hh.1, (wpMix_quiet hqj).2 ⟨oj, hj, u, keep b v hb, ?_⟩⟩)
      rw [Act.put_comm b v u h2]
      exact hh.2
    · rename_i hw
      rw [if_neg hw] at h'
      refine (wpMix_quiet hqj).2 ⟨oj, hj, u, keep a undef rfl, ?_⟩
      rw [Act.put_comm a undef u h2]
      exact h'

theorem pull_s {i : Nat} {oi : Oper} {l2 : List Nat} {C : World → Prop} {w : World} (hi : ops[i]? = some oi) (hk : kd i = .s) : ∀ (l1 : List Nat) (a : Act), (∀ j ∈ l1, compat ops kd j i = true) → wpMix P ops kd Q (l1 ++ i :: l2) C a w →
    if Region.wanted oi (yielded ops a.tmps) then oi.wp P a w (fun a' w' => ∃ C', C' w' ∧ wpMix P ops kd Q (l1 ++ l2) C' a' w') NoQ else wpMix P ops kd Q (l1 ++ l2) C (a.put oi.dst undef) w
  | [], a, _, h => by
    rw [List.nil_append, wpMix, hk] at h
    obtain ⟨o, ho, h⟩ := h
    rw [hi] at ho
    cases ho
    exact h
  | j :: l1, a, hc, h => by
    obtain ⟨oj, hj, hap, hqj, hs⟩ := compat_spec (hc j (by simp)) hi
    have hkj := hs hk
    obtain ⟨o, ho, u, hu, h⟩ := (wpMix_quiet hqj).1 h
    rw [hj] at ho
    cases ho
    have h' := pull_s hi hk l1 _ (fun k hk => hc k (by simp [hk])) h
    obtain ⟨h1, h2, h3⟩ := Oper.apart_spec hap
    rw [wanted_put oi a oj.dst u h3] at h'
    rw [hkj] at hu
    have keep : ∀ (b : Act) v (C' : World → Prop), b.tmps = a.tmps → Yv P ops (cls (kd j) C') oj u (b.put oi.dst v) := fun b v C' hb => by
      have e1 : b.eval = a.eval := by funext x; cases x <;> simp [Act.eval, hb]
      rw [hkj]
      exact hu.of_same ((execOp_put oj (fun cs b => hsel j oj cs b hj) b oi.dst v h1).trans (by rw [e1])) ((wanted_put oj b oi.dst v h1).trans (by rw [hb]))
    split
    · rename_i hw
      rw [if_pos hw] at h'
      refine wp_put (execOp_put oi (fun cs b => hsel i oi cs b hi) a oj.dst u h3) h' (fun b v w' hb hh => ?_)
      obtain ⟨C', hC', hm⟩ := hh
      refine ⟨C', hC', (wpMix_quiet hqj).2 ⟨oj, hj, u, keep b v C' hb, ?_⟩⟩
      rw [Act.put_comm b v u h2]
      exact hm
    · rename_i hw
      rw [if_neg hw] at h'
      refine (wpMix_quiet hqj).2 ⟨oj, hj, u, keep a undef C rfl, ?_⟩
      rw [Act.put_comm a undef u h2]
      exact h'
omit hsel

/-! ### Which operation waits for which -/
inductive Reach (md : Region.Mode) (ops : Array Oper) : Nat → Nat → Prop where
  | one {i j : Nat} {o : Oper} {e : Edge} (ho : ops[i]? = some o) (he : e ∈ o.after) (hb : Region.binds md e = true) (hj : e.on = j) : Reach md ops i j
  | more {i j : Nat} {o : Oper} {e : Edge} (ho : ops[i]? = some o) (he : e ∈ o.after) (hb : Region.binds md e = true) (hr : Reach md ops e.on j) : Reach md ops i j

/-- What is listed has waited for what it waits for. -/
def Closed (md : Region.Mode) (ops : Array Oper) (listed : Array Bool) : Prop := ∀ j oj, ops[j]? = some oj → listed.getD j false = true → ∀ e ∈ oj.after, Region.binds md e = true → listed.getD e.on false = true
theorem Closed.reach {md : Region.Mode} {listed : Array Bool} (hc : Closed md ops listed) {i j : Nat} (h : Reach md ops i j) : (∀ o, ops[i]? = some o → ∀ e ∈ o.after, Region.binds md e = true → listed.getD e.on false = true) → listed.getD j false = true := by
  induction h with
  | one ho he hb hj => intro h; rw [← hj]; exact h _ ho _ he hb
  | more ho he hb hr ih => intro h; exact ih (fun o' ho' => hc _ o' ho' (h _ ho _ he hb))

def maskE (md : Region.Mode) (t : List Nat) : List Edge → Nat
  | [] => 0
  | e :: es => match Region.binds md e with
    | true => Nat.lor (Nat.lor (Nat.shiftLeft 1 e.on) (t.getD e.on 0)) (maskE md t es)
    | false => maskE md t es
/-- For the first n operations: whom each waits for, as a number's bits. -/
def masks (md : Region.Mode) : List Oper → List Nat → List Nat
  | [], t => t
  | o :: os, t => masks md os (t ++ [maskE md t o.after.toList])
theorem maskE_spec {md : Region.Mode} {t : List Nat} {j : Nat} : ∀ {es : List Edge}, (maskE md t es).testBit j = true → ∃ e ∈ es, Region.binds md e = true ∧ (e.on = j ∨ (t.getD e.on 0).testBit j = true)
  | [], h => by simp [maskE] at h
  | e :: es, h => by
    rw [maskE] at h
    cases hb : Region.binds md e with
    | true =>
      rw [hb] at h
      have h' : ((1 <<< e.on ||| t.getD e.on 0) ||| maskE md t es).testBit j = true := h
      rw [Nat.testBit_or, Nat.testBit_or, Bool.or_eq_true, Bool.or_eq_true] at h'
      rcases h' with (h' | h') | h'
      · refine ⟨e, by simp, hb, .inl ?_⟩
        rw [Nat.one_shiftLeft, Nat.testBit_two_pow] at h'
        simpa using h'
      · exact ⟨e, by simp, hb, .inr h'⟩
      · obtain ⟨e', h1, h2⟩ := maskE_spec h'
        exact ⟨e', by simp [h1], h2⟩
    | false =>
      rw [hb] at h
      obtain ⟨e', h1, h2⟩ := maskE_spec h
      exact ⟨e', by simp [h1], h2⟩
theorem masks_spec {md : Region.Mode} : ∀ (os : List Oper) (t : List Nat), (∀ k, ops.toList[t.length + k]? = os[k]?) → (∀ i j, (t.getD i 0).testBit j = true → Reach md ops i j) → ∀ i j, ((masks md os t).getD i 0).testBit j = true → Reach md ops i j
  | [], t, _, ht => ht
  | o :: os, t, hos, ht => by
    rw [masks]
    refine masks_spec os _ (fun k => ?_) (fun i j h => ?_)
    · have := hos (k + 1)
      simp only [List.length_append, List.length_cons, List.length_nil, List.getElem?_cons_succ] at this ⊢
      rw [← this]
      congr 1
      omega
    · rcases Nat.lt_trichotomy i t.length with hlt | heq | hgt
      · rw [List.getD_eq_getElem?_getD, List.getElem?_append_left hlt, ← List.getD_eq_getElem?_getD] at h
        exact ht i j h
      · subst heq
        simp only [List.getD_eq_getElem?_getD, List.getElem?_append_right (Nat.le_refl _), Nat.sub_self, List.getElem?_cons_zero, Option.getD_some] at h
        have ho : ops[t.length]? = some o := by
          have := hos 0
          simpa using this
        obtain ⟨e, he, hb, h⟩ := maskE_spec h
        rcases h with h | h
        · exact .one ho (by simpa using he) hb h
        · exact .more ho (by simpa using he) hb (ht _ _ h)
      · rw [List.getD_eq_getElem?_getD, List.getElem?_eq_none (by simp; omega)] at h
        simp at h

/-! ### The order is good -/
def edgeOn (md : Region.Mode) (ops : Array Oper) (j i : Nat) : Bool := match ops[j]? with
  | some o => o.after.any fun e => Region.binds md e && e.on == i
  | none => true
def selfB (md : Region.Mode) (ops : Array Oper) (i : Nat) : Bool := match ops[i]? with
  | some o => o.after.all fun e => !Region.binds md e || (e.on != i && Nat.blt e.on ops.size)
  | none => false
/-- j comes before i in the order. -/
def pairB (md : Region.Mode) (ops : Array Oper) (kd : Nat → Kind) (t : List Nat) (j i : Nat) : Bool := !Nat.beq j i && !edgeOn md ops j i && (Nat.testBit (t.getD i 0) j || compat ops kd j i)
def pairsB (md : Region.Mode) (ops : Array Oper) (kd : Nat → Kind) (t : List Nat) : List Nat → Bool
  | [] => true
  | j :: π => π.all (fun i => pairB md ops kd t j i) && pairsB md ops kd t π
theorem pairsB_spec {md : Region.Mode} {t : List Nat} : ∀ {π : List Nat}, pairsB md ops kd t π = true → π.Pairwise fun j i => pairB md ops kd t j i = true
  | [], _ => .nil
  | j :: π, h => by
    simp only [pairsB, Bool.and_eq_true, List.all_eq_true] at h
    exact .cons h.1 (pairsB_spec h.2)
/-- Each number below n once. -/
def allB (n : Nat) (π : List Nat) : Bool := π.all (fun i => Nat.blt i n) && (List.range n).all fun i => π.contains i
theorem allB_spec {n : Nat} {π : List Nat} (h : allB n π = true) (i : Nat) : i ∈ π ↔ i < n := by
  simp only [allB, Bool.and_eq_true, List.all_eq_true, List.mem_range, List.contains_iff_mem, Nat.blt_eq] at h
  exact ⟨h.1 i, h.2 i⟩

structure Inv (md : Region.Mode) (ops : Array Oper) (kd : Nat → Kind) (t : List Nat) (listed : Array Bool) (π : List Nat) : Prop where
  size : listed.size = ops.size
  mem : ∀ i, i ∈ π ↔ i < ops.size ∧ listed.getD i true = false
  closed : Closed md ops listed
  pairs : π.Pairwise fun j i => pairB md ops kd t j i = true

theorem any_mix {md : Region.Mode} {t : List Nat} (hsel : Region.noSelect ops = true) (hself : ∀ i, i < ops.size → selfB md ops i = true) (hreach : ∀ i j, (t.getD i 0).testBit j = true → Reach md ops i j) :
    ∀ (f : Nat) (π : List Nat) (listed : Array Bool) (C : World → Prop) (a : Act) (w : World), π.length = f → Inv md ops kd t listed π → C w → wpMix P ops kd Q π C a w → wpAny P md ops Q f listed a w
  | 0, π, listed, C, a, w, hl, inv, hC, h => by
    have : π = [] := List.eq_nil_of_length_eq_zero hl
    subst this
    refine ⟨?_, h⟩
    apply List.eq_nil_iff_forall_not_mem.2
    intro j hj
    obtain ⟨h1, o, ho, _⟩ := mem_ready.1 hj
    have := (inv.mem j).2 ⟨(Array.getElem?_eq_some_iff.1 ho).1, h1⟩
    cases this
  | f + 1, π, listed, C, a, w, hl, inv, hC, h => by
    refine ⟨fun h0 => ?_, fun i hi => ?_⟩
    · exfalso
      cases π with
      | nil => simp at hl
      | cons i π =>
        obtain ⟨hlt, hun⟩ := (inv.mem i).1 (by simp)
        have hs := hself i hlt
        unfold selfB at hs
        cases ho : ops[i]? with
        | none => rw [ho] at hs; cases hs
        | some o =>
          rw [ho] at hs
          have hr : i ∈ Region.ready md ops listed := mem_ready.2 ⟨hun, o, ho, fun e he hb => by
            have h1 := Array.all_eq_true'.1 hs e he
            simp only [hb, Bool.not_true, Bool.false_or, Bool.and_eq_true, bne_iff_ne, Nat.blt_eq] at h1
            cases hl : listed.getD e.on false with
            | true => rfl
            | false =>
              have hin : e.on ∈ i :: π := (inv.mem _).2 ⟨h1.2, getD_in (by rw [inv.size]; exact h1.2) hl⟩
              rcases List.mem_cons.1 hin with h2 | h2
              · exact absurd h2 h1.1
              · have h3 := (List.pairwise_cons.1 inv.pairs).1 _ h2
                unfold pairB edgeOn at h3
                rw [ho] at h3
                simp only [Bool.and_eq_true, Bool.not_eq_true'] at h3
                have h3 := h3.1.2
                have h4 : (o.after.any fun e' => Region.binds md e' && e'.on == e.on) = true := Array.any_eq_true'.2 ⟨e, he, by simp [hb]⟩
                rw [h4] at h3
                cases h3⟩
          rw [h0] at hr
          cases hr
    · obtain ⟨hun, oi, hoi, hall⟩ := mem_ready.1 hi
      have hlt : i < ops.size := (Array.getElem?_eq_some_iff.1 hoi).1
      have hin := (inv.mem i).2 ⟨hlt, hun⟩
      obtain ⟨l1, l2, rfl⟩ := List.append_of_mem hin
      have hnd : (l1 ++ i :: l2).Nodup := inv.pairs.imp (fun {j k} h e => by subst e; unfold pairB at h; simp at h)
      have hc : ∀ j ∈ l1, compat ops kd j i = true := fun j hj => by
        have h1 := (List.pairwise_append.1 inv.pairs).2.2 j hj i (by simp)
        unfold pairB at h1
        simp only [Bool.and_eq_true, Bool.or_eq_true] at h1
        rcases h1.2 with h2 | h2
        · have h3 := inv.closed.reach (hreach i j h2) (fun o ho => by rw [hoi] at ho; cases ho; exact hall)
          have h4 := ((inv.mem j).1 (by simp [hj])).2
          rw [getD_both h4] at h3
          cases h3
        · exact h2
      have hne : ∀ k, k ∈ l1 ++ l2 → k ≠ i := fun k hk e => by
        subst e
        rw [List.nodup_append] at hnd
        rcases List.mem_append.1 hk with h1 | h1
        · exact hnd.2.2 k h1 k (by simp) rfl
        · exact (List.nodup_cons.1 hnd.2.1).1 h1
      have inv' : Inv md ops kd t (listed.setIfInBounds i true) (l1 ++ l2) := {
        size := by simp [inv.size]
        mem := fun k => by
          by_cases e : i = k
          · subst e
            constructor
            · intro hk; exact absurd rfl (hne i hk)
            · intro ⟨_, h1⟩
              simp [inv.size, hlt] at h1
          · rw [getD_set_ne true e, ← inv.mem k]
            simp only [List.mem_append, List.mem_cons]
            constructor
            · rintro (h1 | h1)
              · exact .inl h1
              · exact .inr (.inr h1)
            · rintro (h1 | h1 | h1)
              · exact .inl h1
              · exact absurd h1.symm e
              · exact .inr h1
        closed := fun j oj hj hlj e he hb => by
          by_cases e1 : i = j
          · subst e1
            rw [hoi] at hj
            cases hj
            exact getD_set_true (hall e he hb)
          · rw [getD_set_ne false e1] at hlj
            exact getD_set_true (inv.closed j oj hj hlj e he hb)
        pairs := by
          have : (l1 ++ l2).Sublist (l1 ++ i :: l2) := List.Sublist.append_left (List.sublist_cons_self i l2) l1
          exact inv.pairs.sublist this }
      have hlen : (l1 ++ l2).length = f := by simp at hl ⊢; omega
      have hs' := Region.noSelect_spec hsel
      unfold wpOp
      rw [hoi]
      simp only
      cases hk : kd i with
      | a =>
        have h1 := pull_a hs' hoi hk l1 a hc h
        split
        · rename_i hw
          rw [if_pos hw] at h1
          refine .inl ?_
          have h2 := wp_put (oj := ⟨none, oi.op, oi.type, oi.pos, oi.after, none⟩) (u := undef) (K2 := fun a' w' => wpAny P md ops Q f (listed.setIfInBounds i true) a' w') rfl (show oi.wp P (a.put none undef) w _ NoQ from h1) (fun b v w' hb hh => any_mix hsel hself hreach f _ _ C _ _ hlen inv' hh.1 hh.2)
          unfold Oper.wp at h2 ⊢
          generalize (execOp a.eval oi).run P w = r at *
          cases r with
          | halt x w' => cases x <;> exact h2.elim
          | ok nx w' =>
            cases nx <;> first
              | exact h2
              | exact h2.elim
              | (refine Calls.mono (show Calls P _ _ w' _ from h2) fun e w'' he => ?_
                 cases e with
                 | returned v => exact he
                 | panicked c => exact he.elim
                 | outgrown => obtain ⟨_, _, h⟩ := he; exact h.elim)
        · rename_i hw
          rw [if_neg hw] at h1
          exact any_mix hsel hself hreach f _ _ C _ _ hlen inv' hC h1
      | s =>
        have h1 := pull_s hs' hoi hk l1 a hc h
        split
        · rename_i hw
          rw [if_pos hw] at h1
          refine .inl ?_
          have h2 := wp_put (oj := ⟨none, oi.op, oi.type, oi.pos, oi.after, none⟩) (u := undef) (K2 := fun a' w' => wpAny P md ops Q f (listed.setIfInBounds i true) a' w') rfl (show oi.wp P (a.put none undef) w _ NoQ from h1) (fun b v w' hb hh => by obtain ⟨C', h3, h4⟩ := hh; exact any_mix hsel hself hreach f _ _ C' _ _ hlen inv' h3 h4)
          unfold Oper.wp at h2 ⊢
          generalize (execOp a.eval oi).run P w = r at *
          cases r with
          | halt x w' => cases x <;> exact h2.elim
          | ok nx w' =>
            cases nx <;> first
              | exact h2
              | exact h2.elim
              | (refine Calls.mono (show Calls P _ _ w' _ from h2) fun e w'' he => ?_
                 cases e with
                 | returned v => exact he
                 | panicked c => exact he.elim
                 | outgrown => obtain ⟨_, _, h⟩ := he; exact h.elim)
        · rename_i hw
          rw [if_neg hw] at h1
          exact any_mix hsel hself hreach f _ _ C _ _ hlen inv' hC h1
      | q =>
        obtain ⟨v, hv, h1⟩ := pull_q hs' hoi (by rw [hk]; rfl) l1 a hc h
        rw [hk] at hv
        rcases hv with ⟨hw, hv⟩ | ⟨hw, rfl⟩
        · rw [if_pos hw]
          refine .inl ?_
          unfold Oper.wp
          rw [hv w trivial]
          exact any_mix hsel hself hreach f _ _ C _ _ hlen inv' hC h1
        · rw [if_neg (by rw [hw]; decide)]
          exact any_mix hsel hself hreach f _ _ C _ _ hlen inv' hC h1
      | r =>
        obtain ⟨v, hv, h1⟩ := pull_q hs' hoi (by rw [hk]; rfl) l1 a hc h
        rw [hk] at hv
        rcases hv with ⟨hw, hv⟩ | ⟨hw, rfl⟩
        · rw [if_pos hw]
          refine .inl ?_
          unfold Oper.wp
          rw [hv w hC]
          exact any_mix hsel hself hreach f _ _ C _ _ hlen inv' hC h1
        · rw [if_neg (by rw [hw]; decide)]
          exact any_mix hsel hself hreach f _ _ C _ _ hlen inv' hC h1

/-- Is the order good for the region? -/
def mixB (md : Region.Mode) (l : List Oper) (kd : Nat → Kind) (π : List Nat) : Bool :=
  Region.noSelect l.toArray && (List.range l.length).all (selfB md l.toArray) && allB l.length π && pairsB md l.toArray kd (masks md l []) π
theorem wp_region_mix {id : Nat} {a : Act} {w : World} {l : List Oper} {π : List Nat} {C : World → Prop} (hm : P.follows .mixedOrders = true) (hB : mixB .any l kd π = true) (hC : C { w with drawn := w.drawn + 1 })
    (h : wpMix P l.toArray kd Q π C a { w with drawn := w.drawn + 1 }) : (Code.region id l.toArray true).wp P Q a w := by
  simp only [mixB, Bool.and_eq_true] at hB
  obtain ⟨⟨⟨hsel, hself⟩, hall⟩, hpairs⟩ := hB
  refine wp_region_any hm ?_
  have hp := pairsB_spec hpairs
  have hnd : π.Nodup := hp.imp (fun {j k} h e => by subst e; unfold pairB at h; simp at h)
  have hlen : π.length = l.toArray.size := by
    have h1 : ∀ i, i ∈ π ↔ i ∈ List.range l.length := fun i => by rw [allB_spec hall, List.mem_range]
    have := (List.perm_ext_iff_of_nodup hnd List.nodup_range).2 h1
    simpa using this.length_eq
  refine any_mix hsel (fun i hi => List.all_eq_true.1 hself i (List.mem_range.2 (by simpa using hi))) (masks_spec l [] (fun k => by simp) (fun i j h => by simp at h)) _ π _ C a _ hlen ⟨by simp, fun i => ?_, fun j oj _ hl => (by rw [getD_replicate_false] at hl; cases hl), hp⟩ hC h
  rw [allB_spec hall]
  constructor
  · intro hi
    have hi' : i < l.length := hi
    exact ⟨by simpa using hi, by simp [hi']⟩
  · intro hi
    simpa using hi.1
end

/-! ### Walking it -/
def kindOf : Op → Kind
  | .load .. => .r
  | .lookup .. => .r
  | .range .. => .a
  | .next .. => .a
  | .store .. => .s
  | .mapUpdate .. => .s
  | .entryStore .. => .s
  | .alloc _ => .a
  | .box .. => .a
  | .buildSlice .. => .a
  | .makeSlice .. => .a
  | .makeMap .. => .a
  | .call { callee := .builtin .len, args := _, argTypes := _ } => .q
  | .call { callee := .builtin .cap, args := _, argTypes := _ } => .q
  | .call { callee := .builtin .min, args := _, argTypes := _ } => .q
  | .call { callee := .builtin .max, args := _, argTypes := _ } => .q
  | .call { callee := .builtin _, args := _, argTypes := _ } => .s
  | .call _ => .a
  | _ => .q
def exOf : List (Nat × Kind) → Nat → Option Kind
  | [], _ => none
  | (j, k) :: l, i => match Nat.beq j i with
    | true => some k
    | false => exOf l i
def autoK (l : List Oper) (ex : List (Nat × Kind)) (i : Nat) : Kind := match exOf ex i with
  | some k => k
  | none => match nth l i with
    | some o => kindOf o.op
    | none => .q

def Mw (P : Program) (n : Nat) (l : List Oper) (kd : Nat → Kind) (Q : Exit → Act → World → Prop) (π : List Nat) (C : World → Prop) (L : Ctx) (w : World) : Prop := ∀ a, Has n L a → wpMix P l.toArray kd Q π C a w
def wantB (ops : Array Oper) (L : Ctx) : Option (Nat × Bool) → Option Bool
  | none => some true
  | some (j, b) => match guardOf ops L j with
    | some b' => some (b' == b)
    | none => none
theorem wantB_ok {n : Nat} {ops : Array Oper} {L : Ctx} {a : Act} (ha : Has n L a) {o : Oper} {b : Bool} (h : wantB ops L o.guard = some b) : Region.wanted o (yielded ops a.tmps) = b := by
  unfold Region.wanted
  cases hg : o.guard with
  | none => rw [hg] at h; simpa [wantB] using h
  | some p =>
    obtain ⟨j, want⟩ := p
    rw [hg] at h
    simp only [wantB] at h
    cases hy : guardOf ops L j with
    | none => rw [hy] at h; cases h
    | some b' =>
      rw [hy] at h
      simp only [Option.some.injEq] at h
      simp only [guardOf_ok ha hy, Option.some_beq_some]
      exact h

section rules
variable {n : Nat} {l : List Oper} {kd : Nat → Kind} {Q : Exit → Act → World → Prop} {π : List Nat} {C : World → Prop} {L : Ctx} {w : World} {i d : Nat} {op : Op} {ty : TypeId} {pos : String} {af : Array Edge} {g : Option (Nat × Bool)} {b : Bool} {v : Value} {dst : Option Tmp}

theorem nth_arr {o : Oper} (h : nth l i = some o) : l.toArray[i]? = some o := by rw [nth_eq] at h; simpa using h

theorem mw_nil (h : Xw n .normal Q L w) : Mw P n l kd Q [] C L w := fun a ha => h a ha
theorem mw_no (ho : nth l i = some ⟨some d, op, ty, pos, af, g⟩) (hd : Nat.blt d n = true) (hg : wantB l.toArray L g = some b) (hb : b = false) (h : Mw P n l kd Q π C ((d, undef) :: L) w) : Mw P n l kd Q (i :: π) C L w := fun a ha => by
  subst hb
  have hw : Region.wanted ⟨some d, op, ty, pos, af, g⟩ (yielded l.toArray a.tmps) = false := wantB_ok ha hg
  have h' := h _ (ha.put (by simpa [Nat.blt_eq] using hd) undef)
  rw [wpMix]
  refine ⟨_, nth_arr ho, ?_⟩
  cases kd i with
  | q => exact ⟨undef, .inr ⟨hw, rfl⟩, h'⟩
  | r => exact ⟨undef, .inr ⟨hw, rfl⟩, h'⟩
  | a => simp only; rw [if_neg (by rw [hw]; decide)]; exact h'
  | s => simp only; rw [if_neg (by rw [hw]; decide)]; exact h'
theorem mw_run (ho : nth l i = some ⟨some d, op, ty, pos, af, g⟩) (hk : quietK (kd i) = true) (hd : Nat.blt d n = true) (hg : wantB l.toArray L g = some b) (hb : b = true)
    (hr : ∀ a w0, Has n L a → cls (kd i) C w0 → (execOp a.eval ⟨some d, op, ty, pos, af, g⟩).run P w0 = .ok (.value v) w0) (h : Mw P n l kd Q π C ((d, v) :: L) w) : Mw P n l kd Q (i :: π) C L w := fun a ha => by
  subst hb
  refine (wpMix_quiet hk).2 ⟨_, nth_arr ho, v, .inl ⟨wantB_ok ha hg, fun w0 h0 => hr a w0 ha h0⟩, h _ (ha.put (by simpa [Nat.blt_eq] using hd) v)⟩
theorem mw_pure (T : Tab P) (ho : nth l i = some ⟨some d, op, ty, pos, af, g⟩) (hk : quietK (kd i) = true) (hd : Nat.blt d n = true) (hg : wantB l.toArray L g = some b) (hb : b = true) (he : pureOp T L op = some v) (h : Mw P n l kd Q π C ((d, v) :: L) w) : Mw P n l kd Q (i :: π) C L w :=
  mw_run ho hk hd hg hb (fun a w0 ha _ => pureOp_ok T (o := ⟨some d, op, ty, pos, af, g⟩) ha he w0) h
theorem run_of_fin {ops : Array Oper} {w0 : World} {a : Act} (ha : Has n L a) (hd : Nat.blt d n = true) (hV : Valued ⟨some d, op, ty, pos, af, none⟩) (h : Ow P n ops (Fin d v w0) [⟨some d, op, ty, pos, af, none⟩] L w0) : (execOp a.eval ⟨some d, op, ty, pos, af, g⟩).run P w0 = .ok (.value v) w0 := by
  have h1 := h a ha
  unfold wpList at h1
  rw [if_pos (by simp [Region.wanted])] at h1
  have hlt : d < n := by simpa [Nat.blt_eq] using hd
  rcases h1 with h1 | ⟨_, a', w', h2⟩
  · unfold Oper.wp at h1
    obtain ⟨s, hs⟩ := hV a.eval
    have hs' : execOp a.eval ⟨some d, op, ty, pos, af, g⟩ = (do let v ← s; pure (.value v)) := hs
    rw [hs, Sem.run_bind] at h1
    rw [hs', Sem.run_bind]
    cases hr : s.run P w0 with
    | halt x w' =>
      rw [hr] at h1
      cases x <;> first | exact h1.elim | (have := h1.1; cases this)
    | ok u w' =>
      rw [hr] at h1
      obtain ⟨_, rfl, h3⟩ := (show Fin d v w0 .normal (a.put (some d) u) w' from h1)
      have h4 := (ha.put hlt u).slots d u (by rw [look_cons, if_pos rfl])
      rw [h3] at h4
      cases h4
      rfl
  · cases h2.1
/-- A read of memory, by its rule. -/
theorem mw_read (ho : nth l i = some ⟨some d, op, ty, pos, af, g⟩) (hk : kd i = .r) (hd : Nat.blt d n = true) (hg : wantB l.toArray L g = some b) (hb : b = true)
    (hr : ∀ w0, C w0 → Ow P n l.toArray (Fin d v w0) [⟨some d, op, ty, pos, af, none⟩] L w0) (hV : Valued ⟨some d, op, ty, pos, af, none⟩) (h : Mw P n l kd Q π C ((d, v) :: L) w) : Mw P n l kd Q (i :: π) C L w :=
  mw_run ho (by rw [hk]; rfl) hd hg hb (fun a w0 ha h0 => run_of_fin ha hd hV (hr w0 (by rw [hk] at h0; exact h0))) h
/-- What needs no memory, by its rule. -/
theorem mw_any (ho : nth l i = some ⟨some d, op, ty, pos, af, g⟩) (hk : quietK (kd i) = true) (hd : Nat.blt d n = true) (hg : wantB l.toArray L g = some b) (hb : b = true)
    (hr : ∀ w0, Ow P n l.toArray (Fin d v w0) [⟨some d, op, ty, pos, af, none⟩] L w0) (hV : Valued ⟨some d, op, ty, pos, af, none⟩) (h : Mw P n l kd Q π C ((d, v) :: L) w) : Mw P n l kd Q (i :: π) C L w :=
  mw_run ho hk hd hg hb (fun a w0 ha h0 => run_of_fin ha hd hV (hr w0)) h

def MidA (P : Program) (l : List Oper) (kd : Nat → Kind) (Q : Exit → Act → World → Prop) (π : List Nat) (C : World → Prop) : Exit → Act → World → Prop := fun e a w => e = .normal ∧ C w ∧ wpMix P l.toArray kd Q π C a w
def MidS (P : Program) (l : List Oper) (kd : Nat → Kind) (Q : Exit → Act → World → Prop) (π : List Nat) : Exit → Act → World → Prop := fun e a w => e = .normal ∧ ∃ C, C w ∧ wpMix P l.toArray kd Q π C a w
theorem mid_a (hC : C w) (h : Mw P n l kd Q π C L w) : Ow P n l.toArray (MidA P l kd Q π C) [] L w := fun a ha => ⟨rfl, hC, h a ha⟩
theorem mid_s (h : Mw P n l kd Q π (Kp No w) L w) : Ow P n l.toArray (MidS P l kd Q π) [] L w := fun a ha => ⟨rfl, Kp No w, Kp.refl, h a ha⟩

theorem wp_no {o : Oper} {a : Act} {K : Act → World → Prop} {Q' : Exit → Act → World → Prop} (hn : ∀ e a w, Q' e a w → e = .normal) (h : o.wp P a w K Q') : o.wp P a w K NoQ := by
  unfold Oper.wp at h ⊢
  generalize (execOp a.eval o).run P w = r at *
  cases r with
  | halt x w' => cases x <;> first | exact h.elim | (have := hn _ _ _ h; cases this)
  | ok nx w' =>
    cases nx <;> first
      | exact h
      | exact h.elim
      | (refine Calls.mono (show Calls P _ _ w' _ from h) fun e w'' he => ?_
         cases e with
         | returned v => exact he
         | panicked c => have := hn _ _ _ he; cases this
         | outgrown => obtain ⟨_, _, h⟩ := he; have := hn _ _ _ h; cases this)
theorem wp_guard {o : Oper} {a : Act} {K : Act → World → Prop} {Q' : Exit → Act → World → Prop} {g : Option (Nat × Bool)} (h : Oper.wp P { o with guard := none } a w K Q') : Oper.wp P { o with guard := g } a w K Q' := h
theorem mw_act (ho : nth l i = some ⟨dst, op, ty, pos, af, g⟩) (hk : kd i = .a) (hg : wantB l.toArray L g = some b) (hb : b = true) (h : Ow P n l.toArray (MidA P l kd Q π C) [⟨dst, op, ty, pos, af, none⟩] L w) : Mw P n l kd Q (i :: π) C L w := fun a ha => by
  subst hb
  have hw : Region.wanted ⟨dst, op, ty, pos, af, g⟩ (yielded l.toArray a.tmps) = true := wantB_ok ha hg
  have h1 := h a ha
  unfold wpList at h1
  rw [if_pos (by simp [Region.wanted])] at h1
  rw [wpMix, hk]
  refine ⟨_, nth_arr ho, ?_⟩
  simp only
  rw [if_pos hw]
  rcases h1 with h1 | ⟨_, _, _, h2⟩
  · have h3 := wp_no (fun e a w h => h.1) h1
    exact wp_guard (o := ⟨dst, op, ty, pos, af, g⟩) (g := g) (Oper.wp_mono (fun a w h => h.2) h3)
  · cases h2.1
theorem mw_store (ho : nth l i = some ⟨dst, op, ty, pos, af, g⟩) (hk : kd i = .s) (hg : wantB l.toArray L g = some b) (hb : b = true) (h : Ow P n l.toArray (MidS P l kd Q π) [⟨dst, op, ty, pos, af, none⟩] L w) : Mw P n l kd Q (i :: π) C L w := fun a ha => by
  subst hb
  have hw : Region.wanted ⟨dst, op, ty, pos, af, g⟩ (yielded l.toArray a.tmps) = true := wantB_ok ha hg
  have h1 := h a ha
  unfold wpList at h1
  rw [if_pos (by simp [Region.wanted])] at h1
  rw [wpMix, hk]
  refine ⟨_, nth_arr ho, ?_⟩
  simp only
  rw [if_pos hw]
  rcases h1 with h1 | ⟨_, _, _, h2⟩
  · have h3 := wp_no (fun e a w h => h.1) h1
    exact wp_guard (o := ⟨dst, op, ty, pos, af, g⟩) (g := g) (Oper.wp_mono (fun a w h => h.2) h3)
  · cases h2.1
/-- A region that draws its order. -/
theorem cw_mix {id : Nat} (π : List Nat) (ex : List (Nat × Kind)) (hm : P.follows .mixedOrders = true) (hB : mixB .any l (autoK l ex) π = true)
    (h : ∀ w1, Kp No w w1 → w1.heap.size = w.heap.size → Mw P n l (autoK l ex) Q π (Kp No w1) L w1) : Cw P n (.region id l.toArray true) Q L w := fun a ha =>
  wp_region_mix hm hB (C := Kp No { w with drawn := w.drawn + 1 }) Kp.refl (h _ (kp_drew w) rfl a ha)
end rules
end Go.Proofs.YtehekgigmbnlfaaDoor.Mi
