/- Regions that draw their order, with new variables that may come at any time: what is new comes up as late as it is needed, wherever it came up. -/
import Derived.Test.YtnpnphcklmlchaaXs
set_option linter.unusedVariables false
set_option linter.unusedSimpArgs false
namespace Go.Proofs.Ytnpnphcklmlchaa.Mf
open Go.RowKit Go.Proofs.Ytnpnphcklmlchaa.Sx Go.Proofs.Ytnpnphcklmlchaa.Mx Go.Proofs.Ytnpnphcklmlchaa.Qx Go.Proofs.Ytnpnphcklmlchaa.Stm Go.Proofs.Ytnpnphcklmlchaa.Mi
variable {P : Program}

/-- As Mi's; o: reads what was known at the start (or behind the last store); n: stores into what is newer; f: makes something new, of what was known at the region's start. -/
inductive Kd where
  | q | r | o | a | n | s | f
deriving DecidableEq
inductive K3 where
  | quiet | new | act
deriving DecidableEq
def k3 : Kd → K3
  | .q => .quiet
  | .r => .quiet
  | .o => .quiet
  | .f => .new
  | _ => .act
def qk (k : Kd) : Bool := match k3 k with
  | .quiet => true
  | _ => false
/-- The kinds; S: what stores may turn though it was there at the start (what is read as 'o' lies elsewhere). -/
structure Ks where
  kd : Nat → Kd
  S : Nat → Prop
instance : CoeFun Ks (fun _ => Nat → Kd) := ⟨Ks.kd⟩
def cl (S : Nat → Prop) (k : Kd) (z w : World) : World → Prop := match k with
  | .q => fun _ => True
  | .o => Kp S z
  | _ => Kp No w
theorem cl_sub {S : Nat → Prop} {k : Kd} {z w w' : World} (h : Kp No w w') : ∀ x, cl S k z w' x → cl S k z w x := by
  intro x hx
  cases k <;> first | trivial | exact hx | exact h.trans hx (fun _ hs => hs.elim)
/-- What an act may turn; what is the start behind it. -/
def kpt (S : Nat → Prop) (k : Kd) (K : Nat → Prop) (z : World) : Nat → Prop := match k with
  | .a => No
  | .n => fun g => K g ∧ (z.heap.size ≤ g ∨ S g)
  | _ => K
def nxt (k : Kd) (z w : World) : World := match k with
  | .s => w
  | _ => z

/-- What an operation makes new, at any place. -/
structure New where
  val : Nat → Value
  item : Nat → Stm.Item
def Fr (P : Program) (o : Oper) (a : Act) (N : New) : Prop := (∀ w, ∃ w', (execOp a.eval o).run P w = .ok (.value (N.val w.heap.size)) w' ∧ Kp No w w' ∧ (N.item w.heap.size).holds w' ∧ w.heap.size < w'.heap.size) ∧ ∀ g k, (N.item g).foot k → k = g
theorem Fr.same {o : Oper} {a a' : Act} {N : New} (h : Fr P o a N) (he : execOp a'.eval o = execOp a.eval o) : Fr P o a' N := by
  unfold Fr at *
  rw [he]
  exact h

theorem yv_sub {ops : Array Oper} {C C' : World → Prop} {o : Oper} {v : Value} {a : Act} (h : Yv P ops C o v a) (hs : ∀ w, C' w → C w) : Yv P ops C' o v a := h.imp (fun ⟨h1, h2⟩ => ⟨h1, fun w hw => h2 w (hs w hw)⟩) id

def Grow (K : Nat → Prop) (w w' : World) (k : Nat) : Prop := K k ∨ (w.heap.size ≤ k ∧ k < w'.heap.size)
def And1 (K : Nat → Prop) (g k : Nat) : Prop := K k ∨ k = g

abbrev Kont := World → (Nat → Prop) → Act → World → Prop
/-- The operations in this order, then what Kt says; z: the start; K: the blocks that may be known. -/
def wpF (P : Program) (ops : Array Oper) (kd : Ks) (F : Nat → New) (Kt : Kont) : List Nat → Kont
  | [], z, K, a, w => Kt z K a w
  | i :: π, z, K, a, w => ∃ o, ops[i]? = some o ∧ match k3 (kd i) with
    | .act => if Region.wanted o (yielded ops a.tmps) then ∀ w1, Kp No w w1 → o.wp P a w1 (fun a' w' => Kp (kpt kd.S (kd i) K z) w1 w' ∧ wpF P ops kd F Kt π (nxt (kd i) z w') (Grow K w1 w') a' w') NoQ else wpF P ops kd F Kt π z K (a.put o.dst undef) w
    | .new => ∀ g w1, Kp No w w1 → ((F i).item g).holds w1 → ¬ K g → g < w1.heap.size → wpF P ops kd F Kt π z (And1 K g) (a.put o.dst ((F i).val g)) w1
    | .quiet => ∃ v, Yv P ops (cl kd.S (kd i) z w) o v a ∧ wpF P ops kd F Kt π z K (a.put o.dst v) w
/-- At the region's end; behind the reads it begins with. -/
def endK (Q : Exit → Act → World → Prop) : Kont := fun _ _ a w => ∀ w', Kp No w w' → Q .normal a w'
def AllFr (P : Program) (ops : Array Oper) (kd : Ks) (F : Nat → New) (π : List Nat) (a : Act) : Prop := ∀ i ∈ π, ∀ oi, k3 (kd i) = .new → ops[i]? = some oi → Fr P oi a (F i)
def begK (P : Program) (ops : Array Oper) (kd : Ks) (F : Nat → New) (Q : Exit → Act → World → Prop) (π : List Nat) : Kont := fun z K a w => AllFr P ops kd F π a ∧ wpF P ops kd F (endK Q) π z K a w

section
variable {ops : Array Oper} {kd : Ks} {F : Nat → New} {Kt Kt2 : Kont} {Q : Exit → Act → World → Prop}
def MonoK (Kt : Kont) : Prop := ∀ z (K K' : Nat → Prop) a w w2, (∀ k, K k → K' k) → Kp No w w2 → Kt z K a w → Kt z K' a w2
theorem endK_mono : MonoK (endK Q) := fun _ _ _ _ _ _ _ hw h w' k => h w' (hw.no k)

theorem wpF_quiet {i : Nat} {π : List Nat} {z : World} {K : Nat → Prop} {a : Act} {w : World} (hk : k3 (kd i) = .quiet) : wpF P ops kd F Kt (i :: π) z K a w ↔ ∃ o, ops[i]? = some o ∧ ∃ v, Yv P ops (cl kd.S (kd i) z w) o v a ∧ wpF P ops kd F Kt π z K (a.put o.dst v) w := by
  rw [wpF, hk]

theorem Grow.mono {K K' : Nat → Prop} {w w' : World} (h : ∀ k, K k → K' k) : ∀ k, Grow K w w' k → Grow K' w w' k := fun k => Or.imp (h k) id
theorem And1.mono {K K' : Nat → Prop} {g : Nat} (h : ∀ k, K k → K' k) : ∀ k, And1 K g k → And1 K' g k := fun k => Or.imp (h k) id

theorem kpt_mono {S : Nat → Prop} {k : Kd} {K K' : Nat → Prop} {z : World} (h : ∀ g, K g → K' g) : ∀ g, kpt S k K z g → kpt S k K' z g := by
  intro g hg
  cases k <;> first | exact hg | exact h g hg | exact ⟨h g hg.1, hg.2⟩
theorem kpt_sub {S : Nat → Prop} {k : Kd} {K : Nat → Prop} {z : World} : ∀ g, kpt S k K z g → K g := by
  intro g hg
  cases k <;> first | exact hg.elim | exact hg.1 | exact hg

theorem wpF_mono (hKt : MonoK Kt) : ∀ (π : List Nat) {z : World} {K K' : Nat → Prop} {a : Act} {w w2 : World}, (∀ k, K k → K' k) → Kp No w w2 → wpF P ops kd F Kt π z K a w → wpF P ops kd F Kt π z K' a w2
  | [], z, K, K', a, w, w2, hK, hw, h => hKt z K K' a w w2 hK hw h
  | i :: π, z, K, K', a, w, w2, hK, hw, h => by
    rw [wpF] at h ⊢
    obtain ⟨o, ho, h⟩ := h
    refine ⟨o, ho, ?_⟩
    cases hk : k3 (kd i) with
    | act =>
      rw [hk] at h
      simp only at h ⊢
      split
      · rename_i hw'
        rw [if_pos hw'] at h
        exact fun w1 k1 => Oper.wp_mono (fun a' w' h' => ⟨h'.1.mono (kpt_mono hK), wpF_mono hKt π (Grow.mono hK) Kp.refl h'.2⟩) (h w1 (hw.no k1))
      · rename_i hw'
        rw [if_neg hw'] at h
        exact wpF_mono hKt π hK hw h
    | new =>
      rw [hk] at h
      exact fun g w1 k1 hi hn hlt => wpF_mono hKt π (And1.mono hK) Kp.refl (h g w1 (hw.no k1) hi (fun hg => hn (hK g hg)) hlt)
    | quiet =>
      rw [hk] at h
      obtain ⟨v, hv, h⟩ := h
      exact ⟨v, yv_sub hv (cl_sub hw), wpF_mono hKt π hK hw h⟩

/-- What must hold of two operations that come in this order, if the second may come first. -/
def comK (i j : Kd) : Bool := match i with
  | .f => true
  | .s => j == .q
  | .n => j == .q || j == .o
  | _ => qk j
def comF (ops : Array Oper) (kd : Ks) (j i : Nat) : Bool :=
  match ops[j]?, ops[i]? with
  | some oj, some oi => oi.apart ops oj && comK (kd i) (kd j)
  | _, _ => false
theorem comK_quiet {i j : Kd} (h : comK i j = true) (hi : k3 i ≠ .new) : k3 j = .quiet := by
  cases i <;> cases j <;> first | rfl | (exact absurd rfl hi) | (exact absurd h (by decide))
theorem comF_spec {j i : Nat} {oi : Oper} (h : comF ops kd j i = true) (hi : ops[i]? = some oi) : ∃ oj, ops[j]? = some oj ∧ oi.apart ops oj = true ∧ comK (kd i) (kd j) = true := by
  unfold comF at h
  rw [hi] at h
  cases hj : ops[j]? with
  | none => rw [hj] at h; cases h
  | some oj =>
    rw [hj] at h
    simp only [Bool.and_eq_true] at h
    exact ⟨oj, rfl, h.1, h.2⟩
theorem cl_act {S : Nat → Prop} {i j : Kd} {K : Nat → Prop} {z w w' : World} (h : comK i j = true) (hi : k3 i = .act) (hk : Kp (kpt S i K z) w w') : ∀ x, cl S j (nxt i z w') w' x → cl S j z w x := by
  intro x hx
  cases i <;> cases j <;> first | cases hi; done | cases h; done | trivial | exact hx | exact (show Kp No w w' from hk).no hx

variable (hsel : ∀ (j : Nat) (o : Oper) cs b, ops[j]? = some o → o.op ≠ .select cs b)
include hsel

theorem pullF_q {i : Nat} {oi : Oper} {z : World} {K : Nat → Prop} {w : World} (hi : ops[i]? = some oi) (hq : k3 (kd i) = .quiet) (hk : ∀ a, Kt z K a w → ∃ v, Yv P ops (cl kd.S (kd i) z w) oi v a ∧ Kt2 z K (a.put oi.dst v) w) : ∀ (l1 : List Nat) (a : Act), (∀ j ∈ l1, comF ops kd j i = true) → wpF P ops kd F Kt l1 z K a w →
    ∃ v, Yv P ops (cl kd.S (kd i) z w) oi v a ∧ wpF P ops kd F Kt2 l1 z K (a.put oi.dst v) w
  | [], a, _, h => hk a h
  | j :: l1, a, hc, h => by
    obtain ⟨oj, hj, hap, hcm⟩ := comF_spec (hc j (by simp)) hi
    have hqj := comK_quiet hcm (by rw [hq]; decide)
    obtain ⟨o, ho, u, hu, h⟩ := (wpF_quiet hqj).1 h
    rw [hj] at ho
    cases ho
    obtain ⟨v, hv, h⟩ := pullF_q hi hq hk l1 _ (fun k hk => hc k (by simp [hk])) h
    obtain ⟨h1, h2, h3⟩ := Oper.apart_spec hap
    refine ⟨v, hv.of_same (execOp_put oi (fun cs b => hsel i oi cs b hi) a oj.dst u h3).symm (wanted_put oi a oj.dst u h3).symm, (wpF_quiet hqj).2 ⟨oj, hj, u, ?_, ?_⟩⟩
    · exact hu.of_same (execOp_put oj (fun cs b => hsel j oj cs b hj) a oi.dst v h1) (wanted_put oj a oi.dst v h1)
    · rw [Act.put_comm a v u h2]
      exact h

/-- What an act must do. -/
def ActS (P : Program) (ops : Array Oper) (Kt2 : Kont) (S : Nat → Prop) (k : Kd) (oi : Oper) (z : World) (K : Nat → Prop) (a : Act) (w : World) : Prop :=
  if Region.wanted oi (yielded ops a.tmps) then oi.wp P a w (fun a' w' => Kp (kpt S k K z) w w' ∧ Kt2 (nxt k z w') (Grow K w w') a' w') NoQ else Kt2 z K (a.put oi.dst undef) w
theorem pullF_a {i : Nat} {oi : Oper} {z : World} {K : Nat → Prop} {w : World} (hi : ops[i]? = some oi) (hk : k3 (kd i) = .act) (hkk : ∀ a, Kt z K a w → ActS P ops Kt2 kd.S (kd i) oi z K a w) : ∀ (l1 : List Nat) (a : Act), (∀ j ∈ l1, comF ops kd j i = true) → wpF P ops kd F Kt l1 z K a w →
    ActS P ops (wpF P ops kd F Kt2 l1) kd.S (kd i) oi z K a w
  | [], a, _, h => hkk a h
  | j :: l1, a, hc, h => by
    obtain ⟨oj, hj, hap, hcm⟩ := comF_spec (hc j (by simp)) hi
    have hqj := comK_quiet hcm (by rw [hk]; decide)
    obtain ⟨o, ho, u, hu, h⟩ := (wpF_quiet hqj).1 h
    rw [hj] at ho
    cases ho
    have h' := pullF_a hi hk hkk l1 _ (fun k hk => hc k (by simp [hk])) h
    obtain ⟨h1, h2, h3⟩ := Oper.apart_spec hap
    unfold ActS at h' ⊢
    rw [wanted_put oi a oj.dst u h3] at h'
    have same : ∀ (b : Act) v, b.tmps = a.tmps → Yv P ops (cl kd.S (kd j) z w) oj u (b.put oi.dst v) := fun b v hb => by
      have e1 : b.eval = a.eval := by funext x; cases x <;> simp [Act.eval, hb]
      exact hu.of_same ((execOp_put oj (fun cs b => hsel j oj cs b hj) b oi.dst v h1).trans (by rw [e1])) ((wanted_put oj b oi.dst v h1).trans (by rw [hb]))
    split
    · rename_i hw
      rw [if_pos hw] at h'
      refine wp_put (execOp_put oi (fun cs b => hsel i oi cs b hi) a oj.dst u h3) h' (fun b v w' hb hh => ⟨hh.1, (wpF_quiet hqj).2 ⟨oj, hj, u, yv_sub (same b v hb) (cl_act hcm hk hh.1), ?_⟩⟩)
      rw [Act.put_comm b v u h2]
      exact hh.2
    · rename_i hw
      rw [if_neg hw] at h'
      refine (wpF_quiet hqj).2 ⟨oj, hj, u, same a undef rfl, ?_⟩
      rw [Act.put_comm a undef u h2]
      exact h'
/-- What is known of what is new, ahead of the reads. -/
theorem pullF_fr {i : Nat} {oi : Oper} {N : New} {z : World} {K : Nat → Prop} {w : World} (hi : ops[i]? = some oi) (hk : ∀ a, Kt z K a w → Fr P oi a N) : ∀ (l1 : List Nat) (a : Act), (∀ j ∈ l1, k3 (kd j) = .quiet) → (∀ j ∈ l1, comF ops kd j i = true) → wpF P ops kd F Kt l1 z K a w → Fr P oi a N
  | [], a, _, _, h => hk a h
  | j :: l1, a, hq, hc, h => by
    obtain ⟨oj, hj, hap, hcm⟩ := comF_spec (hc j (by simp)) hi
    obtain ⟨o, ho, u, hu, h⟩ := (wpF_quiet (hq j (by simp))).1 h
    rw [hj] at ho
    cases ho
    obtain ⟨h1, h2, h3⟩ := Oper.apart_spec hap
    exact (pullF_fr hi hk l1 _ (fun k hk => hq k (by simp [hk])) (fun k hk => hc k (by simp [hk])) h).same (execOp_put oi (fun cs b => hsel i oi cs b hi) a oj.dst u h3).symm

omit hsel in
/-- An operation acts in a state that another's value has been put into. -/
theorem wp_put2 {oj : Oper} {dst : Option Tmp} {a : Act} {u : Value} {w : World} {K K2 : Act → World → Prop} (he : execOp (a.put dst u).eval oj = execOp a.eval oj)
    (h : oj.wp P a w K NoQ) (hK : ∀ (b : Act) v w', b.tmps = a.tmps → K (b.put oj.dst v) w' → K2 ((b.put dst u).put oj.dst v) w') : oj.wp P (a.put dst u) w K2 NoQ := by
  unfold Oper.wp at h ⊢
  rw [he]
  generalize (execOp a.eval oj).run P w = r at *
  cases r with
  | halt x w' => cases x <;> exact h
  | ok nx w' =>
    cases nx with
    | value v => exact hK a v w' rfl h
    | skip => exact hK a undef w' rfl h
    | defer d =>
      have e : ({ (a.put dst u) with defers := d :: (a.put dst u).defers } : Act) = ({ a with defers := d :: a.defers } : Act).put dst u := by
        cases dst <;> rfl
      show K2 (({ (a.put dst u) with defers := d :: (a.put dst u).defers } : Act).put oj.dst undef) w'
      rw [e]
      exact hK { a with defers := d :: a.defers } undef w' rfl h
    | enter f args =>
      refine Calls.mono (show Calls P f args w' _ from h) fun e w'' he => ?_
      cases e with
      | returned v => exact hK a v w'' rfl he
      | panicked c => exact he
      | outgrown => obtain ⟨_, _, h⟩ := he; exact h.elim
    | row f args => exact Rows.mono (show Rows P f args w' _ from h) fun v w'' he => hK a v w'' rfl he
    | _ => exact h

/-- What is new has come up. -/
theorem pullF_f {i : Nat} {oi : Oper} (hi : ops[i]? = some oi) (hk : k3 (kd i) = .new) (hM : MonoK Kt2) (hfoot : ∀ g k, ((F i).item g).foot k → k = g) (hkk : ∀ z K a w, Kt z K a w → ∀ g w1, Kp No w w1 → ((F i).item g).holds w1 → ¬ K g → g < w1.heap.size → Kt2 z (And1 K g) (a.put oi.dst ((F i).val g)) w1) : ∀ (l1 : List Nat) (z : World) (K : Nat → Prop) (a : Act) (w : World), (∀ j ∈ l1, comF ops kd j i = true) → wpF P ops kd F Kt l1 z K a w →
    ∀ g w1, Kp No w w1 → ((F i).item g).holds w1 → ¬ K g → g < w1.heap.size → wpF P ops kd F Kt2 l1 z (And1 K g) (a.put oi.dst ((F i).val g)) w1
  | [], z, K, a, w, _, h => hkk z K a w h
  | j :: l1, z, K, a, w, hc, h => by
    intro g w1 k1 hit hn hlt
    obtain ⟨oj, hj, hap, _⟩ := comF_spec (hc j (by simp)) hi
    have hc' : ∀ k ∈ l1, comF ops kd k i = true := fun k hk => hc k (by simp [hk])
    obtain ⟨h1, h2, h3⟩ := Oper.apart_spec hap
    rw [wpF] at h ⊢
    obtain ⟨o, ho, h⟩ := h
    rw [hj] at ho
    cases ho
    refine ⟨oj, hj, ?_⟩
    have hex := execOp_put oj (fun cs b => hsel j oj cs b hj) a oi.dst ((F i).val g) h1
    have hwa := wanted_put oj a oi.dst ((F i).val g) h1
    cases hkj : k3 (kd j) with
    | quiet =>
      rw [hkj] at h
      obtain ⟨u, hu, h⟩ := h
      refine ⟨u, yv_sub (hu.of_same hex hwa) (cl_sub k1), ?_⟩
      rw [Act.put_comm a _ u h2]
      exact pullF_f hi hk hM hfoot hkk l1 z K _ w hc' h g w1 k1 hit hn hlt
    | new =>
      rw [hkj] at h
      intro g' w2 k2 hit' hn' hlt'
      have hn1 : ¬ K g' := fun hh => hn' (.inl hh)
      have hne : g' ≠ g := fun hh => hn' (.inr hh)
      rw [Act.put_comm a _ _ h2]
      refine wpF_mono hM l1 ?_ Kp.refl (pullF_f hi hk hM hfoot hkk l1 z _ _ w2 hc' (h g' w2 (k1.no k2) hit' hn1 hlt') g w2 Kp.refl (((F i).item g).keep hit (fun x hx => ?_)) (fun hh => hh.elim hn (fun e => hne e.symm)) (Nat.lt_of_lt_of_le hlt k2.size))
      · intro k hk
        rcases hk with (hk | hk) | hk
        · exact .inl (.inl hk)
        · exact .inr hk
        · exact .inl (.inr hk)
      · rw [hfoot _ _ hx]; exact k2.block g hlt (fun h => h)
    | act =>
      rw [hkj] at h
      simp only at h ⊢
      rw [hwa]
      split
      · rename_i hw
        rw [if_pos hw] at h
        intro w2 k2
        refine wp_put2 hex (h w2 (k1.no k2)) (fun b v w' hb hh => ⟨hh.1.mono (kpt_mono (fun _ => .inl)), ?_⟩)
        rw [Act.put_comm b _ v h2]
        have hlt2 : g < w2.heap.size := Nat.lt_of_lt_of_le hlt k2.size
        have hit2 : ((F i).item g).holds w2 := ((F i).item g).keep hit (fun x hx => by rw [hfoot _ _ hx]; exact k2.block g hlt (fun h => h))
        refine wpF_mono hM l1 ?_ Kp.refl (pullF_f hi hk hM hfoot hkk l1 _ _ _ w' hc' hh.2 g w' Kp.refl (((F i).item g).keep hit2 (fun x hx => ?_)) (fun hh' => hh'.elim hn (fun e => absurd e.1 (by omega))) (Nat.lt_of_lt_of_le hlt2 hh.1.size))
        · intro k hk
          rcases hk with (hk | hk) | hk
          · exact .inl (.inl hk)
          · exact .inr hk
          · exact .inl (.inr hk)
        · rw [hfoot _ _ hx]; exact hh.1.block g hlt2 (fun h => hn (kpt_sub g h))
      · rename_i hw
        rw [if_neg hw] at h
        rw [Act.put_comm a _ _ h2]
        exact pullF_f hi hk hM hfoot hkk l1 z K _ w hc' h g w1 k1 hit hn hlt
omit hsel

/-! ### The order is good -/
def pairF (md : Region.Mode) (ops : Array Oper) (kd : Ks) (t : List Nat) (j i : Nat) : Bool := !Nat.beq j i && !edgeOn md ops j i && (Nat.testBit (t.getD i 0) j || comF ops kd j i)
def pairsF (md : Region.Mode) (ops : Array Oper) (kd : Ks) (t : List Nat) : List Nat → Bool
  | [] => true
  | j :: π => π.all (fun i => pairF md ops kd t j i) && pairsF md ops kd t π
theorem pairsF_spec {md : Region.Mode} {t : List Nat} : ∀ {π : List Nat}, pairsF md ops kd t π = true → π.Pairwise fun j i => pairF md ops kd t j i = true
  | [], _ => .nil
  | j :: π, h => by
    simp only [pairsF, Bool.and_eq_true, List.all_eq_true] at h
    exact .cons h.1 (pairsF_spec h.2)
/-- What is new waits for nothing but the reads ahead. -/
def newB (ops : Array Oper) (kd : Ks) (π : List Nat) (i : Nat) : Bool := match k3 (kd i), ops[i]? with
  | .new, some oi => oi.guard.isNone && π.all fun j => match ops[j]? with
    | some oj => match oj.dst with
      | some d => !(oi.looksAt ops).contains d
      | none => true
    | none => true
  | _, _ => true
theorem newB_spec {π : List Nat} {i : Nat} {oi : Oper} (h : newB ops kd π i = true) (hk : k3 (kd i) = .new) (ho : ops[i]? = some oi) : oi.guard = none ∧ ∀ j ∈ π, ∀ oj : Oper, ops[j]? = some oj → ∀ d, oj.dst = some d → d ∉ oi.looksAt ops := by
  unfold newB at h
  rw [hk, ho] at h
  simp only [Bool.and_eq_true, Option.isNone_iff_eq_none] at h
  refine ⟨h.1, fun j hj oj ho d hd => ?_⟩
  have := List.all_eq_true.1 h.2 j hj
  rw [ho] at this
  simp only [hd] at this
  simpa using this

structure InvF (md : Region.Mode) (ops : Array Oper) (kd : Ks) (t : List Nat) (listed : Array Bool) (π1 π2 : List Nat) : Prop where
  size : listed.size = ops.size
  mem : ∀ i, i ∈ π1 ++ π2 ↔ i < ops.size ∧ listed.getD i true = false
  closed : Closed md ops listed
  pairs : (π1 ++ π2).Pairwise fun j i => pairF md ops kd t j i = true
  quiet : ∀ j ∈ π1, k3 (kd j) = .quiet
  news : ∀ k ∈ π2, newB ops kd π2 k = true

theorem newB_sub {π π' : List Nat} {i : Nat} (h : newB ops kd π i = true) (hs : ∀ k ∈ π', k ∈ π) : newB ops kd π' i = true := by
  unfold newB at h ⊢
  cases hk : k3 (kd i) <;> cases ho : ops[i]? <;> simp only [hk, ho] at h ⊢
  simp only [Bool.and_eq_true, List.all_eq_true] at h ⊢
  exact ⟨h.1, fun x hx => h.2 x (hs x hx)⟩
theorem wpF_append : ∀ (l1 l2 : List Nat) (z : World) (K : Nat → Prop) (a : Act) (w : World), wpF P ops kd F Kt (l1 ++ l2) z K a w ↔ wpF P ops kd F (wpF P ops kd F Kt l2) l1 z K a w
  | [], l2, z, K, a, w => Iff.rfl
  | i :: l1, l2, z, K, a, w => by
    rw [List.cons_append, wpF, wpF]
    have ih := wpF_append l1 l2
    have e : wpF P ops kd F Kt (l1 ++ l2) = wpF P ops kd F (wpF P ops kd F Kt l2) l1 := by
      funext z K a w; exact propext (ih z K a w)
    rw [e]

/-- What is left to do. -/
abbrev Todo (P : Program) (ops : Array Oper) (kd : Ks) (F : Nat → New) (Q : Exit → Act → World → Prop) (π1 π2 : List Nat) : Kont := wpF P ops kd F (begK P ops kd F Q π2) π1

theorem begK_mono {π : List Nat} : MonoK (begK P ops kd F Q π) := fun z K K' a w w2 hK hw h => ⟨h.1, wpF_mono endK_mono π hK hw h.2⟩

theorem any_mixF {md : Region.Mode} {t : List Nat} (hsel : Region.noSelect ops = true) (hself : ∀ i, i < ops.size → selfB md ops i = true) (hreach : ∀ i j, (t.getD i 0).testBit j = true → Mi.Reach md ops i j) :
    ∀ (f : Nat) (π1 π2 : List Nat) (listed : Array Bool) (z : World) (K : Nat → Prop) (a : Act) (w : World), (π1 ++ π2).length = f → InvF md ops kd t listed π1 π2 → Kp kd.S z w → (∀ k, K k → k < w.heap.size) → Todo P ops kd F Q π1 π2 z K a w → wpAny P md ops Q f listed a w
  | 0, π1, π2, listed, z, K, a, w, hl, inv, hz, hKw, h => by
    have h0 : π1 ++ π2 = [] := List.eq_nil_of_length_eq_zero hl
    obtain ⟨rfl, rfl⟩ := List.append_eq_nil_iff.1 h0
    refine ⟨?_, h.2 w Kp.refl⟩
    apply List.eq_nil_iff_forall_not_mem.2
    intro j hj
    obtain ⟨h1, o, ho, _⟩ := mem_ready.1 hj
    have := (inv.mem j).2 ⟨(Array.getElem?_eq_some_iff.1 ho).1, h1⟩
    cases this
  | f + 1, π1, π2, listed, z, K, a, w, hl, inv, hz, hKw, h => by
    refine ⟨fun h0 => ?_, fun i hi => ?_⟩
    · exfalso
      cases hπ : π1 ++ π2 with
      | nil => rw [hπ] at hl; simp at hl
      | cons i π =>
        obtain ⟨hlt, hun⟩ := (inv.mem i).1 (by rw [hπ]; simp)
        have hs := hself i hlt
        unfold selfB at hs
        cases ho : ops[i]? with
        | none => rw [ho] at hs; cases hs
        | some o =>
          rw [ho] at hs
          have hr : i ∈ Region.ready md ops listed := mem_ready.2 ⟨hun, o, ho, fun e he hb => by
            have h1 := Array.all_eq_true'.1 hs e he
            simp only [hb, Bool.not_true, Bool.false_or, Bool.and_eq_true, bne_iff_ne, Nat.blt_eq] at h1
            cases hl : listed.getD e.on false with
            | true => rfl
            | false =>
              have hin : e.on ∈ i :: π := by rw [← hπ]; exact (inv.mem _).2 ⟨h1.2, getD_in (by rw [inv.size]; exact h1.2) hl⟩
              rcases List.mem_cons.1 hin with h2 | h2
              · exact absurd h2 h1.1
              · have hps := inv.pairs
                rw [hπ] at hps
                have h3 := (List.pairwise_cons.1 hps).1 _ h2
                unfold pairF edgeOn at h3
                rw [ho] at h3
                simp only [Bool.and_eq_true, Bool.not_eq_true'] at h3
                have h3 := h3.1.2
                have h4 : (o.after.any fun e' => Region.binds md e' && e'.on == e.on) = true := Array.any_eq_true'.2 ⟨e, he, by simp [hb]⟩
                rw [h4] at h3
                cases h3⟩
          rw [h0] at hr
          cases hr
    · obtain ⟨hun, oi, hoi, hall⟩ := mem_ready.1 hi
      have hlt : i < ops.size := (Array.getElem?_eq_some_iff.1 hoi).1
      have hin := (inv.mem i).2 ⟨hlt, hun⟩
      have hs' := Region.noSelect_spec hsel
      have hcom : ∀ l1 l2, π1 ++ π2 = l1 ++ i :: l2 → ∀ j ∈ l1, comF ops kd j i = true := fun l1 l2 he j hj => by
        have hps := inv.pairs
        rw [he] at hps
        have h1 := (List.pairwise_append.1 hps).2.2 j hj i (by simp)
        unfold pairF at h1
        simp only [Bool.and_eq_true, Bool.or_eq_true] at h1
        rcases h1.2 with h2 | h2
        · have h3 := inv.closed.reach (hreach i j h2) (fun o ho => by rw [hoi] at ho; cases ho; exact hall)
          have h4 := ((inv.mem j).1 (by rw [he]; simp [hj])).2
          rw [getD_both h4] at h3
          cases h3
        · exact h2
      have hnd : (π1 ++ π2).Nodup := inv.pairs.imp (fun {j k} h e => by subst e; unfold pairF at h; simp at h)
      have next : ∀ (p1 p2 : List Nat), (∃ l1 l2, π1 ++ π2 = l1 ++ i :: l2 ∧ p1 ++ p2 = l1 ++ l2) → (∀ j ∈ p1, j ∈ π1) → (∀ j ∈ p2, j ∈ π2) → InvF md ops kd t (listed.setIfInBounds i true) p1 p2 := fun p1 p2 ⟨l1, l2, he, he2⟩ hp1 hp2 => by
        have hnd' := hnd
        rw [he] at hnd'
        have hne : ∀ k, k ∈ l1 ++ l2 → k ≠ i := fun k hk e => by
          subst e
          rw [List.nodup_append] at hnd'
          rcases List.mem_append.1 hk with h1 | h1
          · exact hnd'.2.2 k h1 k (by simp) rfl
          · exact (List.nodup_cons.1 hnd'.2.1).1 h1
        exact {
          size := by simp [inv.size]
          mem := fun k => by
            rw [he2]
            by_cases e : i = k
            · subst e
              constructor
              · intro hk; exact absurd rfl (hne i hk)
              · intro ⟨_, h1⟩
                simp [inv.size, hlt] at h1
            · rw [getD_set_ne true e, ← inv.mem k, he]
              simp only [List.mem_append, List.mem_cons]
              constructor
              · rintro (h1 | h1)
                · exact .inl h1
                · exact .inr (.inr h1)
              · rintro (h1 | h1 | h1)
                · exact .inl h1
                · exact absurd h1.symm e
                · exact .inr h1
          closed := fun j oj hj hlj e he hb => by
            by_cases e1 : i = j
            · subst e1
              rw [hoi] at hj
              cases hj
              exact getD_set_true (hall e he hb)
            · rw [getD_set_ne false e1] at hlj
              exact getD_set_true (inv.closed j oj hj hlj e he hb)
          pairs := by
            rw [he2]
            have : (l1 ++ l2).Sublist (l1 ++ i :: l2) := List.Sublist.append_left (List.sublist_cons_self i l2) l1
            have hps := inv.pairs
            rw [he] at hps
            exact hps.sublist this
          quiet := fun j hj => inv.quiet j (hp1 j hj)
          news := fun k hk => newB_sub (inv.news k (hp2 k hk)) hp2 }
      have hgrow : ∀ {w' : World}, w.heap.size ≤ w'.heap.size → ∀ k, Grow K w w' k → k < w'.heap.size := fun hle k hk => hk.elim (fun h => Nat.lt_of_lt_of_le (hKw k h) hle) (fun h => h.2)
      unfold wpOp
      rw [hoi]
      simp only
      have fin : ∀ {K2 : Act → World → Prop}, oi.wp P a w K2 NoQ → (∀ a' w', K2 a' w' → wpAny P md ops Q f (listed.setIfInBounds i true) a' w') → oi.wp P a w (fun a' w' => wpAny P md ops Q f (listed.setIfInBounds i true) a' w') Q := fun {K2} hwp hK => by
        have h2 := Oper.wp_mono (fun a' w' hh => hK a' w' hh) hwp
        unfold Oper.wp at h2 ⊢
        generalize (execOp a.eval oi).run P w = r at *
        cases r with
        | halt x w' => cases x <;> exact h2.elim
        | ok nx w' =>
          cases nx <;> first
            | exact h2
            | exact h2.elim
            | (refine Calls.mono (show Calls P _ _ w' _ from h2) fun e w'' he => ?_
               cases e with
               | returned v => exact he
               | panicked c => exact he.elim
               | outgrown => obtain ⟨_, _, h⟩ := he; exact h.elim)
      have quietly : ∀ (p1 p2 : List Nat), InvF md ops kd t (listed.setIfInBounds i true) p1 p2 → (p1 ++ p2).length = f → (∃ v, Yv P ops (cl kd.S (kd i) z w) oi v a ∧ Todo P ops kd F Q p1 p2 z K (a.put oi.dst v) w) →
          if Region.wanted oi (yielded ops a.tmps) = true then oi.wp P a w (fun a' w' => wpAny P md ops Q f (listed.setIfInBounds i true) a' w') Q ∨ (oi.asks P a w ∧ LetsOut Q) else wpAny P md ops Q f (listed.setIfInBounds i true) (a.put oi.dst undef) w := fun p1 p2 inv' hlen ⟨v, hv, h1⟩ => by
        rcases hv with ⟨hw, hv⟩ | ⟨hw, rfl⟩
        · rw [if_pos hw]
          refine .inl ?_
          unfold Oper.wp
          rw [hv w (by generalize kd i = k; cases k <;> first | trivial | exact hz | exact Kp.refl)]
          exact any_mixF hsel hself hreach f p1 p2 _ _ _ _ _ hlen inv' hz hKw h1
        · rw [if_neg (by rw [hw]; decide)]
          exact any_mixF hsel hself hreach f p1 p2 _ _ _ _ _ hlen inv' hz hKw h1
      rcases List.mem_append.1 hin with hin1 | hin2
      · obtain ⟨l1, l2, hπ⟩ := List.append_of_mem hin1
        subst hπ
        have hq := inv.quiet i (by simp)
        have inv' := next (l1 ++ l2) π2 ⟨l1, l2 ++ π2, by simp, by simp⟩ (fun j hj => by rcases List.mem_append.1 hj with h | h <;> simp [h]) (fun j hj => hj)
        have hlen : ((l1 ++ l2) ++ π2).length = f := by simp at hl ⊢; omega
        have h1 := pullF_q (Kt2 := wpF P ops kd F (begK P ops kd F Q π2) l2) hs' hoi hq (fun a ha => by
          obtain ⟨o, ho, hh⟩ := (wpF_quiet hq).1 ha
          rw [hoi] at ho
          cases ho
          exact hh) l1 a (hcom l1 (l2 ++ π2) (by simp)) ((wpF_append l1 (i :: l2) z K a w).1 h)
        obtain ⟨v, hv, h2⟩ := h1
        exact quietly _ _ inv' hlen ⟨v, hv, (wpF_append l1 l2 z K _ w).2 h2⟩
      · obtain ⟨l1, l2, hπ⟩ := List.append_of_mem hin2
        subst hπ
        have inv' := next π1 (l1 ++ l2) ⟨π1 ++ l1, l2, by simp, by simp⟩ (fun j hj => hj) (fun j hj => by rcases List.mem_append.1 hj with h | h <;> simp [h])
        have hlen : (π1 ++ (l1 ++ l2)).length = f := by simp at hl ⊢; omega
        have hc := hcom (π1 ++ l1) l2 (by simp)
        have hc1 : ∀ j ∈ π1, comF ops kd j i = true := fun j hj => hc j (by simp [hj])
        have hc2 : ∀ j ∈ l1, comF ops kd j i = true := fun j hj => hc j (by simp [hj])
        have frs : ∀ (a b : Act) v, b.tmps = a.tmps → AllFr P ops kd F (l1 ++ i :: l2) a → AllFr P ops kd F (l1 ++ l2) (b.put oi.dst v) := fun a b v hb hfr k hk ok hkn hok => by
          have e1 : b.eval = a.eval := by funext x; cases x <;> simp [Act.eval, hb]
          have hk' : k ∈ l1 ++ i :: l2 := by rcases List.mem_append.1 hk with h | h <;> simp [h]
          have hk2 := (newB_spec (inv.news k hk') hkn hok).2 i (by simp) oi hoi
          exact (hfr k hk' ok hkn hok).same ((execOp_put ok (fun cs b => hs' k ok cs b hok) b oi.dst v hk2).trans (by rw [e1]))
        cases hk : k3 (kd i) with
        | quiet =>
          refine quietly _ _ inv' hlen (pullF_q (Kt2 := begK P ops kd F Q (l1 ++ l2)) hs' hoi hk (fun a ha => ?_) π1 a hc1 h)
          obtain ⟨v, hv, h2⟩ := pullF_q (Kt2 := wpF P ops kd F (endK Q) l2) hs' hoi hk (fun a ha => by
            obtain ⟨o, ho, hh⟩ := (wpF_quiet hk).1 ha
            rw [hoi] at ho
            cases ho
            exact hh) l1 a hc2 ((wpF_append l1 (i :: l2) z K a w).1 ha.2)
          exact ⟨v, hv, frs a a v rfl ha.1, (wpF_append l1 l2 z K _ w).2 h2⟩
        | act =>
          have h1 := pullF_a (Kt2 := begK P ops kd F Q (l1 ++ l2)) hs' hoi hk (fun a ha => by
            have h2 := pullF_a (Kt2 := wpF P ops kd F (endK Q) l2) hs' hoi hk (fun a ha => by
              rw [wpF, hk] at ha
              obtain ⟨o, ho, hh⟩ := ha
              rw [hoi] at ho
              cases ho
              simp only at hh
              unfold ActS
              split
              · rename_i hw; rw [if_pos hw] at hh; exact hh w Kp.refl
              · rename_i hw; rw [if_neg hw] at hh; exact hh) l1 a hc2 ((wpF_append l1 (i :: l2) z K a w).1 ha.2)
            unfold ActS at h2 ⊢
            split
            · rename_i hw
              rw [if_pos hw] at h2
              exact wp_put (oj := ⟨none, oi.op, oi.type, oi.pos, oi.after, none⟩) (u := undef) rfl (show oi.wp P (a.put none undef) w _ NoQ from h2) (fun b v w' hb hh => ⟨hh.1, frs a b v hb ha.1, (wpF_append l1 l2 _ _ _ w').2 hh.2⟩)
            · rename_i hw
              rw [if_neg hw] at h2
              exact ⟨frs a a _ rfl ha.1, (wpF_append l1 l2 _ _ _ w).2 h2⟩) π1 a hc1 h
          unfold ActS at h1
          split
          · rename_i hw
            rw [if_pos hw] at h1
            refine .inl (fin h1 (fun a' w' hh => any_mixF hsel hself hreach f _ _ _ _ _ _ _ hlen inv' ?_ (hgrow hh.1.size) hh.2))
            have hkk := hh.1
            revert hkk hk
            generalize kd i = k
            cases k <;> intro hk hkk <;> first
              | (exact absurd hk (by decide))
              | exact Kp.refl
              | exact hz.no hkk
              | exact hz.trans hkk (fun g hg => hg.2.elim .inr .inl)
          · rename_i hw
            rw [if_neg hw] at h1
            exact any_mixF hsel hself hreach f _ _ _ _ _ _ _ hlen inv' hz hKw h1
        | new =>
          have hF : Fr P oi a (F i) := pullF_fr hs' hoi (fun a ha => ha.1 i (by simp) oi hk hoi) π1 a inv.quiet hc1 h
          have hg := (newB_spec (inv.news i (by simp)) hk hoi).1
          rw [if_pos (by simp [Region.wanted, hg])]
          refine .inl ?_
          obtain ⟨w', hrun, hkp, hit, hsz⟩ := hF.1 w
          unfold Oper.wp
          rw [hrun]
          refine any_mixF hsel hself hreach f π1 (l1 ++ l2) _ z (And1 K w.heap.size) _ _ hlen inv' (hz.no hkp) (fun k hk => hk.elim (fun h => Nat.lt_of_lt_of_le (hKw k h) hkp.size) (fun e => by rw [e]; exact hsz)) ?_
          exact pullF_f (Kt2 := begK P ops kd F Q (l1 ++ l2)) hs' hoi hk begK_mono hF.2 (fun z K a w ha g w1 k1 hit hn hlt => ⟨frs a a _ rfl ha.1, (wpF_append l1 l2 _ _ _ _).2 (pullF_f (Kt2 := wpF P ops kd F (endK Q) l2) hs' hoi hk (fun z K K' a w w2 hK hw h => wpF_mono endK_mono l2 hK hw h) hF.2 (fun z K a w ha => by
            rw [wpF, hk] at ha
            obtain ⟨o, ho, hh⟩ := ha
            rw [hoi] at ho
            cases ho
            exact hh) l1 z K a w hc2 ((wpF_append l1 (i :: l2) z K a w).1 ha.2) g w1 k1 hit hn hlt)⟩) π1 z K a w hc1 h _ w' hkp hit (fun hh => absurd (hKw _ hh) (Nat.lt_irrefl _)) hsz

/-- Is the order good for the region? -/
def mixF (md : Region.Mode) (l : List Oper) (kd : Ks) (π1 π2 : List Nat) : Bool :=
  Region.noSelect l.toArray && (List.range l.length).all (selfB md l.toArray) && π2.all (newB l.toArray kd π2) && π1.all (fun j => qk (kd j)) && allB l.length (π1 ++ π2) && pairsF md l.toArray kd (masks md l []) (π1 ++ π2)
theorem wp_region_mixF {id : Nat} {a : Act} {w : World} {l : List Oper} {π1 π2 : List Nat} (hm : P.follows .mixedOrders = true) (hB : mixF .any l kd π1 π2 = true)
    (h : Todo P l.toArray kd F Q π1 π2 { w with drawn := w.drawn + 1 } (fun k => k < w.heap.size) a { w with drawn := w.drawn + 1 }) : (Code.region id l.toArray true).wp P Q a w := by
  simp only [mixF, Bool.and_eq_true] at hB
  obtain ⟨⟨⟨⟨⟨hsel, hself⟩, hnew⟩, hq⟩, hall⟩, hpairs⟩ := hB
  refine wp_region_any hm ?_
  have hp := pairsF_spec hpairs
  have hnd : (π1 ++ π2).Nodup := hp.imp (fun {j k} h e => by subst e; unfold pairF at h; simp at h)
  have hlen : (π1 ++ π2).length = l.toArray.size := by
    have h1 : ∀ i, i ∈ π1 ++ π2 ↔ i ∈ List.range l.length := fun i => by rw [allB_spec hall, List.mem_range]
    have := (List.perm_ext_iff_of_nodup hnd List.nodup_range).2 h1
    simpa using this.length_eq
  refine any_mixF hsel (fun i hi => List.all_eq_true.1 hself i (List.mem_range.2 (by simpa using hi))) (masks_spec (ops := l.toArray) l [] (fun k => by simp) (fun i j h => by simp at h)) _ π1 π2 _ _ _ a _ hlen ⟨by simp, fun i => ?_, fun j oj _ hl => (by rw [getD_replicate_false] at hl; cases hl), hp, fun j hj => ?_, fun k hk => List.all_eq_true.1 hnew k hk⟩ Kp.refl (fun k hk => hk) h
  · rw [allB_spec hall]
    constructor
    · intro hi
      have hi' : i < l.length := hi
      exact ⟨by simpa using hi, by simp [hi']⟩
    · intro hi
      simpa using hi.1
  · have := List.all_eq_true.1 hq j hj
    unfold qk at this
    cases hk : k3 (kd j) <;> rw [hk] at this <;> first | rfl | cases this
end
end Go.Proofs.Ytnpnphcklmlchaa.Mf
