/- What is known of memory in a walk, as a list of things that lie apart: blocks of one's own, slices that came in, slices that grow. -/
import Derived.Test.YtehekgigmbnlfaaDoorMi
import Derived.Test.YtehekgigmbnlfaaDoorAp
import Derived.Test.YtehekgigmbnlfaaDoorEq
set_option linter.unusedVariables false
set_option linter.unusedSimpArgs false
namespace Go.Proofs.YtehekgigmbnlfaaDoor.Stm
open Go.RowKit Go.Proofs.YtehekgigmbnlfaaDoor.Sx Go.Proofs.YtehekgigmbnlfaaDoor.Mx Go.Proofs.YtehekgigmbnlfaaDoor.Bw Go.Proofs.YtehekgigmbnlfaaDoor.By Go.Proofs.YtehekgigmbnlfaaDoor.Ap Go.Proofs.YtehekgigmbnlfaaDoor.Qx Go.Proofs.YtehekgigmbnlfaaDoor.Mi
variable {P : Program}

/-- A thing in memory: is it one's own (then nothing else known lies in its blocks), which blocks, what holds. -/
structure Item where
  own : Bool
  foot : Nat → Prop
  holds : World → Prop
  inb : ∀ {w : World}, holds w → ∀ {g : Nat}, foot g → g < w.heap.size
  keep : ∀ {w w' : World}, holds w → (∀ g, foot g → w'.heap[g]? = w.heap[g]?) → holds w'

def Apart (i j : Item) : Prop := (i.own = true ∨ j.own = true) → ∀ g, i.foot g → ¬ j.foot g
theorem Apart.symm {i j : Item} (h : Apart i j) : Apart j i := fun o g h1 h2 => h o.symm g h2 h1

/-- A block that may be written. -/
def blkI (g : Nat) (t : TypeId) (cs : List Value) : Item where
  own := true
  foot := fun k => k = g
  holds := fun w => Blk w g t cs
  inb := fun {w} h {k} hk => by subst hk; exact Blk.lt h
  keep := fun {w w'} h hk => (hk g rfl).trans h
theorem at_foot {w : World} {g o : Nat} {cs : List Value} (h : At w g o cs) (hne : cs ≠ []) : g < w.heap.size := by
  match cs, hne with
  | v :: l, _ => exact block_lt_of_cell (h 0 v rfl)
/-- What a slice reads as. -/
def rowI (A : Option Addr) (cs : List Value) : Item where
  own := false
  foot := fun k => cs ≠ [] ∧ ∃ a, A = some a ∧ a.block = k
  holds := fun w => Row w A cs
  inb := fun {w} h {k} hk => by
    obtain ⟨hne, a, rfl, rfl⟩ := hk
    obtain ⟨g, o, he, ha⟩ := Row.some h hne
    cases he
    exact at_foot ha hne
  keep := fun {w w'} h hk => by
    rcases h with h | ⟨g, o, rfl, ha⟩
    · exact .inl h
    · refine .inr ⟨g, o, rfl, fun j v hv => ?_⟩
      have hne : cs ≠ [] := fun e => by rw [e] at hv; simp at hv
      rw [← ha j v hv]
      exact World.cell?_of_block (w := w) (hk g ⟨hne, _, rfl, rfl⟩)
/-- A slice at the head of a block of its own. -/
def vecI (v : Value) (e : TypeId) (sz k : Nat) (xs : List Value) : Item where
  own := true
  foot := fun g => OwnB v g
  holds := fun w => Own w 0 e sz v k xs
  inb := fun {w} h {g} hg => (Own.lt h hg).2
  keep := fun {w w'} h hk => by
    refine ⟨h.1, ?_⟩
    rcases h.2 with h2 | ⟨g, cap, cur, rfl, hb, hc, h3⟩
    · exact .inl h2
    · exact .inr ⟨g, cap, cur, rfl, hb, (hk g rfl).trans hc, h3⟩
/-- Many things as one. -/
def starI (l : List Item) : Item where
  own := true
  foot := fun g => ∃ i ∈ l, i.foot g
  holds := fun w => (∀ i ∈ l, i.holds w) ∧ l.Pairwise Apart
  inb := fun {w} h {g} hg => by obtain ⟨i, hi, hf⟩ := hg; exact i.inb (h.1 i hi) hf
  keep := fun {w w'} h hk => ⟨fun i hi => i.keep (h.1 i hi) (fun g hg => hk g ⟨i, hi, hg⟩), h.2⟩

/-- All these things hold, apart. -/
structure Pre (M : List Item) (w : World) : Prop where
  all : ∀ i ∈ M, i.holds w
  apart : M.Pairwise Apart
/-- Of what was M0 in w0 this is known now. -/
structure St (w0 : World) (M0 M : List Item) (w : World) : Prop where
  pre : Pre M w
  kp : Kp (fun g => ∃ i ∈ M0, i.own = true ∧ i.foot g) w0 w
  org : ∀ i ∈ M, ∀ g, i.foot g → w0.heap.size ≤ g ∨ ∃ j ∈ M0, j.foot g ∧ (i.own = true → j.own = true)

theorem Pre.inb {M : List Item} {w : World} (h : Pre M w) {i : Item} (hi : i ∈ M) {g : Nat} (hg : i.foot g) : g < w.heap.size := i.inb (h.all i hi) hg
theorem Pre.no {M : List Item} {w w' : World} (h : Pre M w) (k : Kp No w w') : Pre M w' := ⟨fun i hi => i.keep (h.all i hi) (fun g hg => k.block g (h.inb hi hg) (fun hs => hs)), h.apart⟩
theorem St.no {w0 w w' : World} {M0 M : List Item} (h : St w0 M0 M w) (k : Kp No w w') : St w0 M0 M w' := ⟨h.pre.no k, h.kp.no k, h.org⟩
theorem St.start {w : World} {M : List Item} (h : Pre M w) : St w M M w := ⟨h, Kp.refl, fun i hi g hg => .inr ⟨i, hi, hg, id⟩⟩

theorem Pre.nil {w : World} : Pre [] w := ⟨(fun _ h => by cases h), List.Pairwise.nil⟩
theorem Pre.cons_ro {M : List Item} {w : World} {i : Item} (h : Pre M w) (hi : i.holds w) (ho : i.own = false) (hM : ∀ j ∈ M, j.own = false) : Pre (i :: M) w :=
  ⟨fun j hj => (List.mem_cons.1 hj).elim (fun e => e ▸ hi) (h.all j), .cons (fun j hj o => by rw [ho, hM j hj] at o; simp at o) h.apart⟩

/-- M with i taken out. -/
inductive Pick : Item → List Item → List Item → Prop where
  | here {i : Item} {M : List Item} : Pick i (i :: M) M
  | there {i j : Item} {M M' : List Item} : Pick i M M' → Pick i (j :: M) (j :: M')
theorem Pick.perm {i : Item} {M M' : List Item} (h : Pick i M M') : M.Perm (i :: M') := by
  induction h with
  | here => exact .refl _
  | there _ ih => exact (List.Perm.cons _ ih).trans (.swap _ _ _)
/-- M with i' in the place of i. -/
inductive Put : Item → Item → List Item → List Item → Prop where
  | here {i i' : Item} {M : List Item} : Put i i' (i :: M) (i' :: M)
  | there {i i' j : Item} {M M' : List Item} : Put i i' M M' → Put i i' (j :: M) (j :: M')
theorem Put.ex {i i' : Item} {M M' : List Item} (h : Put i i' M M') : ∃ N, M.Perm (i :: N) ∧ M'.Perm (i' :: N) := by
  induction h with
  | here => exact ⟨_, .refl _, .refl _⟩
  | there _ ih => obtain ⟨N, h1, h2⟩ := ih; exact ⟨_ :: N, (List.Perm.cons _ h1).trans (.swap _ _ _), (List.Perm.cons _ h2).trans (.swap _ _ _)⟩
/-- M parted. -/
inductive Split : List Item → List Item → List Item → Prop where
  | nil {M : List Item} : Split M [] M
  | cons {i : Item} {M M1 is F : List Item} : Pick i M M1 → Split M1 is F → Split M (i :: is) F
theorem Split.perm {M Mf F : List Item} (h : Split M Mf F) : M.Perm (Mf ++ F) := by
  induction h with
  | nil => exact .refl _
  | cons hp _ ih => exact hp.perm.trans (.cons _ ih)

theorem Pre.perm {M M' : List Item} {w : World} (h : Pre M w) (p : M.Perm M') : Pre M' w := ⟨fun i hi => h.all i (p.mem_iff.2 hi), (p.pairwise_iff (fun {a b} => Apart.symm)).1 h.apart⟩
theorem St.perm {w0 w : World} {M0 M M' : List Item} (h : St w0 M0 M w) (p : M.Perm M') : St w0 M0 M' w := ⟨h.pre.perm p, h.kp, fun i hi => h.org i (p.mem_iff.2 hi)⟩
theorem Pre.left {M N : List Item} {w : World} (h : Pre (M ++ N) w) : Pre M w := ⟨fun i hi => h.all i (by simp [hi]), (List.pairwise_append.1 h.apart).1⟩
theorem Pre.right {M N : List Item} {w : World} (h : Pre (M ++ N) w) : Pre N w := ⟨fun i hi => h.all i (by simp [hi]), (List.pairwise_append.1 h.apart).2.1⟩
theorem Pre.split {M Mf F : List Item} {w : World} (h : Pre M w) (s : Split M Mf F) : Pre Mf w := (h.perm s.perm).left
theorem St.split {w0 w : World} {M0 M Mf F : List Item} (h : St w0 M0 M w) (s : Split M Mf F) : Pre Mf w := h.pre.split s
theorem St.sub {w0 w : World} {M0 M Mf F : List Item} (h : St w0 M0 M w) (s : Split M Mf F) : St w0 M0 Mf w := ⟨h.split s, h.kp, fun i hi => h.org i (s.perm.mem_iff.2 (by simp [hi]))⟩
theorem St.pick {w0 w : World} {M0 M M' : List Item} {i : Item} (h : St w0 M0 M w) (p : Pick i M M') : i.holds w := h.pre.all i (p.perm.mem_iff.2 (by simp))
theorem Pre.pick {w : World} {M M' : List Item} {i : Item} (h : Pre M w) (p : Pick i M M') : i.holds w := h.all i (p.perm.mem_iff.2 (by simp))

/-- Behind a call that turned some of the things. -/
theorem St.call {w0 w w' : World} {M0 M Mf F Mf' : List Item} (h : St w0 M0 M w) (s : Split M Mf F) (h' : St w Mf Mf' w') : St w0 M0 (Mf' ++ F) w' := by
  have hp := h.pre.perm s.perm
  have hap := List.pairwise_append.1 hp.apart
  have hnF : ∀ i ∈ F, ∀ g, i.foot g → g < w.heap.size ∧ ¬ ∃ j ∈ Mf, j.own = true ∧ j.foot g := fun i hi g hg =>
    ⟨hp.inb (by simp [hi]) hg, fun ⟨j, hj, ho, hf⟩ => hap.2.2 j hj i hi (.inl ho) g hf hg⟩
  refine ⟨⟨fun i hi => ?_, List.pairwise_append.2 ⟨h'.pre.apart, hap.2.1, fun i hi j hj o g hg hgj => ?_⟩⟩, ?_, fun i hi g hg => ?_⟩
  · rcases List.mem_append.1 hi with hi | hi
    · exact h'.pre.all i hi
    · exact i.keep (hp.all i (by simp [hi])) (fun g hg => h'.kp.block g (hnF i hi g hg).1 (hnF i hi g hg).2)
  · rcases h'.org i hi g hg with h1 | ⟨j', hj', hf, ho⟩
    · exact absurd (hnF j hj g hgj).1 (by omega)
    · exact hap.2.2 j' hj' j hj (o.imp ho id) g hf hgj
  · refine h.kp.trans h'.kp (fun g hg => ?_)
    obtain ⟨j, hj, ho, hf⟩ := hg
    rcases h.org j (s.perm.mem_iff.2 (by simp [hj])) g hf with h1 | ⟨k, hk, hkf, hko⟩
    · exact .inr h1
    · exact .inl ⟨k, hk, hko ho, hkf⟩
  · rcases List.mem_append.1 hi with hi | hi
    · rcases h'.org i hi g hg with h1 | ⟨j, hj, hf, ho⟩
      · exact .inl (Nat.le_trans h.kp.size h1)
      · rcases h.org j (s.perm.mem_iff.2 (by simp [hj])) g hf with h1 | ⟨k, hk, hkf, hko⟩
        · exact .inl h1
        · exact .inr ⟨k, hk, hkf, fun o => hko (ho o)⟩
    · exact h.org i (s.perm.mem_iff.2 (by simp [hi])) g hg

/-- Something new. -/
theorem St.new {w0 w w' : World} {M0 M : List Item} {i : Item} (h : St w0 M0 M w) (k : Kp No w w') (hi : i.holds w') (hf : ∀ g, i.foot g → w.heap.size ≤ g) : St w0 M0 (i :: M) w' :=
  h.call (Mf := []) (Mf' := [i]) .nil ⟨⟨fun j hj => by simp at hj; exact hj ▸ hi, by simp⟩, k.mono (fun _ h => h.elim), fun j hj g hg => by simp at hj; subst hj; exact .inl (hf g hg)⟩
/-- One thing is turned. -/
theorem St.turn {w0 w w' : World} {M0 M M' : List Item} {i i' : Item} (h : St w0 M0 M w) (p : Put i i' M M') (ho : i.own = true) (k : Kp i.foot w w') (hi : i'.holds w') (hf : ∀ g, i'.foot g → i.foot g ∨ w.heap.size ≤ g) : St w0 M0 M' w' := by
  obtain ⟨N, p1, p2⟩ := p.ex
  refine St.perm ?_ p2.symm
  exact (h.perm p1).call (Mf := [i]) (F := N) (Mf' := [i']) (.cons .here .nil) ⟨⟨fun j hj => by simp at hj; exact hj ▸ hi, by simp⟩, k.mono (fun g hg => ⟨i, by simp, ho, hg⟩), fun j hj g hg => by
    simp at hj; subst hj
    rcases hf g hg with h1 | h1
    · exact .inr ⟨i, by simp, h1, fun _ => ho⟩
    · exact .inl h1⟩
/-- One thing is seen as another, in the same blocks. -/
theorem St.as {w0 w : World} {M0 M M' : List Item} {i i' : Item} (h : St w0 M0 M w) (p : Put i i' M M') (hi : i.holds w → i'.holds w) (ho : i'.own = true → i.own = true) (hf : ∀ g, i'.foot g → i.foot g) : St w0 M0 M' w := by
  obtain ⟨N, p1, p2⟩ := p.ex
  have h1 := h.perm p1
  refine St.perm ?_ p2.symm
  refine ⟨⟨fun j hj => ?_, ?_⟩, h.kp, fun j hj g hg => ?_⟩
  · rcases List.mem_cons.1 hj with rfl | hj
    · exact hi (h1.pre.all i (by simp))
    · exact h1.pre.all j (by simp [hj])
  · have := h1.pre.apart
    cases this with
    | cons ha hr => exact .cons (fun j hj o g hg hgj => ha j hj (o.imp ho id) g (hf g hg) hgj) hr
  · rcases List.mem_cons.1 hj with rfl | hj
    · rcases h1.org i (by simp) g (hf g hg) with h2 | ⟨k, hk, hkf, hko⟩
      · exact .inl h2
      · exact .inr ⟨k, hk, hkf, fun o => hko (ho o)⟩
    · exact h1.org j (by simp [hj]) g hg

/-- Many as one, and one as many. -/
theorem Pre.unstar {M l : List Item} {w : World} (h : Pre (starI l :: M) w) : Pre (l ++ M) w := by
  have h0 := h.all (starI l) (by simp)
  cases h.apart with
  | cons ha hr => exact ⟨fun i hi => by
      rcases List.mem_append.1 hi with hi | hi
      · exact h0.1 i hi
      · exact h.all i (by simp [hi]), List.pairwise_append.2 ⟨h0.2, hr, fun i hi j hj o g hg hgj => ha j hj (.inl rfl) g ⟨i, hi, hg⟩ hgj⟩⟩
theorem St.unstar {w0 w : World} {M0 M l : List Item} (h : St w0 M0 (starI l :: M) w) : St w0 M0 (l ++ M) w :=
  ⟨h.pre.unstar, h.kp, fun i hi g hg => by
    rcases List.mem_append.1 hi with hi | hi
    · rcases h.org (starI l) (by simp) g ⟨i, hi, hg⟩ with h1 | ⟨j, hj, hf, ho⟩
      · exact .inl h1
      · exact .inr ⟨j, hj, hf, fun _ => ho rfl⟩
    · exact h.org i (by simp [hi]) g hg⟩
theorem Pre.star {M l F : List Item} {w : World} (h : Pre M w) (s : Split M l F) (ho : ∀ i ∈ l, i.own = true) : Pre (starI l :: F) w := by
  have h1 := h.perm s.perm
  have hap := List.pairwise_append.1 h1.apart
  exact ⟨fun i hi => by
    rcases List.mem_cons.1 hi with rfl | hi
    · exact ⟨fun i hi => h1.all i (by simp [hi]), hap.1⟩
    · exact h1.all i (by simp [hi]), .cons (fun j hj _ g ⟨i, hi, hg⟩ hgj => hap.2.2 i hi j hj (.inl (ho i hi)) g hg hgj) hap.2.1⟩
theorem St.star {w0 w : World} {M0 M l F : List Item} (h : St w0 M0 M w) (s : Split M l F) (ho : ∀ i ∈ l, i.own = true) : St w0 M0 (starI l :: F) w :=
  ⟨h.pre.star s ho, h.kp, fun i hi g hg => by
    rcases List.mem_cons.1 hi with rfl | hi
    · obtain ⟨k, hk, hg⟩ := hg
      rcases h.org k (s.perm.mem_iff.2 (by simp [hk])) g hg with h1 | ⟨j, hj, hf, hjo⟩
      · exact .inl h1
      · exact .inr ⟨j, hj, hf, fun _ => hjo (ho k hk)⟩
    · exact h.org i (s.perm.mem_iff.2 (by simp [hi])) g hg⟩
/-- What is own at the start may be one, or its parts. -/
theorem St.unstar0 {w0 w : World} {M0 M l : List Item} (h : St w0 (starI l :: M0) M w) (ho : ∀ i ∈ l, i.own = true) : St w0 (l ++ M0) M w :=
  ⟨h.pre, h.kp.mono (fun g ⟨i, hi, hio, hg⟩ => by
    rcases List.mem_cons.1 hi with rfl | hi
    · obtain ⟨j, hj, hgj⟩ := hg
      exact ⟨j, by simp [hj], ho j hj, hgj⟩
    · exact ⟨i, by simp [hi], hio, hg⟩), fun i hi g hg => by
    rcases h.org i hi g hg with h1 | ⟨j, hj, hf, hjo⟩
    · exact .inl h1
    · rcases List.mem_cons.1 hj with rfl | hj
      · obtain ⟨k, hk, hgk⟩ := hf
        exact .inr ⟨k, by simp [hk], hgk, fun _ => ho k hk⟩
      · exact .inr ⟨j, by simp [hj], hf, hjo⟩⟩

/-- Nothing that was known is touched, if none of it was one's own. -/
theorem St.kpNo {w0 w : World} {M0 M : List Item} (h : St w0 M0 M w) (hM : ∀ i ∈ M0, i.own = false) : Kp No w0 w := h.kp.mono (fun g ⟨i, hi, ho, _⟩ => by rw [hM i hi] at ho; cases ho)
theorem ro_nil : ∀ i ∈ ([] : List Item), i.own = false := fun _ h => by cases h
theorem ro_cons {i : Item} {M : List Item} (hi : i.own = false) (h : ∀ j ∈ M, j.own = false) : ∀ j ∈ i :: M, j.own = false := fun j hj => (List.mem_cons.1 hj).elim (fun e => e ▸ hi) (h j)
theorem own_nil' : ∀ i ∈ ([] : List Item), i.own = true := fun _ h => by cases h
theorem own_cons {i : Item} {M : List Item} (hi : i.own = true) (h : ∀ j ∈ M, j.own = true) : ∀ j ∈ i :: M, j.own = true := fun j hj => (List.mem_cons.1 hj).elim (fun e => e ▸ hi) (h j)
theorem St.size {w0 w : World} {M0 M : List Item} (h : St w0 M0 M w) : w0.heap.size ≤ w.heap.size := h.kp.size

/-- A slice that came in, where it has elements. -/
theorem St.rowSome {w0 w : World} {M0 M M' : List Item} {A : Option Addr} {cs : List Value} (h : St w0 M0 M w) (p : Pick (rowI A cs) M M') (hne : cs ≠ []) : ∃ g o, A = some ⟨g, o, none⟩ ∧ At w g o cs := Row.some (h.pick p) hne

/-! ### The seat's zeros -/
structure Zs (P : Program) where
  z : TypeId → Option Value
  b : TypeId → Option (List Value)
  ok : ∀ t v, z t = some v → zeroOf P t = some v
  bok : ∀ t v, b t = some v → P.built t [] = some v.toArray
  i : TypeId → Option (Value × Nat × Nat)
  iok : ∀ t z sz bytes, i t = some (z, sz, bytes) → infoOf P t = some (some z, sz, bytes) ∧ z.cells.size = sz ∧ 0 < sz ∧ 0 < bytes ∧ sz ≤ 16777216
def AllZr (P : Program) : List (Nat × Value) → Prop
  | [] => True
  | (t, v) :: l => zeroOf P t = some v ∧ AllZr P l
def AllBt (P : Program) : List (Nat × List Value) → Prop
  | [] => True
  | (t, v) :: l => P.built t [] = some v.toArray ∧ AllBt P l
theorem lookA_zr : ∀ {l : List (Nat × Value)}, AllZr P l → ∀ t d, lookA l t = some d → zeroOf P t = some d
  | [], _, _, _, h => by simp [lookA] at h
  | (j, v) :: l, ha, t, d, h => by
    rw [lookA] at h
    cases e : Nat.beq j t with
    | true => rw [e] at h; cases h; exact Nat.eq_of_beq_eq_true e ▸ ha.1
    | false => rw [e] at h; exact lookA_zr ha.2 t d h
theorem lookA_bt : ∀ {l : List (Nat × List Value)}, AllBt P l → ∀ t d, lookA l t = some d → P.built t [] = some d.toArray
  | [], _, _, _, h => by simp [lookA] at h
  | (j, v) :: l, ha, t, d, h => by
    rw [lookA] at h
    cases e : Nat.beq j t with
    | true => rw [e] at h; cases h; exact Nat.eq_of_beq_eq_true e ▸ ha.1
    | false => rw [e] at h; exact lookA_bt ha.2 t d h
def AllIf (P : Program) : List (Nat × Value × Nat × Nat) → Prop
  | [] => True
  | (t, z, sz, by_) :: l => (infoOf P t = some (some z, sz, by_) ∧ z.cells.size = sz ∧ 0 < sz ∧ 0 < by_ ∧ sz ≤ 16777216) ∧ AllIf P l
theorem lookA_if : ∀ {l : List (Nat × Value × Nat × Nat)}, AllIf P l → ∀ t z sz by_, lookA l t = some (z, sz, by_) → infoOf P t = some (some z, sz, by_) ∧ z.cells.size = sz ∧ 0 < sz ∧ 0 < by_ ∧ sz ≤ 16777216
  | [], _, _, _, _, _, h => by simp [lookA] at h
  | (j, v1, v2, v3) :: l, ha, t, z, sz, by_, h => by
    rw [lookA] at h
    cases e : Nat.beq j t with
    | true => rw [e] at h; cases h; exact Nat.eq_of_beq_eq_true e ▸ ha.1
    | false => rw [e] at h; exact lookA_if ha.2 t z sz by_ h
def Zs.mk' {zl : List (Nat × Value)} {bl : List (Nat × List Value)} {il : List (Nat × Value × Nat × Nat)} (h1 : AllZr P zl) (h2 : AllBt P bl) (h3 : AllIf P il) : Zs P := ⟨lookA zl, lookA bl, lookA_zr h1, lookA_bt h2, lookA il, lookA_if h3⟩
/-- So many bytes 0. -/
abbrev zb (n : Nat) : List Byte := List.replicate n 0
/-- So many times the same cells. -/
def repC (n : Nat) (cs : List Value) : List Value := (List.replicate n cs).flatten

section rules
variable {n : Nat} {Q : Exit → Act → World → Prop} {L : Ctx} {w w0 : World} {M0 M M' : List Item} {ops : Array Oper} {rest : List Oper} {d : Nat} {ty : TypeId} {pos : String} {af : Array Edge}

theorem st_box {t : TypeId} {x : Operand} {v : Value} {cs : List Value} (hw : St w0 M0 M w) (hd : Nat.blt d n = true) (hx : ev L x = some v) (hcs : v.cells = cs.toArray)
    (h : ∀ g w', St w0 M0 (blkI g t cs :: M) w' → Ow P n ops Q rest ((d, .pointer (some ⟨g, 0, none⟩)) :: L) w') : Ow P n ops Q (⟨some d, .box t x, ty, pos, af, none⟩ :: rest) L w :=
  ow_box hd hx hcs (fun w' k b _ => h _ w' (hw.new k b (fun g hg => Nat.le_of_eq (show g = _ from hg).symm)))
theorem st_alloc {t : TypeId} {z : Value} {cs : List Value} (hw : St w0 M0 M w) (hd : Nat.blt d n = true) (hz : zeroOf P t = some z) (hcs : z.cells = cs.toArray)
    (h : ∀ g w', St w0 M0 (blkI g t cs :: M) w' → Ow P n ops Q rest ((d, .pointer (some ⟨g, 0, none⟩)) :: L) w') : Ow P n ops Q (⟨some d, .alloc t, ty, pos, af, none⟩ :: rest) L w :=
  ow_alloc hd hz hcs (fun w' k b _ => h _ w' (hw.new k b (fun g hg => Nat.le_of_eq (show g = _ from hg).symm)))
theorem st_boxK {t : TypeId} {x : Operand} {v : Value} {cs : List Value} (hw : St w0 M0 M w) (hd : Nat.blt d n = true) (hx : ev L x = some v) (hcs : v.cells = cs.toArray)
    (h : ∀ g w', Kp No w w' → St w0 M0 (blkI g t cs :: M) w' → Ow P n ops Q rest ((d, .pointer (some ⟨g, 0, none⟩)) :: L) w') : Ow P n ops Q (⟨some d, .box t x, ty, pos, af, none⟩ :: rest) L w :=
  ow_box hd hx hcs (fun w' k b _ => h _ w' k (hw.new k b (fun g hg => Nat.le_of_eq (show g = _ from hg).symm)))
theorem st_allocK {t : TypeId} {z : Value} {cs : List Value} (hw : St w0 M0 M w) (hd : Nat.blt d n = true) (hz : zeroOf P t = some z) (hcs : z.cells = cs.toArray)
    (h : ∀ g w', Kp No w w' → St w0 M0 (blkI g t cs :: M) w' → Ow P n ops Q rest ((d, .pointer (some ⟨g, 0, none⟩)) :: L) w') : Ow P n ops Q (⟨some d, .alloc t, ty, pos, af, none⟩ :: rest) L w :=
  ow_alloc hd hz hcs (fun w' k b _ => h _ w' k (hw.new k b (fun g hg => Nat.le_of_eq (show g = _ from hg).symm)))
theorem st_allocZ (Z : Zs P) {t : TypeId} {z : Value} {cs : List Value} (hw : St w0 M0 M w) (hd : Nat.blt d n = true) (hz : Z.z t = some z) (hcs : z.cells = cs.toArray)
    (h : ∀ g w', St w0 M0 (blkI g t cs :: M) w' → Ow P n ops Q rest ((d, .pointer (some ⟨g, 0, none⟩)) :: L) w') : Ow P n ops Q (⟨some d, .alloc t, ty, pos, af, none⟩ :: rest) L w := st_alloc hw hd (Z.ok _ _ hz) hcs h
theorem st_allocZK (Z : Zs P) {t : TypeId} {z : Value} {cs : List Value} (hw : St w0 M0 M w) (hd : Nat.blt d n = true) (hz : Z.z t = some z) (hcs : z.cells = cs.toArray)
    (h : ∀ g w', Kp No w w' → St w0 M0 (blkI g t cs :: M) w' → Ow P n ops Q rest ((d, .pointer (some ⟨g, 0, none⟩)) :: L) w') : Ow P n ops Q (⟨some d, .alloc t, ty, pos, af, none⟩ :: rest) L w := st_allocK hw hd (Z.ok _ _ hz) hcs h
/-- A literal without parts: zero. -/
theorem st_build0 (Z : Zs P) {t : TypeId} {cs : List Value} (hd : Nat.blt d n = true) (hz : Z.b t = some cs)
    (hk : Ow P n ops Q rest ((d, .agg cs.toArray) :: L) w) : Ow P n ops Q (⟨some d, .build t #[], ty, pos, af, none⟩ :: rest) L w := ow_build0 hd (Z.bok _ _ hz) hk
/-- A literal's pointer, or a literal slice. -/
theorem st_buildSlice (T : Tab P) {t e : TypeId} {len : Nat} {parts : List (Nat × Operand)} {vs : List (Nat × Value)} {cs : List Value} (hw : St w0 M0 M w) (hd : Nat.blt d n = true) (hv : mapEvP L parts = some vs) (ht : T.ty t = some (.slice e)) (hf : P.builtSlice e len vs = some cs.toArray)
    (h : ∀ g w', St w0 M0 (blkI g e cs :: M) w' → Ow P n ops Q rest ((d, .slice (some ⟨g, 0, none⟩) len len) :: L) w') : Ow P n ops Q (⟨some d, .buildSlice t len ⟨parts⟩, ty, pos, af, none⟩ :: rest) L w :=
  ow_buildSlice T hd hv ht hf (fun w' k b _ => h _ w' (hw.new k b (fun g hg => Nat.le_of_eq (show g = _ from hg).symm)))

/-- Loads. -/
theorem st_load1 (T : Tab P) {t t' : TypeId} {D : TypeDesc} {x : Operand} {g o : Nat} {cs : List Value} {v : Value} (hw : St w0 M0 M w) (hx : ev L x = some (.pointer (some ⟨g, o, none⟩))) (hp : Pick (blkI g t' cs) M M') (ht : T.ty t = some D) (hD : aggB D = false) (hd : Nat.blt d n = true) (hv : nth cs o = some v)
    (h : Ow P n ops Q rest ((d, v) :: L) w) : Ow P n ops Q (⟨some d, .load t x, ty, pos, af, none⟩ :: rest) L w := ow_load1 T (hw.pick hp) hd hx ht hD hv h
theorem st_loadA (T : Tab P) {t t' : TypeId} {D : TypeDesc} {x : Operand} {g k : Nat} {cs : List Value} (hw : St w0 M0 M w) (hx : ev L x = some (.pointer (some ⟨g, 0, none⟩))) (hp : Pick (blkI g t' cs) M M') (ht : T.ty t = some D) (hD : aggB D = true) (hd : Nat.blt d n = true) (hs : T.sz t = some k) (hk : cs.length = k)
    (h : Ow P n ops Q rest ((d, .agg cs.toArray) :: L) w) : Ow P n ops Q (⟨some d, .load t x, ty, pos, af, none⟩ :: rest) L w := ow_loadA T (hw.pick hp) hd hx ht hD hs hk h
/-- A piece of a block: 'vs' from o on. -/
theorem st_loadP (T : Tab P) {t t' : TypeId} {D : TypeDesc} {x : Operand} {g o k : Nat} {cs vs : List Value} (hw : St w0 M0 M w) (hx : ev L x = some (.pointer (some ⟨g, o, none⟩))) (hp : Pick (blkI g t' cs) M M') (ht : T.ty t = some D) (hD : aggB D = true) (hd : Nat.blt d n = true) (hs : T.sz t = some k) (hk : o + k ≤ cs.length) (hv : (cs.drop o).take k = vs)
    (h : Ow P n ops Q rest ((d, .agg vs.toArray) :: L) w) : Ow P n ops Q (⟨some d, .load t x, ty, pos, af, none⟩ :: rest) L w := ow_loadM T (hw.pick hp) hd hx ht hD hs hk (by rw [hv]; exact h)
theorem row_at {w : World} {g o j k : Nat} {cs vs : List Value} (h : Row w (some ⟨g, o, none⟩) cs) (hk : (cs.drop j).take k = vs) : At w g (o + j) vs := by
  rcases h with rfl | ⟨g', o', he, ha⟩
  · simp at hk; subst hk; intro j v hv; simp at hv
  · cases he; rw [← hk]; exact ha.sub j k
/-- .. of a slice that came in. -/
theorem st_loadR1 (T : Tab P) {t : TypeId} {D : TypeDesc} {x : Operand} {g o j : Nat} {cs : List Value} {v : Value} (hw : St w0 M0 M w) (hx : ev L x = some (.pointer (some ⟨g, o + j, none⟩))) (hp : Pick (rowI (some ⟨g, o, none⟩) cs) M M') (ht : T.ty t = some D) (hD : aggB D = false) (hd : Nat.blt d n = true) (hv : cs[j]? = some v)
    (h : Ow P n ops Q rest ((d, v) :: L) w) : Ow P n ops Q (⟨some d, .load t x, ty, pos, af, none⟩ :: rest) L w :=
  ow_loadAt1 T (row_at (k := 1) (vs := [v]) (hw.pick hp) (by
    have hlt := (List.getElem?_eq_some_iff.1 hv).1
    rw [List.getElem?_eq_getElem hlt] at hv
    cases hv
    rw [List.drop_eq_getElem_cons hlt]; rfl)) hd hx ht hD h
theorem st_loadRA (T : Tab P) {t : TypeId} {D : TypeDesc} {x : Operand} {g o j k : Nat} {cs vs : List Value} (hw : St w0 M0 M w) (hx : ev L x = some (.pointer (some ⟨g, o + j, none⟩))) (hp : Pick (rowI (some ⟨g, o, none⟩) cs) M M') (ht : T.ty t = some D) (hD : aggB D = true) (hd : Nat.blt d n = true) (hs : T.sz t = some k) (hv : (cs.drop j).take k = vs) (hl : vs.length = k)
    (h : Ow P n ops Q rest ((d, .agg vs.toArray) :: L) w) : Ow P n ops Q (⟨some d, .load t x, ty, pos, af, none⟩ :: rest) L w :=
  ow_loadAt T (row_at (hw.pick hp) hv) hd hx ht hD hs hl h

/-- Stores. -/
theorem St.put {t : TypeId} {g : Nat} {cs cs' : List Value} {w' : World} (hw : St w0 M0 M w) (hp : Put (blkI g t cs) (blkI g t cs') M M') (k : Kp (Only g) w w') (b : Blk w' g t cs') : St w0 M0 M' w' :=
  hw.turn hp rfl (k.mono (fun _ h => h)) b (fun g hg => .inl hg)
theorem Put.pick {i i' : Item} {M M' : List Item} (h : Put i i' M M') : i ∈ M := by
  obtain ⟨N, p1, _⟩ := h.ex
  exact p1.mem_iff.2 (by simp)
theorem st_store (T : Tab P) {t t' : TypeId} {x y : Operand} {g o k : Nat} {v : Value} {cs vs cs' : List Value} (hw : St w0 M0 M w) (hx : ev L x = some (.pointer (some ⟨g, o, none⟩))) (hy : ev L y = some v) (hv : v.cells = vs.toArray) (hp : Put (blkI g t' cs) (blkI g t' cs') M M')
    (hs : T.sz t = some k) (hl : vs.length = k) (hk : o + k ≤ cs.length) (h1 : oneCells vs = true) (hc : splice cs o vs = cs')
    (h : ∀ w', St w0 M0 M' w' → Ow P n ops Q rest L w') : Ow P n ops Q (⟨none, .store t x y, ty, pos, af, none⟩ :: rest) L w :=
  ow_storeT T (hw.pre.all _ hp.pick) hx hy hv hs hl hk h1 (fun w' k' b' _ => h w' (hw.put hp k' (by rw [← hc]; exact b')))
theorem st_storeA (T : Tab P) {t t' : TypeId} {x y : Operand} {g k : Nat} {v : Value} {cs vs : List Value} (hw : St w0 M0 M w) (hx : ev L x = some (.pointer (some ⟨g, 0, none⟩))) (hy : ev L y = some v) (hv : v.cells = vs.toArray) (hp : Put (blkI g t' cs) (blkI g t' vs) M M')
    (hs : T.sz t = some k) (hl : vs.length = k) (hk : cs.length = k) (h1 : oneCells vs = true)
    (h : ∀ w', St w0 M0 M' w' → Ow P n ops Q rest L w') : Ow P n ops Q (⟨none, .store t x y, ty, pos, af, none⟩ :: rest) L w :=
  ow_storeA T (hw.pre.all _ hp.pick) hx hy hv hs hl hk h1 (fun w' k' b' _ => h w' (hw.put hp k' b'))

/-- Growing slices. -/
theorem St.newVec {w' : World} {e : TypeId} {sz k : Nat} {v : Value} {xs : List Value} (hw : St w0 M0 M w) (hk : Kp No w w') (own : Own w' w.heap.size e sz v k xs) : St w0 M0 (vecI v e sz k xs :: M) w' :=
  hw.new hk (own_mono own (Nat.zero_le _)) (fun g hg => (Own.lt own hg).1)
theorem St.nilVec {e : TypeId} {sz : Nat} (hw : St w0 M0 M w) : St w0 M0 (vecI (.slice none 0 0) e sz 0 [] :: M) w :=
  hw.new Kp.refl own_nil (fun g hg => by cases hg)
theorem st_make0 (T : Tab P) {t e : TypeId} {x y : Operand} {z : Value} {kl kc : IntKind} {sz bytes m : Nat} (hw : St w0 M0 M w) (hd : Nat.blt d n = true) (hx : ev L x = some (.int kl 0)) (hy : ev L y = some (.int kc (m : Int))) (ht : T.ty t = some (.slice e)) (hi : infoOf P e = some (some z, sz, bytes)) (hb : bytes * m ≤ 281474976710656) (hm : m ≤ 9223372036854775807)
    (h : ∀ v w', St w0 M0 (vecI v e sz 0 [] :: M) w' → Ow P n ops Q rest ((d, v) :: L) w') :
    Ow P n ops Q (⟨some d, .makeSlice t x y, ty, pos, af, none⟩ :: rest) L w :=
  ow_make0 T hd hx hy ht hi hb hm (fun w' own k _ => h _ w' (hw.newVec k own))
theorem vec_turn {w' : World} {e : TypeId} {sz k k' : Nat} {v v' : Value} {xs xs' : List Value} (hw : St w0 M0 M w) (hp : Put (vecI v e sz k xs) (vecI v' e sz k' xs') M M') (own' : Own w' 0 e sz v' k' xs') (kk : Kp (OwnB v) w w') (hv : v'.ownBlock = v.ownBlock ∨ v'.ownBlock = some w.heap.size) : St w0 M0 M' w' :=
  hw.turn hp rfl (kk.mono (fun _ h => h)) own' (fun g hg => by
    have hg' : v'.ownBlock = some g := hg
    rcases hv with h | h
    · left; show v.ownBlock = some g; rw [← h]; exact hg'
    · right; rw [h] at hg'; cases hg'; exact Nat.le_refl _)
/-- append of a slice that reads as these cells: one that came in, or a block. -/
theorem st_appendR (T : Tab P) {t e : TypeId} {s x : Operand} {v z : Value} {A : Option Addr} {sz bytes k m c : Nat} {xs news : List Value} {Mx : Value → List Item} (hw : St w0 M0 M w) (hs : ev L s = some v) (hx : ev L x = some (.slice A m c)) (ht : T.ty t = some (.slice e)) (hsz : T.sz e = some sz) (hr : Row w A news)
    (hp : ∀ v', Put (vecI v e sz k xs) (vecI v' e sz (k + m) (xs ++ news)) M (Mx v')) (hd : Nat.blt d n = true)
    (hi : infoOf P e = some (some z, sz, bytes)) (hz : z.cells.size = sz) (hpos : (Nat.blt 0 sz && Nat.blt 0 bytes) = true) (hl : news.length = m * sz) (h1 : oneCells news = true) (hb : (k + m) * bytes ≤ 140737488355328)
    (h : ∀ v' w', St w0 M0 (Mx v') w' → Ow P n ops Q rest ((d, v') :: L) w') :
    Ow P n ops Q (⟨some d, .call { callee := .builtin .append, args := #[s, x], argTypes := #[t, t] }, ty, pos, af, none⟩ :: rest) L w :=
  ow_appendR T (base := 0) (hw.pre.all _ (hp v).pick) hr hd hs hx ht hsz hi hz hpos hl h1 hb (Nat.zero_le _) (fun v' w' own' kk hv => h v' w' (vec_turn hw (hp v') own' kk hv))
theorem blk_rowI {g : Nat} {t : TypeId} {cs : List Value} (h : Blk w g t cs) : Row w (some ⟨g, 0, none⟩) cs := .inr ⟨g, 0, rfl, by simpa using Blk.at_ h 0⟩
/-- A growing slice as a slice to be read. -/
theorem St.vecRow {v : Value} {e : TypeId} {sz k : Nat} {xs : List Value} (hw : St w0 M0 M w) (hp : Pick (vecI v e sz k xs) M M') : ∃ A c, v = .slice A k c ∧ Row w A xs := by
  obtain ⟨A, c, h1, h2, _⟩ := Own.row (show Own w 0 e sz v k xs from hw.pick hp)
  exact ⟨A, c, h1, h2⟩
theorem St.frz {A : Option Addr} {k c : Nat} {e : TypeId} {sz : Nat} {xs : List Value} (hw : St w0 M0 M w) (hp : Put (vecI (.slice A k c) e sz k xs) (rowI A xs) M M') : St w0 M0 M' w :=
  hw.as hp (fun h => by
    obtain ⟨A', c', h1, h2, _⟩ := Own.row (show Own w 0 e sz (.slice A k c) k xs from h)
    cases h1
    exact h2) (fun h => by cases h) (fun g ⟨hne, a, h1, h2⟩ => by subst h1; subst h2; rfl)
end rules
end Go.Proofs.YtehekgigmbnlfaaDoor.Stm
