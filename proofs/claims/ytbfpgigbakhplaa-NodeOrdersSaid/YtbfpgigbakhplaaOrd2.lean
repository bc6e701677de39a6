/- References compared and each once, as the document has them. -/
import Derived.Test.YtbfpgigbakhplaaOrd1
import Derived.Test.YtbfpgigbakhplaaSc
import Derived.Test.YtbfpgigbakhplaaMg
set_option linter.unusedVariables false
set_option linter.unusedSimpArgs false
namespace Go.Proofs.Ytbfpgigbakhplaa.Ord
open Go.RowKit Go.Proofs.Ytbfpgigbakhplaa.Sx Go.Proofs.Ytbfpgigbakhplaa.Mx Go.Proofs.Ytbfpgigbakhplaa.Bw Go.Proofs.Ytbfpgigbakhplaa.By Go.Proofs.Ytbfpgigbakhplaa.Eqs Go.Proofs.Ytbfpgigbakhplaa.Qx Go.Proofs.Ytbfpgigbakhplaa.Ap Go.Proofs.Ytbfpgigbakhplaa.Mi Go.Proofs.Ytbfpgigbakhplaa.Stm Go.Proofs.Ytbfpgigbakhplaa.Fl Go.Proofs.Ytbfpgigbakhplaa.Wd Go.Proofs.Ytbfpgigbakhplaa.Nd Go.Proofs.Ytbfpgigbakhplaa.Mf Go.Proofs.Ytbfpgigbakhplaa.Sc
/-! ### Plain. -/
theorem be_pre : ∀ (i : Nat) (a b : List Byte) (hl : a.length = b.length) (hi : i < a.length), a.take i = b.take i → (a[i]'hi).toNat < (b[i]'(by omega)).toNat → beV a < beV b
  | 0, x :: a, y :: b, hl, hi, _, h => by
    have hl' : a.length = b.length := by simpa using hl
    rw [beV, beV, ← hl', two_lt (beV_lt a) (by rw [hl']; exact beV_lt b)]
    exact .inl (by simpa using h)
  | i + 1, x :: a, y :: b, hl, hi, ht, h => by
    have hl' : a.length = b.length := by simpa using hl
    simp only [List.take_succ_cons, List.cons.injEq] at ht
    obtain ⟨rfl, ht⟩ := ht
    have ih := be_pre i a b hl' (by simpa using hi) ht (by simpa using h)
    rw [beV, beV, ← hl']
    omega
theorem be_inj : ∀ (a b : List Byte), a.length = b.length → beV a = beV b → a = b
  | [], [], _, _ => rfl
  | x :: a, y :: b, hl, h => by
    have hl' : a.length = b.length := by simpa using hl
    rw [beV, beV, ← hl'] at h
    have h1 := beV_lt a
    have h2 := beV_lt b
    rw [← hl'] at h2
    have n1 := (not_congr (two_lt (x := x.toNat) (y := y.toNat) h1 h2)).1 (by omega)
    have n2 := (not_congr (two_lt (x := y.toNat) (y := x.toNat) h2 h1)).1 (by omega)
    have hxy : x.toNat = y.toNat := by omega
    rw [hxy] at h
    rw [BitVec.eq_of_toNat_eq hxy, be_inj a b hl' (by omega)]
theorem key_inj {r s : Ref} (hr : OkR r) (hs : OkR s) (h : key r = key s) : r = s := by
  have h1 := beV_lt r.2
  have h2 := beV_lt s.2
  rw [show r.2.length = 32 from hr] at h1
  rw [show s.2.length = 32 from hs] at h2
  unfold key at h
  have n1 := (not_congr (two_lt (x := r.1.toNat) (y := s.1.toNat) h1 h2)).1 (by omega)
  have n2 := (not_congr (two_lt (x := s.1.toNat) (y := r.1.toNat) h2 h1)).1 (by omega)
  have hxy : r.1.toNat = s.1.toNat := by omega
  rw [hxy] at h
  exact Prod.ext (BitVec.eq_of_toNat_eq hxy) (be_inj _ _ (by rw [show r.2.length = 32 from hr, show s.2.length = 32 from hs]) (by omega))
abbrev OkRs (l : List Ref) : Prop := ∀ r ∈ l, OkR r
abbrev Srt (l : List Ref) : Prop := l.Pairwise (fun a b => key a < key b)
/-- How many stand ahead of a reference. -/
def posR : List Ref → Ref → Nat
  | [], _ => 0
  | y :: t, x => if key y < key x then posR t x + 1 else 0
def insR (l : List Ref) (x : Ref) : List Ref := if posR l x = l.length ∨ l[posR l x]? ≠ some x then l.take (posR l x) ++ [x] ++ l.drop (posR l x) else l
theorem pos_le : ∀ (l : List Ref) (x : Ref), posR l x ≤ l.length
  | [], _ => Nat.le_refl _
  | y :: t, x => by
    have := pos_le t x
    rw [posR]; split
    · simp; omega
    · simp
theorem pos_lt : ∀ (l : List Ref) (x : Ref) (i : Nat) (hi : i < l.length), i < posR l x → key l[i] < key x
  | y :: t, x, i, hi, h => by
    rw [posR] at h
    split at h
    · rename_i hk
      cases i with
      | zero => exact hk
      | succ i => exact pos_lt t x i (by simpa using hi) (by omega)
    · omega
theorem pos_ge : ∀ (l : List Ref) (x : Ref) (h : posR l x < l.length), ¬ key l[posR l x] < key x
  | y :: t, x, h => by
    by_cases hk : key y < key x
    · have e : posR (y :: t) x = posR t x + 1 := by rw [posR, if_pos hk]
      have h' : posR t x < t.length := by rw [e] at h; simpa using h
      have := pos_ge t x h'
      simp only [e, List.getElem_cons_succ]
      exact this
    · have e : posR (y :: t) x = 0 := by rw [posR, if_neg hk]
      simp only [e, List.getElem_cons_zero]
      exact hk
theorem pos_at (l : List Ref) (x : Ref) (i : Nat) (hi : i ≤ l.length) (h1 : ∀ j (hj : j < l.length), j < i → key l[j] < key x) (h2 : ∀ h : i < l.length, ¬ key l[i] < key x) : posR l x = i := by
  rcases Nat.lt_trichotomy (posR l x) i with h | h | h
  · exact absurd (h1 _ (by omega) h) (pos_ge l x (by omega))
  · exact h
  · exact absurd (pos_lt l x i (by have := pos_le l x; omega) h) (h2 (by have := pos_le l x; omega))
theorem ins_mem (l : List Ref) (x y : Ref) : y ∈ insR l x ↔ y ∈ l ∨ y = x := by
  unfold insR
  split
  · have : l = l.take (posR l x) ++ l.drop (posR l x) := (List.take_append_drop _ _).symm
    conv => rhs; rw [this]
    simp only [List.mem_append, List.mem_singleton]
    constructor
    · rintro ((h | h) | h) <;> simp [h]
    · rintro ((h | h) | h) <;> simp [h]
  · rename_i h
    have hx : x ∈ l := by
      have : l[posR l x]? = some x := Classical.not_not.1 (fun hn => h (.inr hn))
      exact List.mem_of_getElem? this
    constructor
    · exact .inl
    · rintro (h | rfl)
      · exact h
      · exact hx
theorem ins_ok {l : List Ref} {x : Ref} (h : OkRs l) (hx : OkR x) : OkRs (insR l x) := fun y hy => ((ins_mem l x y).1 hy).elim (h y) (fun e => e ▸ hx)
theorem ins_srt {l : List Ref} {x : Ref} (ho : OkRs l) (hx : OkR x) (h : Srt l) : Srt (insR l x) := by
  unfold insR
  split
  · rename_i hc
    have hsplit : l = l.take (posR l x) ++ l.drop (posR l x) := (List.take_append_drop _ _).symm
    have hs := h
    rw [hsplit] at hs
    obtain ⟨h1, h2, h3⟩ := List.pairwise_append.1 hs
    have hle : ∀ a ∈ l.take (posR l x), key a < key x := fun a ha => by
      obtain ⟨j, hj, rfl⟩ := List.getElem_of_mem ha
      rw [List.getElem_take]
      exact pos_lt l x j (by rw [List.length_take] at hj; omega) (by rw [List.length_take] at hj; omega)
    have hge : ∀ b ∈ l.drop (posR l x), key x < key b := fun b hb => by
      have hlt : posR l x < l.length := by
        have := List.length_pos_of_mem hb
        rw [List.length_drop] at this; omega
      have h0 := pos_ge l x hlt
      have hne : l[posR l x] ≠ x := fun e => by
        rcases hc with hc | hc
        · omega
        · exact hc (by rw [List.getElem?_eq_getElem hlt, e])
      have hlt2 : key x < key l[posR l x] := by
        have : key l[posR l x] ≠ key x := fun e => hne (key_inj (ho _ (List.getElem_mem _)) hx e)
        omega
      rw [List.drop_eq_getElem_cons hlt] at hb h2
      rcases List.mem_cons.1 hb with rfl | hb
      · exact hlt2
      · exact Nat.lt_trans hlt2 ((List.pairwise_cons.1 h2).1 b hb)
    rw [List.append_assoc]
    refine List.pairwise_append.2 ⟨h1, ?_, ?_⟩
    · exact List.pairwise_cons.2 ⟨hge, h2⟩
    · intro a ha b hb
      rcases List.mem_cons.1 hb with rfl | hb
      · exact hle a ha
      · exact Nat.lt_trans (hle a ha) (hge b hb)
  · exact h
/-- The references, each once, in order. -/
def unR : List Ref → List Ref := List.foldl insR []
theorem un_snoc (l : List Ref) (x : Ref) : unR (l ++ [x]) = insR (unR l) x := by simp [unR]
theorem un_mem (l : List Ref) (y : Ref) : y ∈ unR l ↔ y ∈ l := by
  have : ∀ (l a : List Ref), y ∈ l.foldl insR a ↔ y ∈ a ∨ y ∈ l := fun l => by
    induction l with
    | nil => intro a; simp
    | cons x l ih => intro a; rw [List.foldl_cons, ih, ins_mem]; simp [or_assoc]
  rw [unR, this]; simp
theorem un_ok {l : List Ref} (h : OkRs l) : OkRs (unR l) := fun y hy => h y ((un_mem l y).1 hy)
theorem un_srt {l : List Ref} (h : OkRs l) : Srt (unR l) := by
  have : ∀ (l a : List Ref), OkRs l → OkRs a → Srt a → Srt (l.foldl insR a) := fun l => by
    induction l with
    | nil => intro a _ _ h; exact h
    | cons x l ih => intro a hl ha h; exact ih _ (fun y hy => hl y (by simp [hy])) (ins_ok ha (hl x (by simp))) (ins_srt ha (hl x (by simp)) h)
  exact this l [] h (fun _ h => by cases h) List.Pairwise.nil
theorem srt_ext : ∀ (a b : List Ref), Srt a → Srt b → (∀ x, x ∈ a ↔ x ∈ b) → a = b
  | [], [], _, _, _ => rfl
  | [], y :: b, _, _, h => by have := (h y).2 (by simp); cases this
  | x :: a, [], _, _, h => by have := (h x).1 (by simp); cases this
  | x :: a, y :: b, ha, hb, h => by
    have ⟨ha1, ha2⟩ := List.pairwise_cons.1 ha
    have ⟨hb1, hb2⟩ := List.pairwise_cons.1 hb
    have e : x = y := by
      rcases List.mem_cons.1 ((h x).1 (by simp)) with e | e
      · exact e
      · rcases List.mem_cons.1 ((h y).2 (by simp)) with e2 | e2
        · exact e2.symm
        · have := ha1 y e2; have := hb1 x e; omega
    subst e
    rw [srt_ext a b ha2 hb2 (fun z => ?_)]
    constructor
    · intro hz
      rcases List.mem_cons.1 ((h z).1 (by simp [hz])) with e | e
      · have := ha1 z hz; rw [e] at this; omega
      · exact e
    · intro hz
      rcases List.mem_cons.1 ((h z).2 (by simp [hz])) with e | e
      · have := hb1 z hz; rw [e] at this; omega
      · exact e
theorem un_len : ∀ (l : List Ref), (unR l).length ≤ l.length := by
  have : ∀ (l a : List Ref), (l.foldl insR a).length ≤ a.length + l.length := fun l => by
    induction l with
    | nil => intro a; simp
    | cons x l ih =>
      intro a
      rw [List.foldl_cons]
      refine Nat.le_trans (ih _) ?_
      have : (insR a x).length ≤ a.length + 1 := by
        unfold insR; split
        · simp; omega
        · omega
      simp; omega
  intro l; have := this l []; simpa [unR] using this
def refsC (l : List Ref) : List Value := l.flatMap refC
theorem refsC_len {l : List Ref} (h : OkRs l) : (refsC l).length = l.length * 33 := flat_len l (fun x hx => refC_len (h x hx))
theorem refsC_get {l : List Ref} (h : OkRs l) (i : Nat) (hi : i < l.length) : ((refsC l).drop ((i : Int).toNat * 33)).take 33 = refC l[i] := by
  rw [Int.toNat_natCast]; exact piece_get l (fun x hx => refC_len (h x hx)) i hi
theorem refsC_app (a b : List Ref) : refsC (a ++ b) = refsC a ++ refsC b := by simp [refsC]
theorem refsC_one (l : List Ref) : oneCells (refsC l) = true := by
  induction l with
  | nil => rfl
  | cons x l ih =>
    have := refC_one x
    simp only [refsC, List.flatMap_cons, oneCells, List.all_append, Bool.and_eq_true] at *
    exact ⟨this, ih⟩
theorem refsC_take {l : List Ref} (h : OkRs l) (i : Nat) : (refsC l).take (i * 33) = refsC (l.take i) := by
  conv => lhs; rw [← List.take_append_drop i l, refsC_app]
  rcases Nat.lt_or_ge l.length i with hi | hi
  · rw [List.take_of_length_le (by omega : l.length ≤ i), List.drop_of_length_le (by omega : l.length ≤ i)]
    simp only [refsC, List.flatMap_nil, List.append_nil]
    exact List.take_of_length_le (by have := refsC_len h; unfold refsC at this; rw [this]; omega)
  · have hl : (refsC (l.take i)).length = i * 33 := by rw [refsC_len (fun x hx => h x (List.mem_of_mem_take hx)), List.length_take]; congr 1; omega
    rw [← hl, List.take_left]
theorem refsC_drop {l : List Ref} (h : OkRs l) (i : Nat) (hi : i ≤ l.length) : (refsC l).drop (i * 33) = refsC (l.drop i) := by
  conv => lhs; rw [← List.take_append_drop i l, refsC_app]
  have hl : (refsC (l.take i)).length = i * 33 := by rw [refsC_len (fun x hx => h x (List.mem_of_mem_take hx)), List.length_take]; congr 1; omega
  rw [← hl, List.drop_left]
theorem refsC_ne {l : List Ref} (h : OkRs l) {i : Nat} (hi : i < l.length) : refsC l ≠ [] := fun e => by
  have := refsC_len h; rw [e] at this; simp at this; omega
theorem cbN (l : List Byte) (i : Nat) (h : i < l.length) : nth (cb l) i = some (by8 l[i]) := by
  rw [nth_eq]; simp only [cb, List.getElem?_map, List.getElem?_eq_getElem h, Option.map_some]
attribute [local irreducible] Ow Cw Xw Mw
set_option maxHeartbeats 4000000
theorem refCmp_calls (r s : Ref) (hr : OkR r) (hs : OkR s) (w0 : World) : Does Try.prog 65 [refV r, refV s] w0 fun v w' => v = i64v (cmpR r s) ∧ Kp No w0 w' := by
  have hw := St.start (w := w0) .nil
  have hlr : r.2.length = 32 := hr
  have hls : s.2.length = 32 := hs
  have hzz : ∀ z, cmpR r s = z → i64v z = i64v (cmpR r s) := fun z h => by rw [h]
  have hcm := cmpR_eq hr hs
  refine fn_enter Try.func65 rfl Try.ntmps65 rfl ?_
  repeat (first | refine X.p1 ?_ | refine X.p2 ?_ | refine X.p6 ?_ | refine X.p7 ?_ | refine X.p0 ?_ | refine X.p3 ?_ | refine X.p4 ?_ | refine X.p5 ?_ | refine X.p8 ?_ | refine X.p9 ?_ | refine X.q1 ?_ | refine X.q2 ?_ | refine X.q3 ?_ | refine X.q4 ?_ | refine X.q5 ?_ | refine X.q6 ?_ | refine X.q7 ?_ | refine X.q8 ?_ | refine X.q9 ?_ | refine X.q0 ?_ | refine X.m1 ?_ | refine X.m2 ?_ | refine X.m3 ?_ | refine X.m4 ?_ | refine X.m5 ?_ | refine X.m6 ?_ | refine X.l11 ?_ | refine X.l1 ?_ | refine X.l2 ?_ | refine X.l3 ?_ | refine X.l4 ?_ | refine X.l5 ?_ | refine X.l10 ?_ | refine X.l6 ?_ | refine X.l7 ?_ | refine X.l8 ?_ | refine X.l9 ?_ | refine X.m7 ?_ | refine X.m8 ?_ | (refine X.s1 ?_; intro w hw) | (refine X.s2 ?_; intro w hw) | refine X.e1 ?_ | refine X.e2 ?_ | (simp only [X.df]) | (simp (disch := omega) only [wi]))
  (first | refine X.nb ?_ | refine X.na ?_); intro g2 w _ hw
  repeat (first | refine X.p1 ?_ | refine X.p2 ?_ | refine X.p6 ?_ | refine X.p7 ?_ | refine X.p0 ?_ | refine X.p3 ?_ | refine X.p4 ?_ | refine X.p5 ?_ | refine X.p8 ?_ | refine X.p9 ?_ | refine X.q1 ?_ | refine X.q2 ?_ | refine X.q3 ?_ | refine X.q4 ?_ | refine X.q5 ?_ | refine X.q6 ?_ | refine X.q7 ?_ | refine X.q8 ?_ | refine X.q9 ?_ | refine X.q0 ?_ | refine X.m1 ?_ | refine X.m2 ?_ | refine X.m3 ?_ | refine X.m4 ?_ | refine X.m5 ?_ | refine X.m6 ?_ | refine X.l11 ?_ | refine X.l1 ?_ | refine X.l2 ?_ | refine X.l3 ?_ | refine X.l4 ?_ | refine X.l5 ?_ | refine X.l10 ?_ | refine X.l6 ?_ | refine X.l7 ?_ | refine X.l8 ?_ | refine X.l9 ?_ | refine X.m7 ?_ | refine X.m8 ?_ | (refine X.s1 ?_; intro w hw) | (refine X.s2 ?_; intro w hw) | refine X.e1 ?_ | refine X.e2 ?_ | (simp only [X.df]) | (simp (disch := omega) only [wi]))
  (first | refine X.nb ?_ | refine X.na ?_); intro g3 w _ hw
  repeat (first | refine X.p1 ?_ | refine X.p2 ?_ | refine X.p6 ?_ | refine X.p7 ?_ | refine X.p0 ?_ | refine X.p3 ?_ | refine X.p4 ?_ | refine X.p5 ?_ | refine X.p8 ?_ | refine X.p9 ?_ | refine X.q1 ?_ | refine X.q2 ?_ | refine X.q3 ?_ | refine X.q4 ?_ | refine X.q5 ?_ | refine X.q6 ?_ | refine X.q7 ?_ | refine X.q8 ?_ | refine X.q9 ?_ | refine X.q0 ?_ | refine X.m1 ?_ | refine X.m2 ?_ | refine X.m3 ?_ | refine X.m4 ?_ | refine X.m5 ?_ | refine X.m6 ?_ | refine X.l11 ?_ | refine X.l1 ?_ | refine X.l2 ?_ | refine X.l3 ?_ | refine X.l4 ?_ | refine X.l5 ?_ | refine X.l10 ?_ | refine X.l6 ?_ | refine X.l7 ?_ | refine X.l8 ?_ | refine X.l9 ?_ | refine X.m7 ?_ | refine X.m8 ?_ | (refine X.s1 ?_; intro w hw) | (refine X.s2 ?_; intro w hw) | refine X.e1 ?_ | refine X.e2 ?_ | (simp only [X.df]) | (simp (disch := omega) only [wi]))
  by_cases h1 : r.1.toNat = s.1.toNat
  · have d1 : ((r.1.toNat : Int) != (s.1.toNat : Int)) = false := by rw [h1]; simp
    have hsg : sgn r.1.toNat s.1.toNat = 0 := by unfold sgn; rw [h1]; simp
    rw [hsg] at hcm
    simp only [ne_eq, not_true, if_false] at hcm
    repeat (first | refine X.p1 ?_ | refine X.p2 ?_ | refine X.p6 ?_ | refine X.p7 ?_ | refine X.p0 ?_ | refine X.p3 ?_ | refine X.p4 ?_ | refine X.p5 ?_ | refine X.p8 ?_ | refine X.p9 ?_ | refine X.q1 ?_ | refine X.q2 ?_ | refine X.q3 ?_ | refine X.q4 ?_ | refine X.q5 ?_ | refine X.q6 ?_ | refine X.q7 ?_ | refine X.q8 ?_ | refine X.q9 ?_ | refine X.q0 ?_ | refine X.m1 ?_ | refine X.m2 ?_ | refine X.m3 ?_ | refine X.m4 ?_ | refine X.m5 ?_ | refine X.m6 ?_ | refine X.l11 ?_ | refine X.l1 ?_ | refine X.l2 ?_ | refine X.l3 ?_ | refine X.l4 ?_ | refine X.l5 ?_ | refine X.l10 ?_ | refine X.l6 ?_ | refine X.l7 ?_ | refine X.l8 ?_ | refine X.l9 ?_ | refine X.m7 ?_ | refine X.m8 ?_ | (refine X.s1 ?_; intro w hw) | (refine X.s2 ?_; intro w hw) | refine X.e1 ?_ | refine X.e2 ?_ | (simp only [X.df, d1]) | (simp (disch := omega) only [wi]))
    refine X.loop (fun i : Nat => [(2, .pointer (some ⟨g2, 0, none⟩)), (3, .pointer (some ⟨g3, 0, none⟩)), (5, i64v (i : Int))])
      (fun i w' => i ≤ 32 ∧ r.2.take i = s.2.take i ∧ St w0 [] [blkI g3 93 (refC s), blkI g2 93 (refC r)] w') (fun i => 32 - i) 0 ⟨Nat.zero_le _, rfl, hw⟩ ?_
    clear hw
    rintro i w ⟨hi, hp, hw⟩
    repeat (first | refine X.p1 ?_ | refine X.p2 ?_ | refine X.p6 ?_ | refine X.p7 ?_ | refine X.p0 ?_ | refine X.p3 ?_ | refine X.p4 ?_ | refine X.p5 ?_ | refine X.p8 ?_ | refine X.p9 ?_ | refine X.q1 ?_ | refine X.q2 ?_ | refine X.q3 ?_ | refine X.q4 ?_ | refine X.q5 ?_ | refine X.q6 ?_ | refine X.q7 ?_ | refine X.q8 ?_ | refine X.q9 ?_ | refine X.q0 ?_ | refine X.m1 ?_ | refine X.m2 ?_ | refine X.m3 ?_ | refine X.m4 ?_ | refine X.m5 ?_ | refine X.m6 ?_ | refine X.l11 ?_ | refine X.l1 ?_ | refine X.l2 ?_ | refine X.l3 ?_ | refine X.l4 ?_ | refine X.l5 ?_ | refine X.l10 ?_ | refine X.l6 ?_ | refine X.l7 ?_ | refine X.l8 ?_ | refine X.l9 ?_ | refine X.m7 ?_ | refine X.m8 ?_ | (refine X.s1 ?_; intro w hw) | (refine X.s2 ?_; intro w hw) | refine X.e1 ?_ | refine X.e2 ?_ | (simp only [X.df]) | (simp (disch := omega) only [wi]))
    refine X.cond (fun hlt => ?_) (fun hge => ?_)
    · have hlt : i < 32 := by omega
      have e1 : nth (refC r) (0 + 1 + (i : Int).toNat * 1) = some (by8 (r.2[i]'(by omega))) := by
        rw [Int.toNat_natCast, Nat.mul_one, Nat.zero_add, Nat.add_comm]
        show nth (cb r.2) i = _
        have := cbN r.2 i (by omega)
        exact this
      have e2 : nth (refC s) (0 + 1 + (i : Int).toNat * 1) = some (by8 (s.2[i]'(by omega))) := by
        rw [Int.toNat_natCast, Nat.mul_one, Nat.zero_add, Nat.add_comm]
        show nth (cb s.2) i = _
        have := cbN s.2 i (by omega)
        exact this
      by_cases h2 : (r.2[i]'(by omega)).toNat < (s.2[i]'(by omega)).toNat
      · have d2 : decide (((r.2[i]'(by omega)).toNat : Int) < ((s.2[i]'(by omega)).toNat : Int)) = true := decide_eq_true (by omega)
        repeat (first | refine X.p1 ?_ | refine X.p2 ?_ | refine X.p6 ?_ | refine X.p7 ?_ | refine X.p0 ?_ | refine X.p3 ?_ | refine X.p4 ?_ | refine X.p5 ?_ | refine X.p8 ?_ | refine X.p9 ?_ | refine X.q1 ?_ | refine X.q2 ?_ | refine X.q3 ?_ | refine X.q4 ?_ | refine X.q5 ?_ | refine X.q6 ?_ | refine X.q7 ?_ | refine X.q8 ?_ | refine X.q9 ?_ | refine X.q0 ?_ | refine X.m1 ?_ | refine X.m2 ?_ | refine X.m3 ?_ | refine X.m4 ?_ | refine X.m5 ?_ | refine X.m6 ?_ | refine X.l11 ?_ | refine X.l1 ?_ | refine X.l2 ?_ | refine X.l3 ?_ | refine X.l4 ?_ | refine X.l5 ?_ | refine X.l10 ?_ | refine X.l6 ?_ | refine X.l7 ?_ | refine X.l8 ?_ | refine X.l9 ?_ | refine X.m7 ?_ | refine X.m8 ?_ | (refine X.s1 ?_; intro w hw) | (refine X.s2 ?_; intro w hw) | refine X.e1 ?_ | refine X.e2 ?_ | (simp only [X.df]) | (simp (disch := omega) only [wi]))
        refine Y.mix [0, 1, 2, 3, 4, 5, 6, 7, 8] [] [] [] (R := []) hw fun w K hw hF => ?_; have hz := hw
        repeat (first | refine Y.r1 ?_ | refine Y.r2 ?_ | refine Y.r4 ?_ | refine Y.rm1 ?_ | refine Y.rm2 ?_ | refine Y.rm3 ?_ | refine Y.rm4 ?_ | refine Y.rm5 ?_ | refine Y.rl11 ?_ | refine Y.rl1 ?_ | refine Y.rl2 ?_ | refine Y.rl3 ?_ | refine Y.rl5 ?_ | refine Y.rl6 ?_ | refine Y.ro11 ?_ | refine Y.ro1 ?_ | refine Y.ro2 ?_ | refine Y.ro3 ?_ | refine Y.ro5 ?_ | refine Y.ro6 ?_ | refine Y.rm8 ?_ | (refine Y.r3 ?_; intro w hw) | (refine Y.beg0 ?_) | refine Y.re1 ?_ | refine Y.re2 ?_ | (simp only [X.df, d2]) | (simp (disch := omega) only [wi]))
        repeat (first | refine X.p1 ?_ | refine X.p2 ?_ | refine X.p6 ?_ | refine X.p7 ?_ | refine X.p0 ?_ | refine X.p3 ?_ | refine X.p4 ?_ | refine X.p5 ?_ | refine X.p8 ?_ | refine X.p9 ?_ | refine X.q1 ?_ | refine X.q2 ?_ | refine X.q3 ?_ | refine X.q4 ?_ | refine X.q5 ?_ | refine X.q6 ?_ | refine X.q7 ?_ | refine X.q8 ?_ | refine X.q9 ?_ | refine X.q0 ?_ | refine X.m1 ?_ | refine X.m2 ?_ | refine X.m3 ?_ | refine X.m4 ?_ | refine X.m5 ?_ | refine X.m6 ?_ | refine X.l11 ?_ | refine X.l1 ?_ | refine X.l2 ?_ | refine X.l3 ?_ | refine X.l4 ?_ | refine X.l5 ?_ | refine X.l10 ?_ | refine X.l6 ?_ | refine X.l7 ?_ | refine X.l8 ?_ | refine X.l9 ?_ | refine X.m7 ?_ | refine X.m8 ?_ | (refine X.s1 ?_; intro w hw) | (refine X.s2 ?_; intro w hw) | refine X.e1 ?_ | refine X.e2 ?_ | (simp only [X.df]) | (simp (disch := omega) only [wi]))
        have := be_pre i r.2 s.2 (by omega) (by omega) hp h2
        exact xw_ret (vs := [_]) Try.results65 ⟨rfl, trivial⟩ ⟨hzz (-1) (by rw [hcm]; unfold sgn; rw [if_pos this]), hw.kpNo ro_nil⟩
      · have d2 : decide (((r.2[i]'(by omega)).toNat : Int) < ((s.2[i]'(by omega)).toNat : Int)) = false := decide_eq_false (by omega)
        repeat (first | refine X.p1 ?_ | refine X.p2 ?_ | refine X.p6 ?_ | refine X.p7 ?_ | refine X.p0 ?_ | refine X.p3 ?_ | refine X.p4 ?_ | refine X.p5 ?_ | refine X.p8 ?_ | refine X.p9 ?_ | refine X.q1 ?_ | refine X.q2 ?_ | refine X.q3 ?_ | refine X.q4 ?_ | refine X.q5 ?_ | refine X.q6 ?_ | refine X.q7 ?_ | refine X.q8 ?_ | refine X.q9 ?_ | refine X.q0 ?_ | refine X.m1 ?_ | refine X.m2 ?_ | refine X.m3 ?_ | refine X.m4 ?_ | refine X.m5 ?_ | refine X.m6 ?_ | refine X.l11 ?_ | refine X.l1 ?_ | refine X.l2 ?_ | refine X.l3 ?_ | refine X.l4 ?_ | refine X.l5 ?_ | refine X.l10 ?_ | refine X.l6 ?_ | refine X.l7 ?_ | refine X.l8 ?_ | refine X.l9 ?_ | refine X.m7 ?_ | refine X.m8 ?_ | (refine X.s1 ?_; intro w hw) | (refine X.s2 ?_; intro w hw) | refine X.e1 ?_ | refine X.e2 ?_ | (simp only [X.df]) | (simp (disch := omega) only [wi]))
        refine Y.mix [0, 1, 2, 3, 4, 5, 6, 7, 8] [] [] [] (R := []) hw fun w K hw hF => ?_; have hz := hw
        repeat (first | refine Y.r1 ?_ | refine Y.r2 ?_ | refine Y.r4 ?_ | refine Y.rm1 ?_ | refine Y.rm2 ?_ | refine Y.rm3 ?_ | refine Y.rm4 ?_ | refine Y.rm5 ?_ | refine Y.rl11 ?_ | refine Y.rl1 ?_ | refine Y.rl2 ?_ | refine Y.rl3 ?_ | refine Y.rl5 ?_ | refine Y.rl6 ?_ | refine Y.ro11 ?_ | refine Y.ro1 ?_ | refine Y.ro2 ?_ | refine Y.ro3 ?_ | refine Y.ro5 ?_ | refine Y.ro6 ?_ | refine Y.rm8 ?_ | (refine Y.r3 ?_; intro w hw) | (refine Y.beg0 ?_) | refine Y.re1 ?_ | refine Y.re2 ?_ | (simp only [X.df, d2]) | (simp (disch := omega) only [wi]))
        repeat (first | refine X.p1 ?_ | refine X.p2 ?_ | refine X.p6 ?_ | refine X.p7 ?_ | refine X.p0 ?_ | refine X.p3 ?_ | refine X.p4 ?_ | refine X.p5 ?_ | refine X.p8 ?_ | refine X.p9 ?_ | refine X.q1 ?_ | refine X.q2 ?_ | refine X.q3 ?_ | refine X.q4 ?_ | refine X.q5 ?_ | refine X.q6 ?_ | refine X.q7 ?_ | refine X.q8 ?_ | refine X.q9 ?_ | refine X.q0 ?_ | refine X.m1 ?_ | refine X.m2 ?_ | refine X.m3 ?_ | refine X.m4 ?_ | refine X.m5 ?_ | refine X.m6 ?_ | refine X.l11 ?_ | refine X.l1 ?_ | refine X.l2 ?_ | refine X.l3 ?_ | refine X.l4 ?_ | refine X.l5 ?_ | refine X.l10 ?_ | refine X.l6 ?_ | refine X.l7 ?_ | refine X.l8 ?_ | refine X.l9 ?_ | refine X.m7 ?_ | refine X.m8 ?_ | (refine X.s1 ?_; intro w hw) | (refine X.s2 ?_; intro w hw) | refine X.e1 ?_ | refine X.e2 ?_ | (simp only [X.df]) | (simp (disch := omega) only [wi]))
        by_cases h3 : (s.2[i]'(by omega)).toNat < (r.2[i]'(by omega)).toNat
        · have d3 : decide (((r.2[i]'(by omega)).toNat : Int) > ((s.2[i]'(by omega)).toNat : Int)) = true := decide_eq_true (by omega)
          refine Y.mix [0, 1, 2, 3, 4, 5, 6, 7, 8] [] [] [] (R := []) hw fun w K hw hF => ?_; have hz := hw
          repeat (first | refine Y.r1 ?_ | refine Y.r2 ?_ | refine Y.r4 ?_ | refine Y.rm1 ?_ | refine Y.rm2 ?_ | refine Y.rm3 ?_ | refine Y.rm4 ?_ | refine Y.rm5 ?_ | refine Y.rl11 ?_ | refine Y.rl1 ?_ | refine Y.rl2 ?_ | refine Y.rl3 ?_ | refine Y.rl5 ?_ | refine Y.rl6 ?_ | refine Y.ro11 ?_ | refine Y.ro1 ?_ | refine Y.ro2 ?_ | refine Y.ro3 ?_ | refine Y.ro5 ?_ | refine Y.ro6 ?_ | refine Y.rm8 ?_ | (refine Y.r3 ?_; intro w hw) | (refine Y.beg0 ?_) | refine Y.re1 ?_ | refine Y.re2 ?_ | (simp only [X.df, d3]) | (simp (disch := omega) only [wi]))
          repeat (first | refine X.p1 ?_ | refine X.p2 ?_ | refine X.p6 ?_ | refine X.p7 ?_ | refine X.p0 ?_ | refine X.p3 ?_ | refine X.p4 ?_ | refine X.p5 ?_ | refine X.p8 ?_ | refine X.p9 ?_ | refine X.q1 ?_ | refine X.q2 ?_ | refine X.q3 ?_ | refine X.q4 ?_ | refine X.q5 ?_ | refine X.q6 ?_ | refine X.q7 ?_ | refine X.q8 ?_ | refine X.q9 ?_ | refine X.q0 ?_ | refine X.m1 ?_ | refine X.m2 ?_ | refine X.m3 ?_ | refine X.m4 ?_ | refine X.m5 ?_ | refine X.m6 ?_ | refine X.l11 ?_ | refine X.l1 ?_ | refine X.l2 ?_ | refine X.l3 ?_ | refine X.l4 ?_ | refine X.l5 ?_ | refine X.l10 ?_ | refine X.l6 ?_ | refine X.l7 ?_ | refine X.l8 ?_ | refine X.l9 ?_ | refine X.m7 ?_ | refine X.m8 ?_ | (refine X.s1 ?_; intro w hw) | (refine X.s2 ?_; intro w hw) | refine X.e1 ?_ | refine X.e2 ?_ | (simp only [X.df]) | (simp (disch := omega) only [wi]))
          have := be_pre i s.2 r.2 (by omega) (by omega) hp.symm h3
          exact xw_ret (vs := [_]) Try.results65 ⟨rfl, trivial⟩ ⟨hzz 1 (by rw [hcm]; unfold sgn; rw [if_neg (by omega), if_pos this]), hw.kpNo ro_nil⟩
        · have d3 : decide (((r.2[i]'(by omega)).toNat : Int) > ((s.2[i]'(by omega)).toNat : Int)) = false := decide_eq_false (by omega)
          refine Y.mix [0, 1, 2, 3, 4, 5, 6, 7, 8] [] [] [] (R := []) hw fun w K hw hF => ?_; have hz := hw
          repeat (first | refine Y.r1 ?_ | refine Y.r2 ?_ | refine Y.r4 ?_ | refine Y.rm1 ?_ | refine Y.rm2 ?_ | refine Y.rm3 ?_ | refine Y.rm4 ?_ | refine Y.rm5 ?_ | refine Y.rl11 ?_ | refine Y.rl1 ?_ | refine Y.rl2 ?_ | refine Y.rl3 ?_ | refine Y.rl5 ?_ | refine Y.rl6 ?_ | refine Y.ro11 ?_ | refine Y.ro1 ?_ | refine Y.ro2 ?_ | refine Y.ro3 ?_ | refine Y.ro5 ?_ | refine Y.ro6 ?_ | refine Y.rm8 ?_ | (refine Y.r3 ?_; intro w hw) | (refine Y.beg0 ?_) | refine Y.re1 ?_ | refine Y.re2 ?_ | (simp only [X.df, d3]) | (simp (disch := omega) only [wi]))
          repeat (first | refine X.p1 ?_ | refine X.p2 ?_ | refine X.p6 ?_ | refine X.p7 ?_ | refine X.p0 ?_ | refine X.p3 ?_ | refine X.p4 ?_ | refine X.p5 ?_ | refine X.p8 ?_ | refine X.p9 ?_ | refine X.q1 ?_ | refine X.q2 ?_ | refine X.q3 ?_ | refine X.q4 ?_ | refine X.q5 ?_ | refine X.q6 ?_ | refine X.q7 ?_ | refine X.q8 ?_ | refine X.q9 ?_ | refine X.q0 ?_ | refine X.m1 ?_ | refine X.m2 ?_ | refine X.m3 ?_ | refine X.m4 ?_ | refine X.m5 ?_ | refine X.m6 ?_ | refine X.l11 ?_ | refine X.l1 ?_ | refine X.l2 ?_ | refine X.l3 ?_ | refine X.l4 ?_ | refine X.l5 ?_ | refine X.l10 ?_ | refine X.l6 ?_ | refine X.l7 ?_ | refine X.l8 ?_ | refine X.l9 ?_ | refine X.m7 ?_ | refine X.m8 ?_ | (refine X.s1 ?_; intro w hw) | (refine X.s2 ?_; intro w hw) | refine X.e1 ?_ | refine X.e2 ?_ | (simp only [X.df]) | (simp (disch := omega) only [wi]))
          have hbe : r.2[i]'(by omega) = s.2[i]'(by omega) := BitVec.eq_of_toNat_eq (by omega)
          refine X.again (i + 1) ⟨by omega, ?_, hw.sub (by (repeat (first | (with_reducible exact Split.nil) | ((with_reducible apply Split.cons); (next => (repeat (first | (with_reducible exact Pick.here) | (with_reducible exact Put.here) | (with_reducible apply Pick.there) | (with_reducible apply Put.there))))))))⟩ (by omega)
          rw [List.take_succ_eq_append_getElem (by omega), List.take_succ_eq_append_getElem (by omega), hp, hbe]
    · obtain rfl : i = 32 := by omega
      repeat (first | refine X.p1 ?_ | refine X.p2 ?_ | refine X.p6 ?_ | refine X.p7 ?_ | refine X.p0 ?_ | refine X.p3 ?_ | refine X.p4 ?_ | refine X.p5 ?_ | refine X.p8 ?_ | refine X.p9 ?_ | refine X.q1 ?_ | refine X.q2 ?_ | refine X.q3 ?_ | refine X.q4 ?_ | refine X.q5 ?_ | refine X.q6 ?_ | refine X.q7 ?_ | refine X.q8 ?_ | refine X.q9 ?_ | refine X.q0 ?_ | refine X.m1 ?_ | refine X.m2 ?_ | refine X.m3 ?_ | refine X.m4 ?_ | refine X.m5 ?_ | refine X.m6 ?_ | refine X.l11 ?_ | refine X.l1 ?_ | refine X.l2 ?_ | refine X.l3 ?_ | refine X.l4 ?_ | refine X.l5 ?_ | refine X.l10 ?_ | refine X.l6 ?_ | refine X.l7 ?_ | refine X.l8 ?_ | refine X.l9 ?_ | refine X.m7 ?_ | refine X.m8 ?_ | (refine X.s1 ?_; intro w hw) | (refine X.s2 ?_; intro w hw) | refine X.e1 ?_ | refine X.e2 ?_ | (simp only [X.df]) | (simp (disch := omega) only [wi]))
      have hrs : r.2 = s.2 := by rw [← List.take_of_length_le (show r.2.length ≤ 32 by omega), hp, List.take_of_length_le (show s.2.length ≤ 32 by omega)]
      exact xw_ret (vs := [_]) Try.results65 ⟨rfl, trivial⟩ ⟨hzz 0 (by rw [hcm, hrs]; simp [sgn]), hw.kpNo ro_nil⟩
  · have d1 : ((r.1.toNat : Int) != (s.1.toNat : Int)) = true := by simp [bne_iff_ne]; omega
    by_cases h2 : r.1.toNat < s.1.toNat
    · have d2 : decide ((r.1.toNat : Int) < (s.1.toNat : Int)) = true := decide_eq_true (by omega)
      repeat (first | refine X.p1 ?_ | refine X.p2 ?_ | refine X.p6 ?_ | refine X.p7 ?_ | refine X.p0 ?_ | refine X.p3 ?_ | refine X.p4 ?_ | refine X.p5 ?_ | refine X.p8 ?_ | refine X.p9 ?_ | refine X.q1 ?_ | refine X.q2 ?_ | refine X.q3 ?_ | refine X.q4 ?_ | refine X.q5 ?_ | refine X.q6 ?_ | refine X.q7 ?_ | refine X.q8 ?_ | refine X.q9 ?_ | refine X.q0 ?_ | refine X.m1 ?_ | refine X.m2 ?_ | refine X.m3 ?_ | refine X.m4 ?_ | refine X.m5 ?_ | refine X.m6 ?_ | refine X.l11 ?_ | refine X.l1 ?_ | refine X.l2 ?_ | refine X.l3 ?_ | refine X.l4 ?_ | refine X.l5 ?_ | refine X.l10 ?_ | refine X.l6 ?_ | refine X.l7 ?_ | refine X.l8 ?_ | refine X.l9 ?_ | refine X.m7 ?_ | refine X.m8 ?_ | (refine X.s1 ?_; intro w hw) | (refine X.s2 ?_; intro w hw) | refine X.e1 ?_ | refine X.e2 ?_ | (simp only [X.df, d1, d2]) | (simp (disch := omega) only [wi]))
      exact xw_ret (vs := [_]) Try.results65 ⟨rfl, trivial⟩ ⟨hzz (-1) (by rw [hcm]; simp [sgn, h2]), hw.kpNo ro_nil⟩
    · have d2 : decide ((r.1.toNat : Int) < (s.1.toNat : Int)) = false := decide_eq_false (by omega)
      have h3 : s.1.toNat < r.1.toNat := by omega
      repeat (first | refine X.p1 ?_ | refine X.p2 ?_ | refine X.p6 ?_ | refine X.p7 ?_ | refine X.p0 ?_ | refine X.p3 ?_ | refine X.p4 ?_ | refine X.p5 ?_ | refine X.p8 ?_ | refine X.p9 ?_ | refine X.q1 ?_ | refine X.q2 ?_ | refine X.q3 ?_ | refine X.q4 ?_ | refine X.q5 ?_ | refine X.q6 ?_ | refine X.q7 ?_ | refine X.q8 ?_ | refine X.q9 ?_ | refine X.q0 ?_ | refine X.m1 ?_ | refine X.m2 ?_ | refine X.m3 ?_ | refine X.m4 ?_ | refine X.m5 ?_ | refine X.m6 ?_ | refine X.l11 ?_ | refine X.l1 ?_ | refine X.l2 ?_ | refine X.l3 ?_ | refine X.l4 ?_ | refine X.l5 ?_ | refine X.l10 ?_ | refine X.l6 ?_ | refine X.l7 ?_ | refine X.l8 ?_ | refine X.l9 ?_ | refine X.m7 ?_ | refine X.m8 ?_ | (refine X.s1 ?_; intro w hw) | (refine X.s2 ?_; intro w hw) | refine X.e1 ?_ | refine X.e2 ?_ | (simp only [X.df, d1, d2]) | (simp (disch := omega) only [wi]))
      exact xw_ret (vs := [_]) Try.results65 ⟨rfl, trivial⟩ ⟨hzz 1 (by rw [hcm]; simp [sgn, h2, h3]), hw.kpNo ro_nil⟩
end Go.Proofs.Ytbfpgigbakhplaa.Ord
