/- A disk's blocks, and what they were: a block laid. -/
import Derived.Test.YtnpnphcklmlchaaDsk4
set_option linter.unusedVariables false
set_option linter.unusedSimpArgs false
namespace Go.Proofs.Ytnpnphcklmlchaa.Dsk
open Go.RowKit Go.Proofs.Ytnpnphcklmlchaa.Sx Go.Proofs.Ytnpnphcklmlchaa.Mx Go.Proofs.Ytnpnphcklmlchaa.Bw Go.Proofs.Ytnpnphcklmlchaa.By Go.Proofs.Ytnpnphcklmlchaa.Eqs Go.Proofs.Ytnpnphcklmlchaa.Qx Go.Proofs.Ytnpnphcklmlchaa.Ap Go.Proofs.Ytnpnphcklmlchaa.Mi Go.Proofs.Ytnpnphcklmlchaa.Stm Go.Proofs.Ytnpnphcklmlchaa.Fl Go.Proofs.Ytnpnphcklmlchaa.Mp Go.Proofs.Ytnpnphcklmlchaa.Mf Go.Proofs.Ytnpnphcklmlchaa.Dp Go.Proofs.Ytnpnphcklmlchaa.Bd Go.Maps
attribute [local irreducible] Ow Cw Xw Mw
set_option maxHeartbeats 4000000
/-! One out of many, and back. -/
theorem star_out {w0 w : World} {M0 M l r : List Stm.Item} {i : Stm.Item} (h : St w0 M0 (starI l :: M) w) (p : l.Perm (i :: r)) (ho : ∀ j ∈ l, j.own = true) : St w0 M0 (i :: starI r :: M) w := by
  have h1 := (h.unstar).perm (p.append_right M)
  have h2 : Split (i :: r ++ M) r (i :: M) := by
    have : ∀ (r : List Stm.Item), Split (i :: (r ++ M)) r (i :: M) := fun r => by
      induction r with
      | nil => exact .nil
      | cons a r ih => exact .cons (.there .here) ih
    exact this r
  exact (h1.star h2 (fun j hj => ho j (p.mem_iff.2 (by simp [hj])))).perm (List.Perm.swap _ _ _)
theorem star_in {w0 w : World} {M0 M l r : List Stm.Item} {i : Stm.Item} (h : St w0 M0 (i :: starI r :: M) w) (p : (i :: r).Perm l) (ho : ∀ j ∈ l, j.own = true) : St w0 M0 (starI l :: M) w := by
  have h1 := ((h.perm (List.Perm.swap _ _ _)).unstar).perm (show (r ++ i :: M).Perm (l ++ M) from (List.perm_middle.trans (p.append_right M)))
  have h2 : ∀ (l : List Stm.Item), Split (l ++ M) l M := fun l => by
    induction l with
    | nil => exact .nil
    | cons a l ih => exact .cons .here ih
  exact h1.star (h2 l) ho
theorem pick_perm {α : Type} (l : List α) (i : Nat) (hi : i < l.length) : l.Perm (l[i] :: l.eraseIdx i) := by
  have e : l = l.take i ++ l[i] :: l.drop (i + 1) := by rw [← List.drop_eq_getElem_cons hi, List.take_append_drop]
  rw [List.eraseIdx_eq_take_drop_succ]
  exact (List.Perm.of_eq e).trans List.perm_middle
theorem put_perm {α : Type} (l : List α) (i : Nat) (hi : i < l.length) (x : α) : (x :: l.eraseIdx i).Perm (l.set i x) := by
  rw [List.eraseIdx_eq_take_drop_succ, List.set_eq_take_append_cons_drop, if_pos hi]
  exact List.perm_middle.symm
/-! Blocks, and their past. -/
abbrev Ch := Int × List Byte
structure Bs where
  n : Nat
  bl : List (List Byte)
  ps : List (List Ch)
  pv : List Value
def bsC (bl : List (List Byte)) : List Value := bl.flatMap cb
def chL (l : List Ch) : List Value := l.flatMap fun c => chC c.1 c.2
def vecs (pv : List Value) (ps : List (List Ch)) : List Stm.Item := List.zipWith (fun v l => vecI v 219 257 l.length (chL l)) pv ps
theorem vecs_own (pv : List Value) (ps : List (List Ch)) : ∀ i ∈ vecs pv ps, i.own = true := by
  intro i hi
  obtain ⟨k, hk, rfl⟩ := List.getElem_of_mem hi
  simp only [vecs, List.getElem_zipWith]; rfl
structure OkB (B : Bs) : Prop where
  nb : B.bl.length = B.n
  np : B.ps.length = B.n
  nv : B.pv.length = B.n
  b256 : ∀ b ∈ B.bl, b.length = 256
  c256 : ∀ l ∈ B.ps, ∀ c ∈ l, c.2.length = 256
  big : B.n ≤ 8192
def bsI (gb gp : Nat) (B : Bs) : List Stm.Item := [blkI gb 61 (bsC B.bl), blkI gp 217 B.pv, starI (vecs B.pv B.ps)]
theorem bsC_len {B : Bs} (h : OkB B) : (bsC B.bl).length = B.n * 256 := by
  rw [bsC, flat_len B.bl (fun x hx => by rw [List.length_map]; exact h.b256 x hx), h.nb]
theorem bsC_get {B : Bs} (h : OkB B) (i : Nat) (hi : i < B.n) : ((bsC B.bl).drop ((i : Int).toNat * 256)).take 256 = cb (B.bl.getD i []) := by
  have hi' : i < B.bl.length := by rw [h.nb]; exact hi
  rw [Int.toNat_natCast, List.getD_eq_getElem?_getD, List.getElem?_eq_getElem hi']
  exact piece_get B.bl (fun x hx => by rw [List.length_map]; exact h.b256 x hx) i hi'
theorem bsC_set {B : Bs} (h : OkB B) (i : Nat) (hi : i < B.n) (b : List Byte) (hb : b.length = 256) : splice (bsC B.bl) (0 + (i : Int).toNat * 256) (cb b) = bsC (B.bl.set i b) := by
  have hi' : i < B.bl.length := by rw [h.nb]; exact hi
  have e : B.bl = B.bl.take i ++ (B.bl[i] :: B.bl.drop (i + 1)) := by rw [← List.drop_eq_getElem_cons hi', List.take_append_drop]
  have h1 := splice_mid (bsC (B.bl.take i)) (cb B.bl[i]) (cb b) (bsC (B.bl.drop (i + 1))) (by rw [List.length_map, List.length_map, hb, h.b256 _ (List.getElem_mem _)])
  have hl : (bsC (B.bl.take i)).length = 0 + (i : Int).toNat * 256 := by
    rw [bsC, flat_len (B.bl.take i) (fun x hx => by rw [List.length_map]; exact h.b256 x (List.mem_of_mem_take hx)), List.length_take]; omega
  rw [hl] at h1
  have e1 : bsC B.bl = bsC (B.bl.take i) ++ (cb B.bl[i] ++ bsC (B.bl.drop (i + 1))) := by
    conv => lhs; rw [e]
    simp only [bsC, List.flatMap_append, List.flatMap_cons]
  rw [e1, h1, List.set_eq_take_append_cons_drop, if_pos hi']
  simp only [bsC, List.flatMap_append, List.flatMap_cons]
def layB (B : Bs) (at_ : Nat) (f : Int) (b : List Byte) (u : Value) : Bs := { B with bl := B.bl.set at_ b, ps := B.ps.set at_ (B.ps.getD at_ [] ++ [(f, b)]), pv := B.pv.set at_ u }
theorem layB_ok {B : Bs} (h : OkB B) (at_ : Nat) (f : Int) (b : List Byte) (hb : b.length = 256) (u : Value) : OkB (layB B at_ f b u) := by
  refine ⟨by simp [layB, h.nb], by simp [layB, h.np], by simp [layB, h.nv], fun x hx => ?_, fun l hl c hc => ?_, h.big⟩
  · rcases List.mem_or_eq_of_mem_set hx with h1 | rfl
    · exact h.b256 x h1
    · exact hb
  · rcases List.mem_or_eq_of_mem_set hl with h1 | rfl
    · exact h.c256 l h1 c hc
    · rcases List.mem_append.1 hc with h1 | h1
      · by_cases hat : at_ < B.ps.length
        · rw [List.getD_eq_getElem?_getD, List.getElem?_eq_getElem hat] at h1
          exact h.c256 _ (List.getElem_mem _) c h1
        · rw [List.getD_eq_getElem?_getD, List.getElem?_eq_none (by omega)] at h1; cases h1
      · rw [List.mem_singleton.1 h1]; exact hb
theorem chL_app (l : List Ch) (c : Ch) : chL (l ++ [c]) = chL l ++ chC c.1 c.2 := by simp [chL]
theorem nthPv {B : Bs} (h : OkB B) (i : Nat) (hi : i < B.n) (v : Value) (hv : B.pv[i]? = some v) : nth B.pv (0 + (i : Int).toNat * 1) = some v := by rw [nth_eq, ← hv]; congr 1; simp
theorem setPv (pv : List Value) (i : Nat) (hi : i < pv.length) (u : Value) : splice pv (0 + (i : Int).toNat * 1) [u] = pv.set i u := by
  rw [show 0 + (i : Int).toNat * 1 = i from by simp, List.set_eq_take_append_cons_drop, if_pos hi]
  simp [splice]
theorem zip_set {α β γ : Type} (f : α → β → γ) : ∀ (l : List α) (m : List β) (i : Nat) (a : α) (b : β), List.zipWith f (l.set i a) (m.set i b) = (List.zipWith f l m).set i (f a b)
  | [], _, _, _, _ => by simp
  | _ :: _, [], _, _, _ => by simp
  | x :: l, y :: m, 0, a, b => by simp
  | x :: l, y :: m, i + 1, a, b => by simp [zip_set f l m i a b]
theorem lay_calls (gd gb gp : Nat) (C : List Value) (B : Bs) (hB : OkB B) (at_ : Nat) (f : Int) (b : List Byte) (hb : b.length = 256) (h0 : nth C (0 + 0) = some (.slice (some ⟨gb, 0, none⟩) B.n B.n)) (h1 : nth C (0 + 1) = some (.slice (some ⟨gp, 0, none⟩) B.n B.n)) (hat : at_ < B.n) (hk : ((B.ps.getD at_ []).length + 1) * 264 ≤ 140737488355328)
    (w0 : World) (h : Pre (blkI gd 182 C :: bsI gb gp B) w0) :
    Does Try.prog 89 [.pointer (some ⟨gd, 0, none⟩), i64v at_, i64v f, blV b] w0 fun v w' => ∃ u, v = .tuple #[] ∧ St w0 (blkI gd 182 C :: bsI gb gp B) (blkI gd 182 C :: bsI gb gp (layB B at_ f b u)) w' := by
  have hw := St.start h
  have ho := oneCells_cb b
  have hl : (cb b).length = 256 := by rw [List.length_map, hb]
  have hcl := chC_len f hb
  have hco := chC_one f b
  have hbl := bsC_len hB
  have hset := bsC_set hB at_ hat b hb
  have hvp : at_ < B.pv.length := by rw [hB.nv]; exact hat
  have hpp : at_ < B.ps.length := by rw [hB.np]; exact hat
  have hvl : at_ < (vecs B.pv B.ps).length := by rw [vecs, List.length_zipWith]; omega
  obtain ⟨l, hle⟩ : ∃ l, l = B.ps.getD at_ [] := ⟨_, rfl⟩
  have hl1 : B.ps[at_] = l := by rw [hle, List.getD_eq_getElem?_getD, List.getElem?_eq_getElem hpp]; rfl
  rw [← hle] at hk
  have hvi : (vecs B.pv B.ps)[at_] = vecI B.pv[at_] 219 257 l.length (chL l) := by simp only [vecs, List.getElem_zipWith, hl1]
  unfold bsI at hw
  have hw := hw.perm (show ([blkI gd 182 C, blkI gb 61 (bsC B.bl), blkI gp 217 B.pv, starI (vecs B.pv B.ps)] : List Stm.Item).Perm (starI (vecs B.pv B.ps) :: [blkI gd 182 C, blkI gb 61 (bsC B.bl), blkI gp 217 B.pv]) from List.perm_append_comm (l₁ := [blkI gd 182 C, blkI gb 61 (bsC B.bl), blkI gp 217 B.pv]) (l₂ := [starI (vecs B.pv B.ps)]))
  have hw := star_out hw (hvi ▸ pick_perm (vecs B.pv B.ps) at_ hvl) (vecs_own _ _)
  obtain ⟨A, c, hv⟩ := vec_slice hw (v := B.pv[at_]) .here
  have hpv : nth B.pv (0 + (at_ : Int).toNat * 1) = some (.slice A l.length c) := nthPv hB at_ hat _ (by rw [List.getElem?_eq_getElem hvp, hv])
  rw [hv] at hw
  refine fn_enter Try.func89 rfl Try.ntmps89 rfl ?_
  repeat (first | refine X.p1 ?_ | refine X.p2 ?_ | refine X.p6 ?_ | refine X.p7 ?_ | refine X.p0 ?_ | refine X.p3 ?_ | refine X.p4 ?_ | refine X.p5 ?_ | refine X.p8 ?_ | refine X.p9 ?_ | refine X.q1 ?_ | refine X.q2 ?_ | refine X.q3 ?_ | refine X.q4 ?_ | refine X.q5 ?_ | refine X.q6 ?_ | refine X.q7 ?_ | refine X.q8 ?_ | refine X.q9 ?_ | refine X.q0 ?_ | refine X.m1 ?_ | refine X.m2 ?_ | refine X.m3 ?_ | refine X.m4 ?_ | refine X.m5 ?_ | refine X.m6 ?_ | refine X.l11 ?_ | refine X.l1 ?_ | refine X.l2 ?_ | refine X.l3 ?_ | refine X.l4 ?_ | refine X.l5 ?_ | refine X.l10 ?_ | refine X.l6 ?_ | refine X.l7 ?_ | refine X.l8 ?_ | refine X.l9 ?_ | refine X.m7 ?_ | refine X.m8 ?_ | (refine X.s1 ?_; intro w hw) | (refine X.s2 ?_; intro w hw) | refine X.e1 ?_ | refine X.e2 ?_ | (simp only [X.df]) | (simp (disch := omega) only [wi]))
  (first | refine X.nb ?_ | refine X.na ?_); intro g1 w _ hw
  repeat (first | refine X.p1 ?_ | refine X.p2 ?_ | refine X.p6 ?_ | refine X.p7 ?_ | refine X.p0 ?_ | refine X.p3 ?_ | refine X.p4 ?_ | refine X.p5 ?_ | refine X.p8 ?_ | refine X.p9 ?_ | refine X.q1 ?_ | refine X.q2 ?_ | refine X.q3 ?_ | refine X.q4 ?_ | refine X.q5 ?_ | refine X.q6 ?_ | refine X.q7 ?_ | refine X.q8 ?_ | refine X.q9 ?_ | refine X.q0 ?_ | refine X.m1 ?_ | refine X.m2 ?_ | refine X.m3 ?_ | refine X.m4 ?_ | refine X.m5 ?_ | refine X.m6 ?_ | refine X.l11 ?_ | refine X.l1 ?_ | refine X.l2 ?_ | refine X.l3 ?_ | refine X.l4 ?_ | refine X.l5 ?_ | refine X.l10 ?_ | refine X.l6 ?_ | refine X.l7 ?_ | refine X.l8 ?_ | refine X.l9 ?_ | refine X.m7 ?_ | refine X.m8 ?_ | (refine X.s1 ?_; intro w hw) | (refine X.s2 ?_; intro w hw) | refine X.e1 ?_ | refine X.e2 ?_ | (simp only [X.df]) | (simp (disch := omega) only [wi]))
  refine Y.mix [0, 1, 2, 3, 4, 5, 6] [7] [(3, .o), (5, .o)] [] (R := []) hw fun w K hw hF => ?_; have hz := hw
  repeat (first | refine Y.r1 ?_ | refine Y.r2 ?_ | refine Y.r4 ?_ | refine Y.rm1 ?_ | refine Y.rm2 ?_ | refine Y.rm3 ?_ | refine Y.rm4 ?_ | refine Y.rm5 ?_ | refine Y.rl11 ?_ | refine Y.rl1 ?_ | refine Y.rl2 ?_ | refine Y.rl3 ?_ | refine Y.rl5 ?_ | refine Y.rl6 ?_ | refine Y.ro11 ?_ | refine Y.ro1 ?_ | refine Y.ro2 ?_ | refine Y.ro3 ?_ | refine Y.ro5 ?_ | refine Y.ro6 ?_ | refine Y.rm8 ?_ | (refine Y.r3 ?_; intro w hw) | (refine Y.beg0 ?_) | refine Y.re1 ?_ | refine Y.re2 ?_ | (simp only [X.df]) | (simp (disch := omega) only [wi]))
  refine Y.act hw fun w hw0 hw => ?_; refine X.s2 (hk := by rw [hbl, Int.toNat_natCast]; have := hB.big; omega) (hc := hset) ?_; intro w hw; refine Y.midS hw0 hF hw fun K hw hF => ?_
  repeat (first | refine Y.r1 ?_ | refine Y.r2 ?_ | refine Y.r4 ?_ | refine Y.rm1 ?_ | refine Y.rm2 ?_ | refine Y.rm3 ?_ | refine Y.rm4 ?_ | refine Y.rm5 ?_ | refine Y.rl11 ?_ | refine Y.rl1 ?_ | refine Y.rl2 ?_ | refine Y.rl3 ?_ | refine Y.rl5 ?_ | refine Y.rl6 ?_ | refine Y.ro11 ?_ | refine Y.ro1 ?_ | refine Y.ro2 ?_ | refine Y.ro3 ?_ | refine Y.ro5 ?_ | refine Y.ro6 ?_ | refine Y.rm8 ?_ | (refine Y.r3 ?_; intro w hw) | (refine Y.beg0 ?_) | refine Y.re1 ?_ | refine Y.re2 ?_ | (simp only [X.df]) | (simp (disch := omega) only [wi]))
  repeat (first | refine X.p1 ?_ | refine X.p2 ?_ | refine X.p6 ?_ | refine X.p7 ?_ | refine X.p0 ?_ | refine X.p3 ?_ | refine X.p4 ?_ | refine X.p5 ?_ | refine X.p8 ?_ | refine X.p9 ?_ | refine X.q1 ?_ | refine X.q2 ?_ | refine X.q3 ?_ | refine X.q4 ?_ | refine X.q5 ?_ | refine X.q6 ?_ | refine X.q7 ?_ | refine X.q8 ?_ | refine X.q9 ?_ | refine X.q0 ?_ | refine X.m1 ?_ | refine X.m2 ?_ | refine X.m3 ?_ | refine X.m4 ?_ | refine X.m5 ?_ | refine X.m6 ?_ | refine X.l11 ?_ | refine X.l1 ?_ | refine X.l2 ?_ | refine X.l3 ?_ | refine X.l4 ?_ | refine X.l5 ?_ | refine X.l10 ?_ | refine X.l6 ?_ | refine X.l7 ?_ | refine X.l8 ?_ | refine X.l9 ?_ | refine X.m7 ?_ | refine X.m8 ?_ | (refine X.s1 ?_; intro w hw) | (refine X.s2 ?_; intro w hw) | refine X.e1 ?_ | refine X.e2 ?_ | (simp only [X.df]) | (simp (disch := omega) only [wi]))
  refine Y.mix [0, 1, 2, 3, 4, 5, 6, 7, 8, 9, 10, 11, 12, 13, 14] [15, 16, 17, 18] [(3, .o), (8, .o), (11, .o), (13, .o), (16, .n)] [] (R := [gd, gp, g1]) hw fun w K hw hF => ?_; have hz := hw
  repeat (first | refine Y.r1 ?_ | refine Y.r2 ?_ | refine Y.r4 ?_ | refine Y.rm1 ?_ | refine Y.rm2 ?_ | refine Y.rm3 ?_ | refine Y.rm4 ?_ | refine Y.rm5 ?_ | refine Y.rl11 ?_ | refine Y.rl1 ?_ | refine Y.rl2 ?_ | refine Y.rl3 ?_ | refine Y.rl5 ?_ | refine Y.rl6 ?_ | refine Y.ro11 ?_ | refine Y.ro1 ?_ | refine Y.ro2 ?_ | refine Y.ro3 ?_ | refine Y.ro5 ?_ | refine Y.ro6 ?_ | refine Y.rm8 ?_ | (refine Y.r3 ?_; intro w hw) | (refine Y.beg0 ?_) | refine Y.re1 ?_ | refine Y.re2 ?_ | (simp only [X.df]) | (simp (disch := omega) only [wi]))
  refine Y.rbl rfl rfl (chB f b hb) ?_
  repeat (first | refine Y.r1 ?_ | refine Y.r2 ?_ | refine Y.r4 ?_ | refine Y.rm1 ?_ | refine Y.rm2 ?_ | refine Y.rm3 ?_ | refine Y.rm4 ?_ | refine Y.rm5 ?_ | refine Y.rl11 ?_ | refine Y.rl1 ?_ | refine Y.rl2 ?_ | refine Y.rl3 ?_ | refine Y.rl5 ?_ | refine Y.rl6 ?_ | refine Y.ro11 ?_ | refine Y.ro1 ?_ | refine Y.ro2 ?_ | refine Y.ro3 ?_ | refine Y.ro5 ?_ | refine Y.ro6 ?_ | refine Y.rm8 ?_ | (refine Y.r3 ?_; intro w hw) | (refine Y.beg0 ?_) | refine Y.re1 ?_ | refine Y.re2 ?_ | (simp only [X.df]) | (simp (disch := omega) only [wi]))
  refine Y.act hw fun w hw0 hw => ?_; refine X.c1 ?_; intro g2 w kk hw; refine Y.midA hw0 hF hw kk fun K hw hF => ?_
  repeat (first | refine Y.r1 ?_ | refine Y.r2 ?_ | refine Y.r4 ?_ | refine Y.rm1 ?_ | refine Y.rm2 ?_ | refine Y.rm3 ?_ | refine Y.rm4 ?_ | refine Y.rm5 ?_ | refine Y.rl11 ?_ | refine Y.rl1 ?_ | refine Y.rl2 ?_ | refine Y.rl3 ?_ | refine Y.rl5 ?_ | refine Y.rl6 ?_ | refine Y.ro11 ?_ | refine Y.ro1 ?_ | refine Y.ro2 ?_ | refine Y.ro3 ?_ | refine Y.ro5 ?_ | refine Y.ro6 ?_ | refine Y.rm8 ?_ | (refine Y.r3 ?_; intro w hw) | (refine Y.beg0 ?_) | refine Y.re1 ?_ | refine Y.re2 ?_ | (simp only [X.df]) | (simp (disch := omega) only [wi]))
  refine Y.act hw fun w hw0 hw => ?_
  refine X.a1 ?_
  intro u w hw
  refine Y.midO hw0 hF hw (fun g hg => ?_) fun K hw hF => ?_
  · have hg' : g ∈ [gd, gp, g1] := Classical.not_not.1 hg
    simp only [List.mem_cons, List.not_mem_nil, or_false] at hg'
    rcases hg' with rfl | rfl | rfl
    · exact ⟨_, C, hw0.pick (i := blkI g 182 C) (by (repeat (first | (with_reducible exact Pick.here) | (with_reducible exact Put.here) | (with_reducible apply Pick.there) | (with_reducible apply Put.there)))), hw.pick (i := blkI g 182 C) (by (repeat (first | (with_reducible exact Pick.here) | (with_reducible exact Put.here) | (with_reducible apply Pick.there) | (with_reducible apply Put.there))))⟩
    · exact ⟨_, B.pv, hw0.pick (i := blkI g 217 B.pv) (by (repeat (first | (with_reducible exact Pick.here) | (with_reducible exact Put.here) | (with_reducible apply Pick.there) | (with_reducible apply Put.there)))), hw.pick (i := blkI g 217 B.pv) (by (repeat (first | (with_reducible exact Pick.here) | (with_reducible exact Put.here) | (with_reducible apply Pick.there) | (with_reducible apply Put.there))))⟩
    · exact ⟨_, cb b, hw0.pick (i := blkI g 61 (cb b)) (by (repeat (first | (with_reducible exact Pick.here) | (with_reducible exact Put.here) | (with_reducible apply Pick.there) | (with_reducible apply Put.there)))), hw.pick (i := blkI g 61 (cb b)) (by (repeat (first | (with_reducible exact Pick.here) | (with_reducible exact Put.here) | (with_reducible apply Pick.there) | (with_reducible apply Put.there))))⟩
  obtain ⟨A2, c2, rfl⟩ := vec_slice hw (v := u) .here
  have hset2 := setPv B.pv at_ hvp (.slice A2 (l.length + 1) c2)
  repeat (first | refine Y.r1 ?_ | refine Y.r2 ?_ | refine Y.r4 ?_ | refine Y.rm1 ?_ | refine Y.rm2 ?_ | refine Y.rm3 ?_ | refine Y.rm4 ?_ | refine Y.rm5 ?_ | refine Y.rl11 ?_ | refine Y.rl1 ?_ | refine Y.rl2 ?_ | refine Y.rl3 ?_ | refine Y.rl5 ?_ | refine Y.rl6 ?_ | refine Y.ro11 ?_ | refine Y.ro1 ?_ | refine Y.ro2 ?_ | refine Y.ro3 ?_ | refine Y.ro5 ?_ | refine Y.ro6 ?_ | refine Y.rm8 ?_ | (refine Y.r3 ?_; intro w hw) | (refine Y.beg0 ?_) | refine Y.re1 ?_ | refine Y.re2 ?_ | (simp only [X.df]) | (simp (disch := omega) only [wi]))
  refine Y.act hw fun w hw0 hw => ?_; refine X.s2 (hk := by rw [hB.nv, Int.toNat_natCast]; omega) (hc := hset2) ?_; intro w hw; refine Y.midS hw0 hF hw fun K hw hF => ?_
  repeat (first | refine Y.r1 ?_ | refine Y.r2 ?_ | refine Y.r4 ?_ | refine Y.rm1 ?_ | refine Y.rm2 ?_ | refine Y.rm3 ?_ | refine Y.rm4 ?_ | refine Y.rm5 ?_ | refine Y.rl11 ?_ | refine Y.rl1 ?_ | refine Y.rl2 ?_ | refine Y.rl3 ?_ | refine Y.rl5 ?_ | refine Y.rl6 ?_ | refine Y.ro11 ?_ | refine Y.ro1 ?_ | refine Y.ro2 ?_ | refine Y.ro3 ?_ | refine Y.ro5 ?_ | refine Y.ro6 ?_ | refine Y.rm8 ?_ | (refine Y.r3 ?_; intro w hw) | (refine Y.beg0 ?_) | refine Y.re1 ?_ | refine Y.re2 ?_ | (simp only [X.df]) | (simp (disch := omega) only [wi]))
  repeat (first | refine X.p1 ?_ | refine X.p2 ?_ | refine X.p6 ?_ | refine X.p7 ?_ | refine X.p0 ?_ | refine X.p3 ?_ | refine X.p4 ?_ | refine X.p5 ?_ | refine X.p8 ?_ | refine X.p9 ?_ | refine X.q1 ?_ | refine X.q2 ?_ | refine X.q3 ?_ | refine X.q4 ?_ | refine X.q5 ?_ | refine X.q6 ?_ | refine X.q7 ?_ | refine X.q8 ?_ | refine X.q9 ?_ | refine X.q0 ?_ | refine X.m1 ?_ | refine X.m2 ?_ | refine X.m3 ?_ | refine X.m4 ?_ | refine X.m5 ?_ | refine X.m6 ?_ | refine X.l11 ?_ | refine X.l1 ?_ | refine X.l2 ?_ | refine X.l3 ?_ | refine X.l4 ?_ | refine X.l5 ?_ | refine X.l10 ?_ | refine X.l6 ?_ | refine X.l7 ?_ | refine X.l8 ?_ | refine X.l9 ?_ | refine X.m7 ?_ | refine X.m8 ?_ | (refine X.s1 ?_; intro w hw) | (refine X.s2 ?_; intro w hw) | refine X.e1 ?_ | refine X.e2 ?_ | (simp only [X.df]) | (simp (disch := omega) only [wi]))
  refine xw_end (X.ret0 ⟨.slice A2 (l.length + 1) c2, rfl, ?_⟩)
  have hw : St w0 _ [vecI (.slice A2 (l.length + 1) c2) 219 257 (l.length + 1) (chL l ++ chC f b), starI ((vecs B.pv B.ps).eraseIdx at_), blkI gd 182 C, blkI gb 61 (bsC (B.bl.set at_ b)), blkI gp 217 (B.pv.set at_ (.slice A2 (l.length + 1) c2))] w := hw.sub (by (repeat (first | (with_reducible exact Split.nil) | ((with_reducible apply Split.cons); (next => (repeat (first | (with_reducible exact Pick.here) | (with_reducible exact Put.here) | (with_reducible apply Pick.there) | (with_reducible apply Put.there))))))))
  have e1 : vecs (B.pv.set at_ (.slice A2 (l.length + 1) c2)) (B.ps.set at_ (l ++ [(f, b)])) = (vecs B.pv B.ps).set at_ (vecI (.slice A2 (l.length + 1) c2) 219 257 (l.length + 1) (chL l ++ chC f b)) := by
    unfold vecs
    rw [zip_set]
    rw [chL_app, List.length_append]
    rfl
  have hw := star_in hw (put_perm (vecs B.pv B.ps) at_ hvl _) (by rw [← e1]; exact vecs_own _ _)
  rw [← e1] at hw
  unfold bsI layB
  rw [← hle]
  exact hw.perm (List.perm_append_comm (l₁ := [starI _]) (l₂ := [blkI gd 182 C, blkI gb 61 (bsC (B.bl.set at_ b)), blkI gp 217 (B.pv.set at_ (.slice A2 (l.length + 1) c2))]))
end Go.Proofs.Ytnpnphcklmlchaa.Dsk
