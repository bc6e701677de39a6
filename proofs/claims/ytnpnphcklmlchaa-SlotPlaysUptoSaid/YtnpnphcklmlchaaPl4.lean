/- A register on its disk, as the law plays it. -/
import Derived.Test.YtnpnphcklmlchaaPl3
import Derived.Test.YtnpnphcklmlchaaDsk8
set_option linter.unusedVariables false
set_option linter.unusedSimpArgs false
namespace Go.Proofs.Ytnpnphcklmlchaa.Pl
open Go.RowKit Go.Proofs.Ytnpnphcklmlchaa.Sx Go.Proofs.Ytnpnphcklmlchaa.Mx Go.Proofs.Ytnpnphcklmlchaa.Bw Go.Proofs.Ytnpnphcklmlchaa.By Go.Proofs.Ytnpnphcklmlchaa.Eqs Go.Proofs.Ytnpnphcklmlchaa.Qx Go.Proofs.Ytnpnphcklmlchaa.Ap Go.Proofs.Ytnpnphcklmlchaa.Mi Go.Proofs.Ytnpnphcklmlchaa.Stm Go.Proofs.Ytnpnphcklmlchaa.Fl Go.Proofs.Ytnpnphcklmlchaa.Mp Go.Proofs.Ytnpnphcklmlchaa.Mf Go.Proofs.Ytnpnphcklmlchaa.Dp Go.Proofs.Ytnpnphcklmlchaa.Dsk Go.Proofs.Ytnpnphcklmlchaa.Nd Go.Proofs.Ytnpnphcklmlchaa.Bd Go.Proofs.Ytnpnphcklmlchaa.Wd Go.Proofs.Ytnpnphcklmlchaa.Num Go.Proofs.Ytnpnphcklmlchaa.Slt Go.Maps
attribute [local irreducible] Ow Cw Xw Mw
set_option maxHeartbeats 4000000
def bksI (gb gp : Nat) (B : Bs) : List Stm.Item := [blkI gb 61 (bsC B.bl), blkI gp 217 B.pv, starI (vecs B.pv B.ps)]
def plI (gr gb gp : Nat) (R : Rg) (B : Bs) : List Stm.Item := rgI gr R ++ bksI gb gp B
def plS (gr gb gp : Nat) (R : Rg) (B : Bs) : Stm.Item := starI (plI gr gb gp R B)
def rg3 (gr : Nat) (R : Rg) : List Stm.Item := [blkI gr 205 (rgC R), mapI Try.prog R.gm 107 4 slV OkL Value.bool R.n R.was, vecI R.vw 107 34 R.ws.length (wsC R.ws)]
theorem plI_eq (gr gb gp : Nat) (R : Rg) (B : Bs) : plI gr gb gp R B = rg3 gr R ++ dsI R.gd gb gp R.D B := rfl
theorem plI_own (gr gb gp : Nat) (R : Rg) (B : Bs) : ∀ i ∈ plI gr gb gp R B, i.own = true := by
  intro i hi
  rcases List.mem_append.1 hi with h | h
  · exact rgI_own gr R i h
  · simp only [bksI, List.mem_cons, List.not_mem_nil, or_false] at h
    rcases h with rfl | rfl | rfl <;> rfl
theorem splApp : ∀ (l M : List Stm.Item), Split (l ++ M) l M
  | [], _ => .nil
  | _ :: l, M => .cons .here (splApp l M)
theorem pl_rg {gr gb gp : Nat} {R : Rg} {B : Bs} {w : World} (h : Pre (plI gr gb gp R B) w) : Pre (rgI gr R) w := h.left
theorem pl_ds {gr gb gp : Nat} {R : Rg} {B : Bs} {w : World} (h : Pre (plI gr gb gp R B) w) : Pre (dsI R.gd gb gp R.D B) w := by rw [plI_eq] at h; exact h.right
theorem rg_up {gr gb gp : Nat} {R R' : Rg} {B : Bs} {w w' : World} (hp : Pre (plI gr gb gp R B) w) (h : St w (rgI gr R) (rgI gr R') w') : St w [plS gr gb gp R B] [plS gr gb gp R' B] w' :=
  star_both ((St.start hp).call (splApp _ _) h) (plI_own gr gb gp R B)
theorem ds_up {gr gb gp : Nat} {R : Rg} {B B' : Bs} {D' : Dk} {w w' : World} (hp : Pre (plI gr gb gp R B) w) (h : St w (dsI R.gd gb gp R.D B) (dsI R.gd gb gp D' B') w') : St w [plS gr gb gp R B] [plS gr gb gp { R with D := D' } B'] w' := by
  have h0 := St.start hp
  have h1 : St w (plI gr gb gp R B) (dsI R.gd gb gp R.D B ++ rg3 gr R) w := h0.perm (by rw [plI_eq]; exact List.perm_append_comm)
  have h2 := h1.call (splApp _ _) h
  have h3 : St w (plI gr gb gp R B) (plI gr gb gp { R with D := D' } B') w' := h2.perm (by rw [plI_eq]; exact List.perm_append_comm)
  exact star_both h3 (plI_own gr gb gp R B)
/-! The play's state. -/
def cutF (L : List Ct) : Ct → Option Bool := fun c => if c ∈ L then some true else none
theorem cutF_upd (L : List Ct) (c : Ct) : upd (cutF L) c true = cutF (L ++ [c]) := by
  funext x
  unfold upd cutF
  by_cases h : x = c
  · subst h; simp
  · simp [h]
structure PlR (i : Nat) (L : List Ct) (gd gb gp : Nat) (R : Rg) (B : Bs) : Prop where
  gd : R.gd = gd
  b : OkB B
  n16 : B.n = 16
  vb : R.D.vb = .slice (some ⟨gb, 0, none⟩) B.n B.n
  vp : R.D.vp = .slice (some ⟨gp, 0, none⟩) B.n B.n
  vpl : R.D.vpl = .slice none 0 0
  f : R.D.f = cutF L
  ops : 0 ≤ R.D.ops ∧ R.D.ops ≤ i
  ev : R.D.ev ≤ i
  k : R.D.k ≤ i
  pl : ∀ j, (B.ps.getD j []).length ≤ i
  now : R.now.1 = BitVec.ofNat 64 R.ws.length
  ok : OkL R.now
  okw : OkW R.ws
  len : R.ws.length ≤ i
  cnt : ∀ s ∈ R.ws, s.1.toNat ≤ R.ws.length
  n : R.n ≤ i
  was : R.was = wasOf R.ws
theorem PlR.okD {i : Nat} {L : List Ct} {gd gb gp : Nat} {R : Rg} {B : Bs} (h : PlR i L gd gb gp R B) (hi : i ≤ 1048576) : OkD gb gp R.D B :=
  ⟨h.b, h.vb, h.vp, ⟨h.ops.1, by have := h.ops.2; omega⟩, by have := h.ev; omega, by have := h.k; omega, fun j => by have := h.pl j; omega⟩
theorem PlR.up {i : Nat} {L : List Ct} {gd gb gp : Nat} {R : Rg} {B : Bs} (h : PlR i L gd gb gp R B) : PlR (i + 1) L gd gb gp R B :=
  ⟨h.gd, h.b, h.n16, h.vb, h.vp, h.vpl, h.f, ⟨h.ops.1, by have := h.ops.2; omega⟩, by have := h.ev; omega, by have := h.k; omega, fun j => by have := h.pl j; omega, h.now, h.ok, h.okw, by have := h.len; omega, h.cnt, by have := h.n; omega, h.was⟩
theorem PlR.evs {i : Nat} {L : List Ct} {gd gb gp : Nat} {R : Rg} {B : Bs} (h : PlR i L gd gb gp R B) : atL L (R.D.ev : Int) = (!evA R.D, evA R.D || evZ R.D) := by
  unfold atL evA evZ
  rw [h.f]
  unfold cutF
  by_cases h1 : ((R.D.ev : Int), false) ∈ L
  · simp [h1]
  · by_cases h2 : ((R.D.ev : Int), true) ∈ L
    · simp [h1, h2]
    · simp [h1, h2]
theorem PlR.rev {i : Nat} {L : List Ct} {gd gb gp : Nat} {R : Rg} {B : Bs} (h : PlR i L gd gb gp R B) (d : Bool) : PlR i L gd gb gp { R with D := { R.D with dead := d } } B :=
  ⟨h.gd, h.b, h.n16, h.vb, h.vp, h.vpl, h.f, h.ops, h.ev, h.k, h.pl, h.now, h.ok, h.okw, h.len, h.cnt, h.n, h.was⟩
theorem PlR.wr {i : Nat} {L : List Ct} {gd gb gp : Nat} {R : Rg} {B : Bs} (h : PlR i L gd gb gp R B) (hi : i < 1048576) (s : Sl) (hs : OkL s) (hc : s.1 = R.now.1 + 1) (vl vw : Value) : PlR (i + 1) L gd gb gp (wrR R s vl vw) B := by
  obtain ⟨a1, a2, a3, a4, a5, a6, a7, a8, a9, a10, a11, a12, a13, a14, a15, a16, a17, a18⟩ := h
  unfold wrR
  cases ha : evA R.D with
  | true =>
    exact ⟨a1, a2, a3, a4, a5, a6, a7, ⟨a8.1, by show R.D.ops ≤ _; omega⟩, by show R.D.ev + 1 ≤ _; omega, by show (evD R.D swRaw vl).k ≤ _; simp [evD, ha]; omega, fun j => by have := a11 j; omega, a12, a13, a14, by show R.ws.length ≤ _; omega, a16, by show R.n ≤ _; omega, a18⟩
  | false =>
    refine ⟨a1, a2, a3, a4, a5, a6, a7, ⟨a8.1, by show R.D.ops ≤ _; omega⟩, by show R.D.ev + 1 ≤ _; omega, by show (evD R.D swRaw vl).k ≤ _; simp [evD, ha]; omega, fun j => by have := a11 j; omega, ?_, hs, ?_, ?_, ?_, by show R.n + 1 ≤ _; omega, ?_⟩
    · show s.1 = BitVec.ofNat 64 (R.ws ++ [s]).length
      rw [hc, a12, cnt1, List.length_append]; rfl
    · intro x hx
      rcases List.mem_append.1 hx with h | h
      · exact a14 x h
      · rw [List.mem_singleton.1 h]; exact hs
    · show (R.ws ++ [s]).length ≤ _; simp; omega
    · intro x hx
      show x.1.toNat ≤ (R.ws ++ [s]).length
      rw [List.length_append]
      rcases List.mem_append.1 hx with h | h
      · have := a16 x h; simp; omega
      · rw [List.mem_singleton.1 h, hc, a12, cnt1, BitVec.toNat_ofNat]; simp; omega
    · show upd R.was s true = wasOf (R.ws ++ [s]); rw [a18, wasOf_upd]
theorem lay_pl {B : Bs} (h : OkB B) (at_ : Nat) (hat : at_ < B.n) (f : Int) (b : List Byte) (u : Value) (i : Nat) (hp : ∀ j, (B.ps.getD j []).length ≤ i) (j : Nat) : ((layB B at_ f b u).ps.getD j []).length ≤ i + 1 := by
  have h1 := hp j
  have h2 := hp at_
  unfold layB
  simp only [List.getD_eq_getElem?_getD, List.getElem?_set] at *
  by_cases e : at_ = j
  · subst e
    have hl : at_ < B.ps.length := by rw [h.np]; exact hat
    simp [hl] at h2 ⊢
    omega
  · simp [e]; omega
theorem PlR.dw {i : Nat} {L : List Ct} {gd gb gp : Nat} {R : Rg} {B : Bs} (h : PlR i L gd gb gp R B) (hi : i < 1048576) (at_ : Nat) (hat : at_ < B.n) (b : List Byte) (hb : b.length = 256) (vl u : Value) : PlR (i + 1) L gd gb gp { R with D := wrD R.D at_ b vl } (wrB R.D B at_ b u) := by
  obtain ⟨a1, a2, a3, a4, a5, a6, a7, a8, a9, a10, a11, a12, a13, a14, a15, a16, a17, a18⟩ := h
  have hk : (wrD R.D at_ b vl).k ≤ i + 1 := by
    show (evD (opD R.D) (rwC 2 at_ b) vl).k ≤ _
    unfold evD
    simp only
    split <;> (show _ ≤ _; simp only [opD]; omega)
  have hops : (wrD R.D at_ b vl).ops = R.D.ops + 1 := rfl
  have hev : (wrD R.D at_ b vl).ev = R.D.ev + 1 := rfl
  unfold wrB
  split
  · exact ⟨a1, a2, a3, a4, a5, a6, a7, by show 0 ≤ (wrD R.D at_ b vl).ops ∧ _; rw [hops]; omega, by show (wrD R.D at_ b vl).ev ≤ _; rw [hev]; omega, hk, fun j => by have := a11 j; omega, a12, a13, a14, by show R.ws.length ≤ _; omega, a16, by show R.n ≤ _; omega, a18⟩
  · exact ⟨a1, layB_ok a2 at_ _ b hb u, a3, a4, a5, a6, a7, by show 0 ≤ (wrD R.D at_ b vl).ops ∧ _; rw [hops]; omega, by show (wrD R.D at_ b vl).ev ≤ _; rw [hev]; omega, hk, lay_pl a2 at_ hat _ b u i a11, a12, a13, a14, by show R.ws.length ≤ _; omega, a16, by show R.n ≤ _; omega, a18⟩
theorem PlR.rd {i : Nat} {L : List Ct} {gd gb gp : Nat} {R : Rg} {B : Bs} (h : PlR i L gd gb gp R B) (hi : i < 1048576) (at_ : Int) (b : List Byte) (vl : Value) : PlR (i + 1) L gd gb gp { R with D := rdD R.D at_ b vl } B := by
  obtain ⟨a1, a2, a3, a4, a5, a6, a7, a8, a9, a10, a11, a12, a13, a14, a15, a16, a17, a18⟩ := h
  exact ⟨a1, a2, a3, a4, a5, a6, a7, by show 0 ≤ R.D.ops + 1 ∧ R.D.ops + 1 ≤ _; omega, by show R.D.ev ≤ _; omega, by show R.D.k + 1 ≤ _; omega, fun j => by have := a11 j; omega, a12, a13, a14, by show R.ws.length ≤ _; omega, a16, by show R.n ≤ _; omega, a18⟩
/-! At the start; cuts set. -/
def pl0 (gb gp gc gd gm : Nat) : Rg := ⟨gd, dk0' 16 gb gp gc, noSl, [], .slice none 0 0, gm, 0, fun _ => none⟩
structure CtR (l : List Ct) (gd gb gp gc gm : Nat) (R : Rg) : Prop where
  plr : PlR 0 (fewL l) gd gb gp R (bs0 16)
  set : R.D.set = (fewL l).length
  n : R.D.n ≤ l.length
  dead : R.D.dead = false
  rest : R.ws = [] ∧ R.now = noSl ∧ R.D.ev = 0
theorem ctR_zero (gb gp gc gd gm : Nat) : CtR [] gd gb gp gc gm (pl0 gb gp gc gd gm) :=
  ⟨⟨rfl, bs0_ok 16 (by decide), rfl, rfl, rfl, rfl, by funext c; simp [pl0, dk0', cutF, fewL], ⟨Int.le_refl _, Int.le_refl _⟩, Nat.le_refl _, Nat.le_refl _, fun j => by
    show ((List.replicate 16 ([] : List Ch)).getD j []).length ≤ 0
    rw [List.getD_eq_getElem?_getD, List.getElem?_replicate]
    split <;> simp, rfl, noSl_ok, fun s hs => (by cases hs), Nat.le_refl _, fun s hs => (by cases hs), Nat.le_refl _, wasOf_nil.symm⟩, rfl, Nat.le_refl _, rfl, rfl, rfl, rfl⟩
theorem ctR_step {l : List Ct} {gd gb gp gc gm : Nat} {R : Rg} (h : CtR l gd gb gp gc gm R) (c : Ct) : CtR (l ++ [c]) gd gb gp gc gm { R with D := cutD R.D c.1 c.2 } := by
  obtain ⟨⟨a1, a2, a3, a4, a5, a6, a7, a8, a9, a10, a11, a12, a13, a14, a15, a16, a17, a18⟩, b2, b3, b4, b5, b6, b7⟩ := h
  have hs := few_snoc l c
  unfold cutD
  by_cases hc : c.1 < (R.D.ev : Int) ∨ R.D.set ≥ 64
  · rw [if_pos hc]
    have e : fewL (l ++ [c]) = fewL l := by rw [hs, fewS, if_neg (by rw [b7] at hc; omega)]
    exact ⟨⟨a1, a2, a3, a4, a5, a6, by rw [e]; exact a7, a8, a9, a10, a11, a12, a13, a14, a15, a16, a17, a18⟩, by rw [e]; exact b2, by simp; omega, b4, b5, b6, b7⟩
  · rw [if_neg hc]
    have e : fewL (l ++ [c]) = fewL l ++ [c] := by rw [hs, fewS, if_pos (by rw [b7] at hc; omega)]
    exact ⟨⟨a1, a2, a3, a4, a5, a6, by rw [e, ← cutF_upd, ← a7], a8, a9, a10, a11, a12, a13, a14, a15, a16, a17, a18⟩, by rw [e]; show R.D.set + 1 = _; rw [b2]; simp, by show R.D.n + 1 ≤ _; simp; omega, b4, b5, b6, b7⟩
end Go.Proofs.Ytnpnphcklmlchaa.Pl
