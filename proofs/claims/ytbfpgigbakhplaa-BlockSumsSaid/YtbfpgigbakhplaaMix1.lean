/- A round of the mix, walked. -/
import Derived.Test.YtbfpgigbakhplaaZr
import Derived.Test.YtbfpgigbakhplaaMixQ
import Derived.Test.YtbfpgigbakhplaaFl
set_option linter.unusedVariables false
set_option linter.unusedSimpArgs false
namespace Go.Proofs.Ytbfpgigbakhplaa.MixR
open Go.RowKit Go.Proofs.Ytbfpgigbakhplaa.Sx Go.Proofs.Ytbfpgigbakhplaa.Mx Go.Proofs.Ytbfpgigbakhplaa.Bw Go.Proofs.Ytbfpgigbakhplaa.By Go.Proofs.Ytbfpgigbakhplaa.Eqs Go.Proofs.Ytbfpgigbakhplaa.Qx Go.Proofs.Ytbfpgigbakhplaa.Ap Go.Proofs.Ytbfpgigbakhplaa.Mi Go.Proofs.Ytbfpgigbakhplaa.Stm Go.Proofs.Ytbfpgigbakhplaa.Fl Go.Proofs.Ytbfpgigbakhplaa.MixQ
attribute [local irreducible] Ow Cw Xw Mw
set_option maxHeartbeats 4000000
abbrev W4 := BitVec 32 × BitVec 32 × BitVec 32 × BitVec 32
abbrev Fn4 := BitVec 32 → BitVec 32 → BitVec 32 → BitVec 32 → W4
abbrev Stt := List (BitVec 32)
abbrev wC (s : Stt) : List Value := s.map u32
abbrev stV (s : Stt) : Value := .agg (wC s).toArray
def z16 : Stt := List.replicate 16 0
theorem z16_len : z16.length = 16 := by rw [z16, List.length_replicate]
theorem wC_one (s : Stt) : oneCells (wC s) = true := by
  simp only [oneCells, List.all_eq_true, List.mem_map]
  rintro x ⟨y, _, rfl⟩
  rfl
theorem getP (s : Stt) (hs : s.length = 16) (p : Nat) (hp : p < 16) : nth (wC s) (0 + (p : Int).toNat * 1) = some (u32 (s.getD p 0)) := by
  rw [nth_eq, show 0 + (p : Int).toNat * 1 = p from by simp, List.getElem?_map, List.getElem?_eq_getElem (by omega), List.getD_eq_getElem?_getD, List.getElem?_eq_getElem (by omega)]
  rfl
theorem setP (s : Stt) (hs : s.length = 16) (p : Nat) (hp : p < 16) (x : BitVec 32) : splice (wC s) (0 + (p : Int).toNat * 1) [u32 x] = wC (s.set p x) := by
  rw [show 0 + (p : Int).toNat * 1 = p from by simp]
  unfold splice
  rw [List.set_eq_take_append_cons_drop, if_pos (by omega)]
  simp [List.map_take, List.map_drop]
/-- Four places of a state, turned. -/
def put4 (s : Stt) (a b c d : Nat) (q : W4) : Stt := (((s.set a q.1).set b q.2.1).set c q.2.2.1).set d q.2.2.2
theorem put4_len (s : Stt) (a b c d : Nat) (q : W4) : (put4 s a b c d q).length = s.length := by simp [put4]
def at4 (F : Fn4) (s : Stt) (a b c d : Nat) : Stt := put4 s a b c d (F (s.getD a 0) (s.getD b 0) (s.getD c 0) (s.getD d 0))
theorem at4_len (F : Fn4) (s : Stt) (a b c d : Nat) : (at4 F s a b c d).length = s.length := put4_len _ _ _ _ _ _
/-- A column: the i-th, turned by t. -/
def col (F : Fn4) (t i : Nat) (s : Stt) : Stt := at4 F s i (4 + (i + t) % 4) (8 + (i + 2 * t) % 4) (12 + (i + 3 * t) % 4)
/-- The first i columns. -/
def rnd (F : Fn4) (t : Nat) (s : Stt) : Nat → Stt
  | 0 => s
  | i + 1 => col F t i (rnd F t s i)
theorem rnd_len (F : Fn4) (t : Nat) (s : Stt) : ∀ i, (rnd F t s i).length = s.length
  | 0 => rfl
  | i + 1 => by rw [rnd, col, at4_len, rnd_len F t s i]
/-- What is known of a function on four words. -/
structure Do4 (G : FuncId) (F : Fn4) : Prop where
  ex : ∃ fn body, Try.prog.funcs[G]? = some fn ∧ fn.body = some body ∧ (fn.name == "runtime.NumGoroutine") = false
  does : ∀ a b c d w, Does Try.prog G [u32 a, u32 b, u32 c, u32 d] w fun v w' => v = four (F a b c d) ∧ w = w'
theorem doQ : Do4 114 quarter := ⟨⟨_, _, Try.func114, rfl, rfl⟩, quarter_calls⟩
theorem doU : Do4 115 undo := ⟨⟨_, _, Try.func115, rfl, rfl⟩, undo_calls⟩
theorem tmod4 (x : Nat) : (x : Int).tmod 4 = ((x % 4 : Nat) : Int) := Int.ofNat_tmod x 4
theorem round_calls (s : Stt) (hs : s.length = 16) (odd : Bool) (G : FuncId) (F : Fn4) (hF : Do4 G F) (w0 : World) :
    Does Try.prog 113 [stV s, .bool odd, .func (.func G) #[] #[]] w0 fun v w' => v = stV (rnd F odd.toNat s 4) ∧ Kp No w0 w' := by
  have hw := St.start (w := w0) .nil
  obtain ⟨fn, body, hf, hb, hnm⟩ := hF.ex
  have hl : (wC s).length = 16 := by rw [List.length_map, hs]
  have ho := wC_one s
  have hz : (repC 16 [Value.int IntKind.u32 0]).length = 16 := rfl
  obtain ⟨t, ht, ht1⟩ : ∃ t, t = odd.toNat ∧ t ≤ 1 := ⟨_, rfl, by cases odd <;> decide⟩
  rw [← ht]
  refine fn_enter Try.func113 rfl Try.ntmps113 rfl ?_
  repeat (first | refine X.p1 ?_ | refine X.p2 ?_ | refine X.p6 ?_ | refine X.p7 ?_ | refine X.p0 ?_ | refine X.p3 ?_ | refine X.p4 ?_ | refine X.p5 ?_ | refine X.p8 ?_ | refine X.p9 ?_ | refine X.q1 ?_ | refine X.q2 ?_ | refine X.q3 ?_ | refine X.q4 ?_ | refine X.q5 ?_ | refine X.q6 ?_ | refine X.q7 ?_ | refine X.q8 ?_ | refine X.q9 ?_ | refine X.q0 ?_ | refine X.m1 ?_ | refine X.m2 ?_ | refine X.m3 ?_ | refine X.m4 ?_ | refine X.m5 ?_ | refine X.m6 ?_ | refine X.l11 ?_ | refine X.l1 ?_ | refine X.l2 ?_ | refine X.l3 ?_ | refine X.l4 ?_ | refine X.l5 ?_ | refine X.l10 ?_ | refine X.l6 ?_ | refine X.l7 ?_ | refine X.l8 ?_ | refine X.l9 ?_ | refine X.m7 ?_ | refine X.m8 ?_ | (refine X.s1 ?_; intro w hw) | (refine X.s2 ?_; intro w hw) | refine X.e1 ?_ | refine X.e2 ?_ | (simp only [X.df]) | (simp (disch := omega) only [wi]))
  (first | refine X.nb ?_ | refine X.na ?_); intro g1 w _ hw
  (first | refine X.nb ?_ | refine X.na ?_); intro g2 w _ hw
  repeat (first | refine X.p1 ?_ | refine X.p2 ?_ | refine X.p6 ?_ | refine X.p7 ?_ | refine X.p0 ?_ | refine X.p3 ?_ | refine X.p4 ?_ | refine X.p5 ?_ | refine X.p8 ?_ | refine X.p9 ?_ | refine X.q1 ?_ | refine X.q2 ?_ | refine X.q3 ?_ | refine X.q4 ?_ | refine X.q5 ?_ | refine X.q6 ?_ | refine X.q7 ?_ | refine X.q8 ?_ | refine X.q9 ?_ | refine X.q0 ?_ | refine X.m1 ?_ | refine X.m2 ?_ | refine X.m3 ?_ | refine X.m4 ?_ | refine X.m5 ?_ | refine X.m6 ?_ | refine X.l11 ?_ | refine X.l1 ?_ | refine X.l2 ?_ | refine X.l3 ?_ | refine X.l4 ?_ | refine X.l5 ?_ | refine X.l10 ?_ | refine X.l6 ?_ | refine X.l7 ?_ | refine X.l8 ?_ | refine X.l9 ?_ | refine X.m7 ?_ | refine X.m8 ?_ | (refine X.s1 ?_; intro w hw) | (refine X.s2 ?_; intro w hw) | refine X.e1 ?_ | refine X.e2 ?_ | (simp only [X.df]) | (simp (disch := omega) only [wi]))
  refine X.condB (fun h1 => ?_) (fun h1 => ?_)
  · have ht : t = 1 := by rw [ht, h1]; rfl
    repeat (first | refine X.p1 ?_ | refine X.p2 ?_ | refine X.p6 ?_ | refine X.p7 ?_ | refine X.p0 ?_ | refine X.p3 ?_ | refine X.p4 ?_ | refine X.p5 ?_ | refine X.p8 ?_ | refine X.p9 ?_ | refine X.q1 ?_ | refine X.q2 ?_ | refine X.q3 ?_ | refine X.q4 ?_ | refine X.q5 ?_ | refine X.q6 ?_ | refine X.q7 ?_ | refine X.q8 ?_ | refine X.q9 ?_ | refine X.q0 ?_ | refine X.m1 ?_ | refine X.m2 ?_ | refine X.m3 ?_ | refine X.m4 ?_ | refine X.m5 ?_ | refine X.m6 ?_ | refine X.l11 ?_ | refine X.l1 ?_ | refine X.l2 ?_ | refine X.l3 ?_ | refine X.l4 ?_ | refine X.l5 ?_ | refine X.l10 ?_ | refine X.l6 ?_ | refine X.l7 ?_ | refine X.l8 ?_ | refine X.l9 ?_ | refine X.m7 ?_ | refine X.m8 ?_ | (refine X.s1 ?_; intro w hw) | (refine X.s2 ?_; intro w hw) | refine X.e1 ?_ | refine X.e2 ?_ | (simp only [X.df]) | (simp (disch := omega) only [wi]))
    refine X.loop (fun i : Nat => [(2, .func (.func G) #[] #[]), (3, .pointer (some ⟨g1, 0, none⟩)), (6, .pointer (some ⟨g2, 0, none⟩)), (7, .int .i64 (t : Int)), (13, .int .i64 (i : Int))])
      (fun i w' => i ≤ 4 ∧ St w0 [] [blkI g2 180 (repC 16 [Value.int IntKind.u32 0]), blkI g1 180 (wC (rnd F t s i))] w') (fun i => 4 - i) 0 ⟨Nat.zero_le _, hw⟩ ?_ ⟨rfl, rfl, rfl, by rw [ht]; rfl, rfl, trivial⟩
    rintro i w ⟨hi, hw⟩
    repeat (first | refine X.p1 ?_ | refine X.p2 ?_ | refine X.p6 ?_ | refine X.p7 ?_ | refine X.p0 ?_ | refine X.p3 ?_ | refine X.p4 ?_ | refine X.p5 ?_ | refine X.p8 ?_ | refine X.p9 ?_ | refine X.q1 ?_ | refine X.q2 ?_ | refine X.q3 ?_ | refine X.q4 ?_ | refine X.q5 ?_ | refine X.q6 ?_ | refine X.q7 ?_ | refine X.q8 ?_ | refine X.q9 ?_ | refine X.q0 ?_ | refine X.m1 ?_ | refine X.m2 ?_ | refine X.m3 ?_ | refine X.m4 ?_ | refine X.m5 ?_ | refine X.m6 ?_ | refine X.l11 ?_ | refine X.l1 ?_ | refine X.l2 ?_ | refine X.l3 ?_ | refine X.l4 ?_ | refine X.l5 ?_ | refine X.l10 ?_ | refine X.l6 ?_ | refine X.l7 ?_ | refine X.l8 ?_ | refine X.l9 ?_ | refine X.m7 ?_ | refine X.m8 ?_ | (refine X.s1 ?_; intro w hw) | (refine X.s2 ?_; intro w hw) | refine X.e1 ?_ | refine X.e2 ?_ | (simp only [X.df]) | (simp (disch := omega) only [wi]))
    refine X.cond (fun hlt => ?_) (fun hge => ?_)
    · have hlt : i < 4 := by omega
      obtain ⟨p1, e1, b1⟩ : ∃ p, p = 4 + (i + t) % 4 ∧ p < 16 := ⟨_, rfl, by omega⟩
      obtain ⟨p2, e2, b2⟩ : ∃ p, p = 8 + (i + 2 * t) % 4 ∧ p < 16 := ⟨_, rfl, by omega⟩
      obtain ⟨p3, e3, b3⟩ : ∃ p, p = 12 + (i + 3 * t) % 4 ∧ p < 16 := ⟨_, rfl, by omega⟩
      have hcol : rnd F t s (i + 1) = at4 F (rnd F t s i) i p1 p2 p3 := by rw [e1, e2, e3]; rfl
      have hsl : (rnd F t s i).length = 16 := by rw [rnd_len, hs]
      obtain ⟨x, hx⟩ : ∃ x, x = rnd F t s i := ⟨_, rfl⟩
      rw [← hx] at hw hsl hcol
      have b0 : i < 16 := by omega
      have r0 := getP x hsl i b0
      have r1 := getP x hsl p1 b1
      have r2 := getP x hsl p2 b2
      have r3 := getP x hsl p3 b3
      repeat (first | refine X.p1 ?_ | refine X.p2 ?_ | refine X.p6 ?_ | refine X.p7 ?_ | refine X.p0 ?_ | refine X.p3 ?_ | refine X.p4 ?_ | refine X.p5 ?_ | refine X.p8 ?_ | refine X.p9 ?_ | refine X.q1 ?_ | refine X.q2 ?_ | refine X.q3 ?_ | refine X.q4 ?_ | refine X.q5 ?_ | refine X.q6 ?_ | refine X.q7 ?_ | refine X.q8 ?_ | refine X.q9 ?_ | refine X.q0 ?_ | refine X.m1 ?_ | refine X.m2 ?_ | refine X.m3 ?_ | refine X.m4 ?_ | refine X.m5 ?_ | refine X.m6 ?_ | refine X.l11 ?_ | refine X.l1 ?_ | refine X.l2 ?_ | refine X.l3 ?_ | refine X.l4 ?_ | refine X.l5 ?_ | refine X.l10 ?_ | refine X.l6 ?_ | refine X.l7 ?_ | refine X.l8 ?_ | refine X.l9 ?_ | refine X.m7 ?_ | refine X.m8 ?_ | (refine X.s1 ?_; intro w hw) | (refine X.s2 ?_; intro w hw) | refine X.e1 ?_ | refine X.e2 ?_ | (simp only [X.df]) | (simp (disch := omega) only [wi]))
      refine ow_rem (z := (((i + t) % 4 : Nat) : Int)) rfl rfl rfl (by decide) (tmod4 (i + t)) ?_
      repeat (first | refine X.p1 ?_ | refine X.p2 ?_ | refine X.p6 ?_ | refine X.p7 ?_ | refine X.p0 ?_ | refine X.p3 ?_ | refine X.p4 ?_ | refine X.p5 ?_ | refine X.p8 ?_ | refine X.p9 ?_ | refine X.q1 ?_ | refine X.q2 ?_ | refine X.q3 ?_ | refine X.q4 ?_ | refine X.q5 ?_ | refine X.q6 ?_ | refine X.q7 ?_ | refine X.q8 ?_ | refine X.q9 ?_ | refine X.q0 ?_ | refine X.m1 ?_ | refine X.m2 ?_ | refine X.m3 ?_ | refine X.m4 ?_ | refine X.m5 ?_ | refine X.m6 ?_ | refine X.l11 ?_ | refine X.l1 ?_ | refine X.l2 ?_ | refine X.l3 ?_ | refine X.l4 ?_ | refine X.l5 ?_ | refine X.l10 ?_ | refine X.l6 ?_ | refine X.l7 ?_ | refine X.l8 ?_ | refine X.l9 ?_ | refine X.m7 ?_ | refine X.m8 ?_ | (refine X.s1 ?_; intro w hw) | (refine X.s2 ?_; intro w hw) | refine X.e1 ?_ | refine X.e2 ?_ | (simp only [X.df]) | (simp (disch := omega) only [wi]))
      refine ow_rem (z := (((i + 2 * t) % 4 : Nat) : Int)) rfl rfl rfl (by decide) (tmod4 (i + 2 * t)) ?_
      repeat (first | refine X.p1 ?_ | refine X.p2 ?_ | refine X.p6 ?_ | refine X.p7 ?_ | refine X.p0 ?_ | refine X.p3 ?_ | refine X.p4 ?_ | refine X.p5 ?_ | refine X.p8 ?_ | refine X.p9 ?_ | refine X.q1 ?_ | refine X.q2 ?_ | refine X.q3 ?_ | refine X.q4 ?_ | refine X.q5 ?_ | refine X.q6 ?_ | refine X.q7 ?_ | refine X.q8 ?_ | refine X.q9 ?_ | refine X.q0 ?_ | refine X.m1 ?_ | refine X.m2 ?_ | refine X.m3 ?_ | refine X.m4 ?_ | refine X.m5 ?_ | refine X.m6 ?_ | refine X.l11 ?_ | refine X.l1 ?_ | refine X.l2 ?_ | refine X.l3 ?_ | refine X.l4 ?_ | refine X.l5 ?_ | refine X.l10 ?_ | refine X.l6 ?_ | refine X.l7 ?_ | refine X.l8 ?_ | refine X.l9 ?_ | refine X.m7 ?_ | refine X.m8 ?_ | (refine X.s1 ?_; intro w hw) | (refine X.s2 ?_; intro w hw) | refine X.e1 ?_ | refine X.e2 ?_ | (simp only [X.df]) | (simp (disch := omega) only [wi]))
      refine ow_rem (z := (((i + 3 * t) % 4 : Nat) : Int)) rfl rfl rfl (by decide) (tmod4 (i + 3 * t)) ?_
      repeat (first | refine X.p1 ?_ | refine X.p2 ?_ | refine X.p6 ?_ | refine X.p7 ?_ | refine X.p0 ?_ | refine X.p3 ?_ | refine X.p4 ?_ | refine X.p5 ?_ | refine X.p8 ?_ | refine X.p9 ?_ | refine X.q1 ?_ | refine X.q2 ?_ | refine X.q3 ?_ | refine X.q4 ?_ | refine X.q5 ?_ | refine X.q6 ?_ | refine X.q7 ?_ | refine X.q8 ?_ | refine X.q9 ?_ | refine X.q0 ?_ | refine X.m1 ?_ | refine X.m2 ?_ | refine X.m3 ?_ | refine X.m4 ?_ | refine X.m5 ?_ | refine X.m6 ?_ | refine X.l11 ?_ | refine X.l1 ?_ | refine X.l2 ?_ | refine X.l3 ?_ | refine X.l4 ?_ | refine X.l5 ?_ | refine X.l10 ?_ | refine X.l6 ?_ | refine X.l7 ?_ | refine X.l8 ?_ | refine X.l9 ?_ | refine X.m7 ?_ | refine X.m8 ?_ | (refine X.s1 ?_; intro w hw) | (refine X.s2 ?_; intro w hw) | refine X.e1 ?_ | refine X.e2 ?_ | (simp only [X.df]) | (simp (disch := omega) only [wi]))
      rw [show (4 : Int) + (((i + t) % 4 : Nat) : Int) = (p1 : Int) from by omega, show (8 : Int) + (((i + 2 * t) % 4 : Nat) : Int) = (p2 : Int) from by omega, show (12 : Int) + (((i + 3 * t) % 4 : Nat) : Int) = (p3 : Int) from by omega]
      refine X.mix [0, 1, 2, 3, 4, 5, 6, 7, 8, 9, 10, 11, 12, 13, 14, 15, 16, 17, 18, 19, 20, 21, 22, 23, 24, 25, 26, 27, 28, 29, 30] [] hw fun w hk hw => ?_
      repeat (first | refine X.r1 ?_ | refine X.r2 ?_ | refine X.r4 ?_ | refine X.r3 ?_ | refine X.rm1 ?_ | refine X.rm2 ?_ | refine X.rm3 ?_ | refine X.rm4 ?_ | refine X.rm5 ?_ | refine X.rl11 ?_ | refine X.rl1 ?_ | refine X.rl2 ?_ | refine X.rl3 ?_ | refine X.rl5 ?_ | refine X.rl6 ?_ | refine X.rm8 ?_ | refine X.re1 ?_ | refine X.re2 ?_ | (simp only [X.df]) | (simp (disch := omega) only [wi]))
      refine X.act ?_; refine X.call rfl rfl hf (hF.does _ _ _ _ _) ?_ hb hnm
      rintro _ w ⟨rfl, rfl⟩
      refine mid_a hk ?_
      obtain ⟨q, hq⟩ : ∃ q, q = F (x.getD i 0) (x.getD p1 0) (x.getD p2 0) (x.getD p3 0) := ⟨_, rfl⟩
      rw [← hq]
      have s0 := setP x hsl i b0 q.1
      have s1 := setP (x.set i q.1) (by simp [hsl]) p1 b1 q.2.1
      have s2 := setP ((x.set i q.1).set p1 q.2.1) (by simp [hsl]) p2 b2 q.2.2.1
      have s3 := setP (((x.set i q.1).set p1 q.2.1).set p2 q.2.2.1) (by simp [hsl]) p3 b3 q.2.2.2
      repeat (first | refine X.r1 ?_ | refine X.r2 ?_ | refine X.r4 ?_ | refine X.r3 ?_ | refine X.rm1 ?_ | refine X.rm2 ?_ | refine X.rm3 ?_ | refine X.rm4 ?_ | refine X.rm5 ?_ | refine X.rl11 ?_ | refine X.rl1 ?_ | refine X.rl2 ?_ | refine X.rl3 ?_ | refine X.rl5 ?_ | refine X.rl6 ?_ | refine X.rm8 ?_ | refine X.re1 ?_ | refine X.re2 ?_ | (simp only [X.df]) | (simp (disch := omega) only [wi]))
      refine X.sto ?_; (first | (refine X.s1 ?_; intro w hw) | (refine X.s2 ?_; intro w hw)); refine mid_s ?_; have hk := Kp.refl (S := No) (w := w)
      repeat (first | refine X.r1 ?_ | refine X.r2 ?_ | refine X.r4 ?_ | refine X.r3 ?_ | refine X.rm1 ?_ | refine X.rm2 ?_ | refine X.rm3 ?_ | refine X.rm4 ?_ | refine X.rm5 ?_ | refine X.rl11 ?_ | refine X.rl1 ?_ | refine X.rl2 ?_ | refine X.rl3 ?_ | refine X.rl5 ?_ | refine X.rl6 ?_ | refine X.rm8 ?_ | refine X.re1 ?_ | refine X.re2 ?_ | (simp only [X.df]) | (simp (disch := omega) only [wi]))
      refine X.sto ?_; (first | (refine X.s1 ?_; intro w hw) | (refine X.s2 ?_; intro w hw)); refine mid_s ?_; have hk := Kp.refl (S := No) (w := w)
      repeat (first | refine X.r1 ?_ | refine X.r2 ?_ | refine X.r4 ?_ | refine X.r3 ?_ | refine X.rm1 ?_ | refine X.rm2 ?_ | refine X.rm3 ?_ | refine X.rm4 ?_ | refine X.rm5 ?_ | refine X.rl11 ?_ | refine X.rl1 ?_ | refine X.rl2 ?_ | refine X.rl3 ?_ | refine X.rl5 ?_ | refine X.rl6 ?_ | refine X.rm8 ?_ | refine X.re1 ?_ | refine X.re2 ?_ | (simp only [X.df]) | (simp (disch := omega) only [wi]))
      refine X.sto ?_; (first | (refine X.s1 ?_; intro w hw) | (refine X.s2 ?_; intro w hw)); refine mid_s ?_; have hk := Kp.refl (S := No) (w := w)
      repeat (first | refine X.r1 ?_ | refine X.r2 ?_ | refine X.r4 ?_ | refine X.r3 ?_ | refine X.rm1 ?_ | refine X.rm2 ?_ | refine X.rm3 ?_ | refine X.rm4 ?_ | refine X.rm5 ?_ | refine X.rl11 ?_ | refine X.rl1 ?_ | refine X.rl2 ?_ | refine X.rl3 ?_ | refine X.rl5 ?_ | refine X.rl6 ?_ | refine X.rm8 ?_ | refine X.re1 ?_ | refine X.re2 ?_ | (simp only [X.df]) | (simp (disch := omega) only [wi]))
      refine X.sto ?_; (first | (refine X.s1 ?_; intro w hw) | (refine X.s2 ?_; intro w hw)); refine mid_s ?_; have hk := Kp.refl (S := No) (w := w)
      repeat (first | refine X.r1 ?_ | refine X.r2 ?_ | refine X.r4 ?_ | refine X.r3 ?_ | refine X.rm1 ?_ | refine X.rm2 ?_ | refine X.rm3 ?_ | refine X.rm4 ?_ | refine X.rm5 ?_ | refine X.rl11 ?_ | refine X.rl1 ?_ | refine X.rl2 ?_ | refine X.rl3 ?_ | refine X.rl5 ?_ | refine X.rl6 ?_ | refine X.rm8 ?_ | refine X.re1 ?_ | refine X.re2 ?_ | (simp only [X.df]) | (simp (disch := omega) only [wi]))
      repeat (first | refine X.p1 ?_ | refine X.p2 ?_ | refine X.p6 ?_ | refine X.p7 ?_ | refine X.p0 ?_ | refine X.p3 ?_ | refine X.p4 ?_ | refine X.p5 ?_ | refine X.p8 ?_ | refine X.p9 ?_ | refine X.q1 ?_ | refine X.q2 ?_ | refine X.q3 ?_ | refine X.q4 ?_ | refine X.q5 ?_ | refine X.q6 ?_ | refine X.q7 ?_ | refine X.q8 ?_ | refine X.q9 ?_ | refine X.q0 ?_ | refine X.m1 ?_ | refine X.m2 ?_ | refine X.m3 ?_ | refine X.m4 ?_ | refine X.m5 ?_ | refine X.m6 ?_ | refine X.l11 ?_ | refine X.l1 ?_ | refine X.l2 ?_ | refine X.l3 ?_ | refine X.l4 ?_ | refine X.l5 ?_ | refine X.l10 ?_ | refine X.l6 ?_ | refine X.l7 ?_ | refine X.l8 ?_ | refine X.l9 ?_ | refine X.m7 ?_ | refine X.m8 ?_ | (refine X.s1 ?_; intro w hw) | (refine X.s2 ?_; intro w hw) | refine X.e1 ?_ | refine X.e2 ?_ | (simp only [X.df]) | (simp (disch := omega) only [wi]))
      have hfin : (((x.set i q.1).set p1 q.2.1).set p2 q.2.2.1).set p3 q.2.2.2 = rnd F t s (i + 1) := by rw [hcol, at4, hq]; rfl
      rw [hfin] at hw
      exact X.again (i + 1) ⟨by omega, hw⟩ (by omega)
    · have hge : i = 4 := by omega
      subst hge
      have hrl : (wC (rnd F t s 4)).length = 16 := by rw [List.length_map, rnd_len, hs]
      have hro := wC_one (rnd F t s 4)
      repeat (first | refine X.p1 ?_ | refine X.p2 ?_ | refine X.p6 ?_ | refine X.p7 ?_ | refine X.p0 ?_ | refine X.p3 ?_ | refine X.p4 ?_ | refine X.p5 ?_ | refine X.p8 ?_ | refine X.p9 ?_ | refine X.q1 ?_ | refine X.q2 ?_ | refine X.q3 ?_ | refine X.q4 ?_ | refine X.q5 ?_ | refine X.q6 ?_ | refine X.q7 ?_ | refine X.q8 ?_ | refine X.q9 ?_ | refine X.q0 ?_ | refine X.m1 ?_ | refine X.m2 ?_ | refine X.m3 ?_ | refine X.m4 ?_ | refine X.m5 ?_ | refine X.m6 ?_ | refine X.l11 ?_ | refine X.l1 ?_ | refine X.l2 ?_ | refine X.l3 ?_ | refine X.l4 ?_ | refine X.l5 ?_ | refine X.l10 ?_ | refine X.l6 ?_ | refine X.l7 ?_ | refine X.l8 ?_ | refine X.l9 ?_ | refine X.m7 ?_ | refine X.m8 ?_ | (refine X.s1 ?_; intro w hw) | (refine X.s2 ?_; intro w hw) | refine X.e1 ?_ | refine X.e2 ?_ | (simp only [X.df]) | (simp (disch := omega) only [wi]))
      exact xw_ret (vs := [_]) Try.results113 ⟨⟨_, rfl, cellA tab (g := g2) hw (by (repeat (first | (with_reducible exact Pick.here) | (with_reducible exact Put.here) | (with_reducible apply Pick.there) | (with_reducible apply Put.there)))) Try.underlying180 rfl rfl hrl⟩, trivial⟩ ⟨rfl, hw.kpNo ro_nil⟩
  · have ht : t = 0 := by rw [ht, h1]; rfl
    repeat (first | refine X.p1 ?_ | refine X.p2 ?_ | refine X.p6 ?_ | refine X.p7 ?_ | refine X.p0 ?_ | refine X.p3 ?_ | refine X.p4 ?_ | refine X.p5 ?_ | refine X.p8 ?_ | refine X.p9 ?_ | refine X.q1 ?_ | refine X.q2 ?_ | refine X.q3 ?_ | refine X.q4 ?_ | refine X.q5 ?_ | refine X.q6 ?_ | refine X.q7 ?_ | refine X.q8 ?_ | refine X.q9 ?_ | refine X.q0 ?_ | refine X.m1 ?_ | refine X.m2 ?_ | refine X.m3 ?_ | refine X.m4 ?_ | refine X.m5 ?_ | refine X.m6 ?_ | refine X.l11 ?_ | refine X.l1 ?_ | refine X.l2 ?_ | refine X.l3 ?_ | refine X.l4 ?_ | refine X.l5 ?_ | refine X.l10 ?_ | refine X.l6 ?_ | refine X.l7 ?_ | refine X.l8 ?_ | refine X.l9 ?_ | refine X.m7 ?_ | refine X.m8 ?_ | (refine X.s1 ?_; intro w hw) | (refine X.s2 ?_; intro w hw) | refine X.e1 ?_ | refine X.e2 ?_ | (simp only [X.df]) | (simp (disch := omega) only [wi]))
    refine X.loop (fun i : Nat => [(2, .func (.func G) #[] #[]), (3, .pointer (some ⟨g1, 0, none⟩)), (6, .pointer (some ⟨g2, 0, none⟩)), (7, .int .i64 (t : Int)), (13, .int .i64 (i : Int))])
      (fun i w' => i ≤ 4 ∧ St w0 [] [blkI g2 180 (repC 16 [Value.int IntKind.u32 0]), blkI g1 180 (wC (rnd F t s i))] w') (fun i => 4 - i) 0 ⟨Nat.zero_le _, hw⟩ ?_ ⟨rfl, rfl, rfl, by rw [ht]; rfl, rfl, trivial⟩
    rintro i w ⟨hi, hw⟩
    repeat (first | refine X.p1 ?_ | refine X.p2 ?_ | refine X.p6 ?_ | refine X.p7 ?_ | refine X.p0 ?_ | refine X.p3 ?_ | refine X.p4 ?_ | refine X.p5 ?_ | refine X.p8 ?_ | refine X.p9 ?_ | refine X.q1 ?_ | refine X.q2 ?_ | refine X.q3 ?_ | refine X.q4 ?_ | refine X.q5 ?_ | refine X.q6 ?_ | refine X.q7 ?_ | refine X.q8 ?_ | refine X.q9 ?_ | refine X.q0 ?_ | refine X.m1 ?_ | refine X.m2 ?_ | refine X.m3 ?_ | refine X.m4 ?_ | refine X.m5 ?_ | refine X.m6 ?_ | refine X.l11 ?_ | refine X.l1 ?_ | refine X.l2 ?_ | refine X.l3 ?_ | refine X.l4 ?_ | refine X.l5 ?_ | refine X.l10 ?_ | refine X.l6 ?_ | refine X.l7 ?_ | refine X.l8 ?_ | refine X.l9 ?_ | refine X.m7 ?_ | refine X.m8 ?_ | (refine X.s1 ?_; intro w hw) | (refine X.s2 ?_; intro w hw) | refine X.e1 ?_ | refine X.e2 ?_ | (simp only [X.df]) | (simp (disch := omega) only [wi]))
    refine X.cond (fun hlt => ?_) (fun hge => ?_)
    · have hlt : i < 4 := by omega
      obtain ⟨p1, e1, b1⟩ : ∃ p, p = 4 + (i + t) % 4 ∧ p < 16 := ⟨_, rfl, by omega⟩
      obtain ⟨p2, e2, b2⟩ : ∃ p, p = 8 + (i + 2 * t) % 4 ∧ p < 16 := ⟨_, rfl, by omega⟩
      obtain ⟨p3, e3, b3⟩ : ∃ p, p = 12 + (i + 3 * t) % 4 ∧ p < 16 := ⟨_, rfl, by omega⟩
      have hcol : rnd F t s (i + 1) = at4 F (rnd F t s i) i p1 p2 p3 := by rw [e1, e2, e3]; rfl
      have hsl : (rnd F t s i).length = 16 := by rw [rnd_len, hs]
      obtain ⟨x, hx⟩ : ∃ x, x = rnd F t s i := ⟨_, rfl⟩
      rw [← hx] at hw hsl hcol
      have b0 : i < 16 := by omega
      have r0 := getP x hsl i b0
      have r1 := getP x hsl p1 b1
      have r2 := getP x hsl p2 b2
      have r3 := getP x hsl p3 b3
      repeat (first | refine X.p1 ?_ | refine X.p2 ?_ | refine X.p6 ?_ | refine X.p7 ?_ | refine X.p0 ?_ | refine X.p3 ?_ | refine X.p4 ?_ | refine X.p5 ?_ | refine X.p8 ?_ | refine X.p9 ?_ | refine X.q1 ?_ | refine X.q2 ?_ | refine X.q3 ?_ | refine X.q4 ?_ | refine X.q5 ?_ | refine X.q6 ?_ | refine X.q7 ?_ | refine X.q8 ?_ | refine X.q9 ?_ | refine X.q0 ?_ | refine X.m1 ?_ | refine X.m2 ?_ | refine X.m3 ?_ | refine X.m4 ?_ | refine X.m5 ?_ | refine X.m6 ?_ | refine X.l11 ?_ | refine X.l1 ?_ | refine X.l2 ?_ | refine X.l3 ?_ | refine X.l4 ?_ | refine X.l5 ?_ | refine X.l10 ?_ | refine X.l6 ?_ | refine X.l7 ?_ | refine X.l8 ?_ | refine X.l9 ?_ | refine X.m7 ?_ | refine X.m8 ?_ | (refine X.s1 ?_; intro w hw) | (refine X.s2 ?_; intro w hw) | refine X.e1 ?_ | refine X.e2 ?_ | (simp only [X.df]) | (simp (disch := omega) only [wi]))
      refine ow_rem (z := (((i + t) % 4 : Nat) : Int)) rfl rfl rfl (by decide) (tmod4 (i + t)) ?_
      repeat (first | refine X.p1 ?_ | refine X.p2 ?_ | refine X.p6 ?_ | refine X.p7 ?_ | refine X.p0 ?_ | refine X.p3 ?_ | refine X.p4 ?_ | refine X.p5 ?_ | refine X.p8 ?_ | refine X.p9 ?_ | refine X.q1 ?_ | refine X.q2 ?_ | refine X.q3 ?_ | refine X.q4 ?_ | refine X.q5 ?_ | refine X.q6 ?_ | refine X.q7 ?_ | refine X.q8 ?_ | refine X.q9 ?_ | refine X.q0 ?_ | refine X.m1 ?_ | refine X.m2 ?_ | refine X.m3 ?_ | refine X.m4 ?_ | refine X.m5 ?_ | refine X.m6 ?_ | refine X.l11 ?_ | refine X.l1 ?_ | refine X.l2 ?_ | refine X.l3 ?_ | refine X.l4 ?_ | refine X.l5 ?_ | refine X.l10 ?_ | refine X.l6 ?_ | refine X.l7 ?_ | refine X.l8 ?_ | refine X.l9 ?_ | refine X.m7 ?_ | refine X.m8 ?_ | (refine X.s1 ?_; intro w hw) | (refine X.s2 ?_; intro w hw) | refine X.e1 ?_ | refine X.e2 ?_ | (simp only [X.df]) | (simp (disch := omega) only [wi]))
      refine ow_rem (z := (((i + 2 * t) % 4 : Nat) : Int)) rfl rfl rfl (by decide) (tmod4 (i + 2 * t)) ?_
      repeat (first | refine X.p1 ?_ | refine X.p2 ?_ | refine X.p6 ?_ | refine X.p7 ?_ | refine X.p0 ?_ | refine X.p3 ?_ | refine X.p4 ?_ | refine X.p5 ?_ | refine X.p8 ?_ | refine X.p9 ?_ | refine X.q1 ?_ | refine X.q2 ?_ | refine X.q3 ?_ | refine X.q4 ?_ | refine X.q5 ?_ | refine X.q6 ?_ | refine X.q7 ?_ | refine X.q8 ?_ | refine X.q9 ?_ | refine X.q0 ?_ | refine X.m1 ?_ | refine X.m2 ?_ | refine X.m3 ?_ | refine X.m4 ?_ | refine X.m5 ?_ | refine X.m6 ?_ | refine X.l11 ?_ | refine X.l1 ?_ | refine X.l2 ?_ | refine X.l3 ?_ | refine X.l4 ?_ | refine X.l5 ?_ | refine X.l10 ?_ | refine X.l6 ?_ | refine X.l7 ?_ | refine X.l8 ?_ | refine X.l9 ?_ | refine X.m7 ?_ | refine X.m8 ?_ | (refine X.s1 ?_; intro w hw) | (refine X.s2 ?_; intro w hw) | refine X.e1 ?_ | refine X.e2 ?_ | (simp only [X.df]) | (simp (disch := omega) only [wi]))
      refine ow_rem (z := (((i + 3 * t) % 4 : Nat) : Int)) rfl rfl rfl (by decide) (tmod4 (i + 3 * t)) ?_
      repeat (first | refine X.p1 ?_ | refine X.p2 ?_ | refine X.p6 ?_ | refine X.p7 ?_ | refine X.p0 ?_ | refine X.p3 ?_ | refine X.p4 ?_ | refine X.p5 ?_ | refine X.p8 ?_ | refine X.p9 ?_ | refine X.q1 ?_ | refine X.q2 ?_ | refine X.q3 ?_ | refine X.q4 ?_ | refine X.q5 ?_ | refine X.q6 ?_ | refine X.q7 ?_ | refine X.q8 ?_ | refine X.q9 ?_ | refine X.q0 ?_ | refine X.m1 ?_ | refine X.m2 ?_ | refine X.m3 ?_ | refine X.m4 ?_ | refine X.m5 ?_ | refine X.m6 ?_ | refine X.l11 ?_ | refine X.l1 ?_ | refine X.l2 ?_ | refine X.l3 ?_ | refine X.l4 ?_ | refine X.l5 ?_ | refine X.l10 ?_ | refine X.l6 ?_ | refine X.l7 ?_ | refine X.l8 ?_ | refine X.l9 ?_ | refine X.m7 ?_ | refine X.m8 ?_ | (refine X.s1 ?_; intro w hw) | (refine X.s2 ?_; intro w hw) | refine X.e1 ?_ | refine X.e2 ?_ | (simp only [X.df]) | (simp (disch := omega) only [wi]))
      rw [show (4 : Int) + (((i + t) % 4 : Nat) : Int) = (p1 : Int) from by omega, show (8 : Int) + (((i + 2 * t) % 4 : Nat) : Int) = (p2 : Int) from by omega, show (12 : Int) + (((i + 3 * t) % 4 : Nat) : Int) = (p3 : Int) from by omega]
      refine X.mix [0, 1, 2, 3, 4, 5, 6, 7, 8, 9, 10, 11, 12, 13, 14, 15, 16, 17, 18, 19, 20, 21, 22, 23, 24, 25, 26, 27, 28, 29, 30] [] hw fun w hk hw => ?_
      repeat (first | refine X.r1 ?_ | refine X.r2 ?_ | refine X.r4 ?_ | refine X.r3 ?_ | refine X.rm1 ?_ | refine X.rm2 ?_ | refine X.rm3 ?_ | refine X.rm4 ?_ | refine X.rm5 ?_ | refine X.rl11 ?_ | refine X.rl1 ?_ | refine X.rl2 ?_ | refine X.rl3 ?_ | refine X.rl5 ?_ | refine X.rl6 ?_ | refine X.rm8 ?_ | refine X.re1 ?_ | refine X.re2 ?_ | (simp only [X.df]) | (simp (disch := omega) only [wi]))
      refine X.act ?_; refine X.call rfl rfl hf (hF.does _ _ _ _ _) ?_ hb hnm
      rintro _ w ⟨rfl, rfl⟩
      refine mid_a hk ?_
      obtain ⟨q, hq⟩ : ∃ q, q = F (x.getD i 0) (x.getD p1 0) (x.getD p2 0) (x.getD p3 0) := ⟨_, rfl⟩
      rw [← hq]
      have s0 := setP x hsl i b0 q.1
      have s1 := setP (x.set i q.1) (by simp [hsl]) p1 b1 q.2.1
      have s2 := setP ((x.set i q.1).set p1 q.2.1) (by simp [hsl]) p2 b2 q.2.2.1
      have s3 := setP (((x.set i q.1).set p1 q.2.1).set p2 q.2.2.1) (by simp [hsl]) p3 b3 q.2.2.2
      repeat (first | refine X.r1 ?_ | refine X.r2 ?_ | refine X.r4 ?_ | refine X.r3 ?_ | refine X.rm1 ?_ | refine X.rm2 ?_ | refine X.rm3 ?_ | refine X.rm4 ?_ | refine X.rm5 ?_ | refine X.rl11 ?_ | refine X.rl1 ?_ | refine X.rl2 ?_ | refine X.rl3 ?_ | refine X.rl5 ?_ | refine X.rl6 ?_ | refine X.rm8 ?_ | refine X.re1 ?_ | refine X.re2 ?_ | (simp only [X.df]) | (simp (disch := omega) only [wi]))
      refine X.sto ?_; (first | (refine X.s1 ?_; intro w hw) | (refine X.s2 ?_; intro w hw)); refine mid_s ?_; have hk := Kp.refl (S := No) (w := w)
      repeat (first | refine X.r1 ?_ | refine X.r2 ?_ | refine X.r4 ?_ | refine X.r3 ?_ | refine X.rm1 ?_ | refine X.rm2 ?_ | refine X.rm3 ?_ | refine X.rm4 ?_ | refine X.rm5 ?_ | refine X.rl11 ?_ | refine X.rl1 ?_ | refine X.rl2 ?_ | refine X.rl3 ?_ | refine X.rl5 ?_ | refine X.rl6 ?_ | refine X.rm8 ?_ | refine X.re1 ?_ | refine X.re2 ?_ | (simp only [X.df]) | (simp (disch := omega) only [wi]))
      refine X.sto ?_; (first | (refine X.s1 ?_; intro w hw) | (refine X.s2 ?_; intro w hw)); refine mid_s ?_; have hk := Kp.refl (S := No) (w := w)
      repeat (first | refine X.r1 ?_ | refine X.r2 ?_ | refine X.r4 ?_ | refine X.r3 ?_ | refine X.rm1 ?_ | refine X.rm2 ?_ | refine X.rm3 ?_ | refine X.rm4 ?_ | refine X.rm5 ?_ | refine X.rl11 ?_ | refine X.rl1 ?_ | refine X.rl2 ?_ | refine X.rl3 ?_ | refine X.rl5 ?_ | refine X.rl6 ?_ | refine X.rm8 ?_ | refine X.re1 ?_ | refine X.re2 ?_ | (simp only [X.df]) | (simp (disch := omega) only [wi]))
      refine X.sto ?_; (first | (refine X.s1 ?_; intro w hw) | (refine X.s2 ?_; intro w hw)); refine mid_s ?_; have hk := Kp.refl (S := No) (w := w)
      repeat (first | refine X.r1 ?_ | refine X.r2 ?_ | refine X.r4 ?_ | refine X.r3 ?_ | refine X.rm1 ?_ | refine X.rm2 ?_ | refine X.rm3 ?_ | refine X.rm4 ?_ | refine X.rm5 ?_ | refine X.rl11 ?_ | refine X.rl1 ?_ | refine X.rl2 ?_ | refine X.rl3 ?_ | refine X.rl5 ?_ | refine X.rl6 ?_ | refine X.rm8 ?_ | refine X.re1 ?_ | refine X.re2 ?_ | (simp only [X.df]) | (simp (disch := omega) only [wi]))
      refine X.sto ?_; (first | (refine X.s1 ?_; intro w hw) | (refine X.s2 ?_; intro w hw)); refine mid_s ?_; have hk := Kp.refl (S := No) (w := w)
      repeat (first | refine X.r1 ?_ | refine X.r2 ?_ | refine X.r4 ?_ | refine X.r3 ?_ | refine X.rm1 ?_ | refine X.rm2 ?_ | refine X.rm3 ?_ | refine X.rm4 ?_ | refine X.rm5 ?_ | refine X.rl11 ?_ | refine X.rl1 ?_ | refine X.rl2 ?_ | refine X.rl3 ?_ | refine X.rl5 ?_ | refine X.rl6 ?_ | refine X.rm8 ?_ | refine X.re1 ?_ | refine X.re2 ?_ | (simp only [X.df]) | (simp (disch := omega) only [wi]))
      repeat (first | refine X.p1 ?_ | refine X.p2 ?_ | refine X.p6 ?_ | refine X.p7 ?_ | refine X.p0 ?_ | refine X.p3 ?_ | refine X.p4 ?_ | refine X.p5 ?_ | refine X.p8 ?_ | refine X.p9 ?_ | refine X.q1 ?_ | refine X.q2 ?_ | refine X.q3 ?_ | refine X.q4 ?_ | refine X.q5 ?_ | refine X.q6 ?_ | refine X.q7 ?_ | refine X.q8 ?_ | refine X.q9 ?_ | refine X.q0 ?_ | refine X.m1 ?_ | refine X.m2 ?_ | refine X.m3 ?_ | refine X.m4 ?_ | refine X.m5 ?_ | refine X.m6 ?_ | refine X.l11 ?_ | refine X.l1 ?_ | refine X.l2 ?_ | refine X.l3 ?_ | refine X.l4 ?_ | refine X.l5 ?_ | refine X.l10 ?_ | refine X.l6 ?_ | refine X.l7 ?_ | refine X.l8 ?_ | refine X.l9 ?_ | refine X.m7 ?_ | refine X.m8 ?_ | (refine X.s1 ?_; intro w hw) | (refine X.s2 ?_; intro w hw) | refine X.e1 ?_ | refine X.e2 ?_ | (simp only [X.df]) | (simp (disch := omega) only [wi]))
      have hfin : (((x.set i q.1).set p1 q.2.1).set p2 q.2.2.1).set p3 q.2.2.2 = rnd F t s (i + 1) := by rw [hcol, at4, hq]; rfl
      rw [hfin] at hw
      exact X.again (i + 1) ⟨by omega, hw⟩ (by omega)
    · have hge : i = 4 := by omega
      subst hge
      have hrl : (wC (rnd F t s 4)).length = 16 := by rw [List.length_map, rnd_len, hs]
      have hro := wC_one (rnd F t s 4)
      repeat (first | refine X.p1 ?_ | refine X.p2 ?_ | refine X.p6 ?_ | refine X.p7 ?_ | refine X.p0 ?_ | refine X.p3 ?_ | refine X.p4 ?_ | refine X.p5 ?_ | refine X.p8 ?_ | refine X.p9 ?_ | refine X.q1 ?_ | refine X.q2 ?_ | refine X.q3 ?_ | refine X.q4 ?_ | refine X.q5 ?_ | refine X.q6 ?_ | refine X.q7 ?_ | refine X.q8 ?_ | refine X.q9 ?_ | refine X.q0 ?_ | refine X.m1 ?_ | refine X.m2 ?_ | refine X.m3 ?_ | refine X.m4 ?_ | refine X.m5 ?_ | refine X.m6 ?_ | refine X.l11 ?_ | refine X.l1 ?_ | refine X.l2 ?_ | refine X.l3 ?_ | refine X.l4 ?_ | refine X.l5 ?_ | refine X.l10 ?_ | refine X.l6 ?_ | refine X.l7 ?_ | refine X.l8 ?_ | refine X.l9 ?_ | refine X.m7 ?_ | refine X.m8 ?_ | (refine X.s1 ?_; intro w hw) | (refine X.s2 ?_; intro w hw) | refine X.e1 ?_ | refine X.e2 ?_ | (simp only [X.df]) | (simp (disch := omega) only [wi]))
      exact xw_ret (vs := [_]) Try.results113 ⟨⟨_, rfl, cellA tab (g := g2) hw (by (repeat (first | (with_reducible exact Pick.here) | (with_reducible exact Put.here) | (with_reducible apply Pick.there) | (with_reducible apply Put.there)))) Try.underlying180 rfl rfl hrl⟩, trivial⟩ ⟨rfl, hw.kpNo ro_nil⟩
end Go.Proofs.Ytbfpgigbakhplaa.MixR
