/- A root read back; the law SuperBack. -/
import Derived.Test.YtbgjhmdedillhaaSupC
set_option linter.unusedVariables false
set_option linter.unusedSimpArgs false
namespace Go.Proofs.Ytbgjhmdedillhaa.Sup
open Go.RowKit Go.Proofs.Ytbgjhmdedillhaa.Sx Go.Proofs.Ytbgjhmdedillhaa.Mx Go.Proofs.Ytbgjhmdedillhaa.Bw Go.Proofs.Ytbgjhmdedillhaa.By Go.Proofs.Ytbgjhmdedillhaa.Eqs Go.Proofs.Ytbgjhmdedillhaa.Qx Go.Proofs.Ytbgjhmdedillhaa.Ap Go.Proofs.Ytbgjhmdedillhaa.Mi Go.Proofs.Ytbgjhmdedillhaa.Stm Go.Proofs.Ytbgjhmdedillhaa.Fl Go.Proofs.Ytbgjhmdedillhaa.TrW Go.Proofs.Ytbgjhmdedillhaa.Ino Go.Proofs.Ytbgjhmdedillhaa.Nd Go.Proofs.Ytbgjhmdedillhaa.Bd Go.Proofs.Ytbgjhmdedillhaa.Wd Go.Proofs.Ytbgjhmdedillhaa.Num
attribute [local irreducible] Ow Cw Xw Mw
set_option maxHeartbeats 4000000
theorem cutL {s A B C : List Byte} {k n : Nat} (h : s = A ++ (B ++ C)) (hA : A.length = k) (hB : B.length = n) : (s.drop k).take n = B := by
  subst h; subst hA; subst hB
  rw [List.drop_left, List.take_left]
theorem val4 (n : Int) (h0 : 0 ≤ n) (h1 : n < 4294967296) : ((valB (le4 n)).toNat : Int) = n := by
  obtain ⟨m, rfl⟩ : ∃ m : Nat, n = m := ⟨n.toNat, by omega⟩
  rw [le4, valB_eq, leV_leB _ 4 (by decide), BitVec.ofInt_natCast, BitVec.toNat_ofNat, BitVec.toNat_ofNat]
  omega
theorem val8 (n : BitVec 64) : valB (leB n 8) = n := by
  apply BitVec.eq_of_toNat_eq
  rw [valB_eq, leV_leB _ 8 (by decide), BitVec.toNat_ofNat]
  have := n.isLt
  omega
theorem valA (a : BitVec 32) : (valB (leB (a.setWidth 64) 4)).setWidth 32 = a := by
  apply BitVec.eq_of_toNat_eq
  rw [valB_eq, leV_leB _ 4 (by decide), BitVec.toNat_setWidth, BitVec.toNat_ofNat, BitVec.toNat_setWidth]
  have := a.isLt
  omega
theorem raw_back (x : Sp) (hx : OkS x) (h : SupOk x) : rawP (padB (supT x)) = x := by
  obtain ⟨⟨p1, p2⟩, ⟨p3, p4⟩, ⟨p5, p6⟩, ⟨p7, p8⟩, ⟨p9, p10⟩⟩ := h.bds
  obtain ⟨bl, ct, th, ⟨ta, tsum⟩, ino, mh, ⟨ma, msum⟩, us⟩ := x
  obtain ⟨ht, hm⟩ := hx
  simp only at p1 p2 p3 p4 p5 p6 p7 p8 p9 p10
  have ht2 : tsum.length = 32 := ht
  have hm2 : msum.length = 32 := hm
  generalize hZ : zb (256 - (supT ⟨bl, ct, th, (ta, tsum), ino, mh, (ma, msum), us⟩).length) = Z
  have e : padB (supT ⟨bl, ct, th, (ta, tsum), ino, mh, (ma, msum), us⟩) = mag ++ (le4 bl ++ (le4 0 ++ (leB ct 8 ++ (le4 th ++ (le4 ino ++ (leB (ta.setWidth 64) 4 ++ (tsum ++ (le4 mh ++ (leB (ma.setWidth 64) 4 ++ (msum ++ (le4 us ++ Z))))))))))) := by
    rw [padB, hZ]; simp only [supT, sup1, sup2, sup3, List.append_assoc]
  generalize padB (supT ⟨bl, ct, th, (ta, tsum), ino, mh, (ma, msum), us⟩) = s at e
  have l8 : mag.length = 8 := rfl
  have q1 := cutL (s := s) (A := mag) (k := 8) (n := 4) e l8 (le4_len bl)
  have q2 := cutL (s := s) (A := mag ++ le4 bl ++ le4 0) (B := leB ct 8) (k := 16) (n := 8) (by rw [e]; simp only [List.append_assoc]; rfl) (by simp only [List.length_append, le4_len]; rfl) (leB_len _ _)
  have q3 := cutL (s := s) (A := mag ++ le4 bl ++ le4 0 ++ leB ct 8) (B := le4 th) (k := 24) (n := 4) (by rw [e]; simp only [List.append_assoc]; rfl) (by simp only [List.length_append, le4_len, leB_len]; rfl) (le4_len _)
  have q4 := cutL (s := s) (A := mag ++ le4 bl ++ le4 0 ++ leB ct 8 ++ le4 th) (B := le4 ino) (k := 28) (n := 4) (by rw [e]; simp only [List.append_assoc]; rfl) (by simp only [List.length_append, le4_len, leB_len]; rfl) (le4_len _)
  have q5 := cutL (s := s) (A := mag ++ le4 bl ++ le4 0 ++ leB ct 8 ++ le4 th ++ le4 ino) (B := leB (ta.setWidth 64) 4) (k := 32) (n := 4) (by rw [e]; simp only [List.append_assoc]; rfl) (by simp only [List.length_append, le4_len, leB_len]; rfl) (leB_len _ _)
  have q6 := cutL (s := s) (A := mag ++ le4 bl ++ le4 0 ++ leB ct 8 ++ le4 th ++ le4 ino ++ leB (ta.setWidth 64) 4) (B := tsum) (k := 36) (n := 32) (by rw [e]; simp only [List.append_assoc]; rfl) (by simp only [List.length_append, le4_len, leB_len]; rfl) ht2
  have q7 := cutL (s := s) (A := mag ++ le4 bl ++ le4 0 ++ leB ct 8 ++ le4 th ++ le4 ino ++ leB (ta.setWidth 64) 4 ++ tsum) (B := le4 mh) (k := 68) (n := 4) (by rw [e]; simp only [List.append_assoc]; rfl) (by simp only [List.length_append, le4_len, leB_len, ht2]; rfl) (le4_len _)
  have q8 := cutL (s := s) (A := mag ++ le4 bl ++ le4 0 ++ leB ct 8 ++ le4 th ++ le4 ino ++ leB (ta.setWidth 64) 4 ++ tsum ++ le4 mh) (B := leB (ma.setWidth 64) 4) (k := 72) (n := 4) (by rw [e]; simp only [List.append_assoc]; rfl) (by simp only [List.length_append, le4_len, leB_len, ht2]; rfl) (leB_len _ _)
  have q9 := cutL (s := s) (A := mag ++ le4 bl ++ le4 0 ++ leB ct 8 ++ le4 th ++ le4 ino ++ leB (ta.setWidth 64) 4 ++ tsum ++ le4 mh ++ leB (ma.setWidth 64) 4) (B := msum) (k := 76) (n := 32) (by rw [e]; simp only [List.append_assoc]; rfl) (by simp only [List.length_append, le4_len, leB_len, ht2]; rfl) hm2
  have q10 := cutL (s := s) (A := mag ++ le4 bl ++ le4 0 ++ leB ct 8 ++ le4 th ++ le4 ino ++ leB (ta.setWidth 64) 4 ++ tsum ++ le4 mh ++ leB (ma.setWidth 64) 4 ++ msum) (B := le4 us) (k := 108) (n := 4) (by rw [e]; simp only [List.append_assoc]; rfl) (by simp only [List.length_append, le4_len, leB_len, ht2, hm2]; rfl) (le4_len _)
  have d32 : decW s (32 : Nat) = (ta, tsum) := by
    unfold decW
    rw [Int.toNat_natCast, q5, valA, q6]
  have d72 : decW s (72 : Nat) = (ma, msum) := by
    unfold decW
    rw [Int.toNat_natCast, q8, valA, q9]
  simp only [rawP, gI, gN, gR, q1, q2, q3, q4, q7, q10, d32, d72, val8, val4 _ p1 p2, val4 _ p3 p4, val4 _ p5 p6, val4 _ p7 p8, val4 _ p9 p10]
theorem good_back (x : Sp) (hx : OkS x) (h : SupOk x) : GoodB (encV x) ∧ decX (encV x) = x := by
  have e : encV x = padB (supT x) := by rw [encV, supB_t h]; rfl
  have hb := raw_back x hx h
  have hg : GoodB (encV x) := by
    rw [e]
    refine ⟨by rw [hb]; exact h, by rw [hb]⟩
  refine ⟨hg, ?_⟩
  rw [decX, goodB_t hg, if_pos rfl, e, hb]
theorem enc_inj (x o : Sp) (hx : OkS x) (ho : OkS o) (h : SupOk x) (h' : SupOk o) : encV x = encV o ↔ x = o := by
  constructor
  · intro e
    have h1 := (good_back x hx h).2
    have h2 := (good_back o ho h').2
    rw [← h1, ← h2, e]
  · intro e; rw [e]
end Go.Proofs.Ytbgjhmdedillhaa.Sup
