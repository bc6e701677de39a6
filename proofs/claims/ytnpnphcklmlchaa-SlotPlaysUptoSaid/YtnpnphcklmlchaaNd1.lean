/- References to blocks, walked. -/
import Derived.Test.YtnpnphcklmlchaaWref
set_option linter.unusedVariables false
set_option linter.unusedSimpArgs false
namespace Go.Proofs.Ytnpnphcklmlchaa.Nd
open Go.RowKit Go.Proofs.Ytnpnphcklmlchaa.Sx Go.Proofs.Ytnpnphcklmlchaa.Mx Go.Proofs.Ytnpnphcklmlchaa.Bw Go.Proofs.Ytnpnphcklmlchaa.By Go.Proofs.Ytnpnphcklmlchaa.Eqs Go.Proofs.Ytnpnphcklmlchaa.Qx Go.Proofs.Ytnpnphcklmlchaa.Ap Go.Proofs.Ytnpnphcklmlchaa.Mi Go.Proofs.Ytnpnphcklmlchaa.Stm Go.Proofs.Ytnpnphcklmlchaa.Num Go.Proofs.Ytnpnphcklmlchaa.Fl Go.Proofs.Ytnpnphcklmlchaa.Wd
attribute [local irreducible] Ow Cw Xw Mw
set_option maxHeartbeats 4000000
/-- A reference: a place, a digest. -/
abbrev Ref := BitVec 32 × List Byte
abbrev refC (r : Ref) : List Value := u32 r.1 :: cb r.2
abbrev refV (r : Ref) : Value := .agg (refC r).toArray
def OkR (r : Ref) : Prop := r.2.length = 32
def noRef : Ref := (0, zb 32)
theorem noRef_ok : OkR noRef := by simp [OkR, noRef]
theorem refC_len {r : Ref} (h : OkR r) : (refC r).length = 33 := by simp [refC]; exact h
theorem refC_one (r : Ref) : oneCells (refC r) = true := by
  have := oneCells_cb r.2
  simp only [oneCells, refC, List.all_cons, Bool.and_eq_true]
  exact ⟨rfl, this⟩
/-- May it be? -/
def Right (r : Ref) : Prop := r.1 ≠ 0 ∨ r = noRef
instance (r : Ref) : Decidable (Right r) := inferInstanceAs (Decidable (_ ∨ _))

theorem eqB32 {t e : TypeId} (h : Try.prog.underlying t = some (.array 32 e)) (he : Try.prog.underlying e = some (.int .u8)) (hs : (Try.prog.info? t).map (·.size) = some 32) (hse : (Try.prog.info? e).map (·.size) = some 1) : EqT Try.prog t (.array 32 e) cb (fun l => l.length = 32 ∧ ∀ x ∈ l, True) 2 32 := by
  have h := eq_array (P := Try.prog) (t := t) (n := 32) (sz := 1) h hs (eq_u (w := 8) .u8 he hse)
  have e : (fun l : List Byte => l.flatMap fun b => [Value.int .u8 b.toNat]) = cb := by
    funext l
    induction l with
    | nil => rfl
    | cons x l ih => rw [List.flatMap_cons, ih]; rfl
  rw [e] at h
  exact h
theorem eqRef : ∃ D, aggB D = true ∧ EqT Try.prog 105 D refC OkR 3 33 :=
  ⟨_, rfl, eq_map (eq_struct2 (P := Try.prog) Try.underlying105 (tab.sz_ok _ _ rfl) (by kernel_rfl) rfl rfl rfl rfl (eq_u (w := 32) .u32 Try.underlying103 (tab.sz_ok _ _ rfl)) (eqB32 Try.underlying24 Try.underlying5 (tab.sz_ok _ _ rfl) (tab.sz_ok _ _ rfl))) id (fun _ _ => Iff.rfl) (fun a h => ⟨trivial, h, fun _ _ => trivial⟩)⟩

theorem ne0F {x : BitVec 32} (h : x = 0) : (((x.toNat : Int)) != 0) = false := by subst h; rfl
theorem ne0T {x : BitVec 32} (h : ¬ x = 0) : (((x.toNat : Int)) != 0) = true := by
  rw [show ((x.toNat : Int) != 0) = (x != (0 : BitVec 32)) from ne_iff x 0]; simpa using h
/-- A reference's bytes. -/
def encR (r : Ref) : List Byte := leB (r.1.setWidth 64) 4 ++ r.2
theorem encR_len {r : Ref} (h : OkR r) : (encR r).length = 36 := by simp only [encR, List.length_append, leB_len]; rw [show r.2.length = 32 from h]
theorem cb_append (a b : List Byte) : cb a ++ cb b = cb (a ++ b) := by simp
/-- A reference read from a text. -/
abbrev decOk (s : List Byte) (at_ : Int) : Prop := 0 ≤ at_ ∧ at_ ≤ (s.length : Int) ∧ (36 : Int) ≤ (s.length : Int) - at_
def decW (s : List Byte) (at_ : Int) : Ref := ((valB ((s.drop at_.toNat).take 4)).setWidth 32, (s.drop (at_.toNat + 4)).take 32)
def decR (s : List Byte) (at_ : Int) : Ref × Bool := if decOk s at_ ∧ Right (decW s at_) then (decW s at_, true) else (noRef, false)
theorem decW_ok {s : List Byte} {at_ : Int} (h : decOk s at_) : OkR (decW s at_) := by simp [OkR, decW]; omega
theorem decR_ok (s : List Byte) (at_ : Int) : OkR (decR s at_).1 := by
  unfold decR
  split
  · rename_i h; exact decW_ok h.1
  · exact noRef_ok
end Go.Proofs.Ytnpnphcklmlchaa.Nd
