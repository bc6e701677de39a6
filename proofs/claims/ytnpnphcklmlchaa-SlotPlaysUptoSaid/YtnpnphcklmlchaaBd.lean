/- Structs out of all their parts. -/
import Derived.Test.YtnpnphcklmlchaaXs
set_option linter.unusedVariables false
set_option linter.unusedSimpArgs false
namespace Go.Proofs.Ytnpnphcklmlchaa.Bd
open Go.RowKit Go.Proofs.Ytnpnphcklmlchaa.Sx Go.Proofs.Ytnpnphcklmlchaa.Mx Go.Proofs.Ytnpnphcklmlchaa.Ap Go.Proofs.Ytnpnphcklmlchaa.Stm
variable {P : Program}
def Laid (place : Nat → Option (Nat × Nat)) : Nat → Nat → List (Value × List Value) → Prop
  | _, _, [] => True
  | k, off, (v, cs) :: r => v.cells = cs.toArray ∧ place k = some (off, cs.length) ∧ Laid place (k + 1) (off + cs.length) r
def nums : Nat → List (Value × List Value) → List (Nat × Value)
  | _, [] => []
  | k, (v, _) :: r => (k, v) :: nums (k + 1) r
def cat : List (Value × List Value) → List Value
  | [] => []
  | (_, cs) :: r => cs ++ cat r
theorem fill_all {place : Nat → Option (Nat × Nat)} : ∀ (vs : List (Value × List Value)) (k : Nat) (pre Z : List Value), Laid place k pre.length vs → Z.length = (cat vs).length → Instr.fill place (pre ++ Z).toArray (nums k vs) = some (pre ++ cat vs).toArray
  | [], k, pre, Z, _, hz => by
    have : Z = [] := List.eq_nil_of_length_eq_zero hz
    subst this
    exact fill_nil
  | (v, cs) :: r, k, pre, Z, ⟨h1, h2, h3⟩, hz => by
    rw [cat, List.length_append] at hz
    have e : Z = Z.take cs.length ++ Z.drop cs.length := (List.take_append_drop _ _).symm
    have hl : (Z.take cs.length).length = cs.length := by rw [List.length_take]; omega
    rw [nums, fill_cons h2 h1 (by rw [List.length_append]; omega), e, splice_mid _ _ _ _ hl.symm, ← List.append_assoc]
    have ih := fill_all r (k + 1) (pre ++ cs) (Z.drop cs.length) (by rw [List.length_append]; exact h3) (by rw [List.length_drop]; omega)
    rw [ih, cat, List.append_assoc]
/-- A struct built out of all its parts. -/
theorem built_all {t : TypeId} {zc : List Value} (h : P.built t [] = some zc.toArray) (hf : P.underlying t = some (.struct (P.fieldsOf t))) {places : List (Nat × Nat)} (hp : ((P.fieldsOf t).toList.mapM fun f => (P.info? f.type).map fun i => (f.offset, i.size)) = some places)
    (vs : List (Value × List Value)) (hl : Laid (places.toArray[·]?) 0 0 vs) (hz : zc.length = (cat vs).length) : P.built t (nums 0 vs) = some (cat vs).toArray := by
  rw [built_zero h hf hp]
  have := fill_all vs 0 [] zc hl hz
  simpa using this
end Go.Proofs.Ytnpnphcklmlchaa.Bd
