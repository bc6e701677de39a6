/- Equality of structs of three. -/
import Derived.Test.YtnpnphcklmlchaaEq
set_option linter.unusedVariables false
set_option linter.unusedSimpArgs false
namespace Go.Proofs.Ytnpnphcklmlchaa.Eqs
open Go.RowKit Go.Proofs.Ytnpnphcklmlchaa.Sx Go.Proofs.Ytnpnphcklmlchaa.Mx Go.Proofs.Ytnpnphcklmlchaa.Bw Go.Proofs.Ytnpnphcklmlchaa.By
variable {P : Program}
theorem eq_struct3 {t : TypeId} {f1 f2 f3 : Field} {D1 D2 D3 : TypeDesc} {T1 T2 T3 : Type} [DecidableEq T1] [DecidableEq T2] [DecidableEq T3] {c1 : T1 → List Value} {c2 : T2 → List Value} {c3 : T3 → List Value} {o1 : T1 → Prop} {o2 : T2 → Prop} {o3 : T3 → Prop} {d1 d2 d3 s1 s2 s3 : Nat} (ht : P.underlying t = some (.struct #[f1, f2, f3])) (hs : (P.info? t).map (·.size) = some (s1 + (s2 + s3))) (hp : P.stoodInHeld t = false)
    (n1 : (f1.name == "_") = false) (n2 : (f2.name == "_") = false) (n3 : (f3.name == "_") = false) (off1 : f1.offset = 0) (off2 : f2.offset = s1) (off3 : f3.offset = s1 + s2) (h1 : EqT P f1.type D1 c1 o1 d1 s1) (h2 : EqT P f2.type D2 c2 o2 d2 s2) (h3 : EqT P f3.type D3 c3 o3 d3 s3) :
    EqT P t (.struct #[f1, f2, f3]) (fun a : T1 × T2 × T3 => c1 a.1 ++ (c2 a.2.1 ++ c3 a.2.2)) (fun a => o1 a.1 ∧ o2 a.2.1 ∧ o3 a.2.2) (max d1 (max d2 d3) + 1) (s1 + (s2 + s3)) where
  desc := ht
  size := hs
  len := fun a h => by rw [List.length_append, List.length_append, h1.len _ h.1, h2.len _ h.2.1, h3.len _ h.2.2]
  one := fun h => by simp [aggB] at h
  eq := fun d w x y hd hx hy => by
    obtain ⟨d, rfl⟩ : ∃ m, d = m + 1 := ⟨d - 1, by omega⟩
    show (Op.equalIn (d + 1) t (.agg (c1 x.1 ++ (c2 x.2.1 ++ c3 x.2.2)).toArray) (.agg (c1 y.1 ++ (c2 y.2.1 ++ c3 y.2.2)).toArray)).run P w = _
    have hf : P.fieldsOf t = #[f1, f2, f3] := by simp [Program.fieldsOf, ht]
    rw [run_equalIn_struct w d t _ _ (by rw [hf]; exact ht) hp, hf]
    have l1x := h1.len _ hx.1
    have l1y := h1.len _ hy.1
    have l2x := h2.len _ hx.2.1
    have l2y := h2.len _ hy.2.1
    have l3x := h3.len _ hx.2.2
    have l3y := h3.len _ hy.2.2
    have dr : ∀ (a b c : List Value), a.length = s1 → b.length = s2 → (a ++ (b ++ c)).drop (s1 + s2) = c := fun a b c ha hb => by
      rw [← List.append_assoc, ← ha, ← hb, ← List.length_append, List.drop_left]
    have e3 := eq_fields_cons (P := P) (d := d) (xs := (c1 x.1 ++ (c2 x.2.1 ++ c3 x.2.2)).toArray) (ys := (c1 y.1 ++ (c2 y.2.1 ++ c3 y.2.2)).toArray) (f := f3) (fs := []) n3 h3 (by omega) hx.2.2 hy.2.2
      (by rw [off3]; show ((c1 x.1 ++ (c2 x.2.1 ++ c3 x.2.2)).drop (s1 + s2)).take s3 = _; rw [dr _ _ _ l1x l2x, List.take_of_length_le (by omega)]) (by rw [off3]; show ((c1 y.1 ++ (c2 y.2.1 ++ c3 y.2.2)).drop (s1 + s2)).take s3 = _; rw [dr _ _ _ l1y l2y, List.take_of_length_le (by omega)]) (r := true) (w := w) rfl
    have e2 := eq_fields_cons (P := P) (d := d) (xs := (c1 x.1 ++ (c2 x.2.1 ++ c3 x.2.2)).toArray) (ys := (c1 y.1 ++ (c2 y.2.1 ++ c3 y.2.2)).toArray) (f := f2) (fs := [f3]) n2 h2 (by omega) hx.2.1 hy.2.1
      (by rw [off2, ← l1x, List.drop_left, ← l2x, List.take_left]) (by rw [off2, ← l1y, List.drop_left, ← l2y, List.take_left]) e3
    have e1 := eq_fields_cons (P := P) (d := d) (xs := (c1 x.1 ++ (c2 x.2.1 ++ c3 x.2.2)).toArray) (ys := (c1 y.1 ++ (c2 y.2.1 ++ c3 y.2.2)).toArray) (f := f1) (fs := [f2, f3]) n1 h1 (by omega) hx.1 hy.1
      (by rw [off1, List.drop_zero, ← l1x, List.take_left]) (by rw [off1, List.drop_zero, ← l1y, List.take_left]) e2
    rw [e1]
    congr 1
    rw [Bool.eq_iff_iff]
    simp [Prod.ext_iff]
end Go.Proofs.Ytnpnphcklmlchaa.Eqs
