/- Structs of six among the arguments. -/
import Derived.Test.YtbgjhmdedillhaaFb
set_option linter.unusedVariables false
namespace Go.Proofs.Ytbgjhmdedillhaa.Fl
open Go.ChangeShapes Go.WideShapes Go.ChangeAt Go.RowKit
variable {P : Program}
theorem flat_struct6 {t : TypeId} {f1 f2 f3 f4 f5 f6 : Field} {T1 T2 T3 T4 T5 T6 : Type} {c1 : T1 → List Value} {c2 : T2 → List Value} {c3 : T3 → List Value} {c4 : T4 → List Value} {c5 : T5 → List Value} {c6 : T6 → List Value} {o1 : T1 → Prop} {o2 : T2 → Prop} {o3 : T3 → Prop} {o4 : T4 → Prop} {o5 : T5 → Prop} {o6 : T6 → Prop} (ht : P.underlying t = some (.struct #[f1, f2, f3, f4, f5, f6])) (hc : contig P [f1, f2, f3, f4, f5, f6] 0 (P.cellsOf t) = true)
    (h1 : Flat P f1.type c1 o1) (h2 : Flat P f2.type c2 o2) (h3 : Flat P f3.type c3 o3) (h4 : Flat P f4.type c4 o4) (h5 : Flat P f5.type c5 o5) (h6 : Flat P f6.type c6 o6) : Flat P t (fun a : T1 × T2 × T3 × T4 × T5 × T6 => c1 a.1 ++ c2 a.2.1 ++ c3 a.2.2.1 ++ c4 a.2.2.2.1 ++ c5 a.2.2.2.2.1 ++ c6 a.2.2.2.2.2) (fun a => o1 a.1 ∧ o2 a.2.1 ∧ o3 a.2.2.1 ∧ o4 a.2.2.2.1 ∧ o5 a.2.2.2.2.1 ∧ o6 a.2.2.2.2.2) :=
  fun H enc W base sp held fuel cs x hx => by
    obtain ⟨n, hcs, hf⟩ := struct_parts ht hc hx
    obtain ⟨y1, hy1⟩ := hf f1 (by simp)
    obtain ⟨y2, hy2⟩ := hf f2 (by simp)
    obtain ⟨y3, hy3⟩ := hf f3 (by simp)
    obtain ⟨y4, hy4⟩ := hf f4 (by simp)
    obtain ⟨y5, hy5⟩ := hf f5 (by simp)
    obtain ⟨y6, hy6⟩ := hf f6 (by simp)
    obtain ⟨a1, e1, k1⟩ := h1 _ _ _ _ _ _ _ _ _ hy1
    obtain ⟨a2, e2, k2⟩ := h2 _ _ _ _ _ _ _ _ _ hy2
    obtain ⟨a3, e3, k3⟩ := h3 _ _ _ _ _ _ _ _ _ hy3
    obtain ⟨a4, e4, k4⟩ := h4 _ _ _ _ _ _ _ _ _ hy4
    obtain ⟨a5, e5, k5⟩ := h5 _ _ _ _ _ _ _ _ _ hy5
    obtain ⟨a6, e6, k6⟩ := h6 _ _ _ _ _ _ _ _ _ hy6
    refine ⟨(a1, a2, a3, a4, a5, a6), ?_, k1, k2, k3, k4, k5, k6⟩
    rw [hcs]; simp [e1, e2, e3, e4, e5, e6]
end Go.Proofs.Ytbgjhmdedillhaa.Fl
