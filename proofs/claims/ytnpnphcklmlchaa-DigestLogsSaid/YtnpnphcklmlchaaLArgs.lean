/- What a log is asked, among the arguments. -/
import Derived.Test.YtnpnphcklmlchaaFb
import Derived.Test.YtnpnphcklmlchaaLg7
namespace Go.Proofs.Ytnpnphcklmlchaa.LArgs
open Go.ChangeShapes Go.WideShapes Go.ChangeAt Go.RowKit Go.Proofs.Ytnpnphcklmlchaa.Fl Go.Proofs.Ytnpnphcklmlchaa.Sx Go.Proofs.Ytnpnphcklmlchaa.Mx Go.Proofs.Ytnpnphcklmlchaa.By Go.Proofs.Ytnpnphcklmlchaa.Ap Go.Proofs.Ytnpnphcklmlchaa.Ar Go.Proofs.Ytnpnphcklmlchaa.Fb
set_option linter.unusedVariables false
theorem fb_struct4 {P : Program} {t : TypeId} {f1 f2 f3 f4 : Field} {T1 T2 T3 T4 : Type} {c1 : T1 → List Value} {c2 : T2 → List Value} {c3 : T3 → List Value} {c4 : T4 → List Value} {o1 : T1 → Prop} {o2 : T2 → Prop} {o3 : T3 → Prop} {o4 : T4 → Prop} (ht : P.underlying t = some (.struct #[f1, f2, f3, f4])) (hc : contig P [f1, f2, f3, f4] 0 (P.cellsOf t) = true)
    (h1 : FlatB P f1.type c1 o1) (h2 : FlatB P f2.type c2 o2) (h3 : FlatB P f3.type c3 o3) (h4 : FlatB P f4.type c4 o4) : FlatB P t (fun a : T1 × T2 × T3 × T4 => c1 a.1 ++ c2 a.2.1 ++ c3 a.2.2.1 ++ c4 a.2.2.2) (fun a => o1 a.1 ∧ o2 a.2.1 ∧ o3 a.2.2.1 ∧ o4 a.2.2.2) :=
  fun H enc W base sp held fuel cs x hx hs => by
    obtain ⟨n, hcs, hf⟩ := struct_partsB ht hc hx hs
    obtain ⟨y1, hy1, s1⟩ := hf f1 (by simp)
    obtain ⟨y2, hy2, s2⟩ := hf f2 (by simp)
    obtain ⟨y3, hy3, s3⟩ := hf f3 (by simp)
    obtain ⟨y4, hy4, s4⟩ := hf f4 (by simp)
    obtain ⟨a1, e1, k1⟩ := h1 _ _ _ _ _ _ _ _ _ hy1 s1
    obtain ⟨a2, e2, k2⟩ := h2 _ _ _ _ _ _ _ _ _ hy2 s2
    obtain ⟨a3, e3, k3⟩ := h3 _ _ _ _ _ _ _ _ _ hy3 s3
    obtain ⟨a4, e4, k4⟩ := h4 _ _ _ _ _ _ _ _ _ hy4 s4
    refine ⟨(a1, a2, a3, a4), ?_, k1, k2, k3, k4⟩
    rw [hcs]; simp [e1, e2, e3, e4]
theorem flatAsk : FlatB Try.prog 42 Lg.quC (fun a => I64 a.1 ∧ I64 a.2.1 ∧ True ∧ a.2.2.2.length ≤ reachBytes) :=
  fb_struct4 Try.underlying42 (by kernel_rfl) (.of (flat_i64 Try.underlying3)) (.of (flat_i64 Try.underlying3)) (.of (flat_u8 Try.underlying5)) (fb_string Try.underlying9)
end Go.Proofs.Ytnpnphcklmlchaa.LArgs
