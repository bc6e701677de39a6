/- What is done to a disk, among the arguments. -/
import Derived.Test.YtnpnphcklmlchaaFb
import Derived.Test.YtnpnphcklmlchaaDsk9
namespace Go.Proofs.Ytnpnphcklmlchaa.AArgs
open Go.ChangeShapes Go.WideShapes Go.ChangeAt Go.RowKit Go.Proofs.Ytnpnphcklmlchaa.Fl Go.Proofs.Ytnpnphcklmlchaa.Sx Go.Proofs.Ytnpnphcklmlchaa.Mx Go.Proofs.Ytnpnphcklmlchaa.By Go.Proofs.Ytnpnphcklmlchaa.Ap Go.Proofs.Ytnpnphcklmlchaa.Ar Go.Proofs.Ytnpnphcklmlchaa.Fb
set_option linter.unusedVariables false
theorem flat_slice {P : Program} {t e : TypeId} (ht : P.underlying t = some (.slice e)) : Flat P t (fun a : Option Addr × Nat × Nat => [Value.slice a.1 a.2.1 a.2.2]) (fun _ => True) :=
  fun H enc W base sp held fuel cs x hx => by
    rcases DataW.trod_slice ht hx with ⟨h1, _⟩ | ⟨a, len, cap, _, _, _, _, h1, _⟩
    · exact ⟨(none, 0, 0), h1, trivial⟩
    · exact ⟨(some a, len, cap), h1, trivial⟩
theorem flatCut : FlatB Try.prog 56 (fun a : Int × Bool => [Value.int .i64 a.1] ++ [Value.bool a.2]) (fun a => I64 a.1 ∧ True) := fb_struct2 Try.underlying56 (by kernel_rfl) (.of (flat_i64 Try.underlying3)) (.of (flat_bool Try.underlying4))
theorem flatAct : FlatB Try.prog 58 (fun a : Int × Int × Byte × (Option Addr × Nat × Nat) × (Int × Bool) => [Value.int .i64 a.1] ++ [Value.int .i64 a.2.1] ++ [Value.int .u8 a.2.2.1.toNat] ++ [Value.slice a.2.2.2.1.1 a.2.2.2.1.2.1 a.2.2.2.1.2.2] ++ ([Value.int .i64 a.2.2.2.2.1] ++ [Value.bool a.2.2.2.2.2])) (fun a => I64 a.1 ∧ I64 a.2.1 ∧ True ∧ True ∧ (I64 a.2.2.2.2.1 ∧ True)) :=
  fb_struct5 Try.underlying58 (by kernel_rfl) (.of (flat_i64 Try.underlying3)) (.of (flat_i64 Try.underlying3)) (.of (flat_u8 Try.underlying5)) (.of (flat_slice Try.underlying54)) flatCut
end Go.Proofs.Ytnpnphcklmlchaa.AArgs
