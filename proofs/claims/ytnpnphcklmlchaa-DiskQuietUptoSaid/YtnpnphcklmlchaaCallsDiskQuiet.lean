/- DiskQuiet: the call at every argument of a small bulk that can be read. -/
import Derived.Test.YtnpnphcklmlchaaBk
import Derived.Test.YtnpnphcklmlchaaAArgs
import Derived.Test.YtnpnphcklmlchaaDsk12
namespace Go.Proofs.Ytnpnphcklmlchaa.diskQuiet
open Go.ChangeShapes Go.WideShapes Go.ChangeAt Go.RowKit Go.Proofs.Ytnpnphcklmlchaa.Fl Go.Proofs.Ytnpnphcklmlchaa.Sx Go.Proofs.Ytnpnphcklmlchaa.Mx Go.Proofs.Ytnpnphcklmlchaa.By Go.Proofs.Ytnpnphcklmlchaa.Ar Go.Proofs.Ytnpnphcklmlchaa.Fb
set_option linter.unusedVariables false
open Go.Proofs.Ytnpnphcklmlchaa.AArgs
set_option maxRecDepth 100000 in
theorem calls {H : Type} {enc : TypeId × Value → H} (W : World) (base : Nat)
    (v0 : Value) (d0 : DataW H) (p0 : List MemPlace) (k0 : Value.okWide Try.prog W .any base 48 v0) (h0 : DataW.Trod enc Try.prog W 0 (fun _ => true) true 48 v0 d0 p0)
    (hk : Rows.uptoSmall H ([d0] ++ []) = true) :
    Calls Try.prog 6 #[v0] W fun e W' => e = .returned (.bool true) ∧ Below W.heap.size W W' := by
  have b0 := Bk.small_of hk (d := d0) (by simp)
  obtain ⟨A, xs, c, rfl, hr, hx, _, _, s2⟩ := Bk.slice_openR Try.underlying48 (sz := 6) (by kernel_rfl) (by decide) (Bk.fr_struct5 Try.underlying58 (by kernel_rfl) (.of (flat_i64 Try.underlying3)) (.of (flat_i64 Try.underlying3)) (.of (flat_u8 Try.underlying5)) (.of (flat_slice Try.underlying54)) (Bk.fr_struct2 Try.underlying56 (by kernel_rfl) (.of (flat_i64 Try.underlying3)) (.of (flat_bool Try.underlying4)))) (fun _ _ => rfl) k0 h0 b0
  have l2 := Nat.lt_of_le_of_lt (Bk.len_sum (fun _ => Nat.le_add_left _ _) xs) s2
  have hr : Ap.Row W A (Dsk.acsC xs) := hr
  exact Calls.mono (Dsk.quiet A xs c (fun x h => (hx x h).2.1) l2 W (.cons_ro .nil hr rfl Stm.ro_nil)) fun e w' ⟨v, he, hv, hk⟩ => ⟨by rw [he, hv], hk.below⟩
end Go.Proofs.Ytnpnphcklmlchaa.diskQuiet
