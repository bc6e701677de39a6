/- SlotPlays: the call at every argument of a small bulk that can be read. -/
import Derived.Test.YtnpnphcklmlchaaBk
import Derived.Test.YtnpnphcklmlchaaRArgs
import Derived.Test.YtnpnphcklmlchaaPl5
namespace Go.Proofs.Ytnpnphcklmlchaa.slotPlays
open Go.ChangeShapes Go.WideShapes Go.ChangeAt Go.RowKit Go.Proofs.Ytnpnphcklmlchaa.Fl Go.Proofs.Ytnpnphcklmlchaa.Sx Go.Proofs.Ytnpnphcklmlchaa.Mx Go.Proofs.Ytnpnphcklmlchaa.By Go.Proofs.Ytnpnphcklmlchaa.Ar Go.Proofs.Ytnpnphcklmlchaa.Fb
set_option linter.unusedVariables false
open Go.Proofs.Ytnpnphcklmlchaa.RArgs
set_option maxRecDepth 100000 in
theorem calls {H : Type} {enc : TypeId × Value → H} (W : World) (base : Nat)
    (v0 : Value) (d0 : DataW H) (p0 : List MemPlace) (k0 : Value.okWide Try.prog W .any base 135 v0) (h0 : DataW.Trod enc Try.prog W 0 (fun _ => true) true 135 v0 d0 p0)
    (v1 : Value) (d1 : DataW H) (p1 : List MemPlace) (k1 : Value.okWide Try.prog W .any base 136 v1) (h1 : DataW.Trod enc Try.prog W 0 (fun _ => true) true 136 v1 d1 p1)
    (hk : Rows.uptoSmall H ([d0, d1] ++ []) = true) :
    Calls Try.prog 14 #[v0, v1] W fun e W' => e = .returned (.bool true) ∧ Below W.heap.size W W' := by
  have b0 := Bk.small_of hk (d := d0) (by simp)
  have b1 := Bk.small_of hk (d := d1) (by simp)
  obtain ⟨A, cs, c, rfl, hr, hcs, _, _, s1⟩ := Bk.slice_openR Try.underlying135 (sz := 2) (by kernel_rfl) (by decide) (Bk.fr_struct2 Try.underlying56 (by kernel_rfl) (.of (flat_i64 Try.underlying3)) (.of (flat_bool Try.underlying4))) (fun _ _ => rfl) k0 h0 b0
  obtain ⟨S, xs, c1, rfl, hr1, hx, _, _, s2⟩ := Bk.slice_openR Try.underlying136 (sz := 35) (by kernel_rfl) (by decide) (Bk.fr_struct4 Try.underlying142 (by kernel_rfl) (.of (flat_i64 Try.underlying3)) (.of (flat_i64 Try.underlying2)) (.of (flat_u32 Try.underlying103)) (.of flatSum)) (fun a h => Pl.acC_len h.2.2.2) k1 h1 b1
  have l1 := Nat.lt_of_le_of_lt (Bk.len_sum (fun _ => Nat.le_add_left _ _) cs) s1
  have l2 := Nat.lt_of_le_of_lt (Bk.len_sum (fun _ => Nat.le_add_left _ _) xs) s2
  have hr : Ap.Row W A (Pl.cutsC cs) := hr
  have hr1 : Ap.Row W S (Pl.acsC xs) := hr1
  exact Calls.mono (Pl.slotPlays A cs c S xs c1 (fun x h => (hcs x h).1) (by omega) (fun x h => ⟨(hx x h).1, (hx x h).2.1, (hx x h).2.2.2⟩) l2 W (.cons_ro (.cons_ro .nil hr1 rfl Stm.ro_nil) hr rfl (Stm.ro_cons rfl Stm.ro_nil))) fun e w' ⟨v, he, hv, hk⟩ => ⟨by rw [he, hv], hk.below⟩
end Go.Proofs.Ytnpnphcklmlchaa.slotPlays
