/- SlotGoes: the call at every argument of a small bulk that can be read. -/
import Derived.Test.YtnpnphcklmlchaaBk
import Derived.Test.YtnpnphcklmlchaaRArgs
import Derived.Test.YtnpnphcklmlchaaSlt11
namespace Go.Proofs.Ytnpnphcklmlchaa.slotGoes
open Go.ChangeShapes Go.WideShapes Go.ChangeAt Go.RowKit Go.Proofs.Ytnpnphcklmlchaa.Fl Go.Proofs.Ytnpnphcklmlchaa.Sx Go.Proofs.Ytnpnphcklmlchaa.Mx Go.Proofs.Ytnpnphcklmlchaa.By Go.Proofs.Ytnpnphcklmlchaa.Ar Go.Proofs.Ytnpnphcklmlchaa.Fb
set_option linter.unusedVariables false
open Go.Proofs.Ytnpnphcklmlchaa.RArgs
set_option maxRecDepth 100000 in
theorem calls {H : Type} {enc : TypeId × Value → H} (W : World) (base : Nat)
    (v0 : Value) (d0 : DataW H) (p0 : List MemPlace) (k0 : Value.okWide Try.prog W .any base 3 v0) (h0 : DataW.Trod enc Try.prog W 0 (fun _ => true) true 3 v0 d0 p0)
    (v1 : Value) (d1 : DataW H) (p1 : List MemPlace) (k1 : Value.okWide Try.prog W .any base 4 v1) (h1 : DataW.Trod enc Try.prog W 0 (fun _ => true) true 4 v1 d1 p1)
    (v2 : Value) (d2 : DataW H) (p2 : List MemPlace) (k2 : Value.okWide Try.prog W .any base 116 v2) (h2 : DataW.Trod enc Try.prog W 0 (fun _ => true) true 116 v2 d2 p2)
    (hk : Rows.uptoSmall H ([d0, d1, d2] ++ []) = true) :
    Calls Try.prog 13 #[v0, v1, v2] W fun e W' => e = .returned (.bool true) ∧ Below W.heap.size W W' := by
  have b0 := Bk.small_of hk (d := d0) (by simp)
  have b1 := Bk.small_of hk (d := d1) (by simp)
  have b2 := Bk.small_of hk (d := d2) (by simp)
  obtain ⟨e, rfl, he⟩ := i64_open Try.underlying3 k0 h0
  obtain ⟨af, rfl, -, -⟩ := open_bool Try.underlying4 k1 h1
  obtain ⟨A, xs, c, rfl, hr, hx, _, _, s2⟩ := Bk.slice_openR Try.underlying116 (sz := 32) (by kernel_rfl) (by decide) (.of flatSum) (fun l h => by rw [List.length_map]; exact h) k2 h2 b2
  have l2 := Nat.lt_of_le_of_lt (Bk.len_sum (fun _ => Nat.le_refl 1) xs) s2
  exact Calls.mono (Slt.slotGoes e he af A xs c hx l2 W (.cons_ro .nil hr rfl Stm.ro_nil)) fun e w' ⟨v, he, hv, hk⟩ => ⟨by rw [he, hv], hk.below⟩
end Go.Proofs.Ytnpnphcklmlchaa.slotGoes
