/- DigestFeeds: the call at every argument of a small bulk that can be read. -/
import Derived.Test.YtnpnphcklmlchaaBk
import Derived.Test.YtnpnphcklmlchaaHArgs
import Derived.Test.YtnpnphcklmlchaaDig7
namespace Go.Proofs.Ytnpnphcklmlchaa.digestFeeds
open Go.ChangeShapes Go.WideShapes Go.ChangeAt Go.RowKit Go.Proofs.Ytnpnphcklmlchaa.Fl Go.Proofs.Ytnpnphcklmlchaa.Sx Go.Proofs.Ytnpnphcklmlchaa.Mx Go.Proofs.Ytnpnphcklmlchaa.By Go.Proofs.Ytnpnphcklmlchaa.Ar Go.Proofs.Ytnpnphcklmlchaa.Fb
set_option linter.unusedVariables false
open Go.Proofs.Ytnpnphcklmlchaa.HArgs
theorem str1 : ∀ l : List (List Byte), (l.flatMap fun s => [str s]) = Dig.strs l
  | [] => rfl
  | a :: l => by rw [List.flatMap_cons, str1 l]; rfl
set_option maxRecDepth 100000 in
theorem calls {H : Type} {enc : TypeId × Value → H} (W : World) (base : Nat)
    (v0 : Value) (d0 : DataW H) (p0 : List MemPlace) (k0 : Value.okWide Try.prog W .any base 29 v0) (h0 : DataW.Trod enc Try.prog W 0 (fun _ => true) true 29 v0 d0 p0)
    (v1 : Value) (d1 : DataW H) (p1 : List MemPlace) (k1 : Value.okWide Try.prog W .any base 30 v1) (h1 : DataW.Trod enc Try.prog W 0 (fun _ => true) true 30 v1 d1 p1)
    (v2 : Value) (d2 : DataW H) (p2 : List MemPlace) (k2 : Value.okWide Try.prog W .any base 30 v2) (h2 : DataW.Trod enc Try.prog W 0 (fun _ => true) true 30 v2 d2 p2)
    (hk : Rows.uptoSmall H ([d0, d1, d2] ++ []) = true) :
    Calls Try.prog 4 #[v0, v1, v2] W fun e W' => e = .returned (.bool true) ∧ Below W.heap.size W W' := by
  have b0 := Bk.small_of hk (d := d0) (by simp)
  have b1 := Bk.small_of hk (d := d1) (by simp)
  have b2 := Bk.small_of hk (d := d2) (by simp)
  obtain ⟨A0, tags, c0, rfl, r0, _, _, _, s0⟩ := Bk.slice_openR Try.underlying29 (by kernel_rfl) (by decide) (.of (flat_u8 Try.underlying5)) (fun _ _ => rfl) k0 h0 b0
  obtain ⟨A1, one, c1, rfl, r1, _, _, _, s1⟩ := Bk.slice_openR Try.underlying30 (by kernel_rfl) (by decide) (Bk.fr_string Try.underlying9) (fun _ _ => rfl) k1 h1 b1
  obtain ⟨A2, two, c2, rfl, r2, _, _, _, s2⟩ := Bk.slice_openR Try.underlying30 (by kernel_rfl) (by decide) (Bk.fr_string Try.underlying9) (fun _ _ => rfl) k2 h2 b2
  rw [flat_cb] at r0
  rw [str1] at r1 r2
  have l0 := Nat.lt_of_le_of_lt (Bk.len_sum (fun _ => Nat.le_refl 1) tags) s0
  have l1 := Nat.lt_of_le_of_lt (Bk.len_sum (fun s : List Byte => Nat.succ_le_succ (Nat.zero_le s.length)) one) s1
  have l2 := Nat.lt_of_le_of_lt (Bk.len_sum (fun s : List Byte => Nat.succ_le_succ (Nat.zero_le s.length)) two) s2
  have f1 := Nat.lt_of_le_of_lt (Bk.flatten_sum one) s1
  have f2 := Nat.lt_of_le_of_lt (Bk.flatten_sum two) s2
  exact Calls.mono (Dig.digestFeeds A0 A1 A2 tags one two c0 c1 c2 (by omega) (by omega) (by omega) (by unfold Dig.cat; omega) (by unfold Dig.cat; omega) W (.cons_ro (.cons_ro (.cons_ro .nil r2 rfl Stm.ro_nil) r1 rfl (Stm.ro_cons rfl Stm.ro_nil)) r0 rfl (Stm.ro_cons rfl (Stm.ro_cons rfl Stm.ro_nil)))) fun e w' ⟨v, he, hv, hk⟩ => ⟨by rw [he, hv], hk.below⟩
end Go.Proofs.Ytnpnphcklmlchaa.digestFeeds
