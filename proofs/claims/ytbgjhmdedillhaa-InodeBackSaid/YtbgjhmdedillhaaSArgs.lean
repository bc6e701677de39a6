/- Roots and slots among the arguments. -/
import Derived.Test.YtbgjhmdedillhaaSupH
import Derived.Test.YtbgjhmdedillhaaF6
namespace Go.Proofs.Ytbgjhmdedillhaa.SArgs
open Go.ChangeShapes Go.WideShapes Go.ChangeAt Go.RowKit Go.Proofs.Ytbgjhmdedillhaa.Fl Go.Proofs.Ytbgjhmdedillhaa.Sx Go.Proofs.Ytbgjhmdedillhaa.Mx Go.Proofs.Ytbgjhmdedillhaa.By Go.Proofs.Ytbgjhmdedillhaa.Ap Go.Proofs.Ytbgjhmdedillhaa.Ar Go.Proofs.Ytbgjhmdedillhaa.Fb
set_option linter.unusedVariables false
theorem flatSum : Flat Try.prog 38 cb (fun l : List Byte => l.length = 32) := flat_bytes Try.underlying38 Try.underlying5 (by kernel_rfl)
theorem flatRef : Flat Try.prog 40 Nd.refC Nd.OkR :=
  (flat_struct2 Try.underlying40 (by kernel_rfl) (flat_u32 Try.underlying36) flatSum).map id (fun a h => ⟨rfl, h.2⟩)
theorem flatTree : Flat Try.prog 42 (fun a : Int × Nd.Ref => Sup.trC a.1 a.2) (fun a => I64 a.1 ∧ Nd.OkR a.2) :=
  (flat_struct2 Try.underlying42 (by kernel_rfl) (flat_i64 Try.underlying3) flatRef).map id (fun a h => ⟨rfl, h⟩)
theorem flatSlot : Flat Try.prog 78 (fun a : BitVec 64 × Nd.Ref => Sup.slC a.1 a.2) (fun a => Nd.OkR a.2) :=
  (flat_struct2 Try.underlying78 (by kernel_rfl) (flat_u64 Try.underlying35) flatRef).map id (fun a h => ⟨rfl, h.2⟩)
theorem flatSuper : Flat Try.prog 76 Sup.spC (fun x => Sup.OkS x ∧ I64 x.bl ∧ I64 x.ino ∧ I64 x.us ∧ I64 x.th ∧ I64 x.mh) :=
  (flat_struct6 Try.underlying76 (by kernel_rfl) (flat_i64 Try.underlying3) (flat_u64 Try.underlying35) flatTree (flat_i64 Try.underlying3) flatTree (flat_i64 Try.underlying3)).map
    (fun a => ⟨a.1, a.2.1, a.2.2.1.1, a.2.2.1.2, a.2.2.2.1, a.2.2.2.2.1.1, a.2.2.2.2.1.2, a.2.2.2.2.2⟩)
    (fun a ⟨h1, _, h3, h4, h5, h6⟩ => ⟨by simp [Sup.spC, Sup.trC], ⟨h3.2, h5.2⟩, h1, h4, h6, h3.1, h5.1⟩)
end Go.Proofs.Ytbgjhmdedillhaa.SArgs
