/-
  No cell of these rows narrows 'for every input' (looked for: loops, veiled, ifaces, maps, wideKeys, modest, calm, conditions, laid).
  DERIVED. THE GIVEN ROWS OF THIS SEAT. 8 by the template 'for every input the law returns true; each argument reads behind the call as it read before'; 0 by the template 'total and deterministic' (their statements: YtbgjhmdedillhaaTotals.lean).
  GIVEN WITH THE SEED: the statements are not yours to turn. If you find one false, say at which input.
  Laid BY PROGRAM, IN A SANDBOX (cutbox-rows.mjs): the forced cells as the released guide's own fill.sh prints them over the translation bd38caadb51bc0d1… (all of the seat's roots in one cut). By AI agents, Wed Nov 11 2026. No macro, syntax, notation, axiom, sorry.
-/
import Derived.Test.YtbgjhmdedillhaaChecked
import GoSem.Claim
import GoSem.ClaimJoined
import GoSem.ClaimMapViews
import Derived.JoinedTies
import Derived.KernelRfl
namespace Go.Proofs.Ytbgjhmdedillhaa
/- THE CELL 'sum', in the pinned program and in every row, IS THE sha256 OF THE DUMP (.gsa) THAT YtbgjhmdedillhaaProg.lean LOADS. Nothing in Lean hashes anything: it is a label: what it is worth is what the hold of that sum in a sandbox is worth. -/
noncomputable def Try.pinned : Pinned := { name := "ytbgjhmdedillhaa", sum := "bd38caadb51bc0d1cd5407c76a6f982f18381e1f3c59663de556d7063acfcbd2", checked := Try.checked }
namespace Rows
def none {H : Type} : Left H := { results := [], args := [] }

/-- 'signetlaw09.TreeWays': WHATEVER THE INPUT: true; the input reads as it did. -/
def treeWaysSpec : ChangeSpec := { name := "treeWays", fn := fun _ => fun
  | [d1, d2] => { results := [.lit (.bool true)], args := [d1, d2] }
  | _ => none }
def treeWaysRow : OpenClaim := { program := "ytbgjhmdedillhaa", sum := "bd38caadb51bc0d1cd5407c76a6f982f18381e1f3c59663de556d7063acfcbd2", func := "signet/signetlaw09.TreeWays", spec := "treeWays", apart := false }
def TreeWaysSaid : Prop := treeWaysRow.holds Try.pinned (OpenSpec.ofChange treeWaysSpec)

/-- ITS FALSE NEIGHBOUR: 'it returns false'. Refute it at one input. -/
def treeWaysWrong : ChangeSpec := { name := "treeWays", fn := fun _ => fun
  | [d1, d2] => { results := [.lit (.bool false)], args := [d1, d2] }
  | _ => none }
def TreeWaysWrongFalsely : Prop := treeWaysRow.holds Try.pinned (OpenSpec.ofChange treeWaysWrong)

/-- 'signetlaw14.InodeSizes': WHATEVER THE INPUT: true; the input reads as it did. -/
def inodeSizesSpec : ChangeSpec := { name := "inodeSizes", fn := fun _ => fun
  | [d] => { results := [.lit (.bool true)], args := [d] }
  | _ => none }
def inodeSizesRow : OpenClaim := { program := "ytbgjhmdedillhaa", sum := "bd38caadb51bc0d1cd5407c76a6f982f18381e1f3c59663de556d7063acfcbd2", func := "signet/signetlaw14.InodeSizes", spec := "inodeSizes", apart := false }
def InodeSizesSaid : Prop := inodeSizesRow.holds Try.pinned (OpenSpec.ofChange inodeSizesSpec)

/-- ITS FALSE NEIGHBOUR: 'it returns false'. Refute it at one input. -/
def inodeSizesWrong : ChangeSpec := { name := "inodeSizes", fn := fun _ => fun
  | [d] => { results := [.lit (.bool false)], args := [d] }
  | _ => none }
def InodeSizesWrongFalsely : Prop := inodeSizesRow.holds Try.pinned (OpenSpec.ofChange inodeSizesWrong)

/-- 'signetlaw14.InodeCodes': WHATEVER THE INPUT: true; the input reads as it did. -/
def inodeCodesSpec : ChangeSpec := { name := "inodeCodes", fn := fun _ => fun
  | [d1, d2] => { results := [.lit (.bool true)], args := [d1, d2] }
  | _ => none }
def inodeCodesRow : OpenClaim := { program := "ytbgjhmdedillhaa", sum := "bd38caadb51bc0d1cd5407c76a6f982f18381e1f3c59663de556d7063acfcbd2", func := "signet/signetlaw14.InodeCodes", spec := "inodeCodes", unfollowed := true, recurses := true, apart := false }
def InodeCodesSaid : Prop := inodeCodesRow.holds Try.pinned (OpenSpec.ofChange inodeCodesSpec)

/-- ITS FALSE NEIGHBOUR: 'it returns false'. Refute it at one input. -/
def inodeCodesWrong : ChangeSpec := { name := "inodeCodes", fn := fun _ => fun
  | [d1, d2] => { results := [.lit (.bool false)], args := [d1, d2] }
  | _ => none }
def InodeCodesWrongFalsely : Prop := inodeCodesRow.holds Try.pinned (OpenSpec.ofChange inodeCodesWrong)

/-- 'signetlaw14.InodeLeaves': WHATEVER THE INPUT: true; the input reads as it did. -/
def inodeLeavesSpec : ChangeSpec := { name := "inodeLeaves", fn := fun _ => fun
  | [d1, d2] => { results := [.lit (.bool true)], args := [d1, d2] }
  | _ => none }
def inodeLeavesRow : OpenClaim := { program := "ytbgjhmdedillhaa", sum := "bd38caadb51bc0d1cd5407c76a6f982f18381e1f3c59663de556d7063acfcbd2", func := "signet/signetlaw14.InodeLeaves", spec := "inodeLeaves", unfollowed := true, recurses := true, apart := false }
def InodeLeavesSaid : Prop := inodeLeavesRow.holds Try.pinned (OpenSpec.ofChange inodeLeavesSpec)

/-- ITS FALSE NEIGHBOUR: 'it returns false'. Refute it at one input. -/
def inodeLeavesWrong : ChangeSpec := { name := "inodeLeaves", fn := fun _ => fun
  | [d1, d2] => { results := [.lit (.bool false)], args := [d1, d2] }
  | _ => none }
def InodeLeavesWrongFalsely : Prop := inodeLeavesRow.holds Try.pinned (OpenSpec.ofChange inodeLeavesWrong)

/-- 'signetlaw14.InodeBack': WHATEVER THE INPUT: true; the input reads as it did. -/
def inodeBackSpec : ChangeSpec := { name := "inodeBack", fn := fun _ => fun
  | [d1, d2, d3] => { results := [.lit (.bool true)], args := [d1, d2, d3] }
  | _ => none }
def inodeBackRow : OpenClaim := { program := "ytbgjhmdedillhaa", sum := "bd38caadb51bc0d1cd5407c76a6f982f18381e1f3c59663de556d7063acfcbd2", func := "signet/signetlaw14.InodeBack", spec := "inodeBack", unfollowed := true, recurses := true, apart := false }
def InodeBackSaid : Prop := inodeBackRow.holds Try.pinned (OpenSpec.ofChange inodeBackSpec)

/-- ITS FALSE NEIGHBOUR: 'it returns false'. Refute it at one input. -/
def inodeBackWrong : ChangeSpec := { name := "inodeBack", fn := fun _ => fun
  | [d1, d2, d3] => { results := [.lit (.bool false)], args := [d1, d2, d3] }
  | _ => none }
def InodeBackWrongFalsely : Prop := inodeBackRow.holds Try.pinned (OpenSpec.ofChange inodeBackWrong)

/-- 'signetlaw20.SuperFits': WHATEVER THE INPUT: true; the input reads as it did. -/
def superFitsSpec : ChangeSpec := { name := "superFits", fn := fun _ => fun
  | [d1, d2, d3] => { results := [.lit (.bool true)], args := [d1, d2, d3] }
  | _ => none }
def superFitsRow : OpenClaim := { program := "ytbgjhmdedillhaa", sum := "bd38caadb51bc0d1cd5407c76a6f982f18381e1f3c59663de556d7063acfcbd2", func := "signet/signetlaw20.SuperFits", spec := "superFits", unfollowed := true, recurses := true, apart := false }
def SuperFitsSaid : Prop := superFitsRow.holds Try.pinned (OpenSpec.ofChange superFitsSpec)

/-- ITS FALSE NEIGHBOUR: 'it returns false'. Refute it at one input. -/
def superFitsWrong : ChangeSpec := { name := "superFits", fn := fun _ => fun
  | [d1, d2, d3] => { results := [.lit (.bool false)], args := [d1, d2, d3] }
  | _ => none }
def SuperFitsWrongFalsely : Prop := superFitsRow.holds Try.pinned (OpenSpec.ofChange superFitsWrong)

/-- 'signetlaw20.SuperCodes': WHATEVER THE INPUT: true; the input reads as it did. -/
def superCodesSpec : ChangeSpec := { name := "superCodes", fn := fun _ => fun
  | [d1, d2] => { results := [.lit (.bool true)], args := [d1, d2] }
  | _ => none }
def superCodesRow : OpenClaim := { program := "ytbgjhmdedillhaa", sum := "bd38caadb51bc0d1cd5407c76a6f982f18381e1f3c59663de556d7063acfcbd2", func := "signet/signetlaw20.SuperCodes", spec := "superCodes", unfollowed := true, recurses := true, apart := false }
def SuperCodesSaid : Prop := superCodesRow.holds Try.pinned (OpenSpec.ofChange superCodesSpec)

/-- ITS FALSE NEIGHBOUR: 'it returns false'. Refute it at one input. -/
def superCodesWrong : ChangeSpec := { name := "superCodes", fn := fun _ => fun
  | [d1, d2] => { results := [.lit (.bool false)], args := [d1, d2] }
  | _ => none }
def SuperCodesWrongFalsely : Prop := superCodesRow.holds Try.pinned (OpenSpec.ofChange superCodesWrong)

/-- 'signetlaw20.SuperBack': WHATEVER THE INPUT: true; the input reads as it did. -/
def superBackSpec : ChangeSpec := { name := "superBack", fn := fun _ => fun
  | [d1, d2, d3] => { results := [.lit (.bool true)], args := [d1, d2, d3] }
  | _ => none }
def superBackRow : OpenClaim := { program := "ytbgjhmdedillhaa", sum := "bd38caadb51bc0d1cd5407c76a6f982f18381e1f3c59663de556d7063acfcbd2", func := "signet/signetlaw20.SuperBack", spec := "superBack", unfollowed := true, recurses := true, apart := false }
def SuperBackSaid : Prop := superBackRow.holds Try.pinned (OpenSpec.ofChange superBackSpec)

/-- ITS FALSE NEIGHBOUR: 'it returns false'. Refute it at one input. -/
def superBackWrong : ChangeSpec := { name := "superBack", fn := fun _ => fun
  | [d1, d2, d3] => { results := [.lit (.bool false)], args := [d1, d2, d3] }
  | _ => none }
def SuperBackWrongFalsely : Prop := superBackRow.holds Try.pinned (OpenSpec.ofChange superBackWrong)

/- THE SECOND FORM. 'bulk': how many values and letters a reading holds, each counted each time it is reached (what is shared counts as often as it is met; a slice's spare places count too). A statement '..UptoSaid' is the law's where the arguments, and the package variables that the reading takes, are together of bulk at most 1048576: NARROWER than '..Said'. Prove '..Said' where nothing that the law and all that it calls make is longer than what came in: it says more and counts as full. Else prove '..UptoSaid'. A law counts once. -/
mutual
def uptoBulk {H : Type} : DataW H → Nat
  | .lit (.string bytes) => bytes.length + 1
  | .lit _ => 1
  | .nil => 1
  | .ptr d => uptoBulk d + 1
  | .slice elems spare => uptoBulkAll elems + uptoBulkAll spare + 1
  | .agg parts => uptoBulkAll parts + 1
  | .iface _ d => uptoBulk d + 1
  | .map entries => uptoBulkEntries entries + 1
  | .held _ => 1
def uptoBulkAll {H : Type} : List (DataW H) → Nat
  | [] => 0
  | d :: r => uptoBulk d + uptoBulkAll r
def uptoBulkEntries {H : Type} : List (Lit × DataW H) → Nat
  | [] => 0
  | x :: r => uptoBulkEntry x + uptoBulkEntries r
def uptoBulkEntry {H : Type} : Lit × DataW H → Nat
  | (.string bytes, d) => bytes.length + uptoBulk d + 1
  | (_, d) => uptoBulk d + 1
 end
def uptoSmall : (H : Type) → List (DataW H) → Bool := fun _ ds => decide (uptoBulkAll ds ≤ 1048576)
def OpenSpec.upto (s : _root_.Go.ChangeSpec) : _root_.Go.OpenSpec := { _root_.Go.OpenSpec.ofChange s with cond := some uptoSmall }

/-- 'signetlaw09.TreeWays', WHERE WHAT IT READS IS OF BULK AT MOST 1048576: true; the input reads as it did. -/
def treeWaysUptoRow : OpenClaim := { program := "ytbgjhmdedillhaa", sum := "bd38caadb51bc0d1cd5407c76a6f982f18381e1f3c59663de556d7063acfcbd2", func := "signet/signetlaw09.TreeWays", spec := "treeWays", apart := false, narrowed := true }
def TreeWaysUptoSaid : Prop := treeWaysUptoRow.holds Try.pinned (OpenSpec.upto treeWaysSpec)

/-- 'signetlaw14.InodeSizes', WHERE WHAT IT READS IS OF BULK AT MOST 1048576: true; the input reads as it did. -/
def inodeSizesUptoRow : OpenClaim := { program := "ytbgjhmdedillhaa", sum := "bd38caadb51bc0d1cd5407c76a6f982f18381e1f3c59663de556d7063acfcbd2", func := "signet/signetlaw14.InodeSizes", spec := "inodeSizes", apart := false, narrowed := true }
def InodeSizesUptoSaid : Prop := inodeSizesUptoRow.holds Try.pinned (OpenSpec.upto inodeSizesSpec)

/-- 'signetlaw14.InodeCodes', WHERE WHAT IT READS IS OF BULK AT MOST 1048576: true; the input reads as it did. -/
def inodeCodesUptoRow : OpenClaim := { program := "ytbgjhmdedillhaa", sum := "bd38caadb51bc0d1cd5407c76a6f982f18381e1f3c59663de556d7063acfcbd2", func := "signet/signetlaw14.InodeCodes", spec := "inodeCodes", unfollowed := true, recurses := true, apart := false, narrowed := true }
def InodeCodesUptoSaid : Prop := inodeCodesUptoRow.holds Try.pinned (OpenSpec.upto inodeCodesSpec)

/-- 'signetlaw14.InodeLeaves', WHERE WHAT IT READS IS OF BULK AT MOST 1048576: true; the input reads as it did. -/
def inodeLeavesUptoRow : OpenClaim := { program := "ytbgjhmdedillhaa", sum := "bd38caadb51bc0d1cd5407c76a6f982f18381e1f3c59663de556d7063acfcbd2", func := "signet/signetlaw14.InodeLeaves", spec := "inodeLeaves", unfollowed := true, recurses := true, apart := false, narrowed := true }
def InodeLeavesUptoSaid : Prop := inodeLeavesUptoRow.holds Try.pinned (OpenSpec.upto inodeLeavesSpec)

/-- 'signetlaw14.InodeBack', WHERE WHAT IT READS IS OF BULK AT MOST 1048576: true; the input reads as it did. -/
def inodeBackUptoRow : OpenClaim := { program := "ytbgjhmdedillhaa", sum := "bd38caadb51bc0d1cd5407c76a6f982f18381e1f3c59663de556d7063acfcbd2", func := "signet/signetlaw14.InodeBack", spec := "inodeBack", unfollowed := true, recurses := true, apart := false, narrowed := true }
def InodeBackUptoSaid : Prop := inodeBackUptoRow.holds Try.pinned (OpenSpec.upto inodeBackSpec)

/-- 'signetlaw20.SuperFits', WHERE WHAT IT READS IS OF BULK AT MOST 1048576: true; the input reads as it did. -/
def superFitsUptoRow : OpenClaim := { program := "ytbgjhmdedillhaa", sum := "bd38caadb51bc0d1cd5407c76a6f982f18381e1f3c59663de556d7063acfcbd2", func := "signet/signetlaw20.SuperFits", spec := "superFits", unfollowed := true, recurses := true, apart := false, narrowed := true }
def SuperFitsUptoSaid : Prop := superFitsUptoRow.holds Try.pinned (OpenSpec.upto superFitsSpec)

/-- 'signetlaw20.SuperCodes', WHERE WHAT IT READS IS OF BULK AT MOST 1048576: true; the input reads as it did. -/
def superCodesUptoRow : OpenClaim := { program := "ytbgjhmdedillhaa", sum := "bd38caadb51bc0d1cd5407c76a6f982f18381e1f3c59663de556d7063acfcbd2", func := "signet/signetlaw20.SuperCodes", spec := "superCodes", unfollowed := true, recurses := true, apart := false, narrowed := true }
def SuperCodesUptoSaid : Prop := superCodesUptoRow.holds Try.pinned (OpenSpec.upto superCodesSpec)

/-- 'signetlaw20.SuperBack', WHERE WHAT IT READS IS OF BULK AT MOST 1048576: true; the input reads as it did. -/
def superBackUptoRow : OpenClaim := { program := "ytbgjhmdedillhaa", sum := "bd38caadb51bc0d1cd5407c76a6f982f18381e1f3c59663de556d7063acfcbd2", func := "signet/signetlaw20.SuperBack", spec := "superBack", unfollowed := true, recurses := true, apart := false, narrowed := true }
def SuperBackUptoSaid : Prop := superBackUptoRow.holds Try.pinned (OpenSpec.upto superBackSpec)

end Rows
end Go.Proofs.Ytbgjhmdedillhaa
