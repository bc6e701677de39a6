/-
  No cell of these rows narrows 'for every input' (looked for: loops, veiled, ifaces, maps, wideKeys, modest, calm, conditions, laid).
  DERIVED. THE GIVEN ROWS OF THIS SEAT. 12 by the template 'for every input the law returns true; each argument reads behind the call as it read before'; 0 by the template 'total and deterministic' (their statements: YtbfpgigbakhplaaTotals.lean).
  GIVEN WITH THE SEED: the statements are not yours to turn. If you find one false, say at which input.
  Laid BY PROGRAM, IN A SANDBOX (cutbox-rows.mjs): the forced cells as the released guide's own fill.sh prints them over the translation 524444ee0482c76f… (all of the seat's roots in one cut). By AI agents, Wed Nov 11 2026. No macro, syntax, notation, axiom, sorry.
-/
import Derived.Test.YtbfpgigbakhplaaChecked
import GoSem.Claim
import GoSem.ClaimJoined
import GoSem.ClaimMapViews
import Derived.JoinedTies
import Derived.KernelRfl
namespace Go.Proofs.Ytbfpgigbakhplaa
/- THE CELL 'sum', in the pinned program and in every row, IS THE sha256 OF THE DUMP (.gsa) THAT YtbfpgigbakhplaaProg.lean LOADS. Nothing in Lean hashes anything: it is a label: what it is worth is what the hold of that sum in a sandbox is worth. -/
noncomputable def Try.pinned : Pinned := { name := "ytbfpgigbakhplaa", sum := "524444ee0482c76fdd2577fee9657549341300c11f6164842fe16c485b28ba8c", checked := Try.checked }
namespace Rows
def none {H : Type} : Left H := { results := [], args := [] }

/-- 'signetlaw04.BlockOf': WHATEVER THE INPUT: true; the input reads as it did. -/
def blockOfSpec : ChangeSpec := { name := "blockOf", fn := fun _ => fun
  | [d1, d2] => { results := [.lit (.bool true)], args := [d1, d2] }
  | _ => none }
def blockOfRow : OpenClaim := { program := "ytbfpgigbakhplaa", sum := "524444ee0482c76fdd2577fee9657549341300c11f6164842fe16c485b28ba8c", func := "signet/signetlaw04.BlockOf", spec := "blockOf", plainKeys := false, apart := false }
def BlockOfSaid : Prop := blockOfRow.holds Try.pinned (OpenSpec.ofChange blockOfSpec)

/-- ITS FALSE NEIGHBOUR: 'it returns false'. Refute it at one input. -/
def blockOfWrong : ChangeSpec := { name := "blockOf", fn := fun _ => fun
  | [d1, d2] => { results := [.lit (.bool false)], args := [d1, d2] }
  | _ => none }
def BlockOfWrongFalsely : Prop := blockOfRow.holds Try.pinned (OpenSpec.ofChange blockOfWrong)

/-- 'signetlaw04.BlockCuts': WHATEVER THE INPUT: true; the input reads as it did. -/
def blockCutsSpec : ChangeSpec := { name := "blockCuts", fn := fun _ => fun
  | [d1, d2, d3] => { results := [.lit (.bool true)], args := [d1, d2, d3] }
  | _ => none }
def blockCutsRow : OpenClaim := { program := "ytbfpgigbakhplaa", sum := "524444ee0482c76fdd2577fee9657549341300c11f6164842fe16c485b28ba8c", func := "signet/signetlaw04.BlockCuts", spec := "blockCuts", plainKeys := false, apart := false }
def BlockCutsSaid : Prop := blockCutsRow.holds Try.pinned (OpenSpec.ofChange blockCutsSpec)

/-- ITS FALSE NEIGHBOUR: 'it returns false'. Refute it at one input. -/
def blockCutsWrong : ChangeSpec := { name := "blockCuts", fn := fun _ => fun
  | [d1, d2, d3] => { results := [.lit (.bool false)], args := [d1, d2, d3] }
  | _ => none }
def BlockCutsWrongFalsely : Prop := blockCutsRow.holds Try.pinned (OpenSpec.ofChange blockCutsWrong)

/-- 'signetlaw04.BlockBack': WHATEVER THE INPUT: true; the input reads as it did. -/
def blockBackSpec : ChangeSpec := { name := "blockBack", fn := fun _ => fun
  | [d1, d2] => { results := [.lit (.bool true)], args := [d1, d2] }
  | _ => none }
def blockBackRow : OpenClaim := { program := "ytbfpgigbakhplaa", sum := "524444ee0482c76fdd2577fee9657549341300c11f6164842fe16c485b28ba8c", func := "signet/signetlaw04.BlockBack", spec := "blockBack", plainKeys := false, apart := false }
def BlockBackSaid : Prop := blockBackRow.holds Try.pinned (OpenSpec.ofChange blockBackSpec)

/-- ITS FALSE NEIGHBOUR: 'it returns false'. Refute it at one input. -/
def blockBackWrong : ChangeSpec := { name := "blockBack", fn := fun _ => fun
  | [d1, d2] => { results := [.lit (.bool false)], args := [d1, d2] }
  | _ => none }
def BlockBackWrongFalsely : Prop := blockBackRow.holds Try.pinned (OpenSpec.ofChange blockBackWrong)

/-- 'signetlaw04.BlockNear': WHATEVER THE INPUT: true; the input reads as it did. -/
def blockNearSpec : ChangeSpec := { name := "blockNear", fn := fun _ => fun
  | [d1, d2] => { results := [.lit (.bool true)], args := [d1, d2] }
  | _ => none }
def blockNearRow : OpenClaim := { program := "ytbfpgigbakhplaa", sum := "524444ee0482c76fdd2577fee9657549341300c11f6164842fe16c485b28ba8c", func := "signet/signetlaw04.BlockNear", spec := "blockNear", plainKeys := false, apart := false }
def BlockNearSaid : Prop := blockNearRow.holds Try.pinned (OpenSpec.ofChange blockNearSpec)

/-- ITS FALSE NEIGHBOUR: 'it returns false'. Refute it at one input. -/
def blockNearWrong : ChangeSpec := { name := "blockNear", fn := fun _ => fun
  | [d1, d2] => { results := [.lit (.bool false)], args := [d1, d2] }
  | _ => none }
def BlockNearWrongFalsely : Prop := blockNearRow.holds Try.pinned (OpenSpec.ofChange blockNearWrong)

/-- 'signetlaw04.BlockDiffers': WHATEVER THE INPUT: true; the input reads as it did. -/
def blockDiffersSpec : ChangeSpec := { name := "blockDiffers", fn := fun _ => fun
  | [d1, d2, d3] => { results := [.lit (.bool true)], args := [d1, d2, d3] }
  | _ => none }
def blockDiffersRow : OpenClaim := { program := "ytbfpgigbakhplaa", sum := "524444ee0482c76fdd2577fee9657549341300c11f6164842fe16c485b28ba8c", func := "signet/signetlaw04.BlockDiffers", spec := "blockDiffers", plainKeys := false, apart := false }
def BlockDiffersSaid : Prop := blockDiffersRow.holds Try.pinned (OpenSpec.ofChange blockDiffersSpec)

/-- ITS FALSE NEIGHBOUR: 'it returns false'. Refute it at one input. -/
def blockDiffersWrong : ChangeSpec := { name := "blockDiffers", fn := fun _ => fun
  | [d1, d2, d3] => { results := [.lit (.bool false)], args := [d1, d2, d3] }
  | _ => none }
def BlockDiffersWrongFalsely : Prop := blockDiffersRow.holds Try.pinned (OpenSpec.ofChange blockDiffersWrong)

/-- 'signetlaw04.BlockPatches': WHATEVER THE INPUT: true; the input reads as it did. -/
def blockPatchesSpec : ChangeSpec := { name := "blockPatches", fn := fun _ => fun
  | [d1, d2, d3] => { results := [.lit (.bool true)], args := [d1, d2, d3] }
  | _ => none }
def blockPatchesRow : OpenClaim := { program := "ytbfpgigbakhplaa", sum := "524444ee0482c76fdd2577fee9657549341300c11f6164842fe16c485b28ba8c", func := "signet/signetlaw04.BlockPatches", spec := "blockPatches", plainKeys := false, apart := false }
def BlockPatchesSaid : Prop := blockPatchesRow.holds Try.pinned (OpenSpec.ofChange blockPatchesSpec)

/-- ITS FALSE NEIGHBOUR: 'it returns false'. Refute it at one input. -/
def blockPatchesWrong : ChangeSpec := { name := "blockPatches", fn := fun _ => fun
  | [d1, d2, d3] => { results := [.lit (.bool false)], args := [d1, d2, d3] }
  | _ => none }
def BlockPatchesWrongFalsely : Prop := blockPatchesRow.holds Try.pinned (OpenSpec.ofChange blockPatchesWrong)

/-- 'signetlaw04.BlockParts': WHATEVER THE INPUT: true; the input reads as it did. -/
def blockPartsSpec : ChangeSpec := { name := "blockParts", fn := fun _ => fun
  | [d1, d2] => { results := [.lit (.bool true)], args := [d1, d2] }
  | _ => none }
def blockPartsRow : OpenClaim := { program := "ytbfpgigbakhplaa", sum := "524444ee0482c76fdd2577fee9657549341300c11f6164842fe16c485b28ba8c", func := "signet/signetlaw04.BlockParts", spec := "blockParts", plainKeys := false, apart := false }
def BlockPartsSaid : Prop := blockPartsRow.holds Try.pinned (OpenSpec.ofChange blockPartsSpec)

/-- ITS FALSE NEIGHBOUR: 'it returns false'. Refute it at one input. -/
def blockPartsWrong : ChangeSpec := { name := "blockParts", fn := fun _ => fun
  | [d1, d2] => { results := [.lit (.bool false)], args := [d1, d2] }
  | _ => none }
def BlockPartsWrongFalsely : Prop := blockPartsRow.holds Try.pinned (OpenSpec.ofChange blockPartsWrong)

/-- 'signetlaw04.BlockSums': WHATEVER THE INPUT: true; the input reads as it did. -/
def blockSumsSpec : ChangeSpec := { name := "blockSums", fn := fun _ => fun
  | [d1, d2] => { results := [.lit (.bool true)], args := [d1, d2] }
  | _ => none }
def blockSumsRow : OpenClaim := { program := "ytbfpgigbakhplaa", sum := "524444ee0482c76fdd2577fee9657549341300c11f6164842fe16c485b28ba8c", func := "signet/signetlaw04.BlockSums", spec := "blockSums", unfollowed := true, recurses := true, plainKeys := false, apart := false }
def BlockSumsSaid : Prop := blockSumsRow.holds Try.pinned (OpenSpec.ofChange blockSumsSpec)

/-- ITS FALSE NEIGHBOUR: 'it returns false'. Refute it at one input. -/
def blockSumsWrong : ChangeSpec := { name := "blockSums", fn := fun _ => fun
  | [d1, d2] => { results := [.lit (.bool false)], args := [d1, d2] }
  | _ => none }
def BlockSumsWrongFalsely : Prop := blockSumsRow.holds Try.pinned (OpenSpec.ofChange blockSumsWrong)

/-- 'signetlaw07.NodeRefs': WHATEVER THE INPUT: true; the input reads as it did. -/
def nodeRefsSpec : ChangeSpec := { name := "nodeRefs", fn := fun _ => fun
  | [d1, d2, d3] => { results := [.lit (.bool true)], args := [d1, d2, d3] }
  | _ => none }
def nodeRefsRow : OpenClaim := { program := "ytbfpgigbakhplaa", sum := "524444ee0482c76fdd2577fee9657549341300c11f6164842fe16c485b28ba8c", func := "signet/signetlaw07.NodeRefs", spec := "nodeRefs", plainKeys := false, apart := false }
def NodeRefsSaid : Prop := nodeRefsRow.holds Try.pinned (OpenSpec.ofChange nodeRefsSpec)

/-- ITS FALSE NEIGHBOUR: 'it returns false'. Refute it at one input. -/
def nodeRefsWrong : ChangeSpec := { name := "nodeRefs", fn := fun _ => fun
  | [d1, d2, d3] => { results := [.lit (.bool false)], args := [d1, d2, d3] }
  | _ => none }
def NodeRefsWrongFalsely : Prop := nodeRefsRow.holds Try.pinned (OpenSpec.ofChange nodeRefsWrong)

/-- 'signetlaw07.NodeReads': WHATEVER THE INPUT: true; the input reads as it did. -/
def nodeReadsSpec : ChangeSpec := { name := "nodeReads", fn := fun _ => fun
  | [d1, d2, d3] => { results := [.lit (.bool true)], args := [d1, d2, d3] }
  | _ => none }
def nodeReadsRow : OpenClaim := { program := "ytbfpgigbakhplaa", sum := "524444ee0482c76fdd2577fee9657549341300c11f6164842fe16c485b28ba8c", func := "signet/signetlaw07.NodeReads", spec := "nodeReads", plainKeys := false, apart := false }
def NodeReadsSaid : Prop := nodeReadsRow.holds Try.pinned (OpenSpec.ofChange nodeReadsSpec)

/-- ITS FALSE NEIGHBOUR: 'it returns false'. Refute it at one input. -/
def nodeReadsWrong : ChangeSpec := { name := "nodeReads", fn := fun _ => fun
  | [d1, d2, d3] => { results := [.lit (.bool false)], args := [d1, d2, d3] }
  | _ => none }
def NodeReadsWrongFalsely : Prop := nodeReadsRow.holds Try.pinned (OpenSpec.ofChange nodeReadsWrong)

/-- 'signetlaw07.NodeBlocks': WHATEVER THE INPUT: true; the input reads as it did. -/
def nodeBlocksSpec : ChangeSpec := { name := "nodeBlocks", fn := fun _ => fun
  | [d1, d2, d3] => { results := [.lit (.bool true)], args := [d1, d2, d3] }
  | _ => none }
def nodeBlocksRow : OpenClaim := { program := "ytbfpgigbakhplaa", sum := "524444ee0482c76fdd2577fee9657549341300c11f6164842fe16c485b28ba8c", func := "signet/signetlaw07.NodeBlocks", spec := "nodeBlocks", plainKeys := false, apart := false }
def NodeBlocksSaid : Prop := nodeBlocksRow.holds Try.pinned (OpenSpec.ofChange nodeBlocksSpec)

/-- ITS FALSE NEIGHBOUR: 'it returns false'. Refute it at one input. -/
def nodeBlocksWrong : ChangeSpec := { name := "nodeBlocks", fn := fun _ => fun
  | [d1, d2, d3] => { results := [.lit (.bool false)], args := [d1, d2, d3] }
  | _ => none }
def NodeBlocksWrongFalsely : Prop := nodeBlocksRow.holds Try.pinned (OpenSpec.ofChange nodeBlocksWrong)

/-- 'signetlaw07.NodeOrders': WHATEVER THE INPUT: true; the input reads as it did. -/
def nodeOrdersSpec : ChangeSpec := { name := "nodeOrders", fn := fun _ => fun
  | [d] => { results := [.lit (.bool true)], args := [d] }
  | _ => none }
def nodeOrdersRow : OpenClaim := { program := "ytbfpgigbakhplaa", sum := "524444ee0482c76fdd2577fee9657549341300c11f6164842fe16c485b28ba8c", func := "signet/signetlaw07.NodeOrders", spec := "nodeOrders", inPlace := ["internal/bytealg.Compare"], unfollowed := true, recurses := true, plainKeys := false, apart := false }
def NodeOrdersSaid : Prop := nodeOrdersRow.holds Try.pinned (OpenSpec.ofChange nodeOrdersSpec)

/-- ITS FALSE NEIGHBOUR: 'it returns false'. Refute it at one input. -/
def nodeOrdersWrong : ChangeSpec := { name := "nodeOrders", fn := fun _ => fun
  | [d] => { results := [.lit (.bool false)], args := [d] }
  | _ => none }
def NodeOrdersWrongFalsely : Prop := nodeOrdersRow.holds Try.pinned (OpenSpec.ofChange nodeOrdersWrong)

/- THE SECOND FORM. 'bulk': how many values and letters a reading holds, each counted each time it is reached (what is shared counts as often as it is met; a slice's spare places count too). A statement '..UptoSaid' is the law's where the arguments, and the package variables that the reading takes, are together of bulk at most 1048576: NARROWER than '..Said'. Prove '..Said' where nothing that the law and all that it calls make is longer than what came in: it says more and counts as full. Else prove '..UptoSaid'. A law counts once. -/
mutual
def uptoBulk {H : Type} : DataW H → Nat
  | .lit (.string bytes) => bytes.length + 1
  | .lit _ => 1
  | .nil => 1
  | .ptr d => uptoBulk d + 1
  | .slice elems spare => uptoBulkAll elems + uptoBulkAll spare + 1
  | .agg parts => uptoBulkAll parts + 1
  | .iface _ d => uptoBulk d + 1
  | .map entries => uptoBulkEntries entries + 1
  | .held _ => 1
def uptoBulkAll {H : Type} : List (DataW H) → Nat
  | [] => 0
  | d :: r => uptoBulk d + uptoBulkAll r
def uptoBulkEntries {H : Type} : List (Lit × DataW H) → Nat
  | [] => 0
  | x :: r => uptoBulkEntry x + uptoBulkEntries r
def uptoBulkEntry {H : Type} : Lit × DataW H → Nat
  | (.string bytes, d) => bytes.length + uptoBulk d + 1
  | (_, d) => uptoBulk d + 1
 end
def uptoSmall : (H : Type) → List (DataW H) → Bool := fun _ ds => decide (uptoBulkAll ds ≤ 1048576)
def OpenSpec.upto (s : _root_.Go.ChangeSpec) : _root_.Go.OpenSpec := { _root_.Go.OpenSpec.ofChange s with cond := some uptoSmall }

/-- 'signetlaw04.BlockOf', WHERE WHAT IT READS IS OF BULK AT MOST 1048576: true; the input reads as it did. -/
def blockOfUptoRow : OpenClaim := { program := "ytbfpgigbakhplaa", sum := "524444ee0482c76fdd2577fee9657549341300c11f6164842fe16c485b28ba8c", func := "signet/signetlaw04.BlockOf", spec := "blockOf", plainKeys := false, apart := false, narrowed := true }
def BlockOfUptoSaid : Prop := blockOfUptoRow.holds Try.pinned (OpenSpec.upto blockOfSpec)

/-- 'signetlaw04.BlockCuts', WHERE WHAT IT READS IS OF BULK AT MOST 1048576: true; the input reads as it did. -/
def blockCutsUptoRow : OpenClaim := { program := "ytbfpgigbakhplaa", sum := "524444ee0482c76fdd2577fee9657549341300c11f6164842fe16c485b28ba8c", func := "signet/signetlaw04.BlockCuts", spec := "blockCuts", plainKeys := false, apart := false, narrowed := true }
def BlockCutsUptoSaid : Prop := blockCutsUptoRow.holds Try.pinned (OpenSpec.upto blockCutsSpec)

/-- 'signetlaw04.BlockBack', WHERE WHAT IT READS IS OF BULK AT MOST 1048576: true; the input reads as it did. -/
def blockBackUptoRow : OpenClaim := { program := "ytbfpgigbakhplaa", sum := "524444ee0482c76fdd2577fee9657549341300c11f6164842fe16c485b28ba8c", func := "signet/signetlaw04.BlockBack", spec := "blockBack", plainKeys := false, apart := false, narrowed := true }
def BlockBackUptoSaid : Prop := blockBackUptoRow.holds Try.pinned (OpenSpec.upto blockBackSpec)

/-- 'signetlaw04.BlockNear', WHERE WHAT IT READS IS OF BULK AT MOST 1048576: true; the input reads as it did. -/
def blockNearUptoRow : OpenClaim := { program := "ytbfpgigbakhplaa", sum := "524444ee0482c76fdd2577fee9657549341300c11f6164842fe16c485b28ba8c", func := "signet/signetlaw04.BlockNear", spec := "blockNear", plainKeys := false, apart := false, narrowed := true }
def BlockNearUptoSaid : Prop := blockNearUptoRow.holds Try.pinned (OpenSpec.upto blockNearSpec)

/-- 'signetlaw04.BlockDiffers', WHERE WHAT IT READS IS OF BULK AT MOST 1048576: true; the input reads as it did. -/
def blockDiffersUptoRow : OpenClaim := { program := "ytbfpgigbakhplaa", sum := "524444ee0482c76fdd2577fee9657549341300c11f6164842fe16c485b28ba8c", func := "signet/signetlaw04.BlockDiffers", spec := "blockDiffers", plainKeys := false, apart := false, narrowed := true }
def BlockDiffersUptoSaid : Prop := blockDiffersUptoRow.holds Try.pinned (OpenSpec.upto blockDiffersSpec)

/-- 'signetlaw04.BlockPatches', WHERE WHAT IT READS IS OF BULK AT MOST 1048576: true; the input reads as it did. -/
def blockPatchesUptoRow : OpenClaim := { program := "ytbfpgigbakhplaa", sum := "524444ee0482c76fdd2577fee9657549341300c11f6164842fe16c485b28ba8c", func := "signet/signetlaw04.BlockPatches", spec := "blockPatches", plainKeys := false, apart := false, narrowed := true }
def BlockPatchesUptoSaid : Prop := blockPatchesUptoRow.holds Try.pinned (OpenSpec.upto blockPatchesSpec)

/-- 'signetlaw04.BlockParts', WHERE WHAT IT READS IS OF BULK AT MOST 1048576: true; the input reads as it did. -/
def blockPartsUptoRow : OpenClaim := { program := "ytbfpgigbakhplaa", sum := "524444ee0482c76fdd2577fee9657549341300c11f6164842fe16c485b28ba8c", func := "signet/signetlaw04.BlockParts", spec := "blockParts", plainKeys := false, apart := false, narrowed := true }
def BlockPartsUptoSaid : Prop := blockPartsUptoRow.holds Try.pinned (OpenSpec.upto blockPartsSpec)

/-- 'signetlaw04.BlockSums', WHERE WHAT IT READS IS OF BULK AT MOST 1048576: true; the input reads as it did. -/
def blockSumsUptoRow : OpenClaim := { program := "ytbfpgigbakhplaa", sum := "524444ee0482c76fdd2577fee9657549341300c11f6164842fe16c485b28ba8c", func := "signet/signetlaw04.BlockSums", spec := "blockSums", unfollowed := true, recurses := true, plainKeys := false, apart := false, narrowed := true }
def BlockSumsUptoSaid : Prop := blockSumsUptoRow.holds Try.pinned (OpenSpec.upto blockSumsSpec)

/-- 'signetlaw07.NodeRefs', WHERE WHAT IT READS IS OF BULK AT MOST 1048576: true; the input reads as it did. -/
def nodeRefsUptoRow : OpenClaim := { program := "ytbfpgigbakhplaa", sum := "524444ee0482c76fdd2577fee9657549341300c11f6164842fe16c485b28ba8c", func := "signet/signetlaw07.NodeRefs", spec := "nodeRefs", plainKeys := false, apart := false, narrowed := true }
def NodeRefsUptoSaid : Prop := nodeRefsUptoRow.holds Try.pinned (OpenSpec.upto nodeRefsSpec)

/-- 'signetlaw07.NodeReads', WHERE WHAT IT READS IS OF BULK AT MOST 1048576: true; the input reads as it did. -/
def nodeReadsUptoRow : OpenClaim := { program := "ytbfpgigbakhplaa", sum := "524444ee0482c76fdd2577fee9657549341300c11f6164842fe16c485b28ba8c", func := "signet/signetlaw07.NodeReads", spec := "nodeReads", plainKeys := false, apart := false, narrowed := true }
def NodeReadsUptoSaid : Prop := nodeReadsUptoRow.holds Try.pinned (OpenSpec.upto nodeReadsSpec)

/-- 'signetlaw07.NodeBlocks', WHERE WHAT IT READS IS OF BULK AT MOST 1048576: true; the input reads as it did. -/
def nodeBlocksUptoRow : OpenClaim := { program := "ytbfpgigbakhplaa", sum := "524444ee0482c76fdd2577fee9657549341300c11f6164842fe16c485b28ba8c", func := "signet/signetlaw07.NodeBlocks", spec := "nodeBlocks", plainKeys := false, apart := false, narrowed := true }
def NodeBlocksUptoSaid : Prop := nodeBlocksUptoRow.holds Try.pinned (OpenSpec.upto nodeBlocksSpec)

/-- 'signetlaw07.NodeOrders', WHERE WHAT IT READS IS OF BULK AT MOST 1048576: true; the input reads as it did. -/
def nodeOrdersUptoRow : OpenClaim := { program := "ytbfpgigbakhplaa", sum := "524444ee0482c76fdd2577fee9657549341300c11f6164842fe16c485b28ba8c", func := "signet/signetlaw07.NodeOrders", spec := "nodeOrders", inPlace := ["internal/bytealg.Compare"], unfollowed := true, recurses := true, plainKeys := false, apart := false, narrowed := true }
def NodeOrdersUptoSaid : Prop := nodeOrdersUptoRow.holds Try.pinned (OpenSpec.upto nodeOrdersSpec)

end Rows
end Go.Proofs.Ytbfpgigbakhplaa
