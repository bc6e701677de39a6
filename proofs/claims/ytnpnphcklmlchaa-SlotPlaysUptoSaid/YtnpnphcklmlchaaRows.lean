/-
  No cell of these rows narrows 'for every input' (looked for: loops, veiled, ifaces, maps, wideKeys, modest, calm, conditions, laid).
  DERIVED. THE GIVEN ROWS OF THIS SEAT. 12 by the template 'for every input the law returns true; each argument reads behind the call as it read before'; 0 by the template 'total and deterministic' (their statements: YtnpnphcklmlchaaTotals.lean).
  GIVEN WITH THE SEED: the statements are not yours to turn. If you find one false, say at which input.
  Laid BY PROGRAM, IN A SANDBOX (cutbox-rows.mjs): the forced cells as the released guide's own fill.sh prints them over the translation b4211cf5ea291132… (all of the seat's roots in one cut). By AI agents, Wed Nov 11 2026. No macro, syntax, notation, axiom, sorry.
-/
import Derived.Test.YtnpnphcklmlchaaChecked
import GoSem.Claim
import GoSem.ClaimJoined
import GoSem.ClaimMapViews
import Derived.JoinedTies
import Derived.KernelRfl
namespace Go.Proofs.Ytnpnphcklmlchaa
/- THE CELL 'sum', in the pinned program and in every row, IS THE sha256 OF THE DUMP (.gsa) THAT YtnpnphcklmlchaaProg.lean LOADS. Nothing in Lean hashes anything: it is a label: what it is worth is what the hold of that sum in a sandbox is worth. -/
noncomputable def Try.pinned : Pinned := { name := "ytnpnphcklmlchaa", sum := "b4211cf5ea291132de357d31b18dc5ed5fd96146dcc32f42ffdf596c2841989b", checked := Try.checked }
namespace Rows
def none {H : Type} : Left H := { results := [], args := [] }

/-- 'signetlaw03.DigestSums': WHATEVER THE INPUT: true; the input reads as it did. -/
def digestSumsSpec : ChangeSpec := { name := "digestSums", fn := fun _ => fun
  | [d1, d2] => { results := [.lit (.bool true)], args := [d1, d2] }
  | _ => none }
def digestSumsRow : OpenClaim := { program := "ytnpnphcklmlchaa", sum := "b4211cf5ea291132de357d31b18dc5ed5fd96146dcc32f42ffdf596c2841989b", func := "signet/signetlaw03.DigestSums", spec := "digestSums", unfollowed := true, recurses := true, plainKeys := false, apart := false }
def DigestSumsSaid : Prop := digestSumsRow.holds Try.pinned (OpenSpec.ofChange digestSumsSpec)

/-- ITS FALSE NEIGHBOUR: 'it returns false'. Refute it at one input. -/
def digestSumsWrong : ChangeSpec := { name := "digestSums", fn := fun _ => fun
  | [d1, d2] => { results := [.lit (.bool false)], args := [d1, d2] }
  | _ => none }
def DigestSumsWrongFalsely : Prop := digestSumsRow.holds Try.pinned (OpenSpec.ofChange digestSumsWrong)

/-- 'signetlaw03.DigestFeeds': WHATEVER THE INPUT: true; the input reads as it did. -/
def digestFeedsSpec : ChangeSpec := { name := "digestFeeds", fn := fun _ => fun
  | [d1, d2, d3] => { results := [.lit (.bool true)], args := [d1, d2, d3] }
  | _ => none }
def digestFeedsRow : OpenClaim := { program := "ytnpnphcklmlchaa", sum := "b4211cf5ea291132de357d31b18dc5ed5fd96146dcc32f42ffdf596c2841989b", func := "signet/signetlaw03.DigestFeeds", spec := "digestFeeds", unfollowed := true, recurses := true, plainKeys := false, apart := false }
def DigestFeedsSaid : Prop := digestFeedsRow.holds Try.pinned (OpenSpec.ofChange digestFeedsSpec)

/-- ITS FALSE NEIGHBOUR: 'it returns false'. Refute it at one input. -/
def digestFeedsWrong : ChangeSpec := { name := "digestFeeds", fn := fun _ => fun
  | [d1, d2, d3] => { results := [.lit (.bool false)], args := [d1, d2, d3] }
  | _ => none }
def DigestFeedsWrongFalsely : Prop := digestFeedsRow.holds Try.pinned (OpenSpec.ofChange digestFeedsWrong)

/-- 'signetlaw03.DigestLogs': WHATEVER THE INPUT: true; the input reads as it did. -/
def digestLogsSpec : ChangeSpec := { name := "digestLogs", fn := fun _ => fun
  | [d] => { results := [.lit (.bool true)], args := [d] }
  | _ => none }
def digestLogsRow : OpenClaim := { program := "ytnpnphcklmlchaa", sum := "b4211cf5ea291132de357d31b18dc5ed5fd96146dcc32f42ffdf596c2841989b", func := "signet/signetlaw03.DigestLogs", spec := "digestLogs", inPlace := ["maps.clone"], unfollowed := true, recurses := true, plainKeys := false, apart := false }
def DigestLogsSaid : Prop := digestLogsRow.holds Try.pinned (OpenSpec.ofChange digestLogsSpec)

/-- ITS FALSE NEIGHBOUR: 'it returns false'. Refute it at one input. -/
def digestLogsWrong : ChangeSpec := { name := "digestLogs", fn := fun _ => fun
  | [d] => { results := [.lit (.bool false)], args := [d] }
  | _ => none }
def DigestLogsWrongFalsely : Prop := digestLogsRow.holds Try.pinned (OpenSpec.ofChange digestLogsWrong)

/-- 'signetlaw05.DiskQuiet': WHATEVER THE INPUT: true; the input reads as it did. -/
def diskQuietSpec : ChangeSpec := { name := "diskQuiet", fn := fun _ => fun
  | [d] => { results := [.lit (.bool true)], args := [d] }
  | _ => none }
def diskQuietRow : OpenClaim := { program := "ytnpnphcklmlchaa", sum := "b4211cf5ea291132de357d31b18dc5ed5fd96146dcc32f42ffdf596c2841989b", func := "signet/signetlaw05.DiskQuiet", spec := "diskQuiet", plainKeys := false, apart := false }
def DiskQuietSaid : Prop := diskQuietRow.holds Try.pinned (OpenSpec.ofChange diskQuietSpec)

/-- ITS FALSE NEIGHBOUR: 'it returns false'. Refute it at one input. -/
def diskQuietWrong : ChangeSpec := { name := "diskQuiet", fn := fun _ => fun
  | [d] => { results := [.lit (.bool false)], args := [d] }
  | _ => none }
def DiskQuietWrongFalsely : Prop := diskQuietRow.holds Try.pinned (OpenSpec.ofChange diskQuietWrong)

/-- 'signetlaw05.DiskWas': WHATEVER THE INPUT: true; the input reads as it did. -/
def diskWasSpec : ChangeSpec := { name := "diskWas", fn := fun _ => fun
  | [d1, d2] => { results := [.lit (.bool true)], args := [d1, d2] }
  | _ => none }
def diskWasRow : OpenClaim := { program := "ytnpnphcklmlchaa", sum := "b4211cf5ea291132de357d31b18dc5ed5fd96146dcc32f42ffdf596c2841989b", func := "signet/signetlaw05.DiskWas", spec := "diskWas", plainKeys := false, apart := false }
def DiskWasSaid : Prop := diskWasRow.holds Try.pinned (OpenSpec.ofChange diskWasSpec)

/-- ITS FALSE NEIGHBOUR: 'it returns false'. Refute it at one input. -/
def diskWasWrong : ChangeSpec := { name := "diskWas", fn := fun _ => fun
  | [d1, d2] => { results := [.lit (.bool false)], args := [d1, d2] }
  | _ => none }
def DiskWasWrongFalsely : Prop := diskWasRow.holds Try.pinned (OpenSpec.ofChange diskWasWrong)

/-- 'signetlaw05.DiskWears': WHATEVER THE INPUT: true; the input reads as it did. -/
def diskWearsSpec : ChangeSpec := { name := "diskWears", fn := fun _ => fun
  | [d1, d2] => { results := [.lit (.bool true)], args := [d1, d2] }
  | _ => none }
def diskWearsRow : OpenClaim := { program := "ytnpnphcklmlchaa", sum := "b4211cf5ea291132de357d31b18dc5ed5fd96146dcc32f42ffdf596c2841989b", func := "signet/signetlaw05.DiskWears", spec := "diskWears", plainKeys := false, apart := false }
def DiskWearsSaid : Prop := diskWearsRow.holds Try.pinned (OpenSpec.ofChange diskWearsSpec)

/-- ITS FALSE NEIGHBOUR: 'it returns false'. Refute it at one input. -/
def diskWearsWrong : ChangeSpec := { name := "diskWears", fn := fun _ => fun
  | [d1, d2] => { results := [.lit (.bool false)], args := [d1, d2] }
  | _ => none }
def DiskWearsWrongFalsely : Prop := diskWearsRow.holds Try.pinned (OpenSpec.ofChange diskWearsWrong)

/-- 'signetlaw05.DiskNil': WHATEVER THE INPUT: true; the input reads as it did. -/
def diskNilSpec : ChangeSpec := { name := "diskNil", fn := fun _ => fun
  | [d] => { results := [.lit (.bool true)], args := [d] }
  | _ => none }
def diskNilRow : OpenClaim := { program := "ytnpnphcklmlchaa", sum := "b4211cf5ea291132de357d31b18dc5ed5fd96146dcc32f42ffdf596c2841989b", func := "signet/signetlaw05.DiskNil", spec := "diskNil", plainKeys := false, apart := false }
def DiskNilSaid : Prop := diskNilRow.holds Try.pinned (OpenSpec.ofChange diskNilSpec)

/-- ITS FALSE NEIGHBOUR: 'it returns false'. Refute it at one input. -/
def diskNilWrong : ChangeSpec := { name := "diskNil", fn := fun _ => fun
  | [d] => { results := [.lit (.bool false)], args := [d] }
  | _ => none }
def DiskNilWrongFalsely : Prop := diskNilRow.holds Try.pinned (OpenSpec.ofChange diskNilWrong)

/-- 'signetlaw06.SlotNil': WHATEVER THE INPUT: true; the input reads as it did. -/
def slotNilSpec : ChangeSpec := { name := "slotNil", fn := fun _ => fun
  | [d] => { results := [.lit (.bool true)], args := [d] }
  | _ => none }
def slotNilRow : OpenClaim := { program := "ytnpnphcklmlchaa", sum := "b4211cf5ea291132de357d31b18dc5ed5fd96146dcc32f42ffdf596c2841989b", func := "signet/signetlaw06.SlotNil", spec := "slotNil", plainKeys := false, apart := false }
def SlotNilSaid : Prop := slotNilRow.holds Try.pinned (OpenSpec.ofChange slotNilSpec)

/-- ITS FALSE NEIGHBOUR: 'it returns false'. Refute it at one input. -/
def slotNilWrong : ChangeSpec := { name := "slotNil", fn := fun _ => fun
  | [d] => { results := [.lit (.bool false)], args := [d] }
  | _ => none }
def SlotNilWrongFalsely : Prop := slotNilRow.holds Try.pinned (OpenSpec.ofChange slotNilWrong)

/-- 'signetlaw06.SlotOlder': WHATEVER THE INPUT: true; the input reads as it did. -/
def slotOlderSpec : ChangeSpec := { name := "slotOlder", fn := fun _ => fun
  | [d1, d2, d3] => { results := [.lit (.bool true)], args := [d1, d2, d3] }
  | _ => none }
def slotOlderRow : OpenClaim := { program := "ytnpnphcklmlchaa", sum := "b4211cf5ea291132de357d31b18dc5ed5fd96146dcc32f42ffdf596c2841989b", func := "signet/signetlaw06.SlotOlder", spec := "slotOlder", plainKeys := false, apart := false }
def SlotOlderSaid : Prop := slotOlderRow.holds Try.pinned (OpenSpec.ofChange slotOlderSpec)

/-- ITS FALSE NEIGHBOUR: 'it returns false'. Refute it at one input. -/
def slotOlderWrong : ChangeSpec := { name := "slotOlder", fn := fun _ => fun
  | [d1, d2, d3] => { results := [.lit (.bool false)], args := [d1, d2, d3] }
  | _ => none }
def SlotOlderWrongFalsely : Prop := slotOlderRow.holds Try.pinned (OpenSpec.ofChange slotOlderWrong)

/-- 'signetlaw06.SlotBytes': WHATEVER THE INPUT: true; the input reads as it did. -/
def slotBytesSpec : ChangeSpec := { name := "slotBytes", fn := fun _ => fun
  | [d1, d2, d3] => { results := [.lit (.bool true)], args := [d1, d2, d3] }
  | _ => none }
def slotBytesRow : OpenClaim := { program := "ytnpnphcklmlchaa", sum := "b4211cf5ea291132de357d31b18dc5ed5fd96146dcc32f42ffdf596c2841989b", func := "signet/signetlaw06.SlotBytes", spec := "slotBytes", plainKeys := false, apart := false }
def SlotBytesSaid : Prop := slotBytesRow.holds Try.pinned (OpenSpec.ofChange slotBytesSpec)

/-- ITS FALSE NEIGHBOUR: 'it returns false'. Refute it at one input. -/
def slotBytesWrong : ChangeSpec := { name := "slotBytes", fn := fun _ => fun
  | [d1, d2, d3] => { results := [.lit (.bool false)], args := [d1, d2, d3] }
  | _ => none }
def SlotBytesWrongFalsely : Prop := slotBytesRow.holds Try.pinned (OpenSpec.ofChange slotBytesWrong)

/-- 'signetlaw06.SlotGoes': WHATEVER THE INPUT: true; the input reads as it did. -/
def slotGoesSpec : ChangeSpec := { name := "slotGoes", fn := fun _ => fun
  | [d1, d2, d3] => { results := [.lit (.bool true)], args := [d1, d2, d3] }
  | _ => none }
def slotGoesRow : OpenClaim := { program := "ytnpnphcklmlchaa", sum := "b4211cf5ea291132de357d31b18dc5ed5fd96146dcc32f42ffdf596c2841989b", func := "signet/signetlaw06.SlotGoes", spec := "slotGoes", plainKeys := false, apart := false }
def SlotGoesSaid : Prop := slotGoesRow.holds Try.pinned (OpenSpec.ofChange slotGoesSpec)

/-- ITS FALSE NEIGHBOUR: 'it returns false'. Refute it at one input. -/
def slotGoesWrong : ChangeSpec := { name := "slotGoes", fn := fun _ => fun
  | [d1, d2, d3] => { results := [.lit (.bool false)], args := [d1, d2, d3] }
  | _ => none }
def SlotGoesWrongFalsely : Prop := slotGoesRow.holds Try.pinned (OpenSpec.ofChange slotGoesWrong)

/-- 'signetlaw06.SlotPlays': WHATEVER THE INPUT: true; the input reads as it did. -/
def slotPlaysSpec : ChangeSpec := { name := "slotPlays", fn := fun _ => fun
  | [d1, d2] => { results := [.lit (.bool true)], args := [d1, d2] }
  | _ => none }
def slotPlaysRow : OpenClaim := { program := "ytnpnphcklmlchaa", sum := "b4211cf5ea291132de357d31b18dc5ed5fd96146dcc32f42ffdf596c2841989b", func := "signet/signetlaw06.SlotPlays", spec := "slotPlays", plainKeys := false, apart := false }
def SlotPlaysSaid : Prop := slotPlaysRow.holds Try.pinned (OpenSpec.ofChange slotPlaysSpec)

/-- ITS FALSE NEIGHBOUR: 'it returns false'. Refute it at one input. -/
def slotPlaysWrong : ChangeSpec := { name := "slotPlays", fn := fun _ => fun
  | [d1, d2] => { results := [.lit (.bool false)], args := [d1, d2] }
  | _ => none }
def SlotPlaysWrongFalsely : Prop := slotPlaysRow.holds Try.pinned (OpenSpec.ofChange slotPlaysWrong)

/- THE SECOND FORM. 'bulk': how many values and letters a reading holds, each counted each time it is reached (what is shared counts as often as it is met; a slice's spare places count too). A statement '..UptoSaid' is the law's where the arguments, and the package variables that the reading takes, are together of bulk at most 1048576: NARROWER than '..Said'. Prove '..Said' where nothing that the law and all that it calls make is longer than what came in: it says more and counts as full. Else prove '..UptoSaid'. A law counts once. -/
mutual
def uptoBulk {H : Type} : DataW H → Nat
  | .lit (.string bytes) => bytes.length + 1
  | .lit _ => 1
  | .nil => 1
  | .ptr d => uptoBulk d + 1
  | .slice elems spare => uptoBulkAll elems + uptoBulkAll spare + 1
  | .agg parts => uptoBulkAll parts + 1
  | .iface _ d => uptoBulk d + 1
  | .map entries => uptoBulkEntries entries + 1
  | .held _ => 1
def uptoBulkAll {H : Type} : List (DataW H) → Nat
  | [] => 0
  | d :: r => uptoBulk d + uptoBulkAll r
def uptoBulkEntries {H : Type} : List (Lit × DataW H) → Nat
  | [] => 0
  | x :: r => uptoBulkEntry x + uptoBulkEntries r
def uptoBulkEntry {H : Type} : Lit × DataW H → Nat
  | (.string bytes, d) => bytes.length + uptoBulk d + 1
  | (_, d) => uptoBulk d + 1
 end
def uptoSmall : (H : Type) → List (DataW H) → Bool := fun _ ds => decide (uptoBulkAll ds ≤ 1048576)
def OpenSpec.upto (s : _root_.Go.ChangeSpec) : _root_.Go.OpenSpec := { _root_.Go.OpenSpec.ofChange s with cond := some uptoSmall }

/-- 'signetlaw03.DigestSums', WHERE WHAT IT READS IS OF BULK AT MOST 1048576: true; the input reads as it did. -/
def digestSumsUptoRow : OpenClaim := { program := "ytnpnphcklmlchaa", sum := "b4211cf5ea291132de357d31b18dc5ed5fd96146dcc32f42ffdf596c2841989b", func := "signet/signetlaw03.DigestSums", spec := "digestSums", unfollowed := true, recurses := true, plainKeys := false, apart := false, narrowed := true }
def DigestSumsUptoSaid : Prop := digestSumsUptoRow.holds Try.pinned (OpenSpec.upto digestSumsSpec)

/-- 'signetlaw03.DigestFeeds', WHERE WHAT IT READS IS OF BULK AT MOST 1048576: true; the input reads as it did. -/
def digestFeedsUptoRow : OpenClaim := { program := "ytnpnphcklmlchaa", sum := "b4211cf5ea291132de357d31b18dc5ed5fd96146dcc32f42ffdf596c2841989b", func := "signet/signetlaw03.DigestFeeds", spec := "digestFeeds", unfollowed := true, recurses := true, plainKeys := false, apart := false, narrowed := true }
def DigestFeedsUptoSaid : Prop := digestFeedsUptoRow.holds Try.pinned (OpenSpec.upto digestFeedsSpec)

/-- 'signetlaw03.DigestLogs', WHERE WHAT IT READS IS OF BULK AT MOST 1048576: true; the input reads as it did. -/
def digestLogsUptoRow : OpenClaim := { program := "ytnpnphcklmlchaa", sum := "b4211cf5ea291132de357d31b18dc5ed5fd96146dcc32f42ffdf596c2841989b", func := "signet/signetlaw03.DigestLogs", spec := "digestLogs", inPlace := ["maps.clone"], unfollowed := true, recurses := true, plainKeys := false, apart := false, narrowed := true }
def DigestLogsUptoSaid : Prop := digestLogsUptoRow.holds Try.pinned (OpenSpec.upto digestLogsSpec)

/-- 'signetlaw05.DiskQuiet', WHERE WHAT IT READS IS OF BULK AT MOST 1048576: true; the input reads as it did. -/
def diskQuietUptoRow : OpenClaim := { program := "ytnpnphcklmlchaa", sum := "b4211cf5ea291132de357d31b18dc5ed5fd96146dcc32f42ffdf596c2841989b", func := "signet/signetlaw05.DiskQuiet", spec := "diskQuiet", plainKeys := false, apart := false, narrowed := true }
def DiskQuietUptoSaid : Prop := diskQuietUptoRow.holds Try.pinned (OpenSpec.upto diskQuietSpec)

/-- 'signetlaw05.DiskWas', WHERE WHAT IT READS IS OF BULK AT MOST 1048576: true; the input reads as it did. -/
def diskWasUptoRow : OpenClaim := { program := "ytnpnphcklmlchaa", sum := "b4211cf5ea291132de357d31b18dc5ed5fd96146dcc32f42ffdf596c2841989b", func := "signet/signetlaw05.DiskWas", spec := "diskWas", plainKeys := false, apart := false, narrowed := true }
def DiskWasUptoSaid : Prop := diskWasUptoRow.holds Try.pinned (OpenSpec.upto diskWasSpec)

/-- 'signetlaw05.DiskWears', WHERE WHAT IT READS IS OF BULK AT MOST 1048576: true; the input reads as it did. -/
def diskWearsUptoRow : OpenClaim := { program := "ytnpnphcklmlchaa", sum := "b4211cf5ea291132de357d31b18dc5ed5fd96146dcc32f42ffdf596c2841989b", func := "signet/signetlaw05.DiskWears", spec := "diskWears", plainKeys := false, apart := false, narrowed := true }
def DiskWearsUptoSaid : Prop := diskWearsUptoRow.holds Try.pinned (OpenSpec.upto diskWearsSpec)

/-- 'signetlaw05.DiskNil', WHERE WHAT IT READS IS OF BULK AT MOST 1048576: true; the input reads as it did. -/
def diskNilUptoRow : OpenClaim := { program := "ytnpnphcklmlchaa", sum := "b4211cf5ea291132de357d31b18dc5ed5fd96146dcc32f42ffdf596c2841989b", func := "signet/signetlaw05.DiskNil", spec := "diskNil", plainKeys := false, apart := false, narrowed := true }
def DiskNilUptoSaid : Prop := diskNilUptoRow.holds Try.pinned (OpenSpec.upto diskNilSpec)

/-- 'signetlaw06.SlotNil', WHERE WHAT IT READS IS OF BULK AT MOST 1048576: true; the input reads as it did. -/
def slotNilUptoRow : OpenClaim := { program := "ytnpnphcklmlchaa", sum := "b4211cf5ea291132de357d31b18dc5ed5fd96146dcc32f42ffdf596c2841989b", func := "signet/signetlaw06.SlotNil", spec := "slotNil", plainKeys := false, apart := false, narrowed := true }
def SlotNilUptoSaid : Prop := slotNilUptoRow.holds Try.pinned (OpenSpec.upto slotNilSpec)

/-- 'signetlaw06.SlotOlder', WHERE WHAT IT READS IS OF BULK AT MOST 1048576: true; the input reads as it did. -/
def slotOlderUptoRow : OpenClaim := { program := "ytnpnphcklmlchaa", sum := "b4211cf5ea291132de357d31b18dc5ed5fd96146dcc32f42ffdf596c2841989b", func := "signet/signetlaw06.SlotOlder", spec := "slotOlder", plainKeys := false, apart := false, narrowed := true }
def SlotOlderUptoSaid : Prop := slotOlderUptoRow.holds Try.pinned (OpenSpec.upto slotOlderSpec)

/-- 'signetlaw06.SlotBytes', WHERE WHAT IT READS IS OF BULK AT MOST 1048576: true; the input reads as it did. -/
def slotBytesUptoRow : OpenClaim := { program := "ytnpnphcklmlchaa", sum := "b4211cf5ea291132de357d31b18dc5ed5fd96146dcc32f42ffdf596c2841989b", func := "signet/signetlaw06.SlotBytes", spec := "slotBytes", plainKeys := false, apart := false, narrowed := true }
def SlotBytesUptoSaid : Prop := slotBytesUptoRow.holds Try.pinned (OpenSpec.upto slotBytesSpec)

/-- 'signetlaw06.SlotGoes', WHERE WHAT IT READS IS OF BULK AT MOST 1048576: true; the input reads as it did. -/
def slotGoesUptoRow : OpenClaim := { program := "ytnpnphcklmlchaa", sum := "b4211cf5ea291132de357d31b18dc5ed5fd96146dcc32f42ffdf596c2841989b", func := "signet/signetlaw06.SlotGoes", spec := "slotGoes", plainKeys := false, apart := false, narrowed := true }
def SlotGoesUptoSaid : Prop := slotGoesUptoRow.holds Try.pinned (OpenSpec.upto slotGoesSpec)

/-- 'signetlaw06.SlotPlays', WHERE WHAT IT READS IS OF BULK AT MOST 1048576: true; the input reads as it did. -/
def slotPlaysUptoRow : OpenClaim := { program := "ytnpnphcklmlchaa", sum := "b4211cf5ea291132de357d31b18dc5ed5fd96146dcc32f42ffdf596c2841989b", func := "signet/signetlaw06.SlotPlays", spec := "slotPlays", plainKeys := false, apart := false, narrowed := true }
def SlotPlaysUptoSaid : Prop := slotPlaysUptoRow.holds Try.pinned (OpenSpec.upto slotPlaysSpec)

end Rows
end Go.Proofs.Ytnpnphcklmlchaa
