/-
  No cell of these rows narrows 'for every input' (looked for: loops, veiled, ifaces, maps, wideKeys, modest, calm, conditions, laid).
  DERIVED. THE GIVEN ROWS OF THIS SEAT. 10 by the template 'for every input the law returns true; each argument reads behind the call as it read before'; 0 by the template 'total and deterministic' (their statements: YtfpikmfonpnicaaTotals.lean).
  GIVEN WITH THE SEED: the statements are not yours to turn. If you find one false, say at which input.
  Laid BY PROGRAM, IN A SANDBOX (cutbox-rows.mjs): the forced cells as the released guide's own fill.sh prints them over the translation 564f0e2d81103e54… (all of the seat's roots in one cut). By AI agents, Wed Nov 11 2026. No macro, syntax, notation, axiom, sorry.
-/
import Derived.Test.YtfpikmfonpnicaaChecked
import GoSem.Claim
import GoSem.ClaimJoined
import GoSem.ClaimMapViews
import Derived.JoinedTies
import Derived.KernelRfl
namespace Go.Proofs.Ytfpikmfonpnicaa
/- THE CELL 'sum', in the pinned program and in every row, IS THE sha256 OF THE DUMP (.gsa) THAT YtfpikmfonpnicaaProg.lean LOADS. Nothing in Lean hashes anything: it is a label: what it is worth is what the hold of that sum in a sandbox is worth. -/
noncomputable def Try.pinned : Pinned := { name := "ytfpikmfonpnicaa", sum := "564f0e2d81103e5490b0078c2763b72f62c318d86b383d6ec5ce587cea014499", checked := Try.checked }
namespace Rows
def none {H : Type} : Left H := { results := [], args := [] }

/-- 'signetlaw01.WordTurns': WHATEVER THE INPUT: true; the input reads as it did. -/
def wordTurnsSpec : ChangeSpec := { name := "wordTurns", fn := fun _ => fun
  | [d1, d2] => { results := [.lit (.bool true)], args := [d1, d2] }
  | _ => none }
def wordTurnsRow : OpenClaim := { program := "ytfpikmfonpnicaa", sum := "564f0e2d81103e5490b0078c2763b72f62c318d86b383d6ec5ce587cea014499", func := "signet/signetlaw01.WordTurns", spec := "wordTurns", apart := false }
def WordTurnsSaid : Prop := wordTurnsRow.holds Try.pinned (OpenSpec.ofChange wordTurnsSpec)

/-- ITS FALSE NEIGHBOUR: 'it returns false'. Refute it at one input. -/
def wordTurnsWrong : ChangeSpec := { name := "wordTurns", fn := fun _ => fun
  | [d1, d2] => { results := [.lit (.bool false)], args := [d1, d2] }
  | _ => none }
def WordTurnsWrongFalsely : Prop := wordTurnsRow.holds Try.pinned (OpenSpec.ofChange wordTurnsWrong)

/-- 'signetlaw01.WordConverts': WHATEVER THE INPUT: true; the input reads as it did. -/
def wordConvertsSpec : ChangeSpec := { name := "wordConverts", fn := fun _ => fun
  | [d1, d2] => { results := [.lit (.bool true)], args := [d1, d2] }
  | _ => none }
def wordConvertsRow : OpenClaim := { program := "ytfpikmfonpnicaa", sum := "564f0e2d81103e5490b0078c2763b72f62c318d86b383d6ec5ce587cea014499", func := "signet/signetlaw01.WordConverts", spec := "wordConverts", apart := false }
def WordConvertsSaid : Prop := wordConvertsRow.holds Try.pinned (OpenSpec.ofChange wordConvertsSpec)

/-- ITS FALSE NEIGHBOUR: 'it returns false'. Refute it at one input. -/
def wordConvertsWrong : ChangeSpec := { name := "wordConverts", fn := fun _ => fun
  | [d1, d2] => { results := [.lit (.bool false)], args := [d1, d2] }
  | _ => none }
def WordConvertsWrongFalsely : Prop := wordConvertsRow.holds Try.pinned (OpenSpec.ofChange wordConvertsWrong)

/-- 'signetlaw01.WordBack': WHATEVER THE INPUT: true; the input reads as it did. -/
def wordBackSpec : ChangeSpec := { name := "wordBack", fn := fun _ => fun
  | [d1, d2, d3] => { results := [.lit (.bool true)], args := [d1, d2, d3] }
  | _ => none }
def wordBackRow : OpenClaim := { program := "ytfpikmfonpnicaa", sum := "564f0e2d81103e5490b0078c2763b72f62c318d86b383d6ec5ce587cea014499", func := "signet/signetlaw01.WordBack", spec := "wordBack", apart := false }
def WordBackSaid : Prop := wordBackRow.holds Try.pinned (OpenSpec.ofChange wordBackSpec)

/-- ITS FALSE NEIGHBOUR: 'it returns false'. Refute it at one input. -/
def wordBackWrong : ChangeSpec := { name := "wordBack", fn := fun _ => fun
  | [d1, d2, d3] => { results := [.lit (.bool false)], args := [d1, d2, d3] }
  | _ => none }
def WordBackWrongFalsely : Prop := wordBackRow.holds Try.pinned (OpenSpec.ofChange wordBackWrong)

/-- 'signetlaw01.WordFields': WHATEVER THE INPUT: true; the input reads as it did. -/
def wordFieldsSpec : ChangeSpec := { name := "wordFields", fn := fun _ => fun
  | [d1, d2] => { results := [.lit (.bool true)], args := [d1, d2] }
  | _ => none }
def wordFieldsRow : OpenClaim := { program := "ytfpikmfonpnicaa", sum := "564f0e2d81103e5490b0078c2763b72f62c318d86b383d6ec5ce587cea014499", func := "signet/signetlaw01.WordFields", spec := "wordFields", apart := false }
def WordFieldsSaid : Prop := wordFieldsRow.holds Try.pinned (OpenSpec.ofChange wordFieldsSpec)

/-- ITS FALSE NEIGHBOUR: 'it returns false'. Refute it at one input. -/
def wordFieldsWrong : ChangeSpec := { name := "wordFields", fn := fun _ => fun
  | [d1, d2] => { results := [.lit (.bool false)], args := [d1, d2] }
  | _ => none }
def WordFieldsWrongFalsely : Prop := wordFieldsRow.holds Try.pinned (OpenSpec.ofChange wordFieldsWrong)

/-- 'signetlaw01.WordBytes': WHATEVER THE INPUT: true; the input reads as it did. -/
def wordBytesSpec : ChangeSpec := { name := "wordBytes", fn := fun _ => fun
  | [d1, d2, d3] => { results := [.lit (.bool true)], args := [d1, d2, d3] }
  | _ => none }
def wordBytesRow : OpenClaim := { program := "ytfpikmfonpnicaa", sum := "564f0e2d81103e5490b0078c2763b72f62c318d86b383d6ec5ce587cea014499", func := "signet/signetlaw01.WordBytes", spec := "wordBytes", apart := false }
def WordBytesSaid : Prop := wordBytesRow.holds Try.pinned (OpenSpec.ofChange wordBytesSpec)

/-- ITS FALSE NEIGHBOUR: 'it returns false'. Refute it at one input. -/
def wordBytesWrong : ChangeSpec := { name := "wordBytes", fn := fun _ => fun
  | [d1, d2, d3] => { results := [.lit (.bool false)], args := [d1, d2, d3] }
  | _ => none }
def WordBytesWrongFalsely : Prop := wordBytesRow.holds Try.pinned (OpenSpec.ofChange wordBytesWrong)

/-- 'signetlaw02.MixQuarters': WHATEVER THE INPUT: true; the input reads as it did. -/
def mixQuartersSpec : ChangeSpec := { name := "mixQuarters", fn := fun _ => fun
  | [d] => { results := [.lit (.bool true)], args := [d] }
  | _ => none }
def mixQuartersRow : OpenClaim := { program := "ytfpikmfonpnicaa", sum := "564f0e2d81103e5490b0078c2763b72f62c318d86b383d6ec5ce587cea014499", func := "signet/signetlaw02.MixQuarters", spec := "mixQuarters", apart := false }
def MixQuartersSaid : Prop := mixQuartersRow.holds Try.pinned (OpenSpec.ofChange mixQuartersSpec)

/-- ITS FALSE NEIGHBOUR: 'it returns false'. Refute it at one input. -/
def mixQuartersWrong : ChangeSpec := { name := "mixQuarters", fn := fun _ => fun
  | [d] => { results := [.lit (.bool false)], args := [d] }
  | _ => none }
def MixQuartersWrongFalsely : Prop := mixQuartersRow.holds Try.pinned (OpenSpec.ofChange mixQuartersWrong)

/-- 'signetlaw02.MixTrails': WHATEVER THE INPUT: true; the input reads as it did. -/
def mixTrailsSpec : ChangeSpec := { name := "mixTrails", fn := fun _ => fun
  | [d1, d2, d3] => { results := [.lit (.bool true)], args := [d1, d2, d3] }
  | _ => none }
def mixTrailsRow : OpenClaim := { program := "ytfpikmfonpnicaa", sum := "564f0e2d81103e5490b0078c2763b72f62c318d86b383d6ec5ce587cea014499", func := "signet/signetlaw02.MixTrails", spec := "mixTrails", unfollowed := true, recurses := true, apart := false }
def MixTrailsSaid : Prop := mixTrailsRow.holds Try.pinned (OpenSpec.ofChange mixTrailsSpec)

/-- ITS FALSE NEIGHBOUR: 'it returns false'. Refute it at one input. -/
def mixTrailsWrong : ChangeSpec := { name := "mixTrails", fn := fun _ => fun
  | [d1, d2, d3] => { results := [.lit (.bool false)], args := [d1, d2, d3] }
  | _ => none }
def MixTrailsWrongFalsely : Prop := mixTrailsRow.holds Try.pinned (OpenSpec.ofChange mixTrailsWrong)

/-- 'signetlaw02.MixApart': WHATEVER THE INPUT: true; the input reads as it did. -/
def mixApartSpec : ChangeSpec := { name := "mixApart", fn := fun _ => fun
  | [d1, d2, d3] => { results := [.lit (.bool true)], args := [d1, d2, d3] }
  | _ => none }
def mixApartRow : OpenClaim := { program := "ytfpikmfonpnicaa", sum := "564f0e2d81103e5490b0078c2763b72f62c318d86b383d6ec5ce587cea014499", func := "signet/signetlaw02.MixApart", spec := "mixApart", unfollowed := true, recurses := true, apart := false }
def MixApartSaid : Prop := mixApartRow.holds Try.pinned (OpenSpec.ofChange mixApartSpec)

/-- ITS FALSE NEIGHBOUR: 'it returns false'. Refute it at one input. -/
def mixApartWrong : ChangeSpec := { name := "mixApart", fn := fun _ => fun
  | [d1, d2, d3] => { results := [.lit (.bool false)], args := [d1, d2, d3] }
  | _ => none }
def MixApartWrongFalsely : Prop := mixApartRow.holds Try.pinned (OpenSpec.ofChange mixApartWrong)

/-- 'signetlaw02.MixBack': WHATEVER THE INPUT: true; the input reads as it did. -/
def mixBackSpec : ChangeSpec := { name := "mixBack", fn := fun _ => fun
  | [d1, d2, d3] => { results := [.lit (.bool true)], args := [d1, d2, d3] }
  | _ => none }
def mixBackRow : OpenClaim := { program := "ytfpikmfonpnicaa", sum := "564f0e2d81103e5490b0078c2763b72f62c318d86b383d6ec5ce587cea014499", func := "signet/signetlaw02.MixBack", spec := "mixBack", unfollowed := true, recurses := true, apart := false }
def MixBackSaid : Prop := mixBackRow.holds Try.pinned (OpenSpec.ofChange mixBackSpec)

/-- ITS FALSE NEIGHBOUR: 'it returns false'. Refute it at one input. -/
def mixBackWrong : ChangeSpec := { name := "mixBack", fn := fun _ => fun
  | [d1, d2, d3] => { results := [.lit (.bool false)], args := [d1, d2, d3] }
  | _ => none }
def MixBackWrongFalsely : Prop := mixBackRow.holds Try.pinned (OpenSpec.ofChange mixBackWrong)

/-- 'signetlaw02.MixRounds': WHATEVER THE INPUT: true; the input reads as it did. -/
def mixRoundsSpec : ChangeSpec := { name := "mixRounds", fn := fun _ => fun
  | [d1, d2, d3] => { results := [.lit (.bool true)], args := [d1, d2, d3] }
  | _ => none }
def mixRoundsRow : OpenClaim := { program := "ytfpikmfonpnicaa", sum := "564f0e2d81103e5490b0078c2763b72f62c318d86b383d6ec5ce587cea014499", func := "signet/signetlaw02.MixRounds", spec := "mixRounds", unfollowed := true, recurses := true, apart := false }
def MixRoundsSaid : Prop := mixRoundsRow.holds Try.pinned (OpenSpec.ofChange mixRoundsSpec)

/-- ITS FALSE NEIGHBOUR: 'it returns false'. Refute it at one input. -/
def mixRoundsWrong : ChangeSpec := { name := "mixRounds", fn := fun _ => fun
  | [d1, d2, d3] => { results := [.lit (.bool false)], args := [d1, d2, d3] }
  | _ => none }
def MixRoundsWrongFalsely : Prop := mixRoundsRow.holds Try.pinned (OpenSpec.ofChange mixRoundsWrong)

/- THE SECOND FORM. 'bulk': how many values and letters a reading holds, each counted each time it is reached (what is shared counts as often as it is met; a slice's spare places count too). A statement '..UptoSaid' is the law's where the arguments, and the package variables that the reading takes, are together of bulk at most 1048576: NARROWER than '..Said'. Prove '..Said' where nothing that the law and all that it calls make is longer than what came in: it says more and counts as full. Else prove '..UptoSaid'. A law counts once. -/
mutual
def uptoBulk {H : Type} : DataW H → Nat
  | .lit (.string bytes) => bytes.length + 1
  | .lit _ => 1
  | .nil => 1
  | .ptr d => uptoBulk d + 1
  | .slice elems spare => uptoBulkAll elems + uptoBulkAll spare + 1
  | .agg parts => uptoBulkAll parts + 1
  | .iface _ d => uptoBulk d + 1
  | .map entries => uptoBulkEntries entries + 1
  | .held _ => 1
def uptoBulkAll {H : Type} : List (DataW H) → Nat
  | [] => 0
  | d :: r => uptoBulk d + uptoBulkAll r
def uptoBulkEntries {H : Type} : List (Lit × DataW H) → Nat
  | [] => 0
  | x :: r => uptoBulkEntry x + uptoBulkEntries r
def uptoBulkEntry {H : Type} : Lit × DataW H → Nat
  | (.string bytes, d) => bytes.length + uptoBulk d + 1
  | (_, d) => uptoBulk d + 1
 end
def uptoSmall : (H : Type) → List (DataW H) → Bool := fun _ ds => decide (uptoBulkAll ds ≤ 1048576)
def OpenSpec.upto (s : _root_.Go.ChangeSpec) : _root_.Go.OpenSpec := { _root_.Go.OpenSpec.ofChange s with cond := some uptoSmall }

/-- 'signetlaw01.WordTurns', WHERE WHAT IT READS IS OF BULK AT MOST 1048576: true; the input reads as it did. -/
def wordTurnsUptoRow : OpenClaim := { program := "ytfpikmfonpnicaa", sum := "564f0e2d81103e5490b0078c2763b72f62c318d86b383d6ec5ce587cea014499", func := "signet/signetlaw01.WordTurns", spec := "wordTurns", apart := false, narrowed := true }
def WordTurnsUptoSaid : Prop := wordTurnsUptoRow.holds Try.pinned (OpenSpec.upto wordTurnsSpec)

/-- 'signetlaw01.WordConverts', WHERE WHAT IT READS IS OF BULK AT MOST 1048576: true; the input reads as it did. -/
def wordConvertsUptoRow : OpenClaim := { program := "ytfpikmfonpnicaa", sum := "564f0e2d81103e5490b0078c2763b72f62c318d86b383d6ec5ce587cea014499", func := "signet/signetlaw01.WordConverts", spec := "wordConverts", apart := false, narrowed := true }
def WordConvertsUptoSaid : Prop := wordConvertsUptoRow.holds Try.pinned (OpenSpec.upto wordConvertsSpec)

/-- 'signetlaw01.WordBack', WHERE WHAT IT READS IS OF BULK AT MOST 1048576: true; the input reads as it did. -/
def wordBackUptoRow : OpenClaim := { program := "ytfpikmfonpnicaa", sum := "564f0e2d81103e5490b0078c2763b72f62c318d86b383d6ec5ce587cea014499", func := "signet/signetlaw01.WordBack", spec := "wordBack", apart := false, narrowed := true }
def WordBackUptoSaid : Prop := wordBackUptoRow.holds Try.pinned (OpenSpec.upto wordBackSpec)

/-- 'signetlaw01.WordFields', WHERE WHAT IT READS IS OF BULK AT MOST 1048576: true; the input reads as it did. -/
def wordFieldsUptoRow : OpenClaim := { program := "ytfpikmfonpnicaa", sum := "564f0e2d81103e5490b0078c2763b72f62c318d86b383d6ec5ce587cea014499", func := "signet/signetlaw01.WordFields", spec := "wordFields", apart := false, narrowed := true }
def WordFieldsUptoSaid : Prop := wordFieldsUptoRow.holds Try.pinned (OpenSpec.upto wordFieldsSpec)

/-- 'signetlaw01.WordBytes', WHERE WHAT IT READS IS OF BULK AT MOST 1048576: true; the input reads as it did. -/
def wordBytesUptoRow : OpenClaim := { program := "ytfpikmfonpnicaa", sum := "564f0e2d81103e5490b0078c2763b72f62c318d86b383d6ec5ce587cea014499", func := "signet/signetlaw01.WordBytes", spec := "wordBytes", apart := false, narrowed := true }
def WordBytesUptoSaid : Prop := wordBytesUptoRow.holds Try.pinned (OpenSpec.upto wordBytesSpec)

/-- 'signetlaw02.MixQuarters', WHERE WHAT IT READS IS OF BULK AT MOST 1048576: true; the input reads as it did. -/
def mixQuartersUptoRow : OpenClaim := { program := "ytfpikmfonpnicaa", sum := "564f0e2d81103e5490b0078c2763b72f62c318d86b383d6ec5ce587cea014499", func := "signet/signetlaw02.MixQuarters", spec := "mixQuarters", apart := false, narrowed := true }
def MixQuartersUptoSaid : Prop := mixQuartersUptoRow.holds Try.pinned (OpenSpec.upto mixQuartersSpec)

/-- 'signetlaw02.MixTrails', WHERE WHAT IT READS IS OF BULK AT MOST 1048576: true; the input reads as it did. -/
def mixTrailsUptoRow : OpenClaim := { program := "ytfpikmfonpnicaa", sum := "564f0e2d81103e5490b0078c2763b72f62c318d86b383d6ec5ce587cea014499", func := "signet/signetlaw02.MixTrails", spec := "mixTrails", unfollowed := true, recurses := true, apart := false, narrowed := true }
def MixTrailsUptoSaid : Prop := mixTrailsUptoRow.holds Try.pinned (OpenSpec.upto mixTrailsSpec)

/-- 'signetlaw02.MixApart', WHERE WHAT IT READS IS OF BULK AT MOST 1048576: true; the input reads as it did. -/
def mixApartUptoRow : OpenClaim := { program := "ytfpikmfonpnicaa", sum := "564f0e2d81103e5490b0078c2763b72f62c318d86b383d6ec5ce587cea014499", func := "signet/signetlaw02.MixApart", spec := "mixApart", unfollowed := true, recurses := true, apart := false, narrowed := true }
def MixApartUptoSaid : Prop := mixApartUptoRow.holds Try.pinned (OpenSpec.upto mixApartSpec)

/-- 'signetlaw02.MixBack', WHERE WHAT IT READS IS OF BULK AT MOST 1048576: true; the input reads as it did. -/
def mixBackUptoRow : OpenClaim := { program := "ytfpikmfonpnicaa", sum := "564f0e2d81103e5490b0078c2763b72f62c318d86b383d6ec5ce587cea014499", func := "signet/signetlaw02.MixBack", spec := "mixBack", unfollowed := true, recurses := true, apart := false, narrowed := true }
def MixBackUptoSaid : Prop := mixBackUptoRow.holds Try.pinned (OpenSpec.upto mixBackSpec)

/-- 'signetlaw02.MixRounds', WHERE WHAT IT READS IS OF BULK AT MOST 1048576: true; the input reads as it did. -/
def mixRoundsUptoRow : OpenClaim := { program := "ytfpikmfonpnicaa", sum := "564f0e2d81103e5490b0078c2763b72f62c318d86b383d6ec5ce587cea014499", func := "signet/signetlaw02.MixRounds", spec := "mixRounds", unfollowed := true, recurses := true, apart := false, narrowed := true }
def MixRoundsUptoSaid : Prop := mixRoundsUptoRow.holds Try.pinned (OpenSpec.upto mixRoundsSpec)

end Rows
end Go.Proofs.Ytfpikmfonpnicaa
