/-
  No cell of these rows narrows 'for every input' (looked for: loops, veiled, ifaces, maps, wideKeys, modest, calm, conditions, laid).
  DERIVED. THE GIVEN ROWS OF THIS SEAT. 12 by the template 'for every input the law returns true; each argument reads behind the call as it read before'; 0 by the template 'total and deterministic' (their statements: YtlglcnljjpedcaaTotals.lean).
  GIVEN WITH THE SEED: the statements are not yours to turn. If you find one false, say at which input.
  Laid BY PROGRAM, IN A SANDBOX (cutbox-rows.mjs): the forced cells as the released guide's own fill.sh prints them over the translation b90ff5a6239bce25… (all of the seat's roots in one cut). By AI agents, Wed Nov 11 2026. No macro, syntax, notation, axiom, sorry.
-/
import Derived.Test.YtlglcnljjpedcaaChecked
import GoSem.Claim
import GoSem.ClaimJoined
import GoSem.ClaimMapViews
import Derived.JoinedTies
import Derived.KernelRfl
namespace Go.Proofs.Ytlglcnljjpedcaa
/- THE CELL 'sum', in the pinned program and in every row, IS THE sha256 OF THE DUMP (.gsa) THAT YtlglcnljjpedcaaProg.lean LOADS. Nothing in Lean hashes anything: it is a label: what it is worth is what the hold of that sum in a sandbox is worth. -/
noncomputable def Try.pinned : Pinned := { name := "ytlglcnljjpedcaa", sum := "b90ff5a6239bce25872c754ca2dfddcdd80a50e0d4c768d3bbef96d8f868af4b", checked := Try.checked }
namespace Rows
def none {H : Type} : Left H := { results := [], args := [] }

/-- 'carryoverlaw03.RealOrder': WHATEVER THE INPUT: true; the input reads as it did. -/
def realOrderSpec : ChangeSpec := { name := "realOrder", fn := fun _ => fun
  | [d1, d2, d3] => { results := [.lit (.bool true)], args := [d1, d2, d3] }
  | _ => none }
def realOrderRow : OpenClaim := { program := "ytlglcnljjpedcaa", sum := "b90ff5a6239bce25872c754ca2dfddcdd80a50e0d4c768d3bbef96d8f868af4b", func := "carryover/carryoverlaw03.RealOrder", spec := "realOrder", inPlace := ["math.Float64frombits", "math.Float64bits"], apart := false }
def RealOrderSaid : Prop := realOrderRow.holds Try.pinned (OpenSpec.ofChange realOrderSpec)

/-- ITS FALSE NEIGHBOUR: 'it returns false'. Refute it at one input. -/
def realOrderWrong : ChangeSpec := { name := "realOrder", fn := fun _ => fun
  | [d1, d2, d3] => { results := [.lit (.bool false)], args := [d1, d2, d3] }
  | _ => none }
def RealOrderWrongFalsely : Prop := realOrderRow.holds Try.pinned (OpenSpec.ofChange realOrderWrong)

/-- 'carryoverlaw03.RealEdges': WHATEVER THE INPUT: true; the input reads as it did. -/
def realEdgesSpec : ChangeSpec := { name := "realEdges", fn := fun _ => fun
  | [d] => { results := [.lit (.bool true)], args := [d] }
  | _ => none }
def realEdgesRow : OpenClaim := { program := "ytlglcnljjpedcaa", sum := "b90ff5a6239bce25872c754ca2dfddcdd80a50e0d4c768d3bbef96d8f868af4b", func := "carryover/carryoverlaw03.RealEdges", spec := "realEdges", inPlace := ["math.Float64frombits", "math.Float64bits"], apart := false }
def RealEdgesSaid : Prop := realEdgesRow.holds Try.pinned (OpenSpec.ofChange realEdgesSpec)

/-- ITS FALSE NEIGHBOUR: 'it returns false'. Refute it at one input. -/
def realEdgesWrong : ChangeSpec := { name := "realEdges", fn := fun _ => fun
  | [d] => { results := [.lit (.bool false)], args := [d] }
  | _ => none }
def RealEdgesWrongFalsely : Prop := realEdgesRow.holds Try.pinned (OpenSpec.ofChange realEdgesWrong)

/-- 'carryoverlaw03.RealTurns': WHATEVER THE INPUT: true; the input reads as it did. -/
def realTurnsSpec : ChangeSpec := { name := "realTurns", fn := fun _ => fun
  | [d1, d2] => { results := [.lit (.bool true)], args := [d1, d2] }
  | _ => none }
def realTurnsRow : OpenClaim := { program := "ytlglcnljjpedcaa", sum := "b90ff5a6239bce25872c754ca2dfddcdd80a50e0d4c768d3bbef96d8f868af4b", func := "carryover/carryoverlaw03.RealTurns", spec := "realTurns", inPlace := ["math.Float64frombits", "math.Float64bits"], apart := false }
def RealTurnsSaid : Prop := realTurnsRow.holds Try.pinned (OpenSpec.ofChange realTurnsSpec)

/-- ITS FALSE NEIGHBOUR: 'it returns false'. Refute it at one input. -/
def realTurnsWrong : ChangeSpec := { name := "realTurns", fn := fun _ => fun
  | [d1, d2] => { results := [.lit (.bool false)], args := [d1, d2] }
  | _ => none }
def RealTurnsWrongFalsely : Prop := realTurnsRow.holds Try.pinned (OpenSpec.ofChange realTurnsWrong)

/-- 'carryoverlaw03.RealKeys': WHATEVER THE INPUT: true; the input reads as it did. -/
def realKeysSpec : ChangeSpec := { name := "realKeys", fn := fun _ => fun
  | [d] => { results := [.lit (.bool true)], args := [d] }
  | _ => none }
def realKeysRow : OpenClaim := { program := "ytlglcnljjpedcaa", sum := "b90ff5a6239bce25872c754ca2dfddcdd80a50e0d4c768d3bbef96d8f868af4b", func := "carryover/carryoverlaw03.RealKeys", spec := "realKeys", inPlace := ["math.Float64frombits", "math.Float64bits"], apart := false }
def RealKeysSaid : Prop := realKeysRow.holds Try.pinned (OpenSpec.ofChange realKeysSpec)

/-- ITS FALSE NEIGHBOUR: 'it returns false'. Refute it at one input. -/
def realKeysWrong : ChangeSpec := { name := "realKeys", fn := fun _ => fun
  | [d] => { results := [.lit (.bool false)], args := [d] }
  | _ => none }
def RealKeysWrongFalsely : Prop := realKeysRow.holds Try.pinned (OpenSpec.ofChange realKeysWrong)

/-- 'carryoverlaw03.RealBack': WHATEVER THE INPUT: true; the input reads as it did. -/
def realBackSpec : ChangeSpec := { name := "realBack", fn := fun _ => fun
  | [d] => { results := [.lit (.bool true)], args := [d] }
  | _ => none }
def realBackRow : OpenClaim := { program := "ytlglcnljjpedcaa", sum := "b90ff5a6239bce25872c754ca2dfddcdd80a50e0d4c768d3bbef96d8f868af4b", func := "carryover/carryoverlaw03.RealBack", spec := "realBack", inPlace := ["math.Float64frombits", "math.Float64bits"], apart := false }
def RealBackSaid : Prop := realBackRow.holds Try.pinned (OpenSpec.ofChange realBackSpec)

/-- ITS FALSE NEIGHBOUR: 'it returns false'. Refute it at one input. -/
def realBackWrong : ChangeSpec := { name := "realBack", fn := fun _ => fun
  | [d] => { results := [.lit (.bool false)], args := [d] }
  | _ => none }
def RealBackWrongFalsely : Prop := realBackRow.holds Try.pinned (OpenSpec.ofChange realBackWrong)

/-- 'carryoverlaw04.PileOrder': WHATEVER THE INPUT: true; the input reads as it did. -/
def pileOrderSpec : ChangeSpec := { name := "pileOrder", fn := fun _ => fun
  | [d1, d2, d3] => { results := [.lit (.bool true)], args := [d1, d2, d3] }
  | _ => none }
def pileOrderRow : OpenClaim := { program := "ytlglcnljjpedcaa", sum := "b90ff5a6239bce25872c754ca2dfddcdd80a50e0d4c768d3bbef96d8f868af4b", func := "carryover/carryoverlaw04.PileOrder", spec := "pileOrder", inPlace := ["math.Float64frombits", "math.Float64bits"], unfollowed := true, recurses := true, apart := false }
def PileOrderSaid : Prop := pileOrderRow.holds Try.pinned (OpenSpec.ofChange pileOrderSpec)

/-- ITS FALSE NEIGHBOUR: 'it returns false'. Refute it at one input. -/
def pileOrderWrong : ChangeSpec := { name := "pileOrder", fn := fun _ => fun
  | [d1, d2, d3] => { results := [.lit (.bool false)], args := [d1, d2, d3] }
  | _ => none }
def PileOrderWrongFalsely : Prop := pileOrderRow.holds Try.pinned (OpenSpec.ofChange pileOrderWrong)

/-- 'carryoverlaw03.RealTexts': WHATEVER THE INPUT: true; the input reads as it did. -/
def realTextsSpec : ChangeSpec := { name := "realTexts", fn := fun _ => fun
  | [d] => { results := [.lit (.bool true)], args := [d] }
  | _ => none }
def realTextsRow : OpenClaim := { program := "ytlglcnljjpedcaa", sum := "b90ff5a6239bce25872c754ca2dfddcdd80a50e0d4c768d3bbef96d8f868af4b", func := "carryover/carryoverlaw03.RealTexts", spec := "realTexts", inPlace := ["math.Float64frombits", "math.Float64bits"], apart := false }
def RealTextsSaid : Prop := realTextsRow.holds Try.pinned (OpenSpec.ofChange realTextsSpec)

/-- ITS FALSE NEIGHBOUR: 'it returns false'. Refute it at one input. -/
def realTextsWrong : ChangeSpec := { name := "realTexts", fn := fun _ => fun
  | [d] => { results := [.lit (.bool false)], args := [d] }
  | _ => none }
def RealTextsWrongFalsely : Prop := realTextsRow.holds Try.pinned (OpenSpec.ofChange realTextsWrong)

/-- 'carryoverlaw03.RealReads': WHATEVER THE INPUT: true; the input reads as it did. -/
def realReadsSpec : ChangeSpec := { name := "realReads", fn := fun _ => fun
  | [d] => { results := [.lit (.bool true)], args := [d] }
  | _ => none }
def realReadsRow : OpenClaim := { program := "ytlglcnljjpedcaa", sum := "b90ff5a6239bce25872c754ca2dfddcdd80a50e0d4c768d3bbef96d8f868af4b", func := "carryover/carryoverlaw03.RealReads", spec := "realReads", inPlace := ["math.Float64frombits", "math.Float64bits"], apart := false }
def RealReadsSaid : Prop := realReadsRow.holds Try.pinned (OpenSpec.ofChange realReadsSpec)

/-- ITS FALSE NEIGHBOUR: 'it returns false'. Refute it at one input. -/
def realReadsWrong : ChangeSpec := { name := "realReads", fn := fun _ => fun
  | [d] => { results := [.lit (.bool false)], args := [d] }
  | _ => none }
def RealReadsWrongFalsely : Prop := realReadsRow.holds Try.pinned (OpenSpec.ofChange realReadsWrong)

/-- 'carryoverlaw04.PileSorts': WHATEVER THE INPUT: true; the input reads as it did. -/
def pileSortsSpec : ChangeSpec := { name := "pileSorts", fn := fun _ => fun
  | [d] => { results := [.lit (.bool true)], args := [d] }
  | _ => none }
def pileSortsRow : OpenClaim := { program := "ytlglcnljjpedcaa", sum := "b90ff5a6239bce25872c754ca2dfddcdd80a50e0d4c768d3bbef96d8f868af4b", func := "carryover/carryoverlaw04.PileSorts", spec := "pileSorts", inPlace := ["math.Float64frombits", "math.Float64bits"], unfollowed := true, recurses := true, apart := false }
def PileSortsSaid : Prop := pileSortsRow.holds Try.pinned (OpenSpec.ofChange pileSortsSpec)

/-- ITS FALSE NEIGHBOUR: 'it returns false'. Refute it at one input. -/
def pileSortsWrong : ChangeSpec := { name := "pileSorts", fn := fun _ => fun
  | [d] => { results := [.lit (.bool false)], args := [d] }
  | _ => none }
def PileSortsWrongFalsely : Prop := pileSortsRow.holds Try.pinned (OpenSpec.ofChange pileSortsWrong)

/-- 'carryoverlaw04.PileMerge': WHATEVER THE INPUT: true; the input reads as it did. -/
def pileMergeSpec : ChangeSpec := { name := "pileMerge", fn := fun _ => fun
  | [d1, d2] => { results := [.lit (.bool true)], args := [d1, d2] }
  | _ => none }
def pileMergeRow : OpenClaim := { program := "ytlglcnljjpedcaa", sum := "b90ff5a6239bce25872c754ca2dfddcdd80a50e0d4c768d3bbef96d8f868af4b", func := "carryover/carryoverlaw04.PileMerge", spec := "pileMerge", inPlace := ["math.Float64frombits", "math.Float64bits"], unfollowed := true, recurses := true, apart := false }
def PileMergeSaid : Prop := pileMergeRow.holds Try.pinned (OpenSpec.ofChange pileMergeSpec)

/-- ITS FALSE NEIGHBOUR: 'it returns false'. Refute it at one input. -/
def pileMergeWrong : ChangeSpec := { name := "pileMerge", fn := fun _ => fun
  | [d1, d2] => { results := [.lit (.bool false)], args := [d1, d2] }
  | _ => none }
def PileMergeWrongFalsely : Prop := pileMergeRow.holds Try.pinned (OpenSpec.ofChange pileMergeWrong)

/-- 'carryoverlaw04.PilePlays': WHATEVER THE INPUT: true; the input reads as it did. -/
def pilePlaysSpec : ChangeSpec := { name := "pilePlays", fn := fun _ => fun
  | [d1, d2] => { results := [.lit (.bool true)], args := [d1, d2] }
  | _ => none }
def pilePlaysRow : OpenClaim := { program := "ytlglcnljjpedcaa", sum := "b90ff5a6239bce25872c754ca2dfddcdd80a50e0d4c768d3bbef96d8f868af4b", func := "carryover/carryoverlaw04.PilePlays", spec := "pilePlays", inPlace := ["math.Float64frombits", "math.Float64bits"], unfollowed := true, recurses := true, apart := false }
def PilePlaysSaid : Prop := pilePlaysRow.holds Try.pinned (OpenSpec.ofChange pilePlaysSpec)

/-- ITS FALSE NEIGHBOUR: 'it returns false'. Refute it at one input. -/
def pilePlaysWrong : ChangeSpec := { name := "pilePlays", fn := fun _ => fun
  | [d1, d2] => { results := [.lit (.bool false)], args := [d1, d2] }
  | _ => none }
def PilePlaysWrongFalsely : Prop := pilePlaysRow.holds Try.pinned (OpenSpec.ofChange pilePlaysWrong)

/-- 'carryoverlaw27.ReportNumbers': WHATEVER THE INPUT: true; the input reads as it did. -/
def reportNumbersSpec : ChangeSpec := { name := "reportNumbers", fn := fun _ => fun
  | [d1, d2, d3, d4] => { results := [.lit (.bool true)], args := [d1, d2, d3, d4] }
  | _ => none }
def reportNumbersRow : OpenClaim := { program := "ytlglcnljjpedcaa", sum := "b90ff5a6239bce25872c754ca2dfddcdd80a50e0d4c768d3bbef96d8f868af4b", func := "carryover/carryoverlaw27.ReportNumbers", spec := "reportNumbers", inPlace := ["math.Float64frombits", "math.Float64bits"], apart := false }
def ReportNumbersSaid : Prop := reportNumbersRow.holds Try.pinned (OpenSpec.ofChange reportNumbersSpec)

/-- ITS FALSE NEIGHBOUR: 'it returns false'. Refute it at one input. -/
def reportNumbersWrong : ChangeSpec := { name := "reportNumbers", fn := fun _ => fun
  | [d1, d2, d3, d4] => { results := [.lit (.bool false)], args := [d1, d2, d3, d4] }
  | _ => none }
def ReportNumbersWrongFalsely : Prop := reportNumbersRow.holds Try.pinned (OpenSpec.ofChange reportNumbersWrong)

/- THE SECOND FORM. 'bulk': how many values and letters a reading holds, each counted each time it is reached (what is shared counts as often as it is met; a slice's spare places count too). A statement '..UptoSaid' is the law's where the arguments, and the package variables that the reading takes, are together of bulk at most 1048576: NARROWER than '..Said'. Prove '..Said' where nothing that the law and all that it calls make is longer than what came in: it says more and counts as full. Else prove '..UptoSaid'. A law counts once. -/
mutual
def uptoBulk {H : Type} : DataW H → Nat
  | .lit (.string bytes) => bytes.length + 1
  | .lit _ => 1
  | .nil => 1
  | .ptr d => uptoBulk d + 1
  | .slice elems spare => uptoBulkAll elems + uptoBulkAll spare + 1
  | .agg parts => uptoBulkAll parts + 1
  | .iface _ d => uptoBulk d + 1
  | .map entries => uptoBulkEntries entries + 1
  | .held _ => 1
def uptoBulkAll {H : Type} : List (DataW H) → Nat
  | [] => 0
  | d :: r => uptoBulk d + uptoBulkAll r
def uptoBulkEntries {H : Type} : List (Lit × DataW H) → Nat
  | [] => 0
  | x :: r => uptoBulkEntry x + uptoBulkEntries r
def uptoBulkEntry {H : Type} : Lit × DataW H → Nat
  | (.string bytes, d) => bytes.length + uptoBulk d + 1
  | (_, d) => uptoBulk d + 1
 end
def uptoSmall : (H : Type) → List (DataW H) → Bool := fun _ ds => decide (uptoBulkAll ds ≤ 1048576)
def OpenSpec.upto (s : _root_.Go.ChangeSpec) : _root_.Go.OpenSpec := { _root_.Go.OpenSpec.ofChange s with cond := some uptoSmall }

/-- 'carryoverlaw03.RealOrder', WHERE WHAT IT READS IS OF BULK AT MOST 1048576: true; the input reads as it did. -/
def realOrderUptoRow : OpenClaim := { program := "ytlglcnljjpedcaa", sum := "b90ff5a6239bce25872c754ca2dfddcdd80a50e0d4c768d3bbef96d8f868af4b", func := "carryover/carryoverlaw03.RealOrder", spec := "realOrder", inPlace := ["math.Float64frombits", "math.Float64bits"], apart := false, narrowed := true }
def RealOrderUptoSaid : Prop := realOrderUptoRow.holds Try.pinned (OpenSpec.upto realOrderSpec)

/-- 'carryoverlaw03.RealEdges', WHERE WHAT IT READS IS OF BULK AT MOST 1048576: true; the input reads as it did. -/
def realEdgesUptoRow : OpenClaim := { program := "ytlglcnljjpedcaa", sum := "b90ff5a6239bce25872c754ca2dfddcdd80a50e0d4c768d3bbef96d8f868af4b", func := "carryover/carryoverlaw03.RealEdges", spec := "realEdges", inPlace := ["math.Float64frombits", "math.Float64bits"], apart := false, narrowed := true }
def RealEdgesUptoSaid : Prop := realEdgesUptoRow.holds Try.pinned (OpenSpec.upto realEdgesSpec)

/-- 'carryoverlaw03.RealTurns', WHERE WHAT IT READS IS OF BULK AT MOST 1048576: true; the input reads as it did. -/
def realTurnsUptoRow : OpenClaim := { program := "ytlglcnljjpedcaa", sum := "b90ff5a6239bce25872c754ca2dfddcdd80a50e0d4c768d3bbef96d8f868af4b", func := "carryover/carryoverlaw03.RealTurns", spec := "realTurns", inPlace := ["math.Float64frombits", "math.Float64bits"], apart := false, narrowed := true }
def RealTurnsUptoSaid : Prop := realTurnsUptoRow.holds Try.pinned (OpenSpec.upto realTurnsSpec)

/-- 'carryoverlaw03.RealKeys', WHERE WHAT IT READS IS OF BULK AT MOST 1048576: true; the input reads as it did. -/
def realKeysUptoRow : OpenClaim := { program := "ytlglcnljjpedcaa", sum := "b90ff5a6239bce25872c754ca2dfddcdd80a50e0d4c768d3bbef96d8f868af4b", func := "carryover/carryoverlaw03.RealKeys", spec := "realKeys", inPlace := ["math.Float64frombits", "math.Float64bits"], apart := false, narrowed := true }
def RealKeysUptoSaid : Prop := realKeysUptoRow.holds Try.pinned (OpenSpec.upto realKeysSpec)

/-- 'carryoverlaw03.RealBack', WHERE WHAT IT READS IS OF BULK AT MOST 1048576: true; the input reads as it did. -/
def realBackUptoRow : OpenClaim := { program := "ytlglcnljjpedcaa", sum := "b90ff5a6239bce25872c754ca2dfddcdd80a50e0d4c768d3bbef96d8f868af4b", func := "carryover/carryoverlaw03.RealBack", spec := "realBack", inPlace := ["math.Float64frombits", "math.Float64bits"], apart := false, narrowed := true }
def RealBackUptoSaid : Prop := realBackUptoRow.holds Try.pinned (OpenSpec.upto realBackSpec)

/-- 'carryoverlaw04.PileOrder', WHERE WHAT IT READS IS OF BULK AT MOST 1048576: true; the input reads as it did. -/
def pileOrderUptoRow : OpenClaim := { program := "ytlglcnljjpedcaa", sum := "b90ff5a6239bce25872c754ca2dfddcdd80a50e0d4c768d3bbef96d8f868af4b", func := "carryover/carryoverlaw04.PileOrder", spec := "pileOrder", inPlace := ["math.Float64frombits", "math.Float64bits"], unfollowed := true, recurses := true, apart := false, narrowed := true }
def PileOrderUptoSaid : Prop := pileOrderUptoRow.holds Try.pinned (OpenSpec.upto pileOrderSpec)

/-- 'carryoverlaw03.RealTexts', WHERE WHAT IT READS IS OF BULK AT MOST 1048576: true; the input reads as it did. -/
def realTextsUptoRow : OpenClaim := { program := "ytlglcnljjpedcaa", sum := "b90ff5a6239bce25872c754ca2dfddcdd80a50e0d4c768d3bbef96d8f868af4b", func := "carryover/carryoverlaw03.RealTexts", spec := "realTexts", inPlace := ["math.Float64frombits", "math.Float64bits"], apart := false, narrowed := true }
def RealTextsUptoSaid : Prop := realTextsUptoRow.holds Try.pinned (OpenSpec.upto realTextsSpec)

/-- 'carryoverlaw03.RealReads', WHERE WHAT IT READS IS OF BULK AT MOST 1048576: true; the input reads as it did. -/
def realReadsUptoRow : OpenClaim := { program := "ytlglcnljjpedcaa", sum := "b90ff5a6239bce25872c754ca2dfddcdd80a50e0d4c768d3bbef96d8f868af4b", func := "carryover/carryoverlaw03.RealReads", spec := "realReads", inPlace := ["math.Float64frombits", "math.Float64bits"], apart := false, narrowed := true }
def RealReadsUptoSaid : Prop := realReadsUptoRow.holds Try.pinned (OpenSpec.upto realReadsSpec)

/-- 'carryoverlaw04.PileSorts', WHERE WHAT IT READS IS OF BULK AT MOST 1048576: true; the input reads as it did. -/
def pileSortsUptoRow : OpenClaim := { program := "ytlglcnljjpedcaa", sum := "b90ff5a6239bce25872c754ca2dfddcdd80a50e0d4c768d3bbef96d8f868af4b", func := "carryover/carryoverlaw04.PileSorts", spec := "pileSorts", inPlace := ["math.Float64frombits", "math.Float64bits"], unfollowed := true, recurses := true, apart := false, narrowed := true }
def PileSortsUptoSaid : Prop := pileSortsUptoRow.holds Try.pinned (OpenSpec.upto pileSortsSpec)

/-- 'carryoverlaw04.PileMerge', WHERE WHAT IT READS IS OF BULK AT MOST 1048576: true; the input reads as it did. -/
def pileMergeUptoRow : OpenClaim := { program := "ytlglcnljjpedcaa", sum := "b90ff5a6239bce25872c754ca2dfddcdd80a50e0d4c768d3bbef96d8f868af4b", func := "carryover/carryoverlaw04.PileMerge", spec := "pileMerge", inPlace := ["math.Float64frombits", "math.Float64bits"], unfollowed := true, recurses := true, apart := false, narrowed := true }
def PileMergeUptoSaid : Prop := pileMergeUptoRow.holds Try.pinned (OpenSpec.upto pileMergeSpec)

/-- 'carryoverlaw04.PilePlays', WHERE WHAT IT READS IS OF BULK AT MOST 1048576: true; the input reads as it did. -/
def pilePlaysUptoRow : OpenClaim := { program := "ytlglcnljjpedcaa", sum := "b90ff5a6239bce25872c754ca2dfddcdd80a50e0d4c768d3bbef96d8f868af4b", func := "carryover/carryoverlaw04.PilePlays", spec := "pilePlays", inPlace := ["math.Float64frombits", "math.Float64bits"], unfollowed := true, recurses := true, apart := false, narrowed := true }
def PilePlaysUptoSaid : Prop := pilePlaysUptoRow.holds Try.pinned (OpenSpec.upto pilePlaysSpec)

/-- 'carryoverlaw27.ReportNumbers', WHERE WHAT IT READS IS OF BULK AT MOST 1048576: true; the input reads as it did. -/
def reportNumbersUptoRow : OpenClaim := { program := "ytlglcnljjpedcaa", sum := "b90ff5a6239bce25872c754ca2dfddcdd80a50e0d4c768d3bbef96d8f868af4b", func := "carryover/carryoverlaw27.ReportNumbers", spec := "reportNumbers", inPlace := ["math.Float64frombits", "math.Float64bits"], apart := false, narrowed := true }
def ReportNumbersUptoSaid : Prop := reportNumbersUptoRow.holds Try.pinned (OpenSpec.upto reportNumbersSpec)

end Rows
end Go.Proofs.Ytlglcnljjpedcaa
