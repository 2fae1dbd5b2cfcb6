/-
  No cell of these rows narrows 'for every input' (looked for: loops, veiled, ifaces, maps, wideKeys, modest, calm, conditions, laid).
  DERIVED. THE GIVEN ROWS OF THIS SEAT. 12 by the template 'for every input the law returns true; each argument reads behind the call as it read before'; 0 by the template 'total and deterministic' (their statements: YtfieppbehmglbaaTotals.lean).
  GIVEN WITH THE SEED: the statements are not yours to turn. If you find one false, say at which input.
  Laid BY PROGRAM, IN A SANDBOX (cutbox-rows.mjs): the forced cells as the released guide's own fill.sh prints them over the translation 4a30d37ea2efcfca… (all of the seat's roots in one cut). By AI agents, Wed Nov 11 2026. No macro, syntax, notation, axiom, sorry.
-/
import Derived.Test.YtfieppbehmglbaaChecked
import GoSem.Claim
import GoSem.ClaimJoined
import GoSem.ClaimMapViews
import Derived.JoinedTies
import Derived.KernelRfl
namespace Go.Proofs.Ytfieppbehmglbaa
/- THE CELL 'sum', in the pinned program and in every row, IS THE sha256 OF THE DUMP (.gsa) THAT YtfieppbehmglbaaProg.lean LOADS. Nothing in Lean hashes anything: it is a label: what it is worth is what the hold of that sum in a sandbox is worth. -/
noncomputable def Try.pinned : Pinned := { name := "ytfieppbehmglbaa", sum := "4a30d37ea2efcfca84eec86267dbd279d523198d7c36784ec8bf769226918125", checked := Try.checked }
namespace Rows
def none {H : Type} : Left H := { results := [], args := [] }

/-- 'carryoverlaw05.CellOwn': WHATEVER THE INPUT: true; the input reads as it did. -/
def cellOwnSpec : ChangeSpec := { name := "cellOwn", fn := fun _ => fun
  | [d1, d2, d3] => { results := [.lit (.bool true)], args := [d1, d2, d3] }
  | _ => none }
def cellOwnRow : OpenClaim := { program := "ytfieppbehmglbaa", sum := "4a30d37ea2efcfca84eec86267dbd279d523198d7c36784ec8bf769226918125", func := "carryover/carryoverlaw05.CellOwn", spec := "cellOwn", inPlace := ["math.Float64frombits", "math.Float64bits"], apart := false }
def CellOwnSaid : Prop := cellOwnRow.holds Try.pinned (OpenSpec.ofChange cellOwnSpec)

/-- ITS FALSE NEIGHBOUR: 'it returns false'. Refute it at one input. -/
def cellOwnWrong : ChangeSpec := { name := "cellOwn", fn := fun _ => fun
  | [d1, d2, d3] => { results := [.lit (.bool false)], args := [d1, d2, d3] }
  | _ => none }
def CellOwnWrongFalsely : Prop := cellOwnRow.holds Try.pinned (OpenSpec.ofChange cellOwnWrong)

/-- 'carryoverlaw05.CellPlays': WHATEVER THE INPUT: true; the input reads as it did. -/
def cellPlaysSpec : ChangeSpec := { name := "cellPlays", fn := fun _ => fun
  | [d1, d2] => { results := [.lit (.bool true)], args := [d1, d2] }
  | _ => none }
def cellPlaysRow : OpenClaim := { program := "ytfieppbehmglbaa", sum := "4a30d37ea2efcfca84eec86267dbd279d523198d7c36784ec8bf769226918125", func := "carryover/carryoverlaw05.CellPlays", spec := "cellPlays", inPlace := ["math.Float64frombits", "math.Float64bits"], apart := false }
def CellPlaysSaid : Prop := cellPlaysRow.holds Try.pinned (OpenSpec.ofChange cellPlaysSpec)

/-- ITS FALSE NEIGHBOUR: 'it returns false'. Refute it at one input. -/
def cellPlaysWrong : ChangeSpec := { name := "cellPlays", fn := fun _ => fun
  | [d1, d2] => { results := [.lit (.bool false)], args := [d1, d2] }
  | _ => none }
def CellPlaysWrongFalsely : Prop := cellPlaysRow.holds Try.pinned (OpenSpec.ofChange cellPlaysWrong)

/-- 'carryoverlaw06.OpChecks': WHATEVER THE INPUT: true; the input reads as it did. -/
def opChecksSpec : ChangeSpec := { name := "opChecks", fn := fun _ => fun
  | [d1, d2, d3] => { results := [.lit (.bool true)], args := [d1, d2, d3] }
  | _ => none }
def opChecksRow : OpenClaim := { program := "ytfieppbehmglbaa", sum := "4a30d37ea2efcfca84eec86267dbd279d523198d7c36784ec8bf769226918125", func := "carryover/carryoverlaw06.OpChecks", spec := "opChecks", apart := false }
def OpChecksSaid : Prop := opChecksRow.holds Try.pinned (OpenSpec.ofChange opChecksSpec)

/-- ITS FALSE NEIGHBOUR: 'it returns false'. Refute it at one input. -/
def opChecksWrong : ChangeSpec := { name := "opChecks", fn := fun _ => fun
  | [d1, d2, d3] => { results := [.lit (.bool false)], args := [d1, d2, d3] }
  | _ => none }
def OpChecksWrongFalsely : Prop := opChecksRow.holds Try.pinned (OpenSpec.ofChange opChecksWrong)

/-- 'carryoverlaw27.ReportNames': WHATEVER THE INPUT: true; the input reads as it did. -/
def reportNamesSpec : ChangeSpec := { name := "reportNames", fn := fun _ => fun
  | [d1, d2, d3] => { results := [.lit (.bool true)], args := [d1, d2, d3] }
  | _ => none }
def reportNamesRow : OpenClaim := { program := "ytfieppbehmglbaa", sum := "4a30d37ea2efcfca84eec86267dbd279d523198d7c36784ec8bf769226918125", func := "carryover/carryoverlaw27.ReportNames", spec := "reportNames", apart := false }
def ReportNamesSaid : Prop := reportNamesRow.holds Try.pinned (OpenSpec.ofChange reportNamesSpec)

/-- ITS FALSE NEIGHBOUR: 'it returns false'. Refute it at one input. -/
def reportNamesWrong : ChangeSpec := { name := "reportNames", fn := fun _ => fun
  | [d1, d2, d3] => { results := [.lit (.bool false)], args := [d1, d2, d3] }
  | _ => none }
def ReportNamesWrongFalsely : Prop := reportNamesRow.holds Try.pinned (OpenSpec.ofChange reportNamesWrong)

/-- 'carryoverlaw10.WirePlans': WHATEVER THE INPUT: true; the input reads as it did. -/
def wirePlansSpec : ChangeSpec := { name := "wirePlans", fn := fun _ => fun
  | [d] => { results := [.lit (.bool true)], args := [d] }
  | _ => none }
def wirePlansRow : OpenClaim := { program := "ytfieppbehmglbaa", sum := "4a30d37ea2efcfca84eec86267dbd279d523198d7c36784ec8bf769226918125", func := "carryover/carryoverlaw10.WirePlans", spec := "wirePlans", recurses := true, apart := false }
def WirePlansSaid : Prop := wirePlansRow.holds Try.pinned (OpenSpec.ofChange wirePlansSpec)

/-- ITS FALSE NEIGHBOUR: 'it returns false'. Refute it at one input. -/
def wirePlansWrong : ChangeSpec := { name := "wirePlans", fn := fun _ => fun
  | [d] => { results := [.lit (.bool false)], args := [d] }
  | _ => none }
def WirePlansWrongFalsely : Prop := wirePlansRow.holds Try.pinned (OpenSpec.ofChange wirePlansWrong)

/-- 'carryoverlaw10.WireEven': WHATEVER THE INPUT: true; the input reads as it did. -/
def wireEvenSpec : ChangeSpec := { name := "wireEven", fn := fun _ => fun
  | [d1, d2] => { results := [.lit (.bool true)], args := [d1, d2] }
  | _ => none }
def wireEvenRow : OpenClaim := { program := "ytfieppbehmglbaa", sum := "4a30d37ea2efcfca84eec86267dbd279d523198d7c36784ec8bf769226918125", func := "carryover/carryoverlaw10.WireEven", spec := "wireEven", recurses := true, apart := false }
def WireEvenSaid : Prop := wireEvenRow.holds Try.pinned (OpenSpec.ofChange wireEvenSpec)

/-- ITS FALSE NEIGHBOUR: 'it returns false'. Refute it at one input. -/
def wireEvenWrong : ChangeSpec := { name := "wireEven", fn := fun _ => fun
  | [d1, d2] => { results := [.lit (.bool false)], args := [d1, d2] }
  | _ => none }
def WireEvenWrongFalsely : Prop := wireEvenRow.holds Try.pinned (OpenSpec.ofChange wireEvenWrong)

/-- 'carryoverlaw10.WireWires': WHATEVER THE INPUT: true; the input reads as it did. -/
def wireWiresSpec : ChangeSpec := { name := "wireWires", fn := fun _ => fun
  | [d] => { results := [.lit (.bool true)], args := [d] }
  | _ => none }
def wireWiresRow : OpenClaim := { program := "ytfieppbehmglbaa", sum := "4a30d37ea2efcfca84eec86267dbd279d523198d7c36784ec8bf769226918125", func := "carryover/carryoverlaw10.WireWires", spec := "wireWires", recurses := true, apart := false }
def WireWiresSaid : Prop := wireWiresRow.holds Try.pinned (OpenSpec.ofChange wireWiresSpec)

/-- ITS FALSE NEIGHBOUR: 'it returns false'. Refute it at one input. -/
def wireWiresWrong : ChangeSpec := { name := "wireWires", fn := fun _ => fun
  | [d] => { results := [.lit (.bool false)], args := [d] }
  | _ => none }
def WireWiresWrongFalsely : Prop := wireWiresRow.holds Try.pinned (OpenSpec.ofChange wireWiresWrong)

/-- 'carryoverlaw06.OpAlone': WHATEVER THE INPUT: true; the input reads as it did. -/
def opAloneSpec : ChangeSpec := { name := "opAlone", fn := fun _ => fun
  | [d1, d2] => { results := [.lit (.bool true)], args := [d1, d2] }
  | _ => none }
def opAloneRow : OpenClaim := { program := "ytfieppbehmglbaa", sum := "4a30d37ea2efcfca84eec86267dbd279d523198d7c36784ec8bf769226918125", func := "carryover/carryoverlaw06.OpAlone", spec := "opAlone", unfollowed := true, recurses := true, apart := false }
def OpAloneSaid : Prop := opAloneRow.holds Try.pinned (OpenSpec.ofChange opAloneSpec)

/-- ITS FALSE NEIGHBOUR: 'it returns false'. Refute it at one input. -/
def opAloneWrong : ChangeSpec := { name := "opAlone", fn := fun _ => fun
  | [d1, d2] => { results := [.lit (.bool false)], args := [d1, d2] }
  | _ => none }
def OpAloneWrongFalsely : Prop := opAloneRow.holds Try.pinned (OpenSpec.ofChange opAloneWrong)

/-- 'carryoverlaw05.CellVersions': WHATEVER THE INPUT: true; the input reads as it did. -/
def cellVersionsSpec : ChangeSpec := { name := "cellVersions", fn := fun _ => fun
  | [d] => { results := [.lit (.bool true)], args := [d] }
  | _ => none }
def cellVersionsRow : OpenClaim := { program := "ytfieppbehmglbaa", sum := "4a30d37ea2efcfca84eec86267dbd279d523198d7c36784ec8bf769226918125", func := "carryover/carryoverlaw05.CellVersions", spec := "cellVersions", inPlace := ["math.Float64frombits", "math.Float64bits"], apart := false }
def CellVersionsSaid : Prop := cellVersionsRow.holds Try.pinned (OpenSpec.ofChange cellVersionsSpec)

/-- ITS FALSE NEIGHBOUR: 'it returns false'. Refute it at one input. -/
def cellVersionsWrong : ChangeSpec := { name := "cellVersions", fn := fun _ => fun
  | [d] => { results := [.lit (.bool false)], args := [d] }
  | _ => none }
def CellVersionsWrongFalsely : Prop := cellVersionsRow.holds Try.pinned (OpenSpec.ofChange cellVersionsWrong)

/-- 'carryoverlaw05.CellSame': WHATEVER THE INPUT: true; the input reads as it did. -/
def cellSameSpec : ChangeSpec := { name := "cellSame", fn := fun _ => fun
  | [d1, d2] => { results := [.lit (.bool true)], args := [d1, d2] }
  | _ => none }
def cellSameRow : OpenClaim := { program := "ytfieppbehmglbaa", sum := "4a30d37ea2efcfca84eec86267dbd279d523198d7c36784ec8bf769226918125", func := "carryover/carryoverlaw05.CellSame", spec := "cellSame", inPlace := ["math.Float64frombits", "math.Float64bits"], apart := false }
def CellSameSaid : Prop := cellSameRow.holds Try.pinned (OpenSpec.ofChange cellSameSpec)

/-- ITS FALSE NEIGHBOUR: 'it returns false'. Refute it at one input. -/
def cellSameWrong : ChangeSpec := { name := "cellSame", fn := fun _ => fun
  | [d1, d2] => { results := [.lit (.bool false)], args := [d1, d2] }
  | _ => none }
def CellSameWrongFalsely : Prop := cellSameRow.holds Try.pinned (OpenSpec.ofChange cellSameWrong)

/-- 'carryoverlaw10.WireStep': WHATEVER THE INPUT: true; the input reads as it did. -/
def wireStepSpec : ChangeSpec := { name := "wireStep", fn := fun _ => fun
  | [d1, d2] => { results := [.lit (.bool true)], args := [d1, d2] }
  | _ => none }
def wireStepRow : OpenClaim := { program := "ytfieppbehmglbaa", sum := "4a30d37ea2efcfca84eec86267dbd279d523198d7c36784ec8bf769226918125", func := "carryover/carryoverlaw10.WireStep", spec := "wireStep", recurses := true, apart := false }
def WireStepSaid : Prop := wireStepRow.holds Try.pinned (OpenSpec.ofChange wireStepSpec)

/-- ITS FALSE NEIGHBOUR: 'it returns false'. Refute it at one input. -/
def wireStepWrong : ChangeSpec := { name := "wireStep", fn := fun _ => fun
  | [d1, d2] => { results := [.lit (.bool false)], args := [d1, d2] }
  | _ => none }
def WireStepWrongFalsely : Prop := wireStepRow.holds Try.pinned (OpenSpec.ofChange wireStepWrong)

/-- 'carryoverlaw10.WirePasses': WHATEVER THE INPUT: true; the input reads as it did. -/
def wirePassesSpec : ChangeSpec := { name := "wirePasses", fn := fun _ => fun
  | [d1, d2] => { results := [.lit (.bool true)], args := [d1, d2] }
  | _ => none }
def wirePassesRow : OpenClaim := { program := "ytfieppbehmglbaa", sum := "4a30d37ea2efcfca84eec86267dbd279d523198d7c36784ec8bf769226918125", func := "carryover/carryoverlaw10.WirePasses", spec := "wirePasses", recurses := true, apart := false }
def WirePassesSaid : Prop := wirePassesRow.holds Try.pinned (OpenSpec.ofChange wirePassesSpec)

/-- ITS FALSE NEIGHBOUR: 'it returns false'. Refute it at one input. -/
def wirePassesWrong : ChangeSpec := { name := "wirePasses", fn := fun _ => fun
  | [d1, d2] => { results := [.lit (.bool false)], args := [d1, d2] }
  | _ => none }
def WirePassesWrongFalsely : Prop := wirePassesRow.holds Try.pinned (OpenSpec.ofChange wirePassesWrong)

/- THE SECOND FORM. 'bulk': how many values and letters a reading holds, each counted each time it is reached (what is shared counts as often as it is met; a slice's spare places count too). A statement '..UptoSaid' is the law's where the arguments, and the package variables that the reading takes, are together of bulk at most 1048576: NARROWER than '..Said'. Prove '..Said' where nothing that the law and all that it calls make is longer than what came in: it says more and counts as full. Else prove '..UptoSaid'. A law counts once. -/
mutual
def uptoBulk {H : Type} : DataW H → Nat
  | .lit (.string bytes) => bytes.length + 1
  | .lit _ => 1
  | .nil => 1
  | .ptr d => uptoBulk d + 1
  | .slice elems spare => uptoBulkAll elems + uptoBulkAll spare + 1
  | .agg parts => uptoBulkAll parts + 1
  | .iface _ d => uptoBulk d + 1
  | .map entries => uptoBulkEntries entries + 1
  | .held _ => 1
def uptoBulkAll {H : Type} : List (DataW H) → Nat
  | [] => 0
  | d :: r => uptoBulk d + uptoBulkAll r
def uptoBulkEntries {H : Type} : List (Lit × DataW H) → Nat
  | [] => 0
  | x :: r => uptoBulkEntry x + uptoBulkEntries r
def uptoBulkEntry {H : Type} : Lit × DataW H → Nat
  | (.string bytes, d) => bytes.length + uptoBulk d + 1
  | (_, d) => uptoBulk d + 1
 end
def uptoSmall : (H : Type) → List (DataW H) → Bool := fun _ ds => decide (uptoBulkAll ds ≤ 1048576)
def OpenSpec.upto (s : _root_.Go.ChangeSpec) : _root_.Go.OpenSpec := { _root_.Go.OpenSpec.ofChange s with cond := some uptoSmall }

/-- 'carryoverlaw05.CellOwn', WHERE WHAT IT READS IS OF BULK AT MOST 1048576: true; the input reads as it did. -/
def cellOwnUptoRow : OpenClaim := { program := "ytfieppbehmglbaa", sum := "4a30d37ea2efcfca84eec86267dbd279d523198d7c36784ec8bf769226918125", func := "carryover/carryoverlaw05.CellOwn", spec := "cellOwn", inPlace := ["math.Float64frombits", "math.Float64bits"], apart := false, narrowed := true }
def CellOwnUptoSaid : Prop := cellOwnUptoRow.holds Try.pinned (OpenSpec.upto cellOwnSpec)

/-- 'carryoverlaw05.CellPlays', WHERE WHAT IT READS IS OF BULK AT MOST 1048576: true; the input reads as it did. -/
def cellPlaysUptoRow : OpenClaim := { program := "ytfieppbehmglbaa", sum := "4a30d37ea2efcfca84eec86267dbd279d523198d7c36784ec8bf769226918125", func := "carryover/carryoverlaw05.CellPlays", spec := "cellPlays", inPlace := ["math.Float64frombits", "math.Float64bits"], apart := false, narrowed := true }
def CellPlaysUptoSaid : Prop := cellPlaysUptoRow.holds Try.pinned (OpenSpec.upto cellPlaysSpec)

/-- 'carryoverlaw06.OpChecks', WHERE WHAT IT READS IS OF BULK AT MOST 1048576: true; the input reads as it did. -/
def opChecksUptoRow : OpenClaim := { program := "ytfieppbehmglbaa", sum := "4a30d37ea2efcfca84eec86267dbd279d523198d7c36784ec8bf769226918125", func := "carryover/carryoverlaw06.OpChecks", spec := "opChecks", apart := false, narrowed := true }
def OpChecksUptoSaid : Prop := opChecksUptoRow.holds Try.pinned (OpenSpec.upto opChecksSpec)

/-- 'carryoverlaw27.ReportNames', WHERE WHAT IT READS IS OF BULK AT MOST 1048576: true; the input reads as it did. -/
def reportNamesUptoRow : OpenClaim := { program := "ytfieppbehmglbaa", sum := "4a30d37ea2efcfca84eec86267dbd279d523198d7c36784ec8bf769226918125", func := "carryover/carryoverlaw27.ReportNames", spec := "reportNames", apart := false, narrowed := true }
def ReportNamesUptoSaid : Prop := reportNamesUptoRow.holds Try.pinned (OpenSpec.upto reportNamesSpec)

/-- 'carryoverlaw10.WirePlans', WHERE WHAT IT READS IS OF BULK AT MOST 1048576: true; the input reads as it did. -/
def wirePlansUptoRow : OpenClaim := { program := "ytfieppbehmglbaa", sum := "4a30d37ea2efcfca84eec86267dbd279d523198d7c36784ec8bf769226918125", func := "carryover/carryoverlaw10.WirePlans", spec := "wirePlans", recurses := true, apart := false, narrowed := true }
def WirePlansUptoSaid : Prop := wirePlansUptoRow.holds Try.pinned (OpenSpec.upto wirePlansSpec)

/-- 'carryoverlaw10.WireEven', WHERE WHAT IT READS IS OF BULK AT MOST 1048576: true; the input reads as it did. -/
def wireEvenUptoRow : OpenClaim := { program := "ytfieppbehmglbaa", sum := "4a30d37ea2efcfca84eec86267dbd279d523198d7c36784ec8bf769226918125", func := "carryover/carryoverlaw10.WireEven", spec := "wireEven", recurses := true, apart := false, narrowed := true }
def WireEvenUptoSaid : Prop := wireEvenUptoRow.holds Try.pinned (OpenSpec.upto wireEvenSpec)

/-- 'carryoverlaw10.WireWires', WHERE WHAT IT READS IS OF BULK AT MOST 1048576: true; the input reads as it did. -/
def wireWiresUptoRow : OpenClaim := { program := "ytfieppbehmglbaa", sum := "4a30d37ea2efcfca84eec86267dbd279d523198d7c36784ec8bf769226918125", func := "carryover/carryoverlaw10.WireWires", spec := "wireWires", recurses := true, apart := false, narrowed := true }
def WireWiresUptoSaid : Prop := wireWiresUptoRow.holds Try.pinned (OpenSpec.upto wireWiresSpec)

/-- 'carryoverlaw06.OpAlone', WHERE WHAT IT READS IS OF BULK AT MOST 1048576: true; the input reads as it did. -/
def opAloneUptoRow : OpenClaim := { program := "ytfieppbehmglbaa", sum := "4a30d37ea2efcfca84eec86267dbd279d523198d7c36784ec8bf769226918125", func := "carryover/carryoverlaw06.OpAlone", spec := "opAlone", unfollowed := true, recurses := true, apart := false, narrowed := true }
def OpAloneUptoSaid : Prop := opAloneUptoRow.holds Try.pinned (OpenSpec.upto opAloneSpec)

/-- 'carryoverlaw05.CellVersions', WHERE WHAT IT READS IS OF BULK AT MOST 1048576: true; the input reads as it did. -/
def cellVersionsUptoRow : OpenClaim := { program := "ytfieppbehmglbaa", sum := "4a30d37ea2efcfca84eec86267dbd279d523198d7c36784ec8bf769226918125", func := "carryover/carryoverlaw05.CellVersions", spec := "cellVersions", inPlace := ["math.Float64frombits", "math.Float64bits"], apart := false, narrowed := true }
def CellVersionsUptoSaid : Prop := cellVersionsUptoRow.holds Try.pinned (OpenSpec.upto cellVersionsSpec)

/-- 'carryoverlaw05.CellSame', WHERE WHAT IT READS IS OF BULK AT MOST 1048576: true; the input reads as it did. -/
def cellSameUptoRow : OpenClaim := { program := "ytfieppbehmglbaa", sum := "4a30d37ea2efcfca84eec86267dbd279d523198d7c36784ec8bf769226918125", func := "carryover/carryoverlaw05.CellSame", spec := "cellSame", inPlace := ["math.Float64frombits", "math.Float64bits"], apart := false, narrowed := true }
def CellSameUptoSaid : Prop := cellSameUptoRow.holds Try.pinned (OpenSpec.upto cellSameSpec)

/-- 'carryoverlaw10.WireStep', WHERE WHAT IT READS IS OF BULK AT MOST 1048576: true; the input reads as it did. -/
def wireStepUptoRow : OpenClaim := { program := "ytfieppbehmglbaa", sum := "4a30d37ea2efcfca84eec86267dbd279d523198d7c36784ec8bf769226918125", func := "carryover/carryoverlaw10.WireStep", spec := "wireStep", recurses := true, apart := false, narrowed := true }
def WireStepUptoSaid : Prop := wireStepUptoRow.holds Try.pinned (OpenSpec.upto wireStepSpec)

/-- 'carryoverlaw10.WirePasses', WHERE WHAT IT READS IS OF BULK AT MOST 1048576: true; the input reads as it did. -/
def wirePassesUptoRow : OpenClaim := { program := "ytfieppbehmglbaa", sum := "4a30d37ea2efcfca84eec86267dbd279d523198d7c36784ec8bf769226918125", func := "carryover/carryoverlaw10.WirePasses", spec := "wirePasses", recurses := true, apart := false, narrowed := true }
def WirePassesUptoSaid : Prop := wirePassesUptoRow.holds Try.pinned (OpenSpec.upto wirePassesSpec)

end Rows
end Go.Proofs.Ytfieppbehmglbaa
