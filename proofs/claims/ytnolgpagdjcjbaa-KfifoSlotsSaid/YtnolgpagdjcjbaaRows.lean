/-
  No cell of these rows narrows 'for every input' (looked for: loops, veiled, ifaces, maps, wideKeys, modest, calm, conditions, laid).
  DERIVED. THE GIVEN ROWS OF THIS SEAT. 10 by the template 'for every input the law returns true; each argument reads behind the call as it read before'; 0 by the template 'total and deterministic' (their statements: YtnolgpagdjcjbaaTotals.lean).
  GIVEN WITH THE SEED: the statements are not yours to turn. If you find one false, say at which input.
  Laid BY PROGRAM, IN A SANDBOX (cutbox-rows.mjs): the forced cells as the released guide's own fill.sh prints them over the translation db821bf41f17b641… (all of the seat's roots in one cut). By AI agents, Wed Nov 11 2026. No macro, syntax, notation, axiom, sorry.
-/
import Derived.Test.YtnolgpagdjcjbaaChecked
import GoSem.Claim
import GoSem.ClaimJoined
import GoSem.ClaimMapViews
import Derived.JoinedTies
import Derived.KernelRfl
namespace Go.Proofs.Ytnolgpagdjcjbaa
/- THE CELL 'sum', in the pinned program and in every row, IS THE sha256 OF THE DUMP (.gsa) THAT YtnolgpagdjcjbaaProg.lean LOADS. Nothing in Lean hashes anything: it is a label: what it is worth is what the hold of that sum in a sandbox is worth. -/
noncomputable def Try.pinned : Pinned := { name := "ytnolgpagdjcjbaa", sum := "db821bf41f17b6419195121912bd0f4690b2d3bf4c03ea9f5c149b8ce12132f7", checked := Try.checked }
namespace Rows
def none {H : Type} : Left H := { results := [], args := [] }

/-- 'carryoverlaw09.KfifoAlone': WHATEVER THE INPUT: true; the input reads as it did. -/
def kfifoAloneSpec : ChangeSpec := { name := "kfifoAlone", fn := fun _ => fun
  | [d1, d2] => { results := [.lit (.bool true)], args := [d1, d2] }
  | _ => none }
def kfifoAloneRow : OpenClaim := { program := "ytnolgpagdjcjbaa", sum := "db821bf41f17b6419195121912bd0f4690b2d3bf4c03ea9f5c149b8ce12132f7", func := "carryover/carryoverlaw09.KfifoAlone", spec := "kfifoAlone", inPlace := ["math.Float64frombits", "math.Float64bits"], unfollowed := true, recurses := true, apart := false }
def KfifoAloneSaid : Prop := kfifoAloneRow.holds Try.pinned (OpenSpec.ofChange kfifoAloneSpec)

/-- ITS FALSE NEIGHBOUR: 'it returns false'. Refute it at one input. -/
def kfifoAloneWrong : ChangeSpec := { name := "kfifoAlone", fn := fun _ => fun
  | [d1, d2] => { results := [.lit (.bool false)], args := [d1, d2] }
  | _ => none }
def KfifoAloneWrongFalsely : Prop := kfifoAloneRow.holds Try.pinned (OpenSpec.ofChange kfifoAloneWrong)

/-- 'carryoverlaw09.KfifoFull': WHATEVER THE INPUT: true; the input reads as it did. -/
def kfifoFullSpec : ChangeSpec := { name := "kfifoFull", fn := fun _ => fun
  | [d1, d2] => { results := [.lit (.bool true)], args := [d1, d2] }
  | _ => none }
def kfifoFullRow : OpenClaim := { program := "ytnolgpagdjcjbaa", sum := "db821bf41f17b6419195121912bd0f4690b2d3bf4c03ea9f5c149b8ce12132f7", func := "carryover/carryoverlaw09.KfifoFull", spec := "kfifoFull", unfollowed := true, recurses := true, apart := false }
def KfifoFullSaid : Prop := kfifoFullRow.holds Try.pinned (OpenSpec.ofChange kfifoFullSpec)

/-- ITS FALSE NEIGHBOUR: 'it returns false'. Refute it at one input. -/
def kfifoFullWrong : ChangeSpec := { name := "kfifoFull", fn := fun _ => fun
  | [d1, d2] => { results := [.lit (.bool false)], args := [d1, d2] }
  | _ => none }
def KfifoFullWrongFalsely : Prop := kfifoFullRow.holds Try.pinned (OpenSpec.ofChange kfifoFullWrong)

/-- 'carryoverlaw09.KfifoSteps': WHATEVER THE INPUT: true; the input reads as it did. -/
def kfifoStepsSpec : ChangeSpec := { name := "kfifoSteps", fn := fun _ => fun
  | [d1, d2, d3] => { results := [.lit (.bool true)], args := [d1, d2, d3] }
  | _ => none }
def kfifoStepsRow : OpenClaim := { program := "ytnolgpagdjcjbaa", sum := "db821bf41f17b6419195121912bd0f4690b2d3bf4c03ea9f5c149b8ce12132f7", func := "carryover/carryoverlaw09.KfifoSteps", spec := "kfifoSteps", inPlace := ["math.Float64frombits", "math.Float64bits"], unfollowed := true, recurses := true, apart := false }
def KfifoStepsSaid : Prop := kfifoStepsRow.holds Try.pinned (OpenSpec.ofChange kfifoStepsSpec)

/-- ITS FALSE NEIGHBOUR: 'it returns false'. Refute it at one input. -/
def kfifoStepsWrong : ChangeSpec := { name := "kfifoSteps", fn := fun _ => fun
  | [d1, d2, d3] => { results := [.lit (.bool false)], args := [d1, d2, d3] }
  | _ => none }
def KfifoStepsWrongFalsely : Prop := kfifoStepsRow.holds Try.pinned (OpenSpec.ofChange kfifoStepsWrong)

/-- 'carryoverlaw09.KfifoBound': WHATEVER THE INPUT: true; the input reads as it did. -/
def kfifoBoundSpec : ChangeSpec := { name := "kfifoBound", fn := fun _ => fun
  | [d1, d2, d3] => { results := [.lit (.bool true)], args := [d1, d2, d3] }
  | _ => none }
def kfifoBoundRow : OpenClaim := { program := "ytnolgpagdjcjbaa", sum := "db821bf41f17b6419195121912bd0f4690b2d3bf4c03ea9f5c149b8ce12132f7", func := "carryover/carryoverlaw09.KfifoBound", spec := "kfifoBound", inPlace := ["math.Float64bits", "math.Float64frombits"], unfollowed := true, recurses := true, apart := false }
def KfifoBoundSaid : Prop := kfifoBoundRow.holds Try.pinned (OpenSpec.ofChange kfifoBoundSpec)

/-- ITS FALSE NEIGHBOUR: 'it returns false'. Refute it at one input. -/
def kfifoBoundWrong : ChangeSpec := { name := "kfifoBound", fn := fun _ => fun
  | [d1, d2, d3] => { results := [.lit (.bool false)], args := [d1, d2, d3] }
  | _ => none }
def KfifoBoundWrongFalsely : Prop := kfifoBoundRow.holds Try.pinned (OpenSpec.ofChange kfifoBoundWrong)

/-- 'carryoverlaw09.KfifoSlots': WHATEVER THE INPUT: true; the input reads as it did. -/
def kfifoSlotsSpec : ChangeSpec := { name := "kfifoSlots", fn := fun _ => fun
  | [d1, d2, d3] => { results := [.lit (.bool true)], args := [d1, d2, d3] }
  | _ => none }
def kfifoSlotsRow : OpenClaim := { program := "ytnolgpagdjcjbaa", sum := "db821bf41f17b6419195121912bd0f4690b2d3bf4c03ea9f5c149b8ce12132f7", func := "carryover/carryoverlaw09.KfifoSlots", spec := "kfifoSlots", inPlace := ["math.Float64frombits", "math.Float64bits"], unfollowed := true, recurses := true, apart := false }
def KfifoSlotsSaid : Prop := kfifoSlotsRow.holds Try.pinned (OpenSpec.ofChange kfifoSlotsSpec)

/-- ITS FALSE NEIGHBOUR: 'it returns false'. Refute it at one input. -/
def kfifoSlotsWrong : ChangeSpec := { name := "kfifoSlots", fn := fun _ => fun
  | [d1, d2, d3] => { results := [.lit (.bool false)], args := [d1, d2, d3] }
  | _ => none }
def KfifoSlotsWrongFalsely : Prop := kfifoSlotsRow.holds Try.pinned (OpenSpec.ofChange kfifoSlotsWrong)

/-- 'carryoverlaw11.NetAlone': WHATEVER THE INPUT: true; the input reads as it did. -/
def netAloneSpec : ChangeSpec := { name := "netAlone", fn := fun _ => fun
  | [d1, d2] => { results := [.lit (.bool true)], args := [d1, d2] }
  | _ => none }
def netAloneRow : OpenClaim := { program := "ytnolgpagdjcjbaa", sum := "db821bf41f17b6419195121912bd0f4690b2d3bf4c03ea9f5c149b8ce12132f7", func := "carryover/carryoverlaw11.NetAlone", spec := "netAlone", unfollowed := true, recurses := true, apart := false }
def NetAloneSaid : Prop := netAloneRow.holds Try.pinned (OpenSpec.ofChange netAloneSpec)

/-- ITS FALSE NEIGHBOUR: 'it returns false'. Refute it at one input. -/
def netAloneWrong : ChangeSpec := { name := "netAlone", fn := fun _ => fun
  | [d1, d2] => { results := [.lit (.bool false)], args := [d1, d2] }
  | _ => none }
def NetAloneWrongFalsely : Prop := netAloneRow.holds Try.pinned (OpenSpec.ofChange netAloneWrong)

/-- 'carryoverlaw11.NetSteps': WHATEVER THE INPUT: true; the input reads as it did. -/
def netStepsSpec : ChangeSpec := { name := "netSteps", fn := fun _ => fun
  | [d1, d2, d3] => { results := [.lit (.bool true)], args := [d1, d2, d3] }
  | _ => none }
def netStepsRow : OpenClaim := { program := "ytnolgpagdjcjbaa", sum := "db821bf41f17b6419195121912bd0f4690b2d3bf4c03ea9f5c149b8ce12132f7", func := "carryover/carryoverlaw11.NetSteps", spec := "netSteps", inPlace := ["math.Float64frombits", "math.Float64bits"], unfollowed := true, recurses := true, apart := false }
def NetStepsSaid : Prop := netStepsRow.holds Try.pinned (OpenSpec.ofChange netStepsSpec)

/-- ITS FALSE NEIGHBOUR: 'it returns false'. Refute it at one input. -/
def netStepsWrong : ChangeSpec := { name := "netSteps", fn := fun _ => fun
  | [d1, d2, d3] => { results := [.lit (.bool false)], args := [d1, d2, d3] }
  | _ => none }
def NetStepsWrongFalsely : Prop := netStepsRow.holds Try.pinned (OpenSpec.ofChange netStepsWrong)

/-- 'carryoverlaw11.NetCount': WHATEVER THE INPUT: true; the input reads as it did. -/
def netCountSpec : ChangeSpec := { name := "netCount", fn := fun _ => fun
  | [d1, d2, d3] => { results := [.lit (.bool true)], args := [d1, d2, d3] }
  | _ => none }
def netCountRow : OpenClaim := { program := "ytnolgpagdjcjbaa", sum := "db821bf41f17b6419195121912bd0f4690b2d3bf4c03ea9f5c149b8ce12132f7", func := "carryover/carryoverlaw11.NetCount", spec := "netCount", inPlace := ["math.Float64frombits", "math.Float64bits"], unfollowed := true, recurses := true, apart := false }
def NetCountSaid : Prop := netCountRow.holds Try.pinned (OpenSpec.ofChange netCountSpec)

/-- ITS FALSE NEIGHBOUR: 'it returns false'. Refute it at one input. -/
def netCountWrong : ChangeSpec := { name := "netCount", fn := fun _ => fun
  | [d1, d2, d3] => { results := [.lit (.bool false)], args := [d1, d2, d3] }
  | _ => none }
def NetCountWrongFalsely : Prop := netCountRow.holds Try.pinned (OpenSpec.ofChange netCountWrong)

/-- 'carryoverlaw11.NetQuiet': WHATEVER THE INPUT: true; the input reads as it did. -/
def netQuietSpec : ChangeSpec := { name := "netQuiet", fn := fun _ => fun
  | [d1, d2, d3] => { results := [.lit (.bool true)], args := [d1, d2, d3] }
  | _ => none }
def netQuietRow : OpenClaim := { program := "ytnolgpagdjcjbaa", sum := "db821bf41f17b6419195121912bd0f4690b2d3bf4c03ea9f5c149b8ce12132f7", func := "carryover/carryoverlaw11.NetQuiet", spec := "netQuiet", inPlace := ["math.Float64frombits", "math.Float64bits"], unfollowed := true, recurses := true, apart := false }
def NetQuietSaid : Prop := netQuietRow.holds Try.pinned (OpenSpec.ofChange netQuietSpec)

/-- ITS FALSE NEIGHBOUR: 'it returns false'. Refute it at one input. -/
def netQuietWrong : ChangeSpec := { name := "netQuiet", fn := fun _ => fun
  | [d1, d2, d3] => { results := [.lit (.bool false)], args := [d1, d2, d3] }
  | _ => none }
def NetQuietWrongFalsely : Prop := netQuietRow.holds Try.pinned (OpenSpec.ofChange netQuietWrong)

/-- 'carryoverlaw11.NetGates': WHATEVER THE INPUT: true; the input reads as it did. -/
def netGatesSpec : ChangeSpec := { name := "netGates", fn := fun _ => fun
  | [d1, d2, d3] => { results := [.lit (.bool true)], args := [d1, d2, d3] }
  | _ => none }
def netGatesRow : OpenClaim := { program := "ytnolgpagdjcjbaa", sum := "db821bf41f17b6419195121912bd0f4690b2d3bf4c03ea9f5c149b8ce12132f7", func := "carryover/carryoverlaw11.NetGates", spec := "netGates", unfollowed := true, recurses := true, apart := false }
def NetGatesSaid : Prop := netGatesRow.holds Try.pinned (OpenSpec.ofChange netGatesSpec)

/-- ITS FALSE NEIGHBOUR: 'it returns false'. Refute it at one input. -/
def netGatesWrong : ChangeSpec := { name := "netGates", fn := fun _ => fun
  | [d1, d2, d3] => { results := [.lit (.bool false)], args := [d1, d2, d3] }
  | _ => none }
def NetGatesWrongFalsely : Prop := netGatesRow.holds Try.pinned (OpenSpec.ofChange netGatesWrong)

/- THE SECOND FORM. 'bulk': how many values and letters a reading holds, each counted each time it is reached (what is shared counts as often as it is met; a slice's spare places count too). A statement '..UptoSaid' is the law's where the arguments, and the package variables that the reading takes, are together of bulk at most 1048576: NARROWER than '..Said'. Prove '..Said' where nothing that the law and all that it calls make is longer than what came in: it says more and counts as full. Else prove '..UptoSaid'. A law counts once. -/
mutual
def uptoBulk {H : Type} : DataW H → Nat
  | .lit (.string bytes) => bytes.length + 1
  | .lit _ => 1
  | .nil => 1
  | .ptr d => uptoBulk d + 1
  | .slice elems spare => uptoBulkAll elems + uptoBulkAll spare + 1
  | .agg parts => uptoBulkAll parts + 1
  | .iface _ d => uptoBulk d + 1
  | .map entries => uptoBulkEntries entries + 1
  | .held _ => 1
def uptoBulkAll {H : Type} : List (DataW H) → Nat
  | [] => 0
  | d :: r => uptoBulk d + uptoBulkAll r
def uptoBulkEntries {H : Type} : List (Lit × DataW H) → Nat
  | [] => 0
  | x :: r => uptoBulkEntry x + uptoBulkEntries r
def uptoBulkEntry {H : Type} : Lit × DataW H → Nat
  | (.string bytes, d) => bytes.length + uptoBulk d + 1
  | (_, d) => uptoBulk d + 1
 end
def uptoSmall : (H : Type) → List (DataW H) → Bool := fun _ ds => decide (uptoBulkAll ds ≤ 1048576)
def OpenSpec.upto (s : _root_.Go.ChangeSpec) : _root_.Go.OpenSpec := { _root_.Go.OpenSpec.ofChange s with cond := some uptoSmall }

/-- 'carryoverlaw09.KfifoAlone', WHERE WHAT IT READS IS OF BULK AT MOST 1048576: true; the input reads as it did. -/
def kfifoAloneUptoRow : OpenClaim := { program := "ytnolgpagdjcjbaa", sum := "db821bf41f17b6419195121912bd0f4690b2d3bf4c03ea9f5c149b8ce12132f7", func := "carryover/carryoverlaw09.KfifoAlone", spec := "kfifoAlone", inPlace := ["math.Float64frombits", "math.Float64bits"], unfollowed := true, recurses := true, apart := false, narrowed := true }
def KfifoAloneUptoSaid : Prop := kfifoAloneUptoRow.holds Try.pinned (OpenSpec.upto kfifoAloneSpec)

/-- 'carryoverlaw09.KfifoFull', WHERE WHAT IT READS IS OF BULK AT MOST 1048576: true; the input reads as it did. -/
def kfifoFullUptoRow : OpenClaim := { program := "ytnolgpagdjcjbaa", sum := "db821bf41f17b6419195121912bd0f4690b2d3bf4c03ea9f5c149b8ce12132f7", func := "carryover/carryoverlaw09.KfifoFull", spec := "kfifoFull", unfollowed := true, recurses := true, apart := false, narrowed := true }
def KfifoFullUptoSaid : Prop := kfifoFullUptoRow.holds Try.pinned (OpenSpec.upto kfifoFullSpec)

/-- 'carryoverlaw09.KfifoSteps', WHERE WHAT IT READS IS OF BULK AT MOST 1048576: true; the input reads as it did. -/
def kfifoStepsUptoRow : OpenClaim := { program := "ytnolgpagdjcjbaa", sum := "db821bf41f17b6419195121912bd0f4690b2d3bf4c03ea9f5c149b8ce12132f7", func := "carryover/carryoverlaw09.KfifoSteps", spec := "kfifoSteps", inPlace := ["math.Float64frombits", "math.Float64bits"], unfollowed := true, recurses := true, apart := false, narrowed := true }
def KfifoStepsUptoSaid : Prop := kfifoStepsUptoRow.holds Try.pinned (OpenSpec.upto kfifoStepsSpec)

/-- 'carryoverlaw09.KfifoBound', WHERE WHAT IT READS IS OF BULK AT MOST 1048576: true; the input reads as it did. -/
def kfifoBoundUptoRow : OpenClaim := { program := "ytnolgpagdjcjbaa", sum := "db821bf41f17b6419195121912bd0f4690b2d3bf4c03ea9f5c149b8ce12132f7", func := "carryover/carryoverlaw09.KfifoBound", spec := "kfifoBound", inPlace := ["math.Float64bits", "math.Float64frombits"], unfollowed := true, recurses := true, apart := false, narrowed := true }
def KfifoBoundUptoSaid : Prop := kfifoBoundUptoRow.holds Try.pinned (OpenSpec.upto kfifoBoundSpec)

/-- 'carryoverlaw09.KfifoSlots', WHERE WHAT IT READS IS OF BULK AT MOST 1048576: true; the input reads as it did. -/
def kfifoSlotsUptoRow : OpenClaim := { program := "ytnolgpagdjcjbaa", sum := "db821bf41f17b6419195121912bd0f4690b2d3bf4c03ea9f5c149b8ce12132f7", func := "carryover/carryoverlaw09.KfifoSlots", spec := "kfifoSlots", inPlace := ["math.Float64frombits", "math.Float64bits"], unfollowed := true, recurses := true, apart := false, narrowed := true }
def KfifoSlotsUptoSaid : Prop := kfifoSlotsUptoRow.holds Try.pinned (OpenSpec.upto kfifoSlotsSpec)

/-- 'carryoverlaw11.NetAlone', WHERE WHAT IT READS IS OF BULK AT MOST 1048576: true; the input reads as it did. -/
def netAloneUptoRow : OpenClaim := { program := "ytnolgpagdjcjbaa", sum := "db821bf41f17b6419195121912bd0f4690b2d3bf4c03ea9f5c149b8ce12132f7", func := "carryover/carryoverlaw11.NetAlone", spec := "netAlone", unfollowed := true, recurses := true, apart := false, narrowed := true }
def NetAloneUptoSaid : Prop := netAloneUptoRow.holds Try.pinned (OpenSpec.upto netAloneSpec)

/-- 'carryoverlaw11.NetSteps', WHERE WHAT IT READS IS OF BULK AT MOST 1048576: true; the input reads as it did. -/
def netStepsUptoRow : OpenClaim := { program := "ytnolgpagdjcjbaa", sum := "db821bf41f17b6419195121912bd0f4690b2d3bf4c03ea9f5c149b8ce12132f7", func := "carryover/carryoverlaw11.NetSteps", spec := "netSteps", inPlace := ["math.Float64frombits", "math.Float64bits"], unfollowed := true, recurses := true, apart := false, narrowed := true }
def NetStepsUptoSaid : Prop := netStepsUptoRow.holds Try.pinned (OpenSpec.upto netStepsSpec)

/-- 'carryoverlaw11.NetCount', WHERE WHAT IT READS IS OF BULK AT MOST 1048576: true; the input reads as it did. -/
def netCountUptoRow : OpenClaim := { program := "ytnolgpagdjcjbaa", sum := "db821bf41f17b6419195121912bd0f4690b2d3bf4c03ea9f5c149b8ce12132f7", func := "carryover/carryoverlaw11.NetCount", spec := "netCount", inPlace := ["math.Float64frombits", "math.Float64bits"], unfollowed := true, recurses := true, apart := false, narrowed := true }
def NetCountUptoSaid : Prop := netCountUptoRow.holds Try.pinned (OpenSpec.upto netCountSpec)

/-- 'carryoverlaw11.NetQuiet', WHERE WHAT IT READS IS OF BULK AT MOST 1048576: true; the input reads as it did. -/
def netQuietUptoRow : OpenClaim := { program := "ytnolgpagdjcjbaa", sum := "db821bf41f17b6419195121912bd0f4690b2d3bf4c03ea9f5c149b8ce12132f7", func := "carryover/carryoverlaw11.NetQuiet", spec := "netQuiet", inPlace := ["math.Float64frombits", "math.Float64bits"], unfollowed := true, recurses := true, apart := false, narrowed := true }
def NetQuietUptoSaid : Prop := netQuietUptoRow.holds Try.pinned (OpenSpec.upto netQuietSpec)

/-- 'carryoverlaw11.NetGates', WHERE WHAT IT READS IS OF BULK AT MOST 1048576: true; the input reads as it did. -/
def netGatesUptoRow : OpenClaim := { program := "ytnolgpagdjcjbaa", sum := "db821bf41f17b6419195121912bd0f4690b2d3bf4c03ea9f5c149b8ce12132f7", func := "carryover/carryoverlaw11.NetGates", spec := "netGates", unfollowed := true, recurses := true, apart := false, narrowed := true }
def NetGatesUptoSaid : Prop := netGatesUptoRow.holds Try.pinned (OpenSpec.upto netGatesSpec)

end Rows
end Go.Proofs.Ytnolgpagdjcjbaa
