/-
  No cell of these rows narrows 'for every input' (looked for: loops, veiled, ifaces, maps, wideKeys, modest, calm, conditions, laid).
  DERIVED. THE GIVEN ROWS OF THIS SEAT. 10 by the template 'for every input the law returns true; each argument reads behind the call as it read before'; 0 by the template 'total and deterministic' (their statements: YtefgpelodpggkaaTotals.lean).
  GIVEN WITH THE SEED: the statements are not yours to turn. If you find one false, say at which input.
  Laid BY PROGRAM, IN A SANDBOX (cutbox-rows.mjs): the forced cells as the released guide's own fill.sh prints them over the translation d54bdd668e099e33… (all of the seat's roots in one cut). By AI agents, Wed Nov 11 2026. No macro, syntax, notation, axiom, sorry.
-/
import Derived.Test.YtefgpelodpggkaaChecked
import GoSem.Claim
import GoSem.ClaimJoined
import GoSem.ClaimMapViews
import Derived.JoinedTies
import Derived.KernelRfl
namespace Go.Proofs.Ytefgpelodpggkaa
/- THE CELL 'sum', in the pinned program and in every row, IS THE sha256 OF THE DUMP (.gsa) THAT YtefgpelodpggkaaProg.lean LOADS. Nothing in Lean hashes anything: it is a label: what it is worth is what the hold of that sum in a sandbox is worth. -/
noncomputable def Try.pinned : Pinned := { name := "ytefgpelodpggkaa", sum := "d54bdd668e099e333d53eebc8a5ec3eff9fc018f1c3c954381342b47d11061e3", checked := Try.checked }
namespace Rows
def none {H : Type} : Left H := { results := [], args := [] }

/-- 'carryoverlaw07.TallyNew': WHATEVER THE INPUT: true; the input reads as it did. -/
def tallyNewSpec : ChangeSpec := { name := "tallyNew", fn := fun _ => fun
  | [d] => { results := [.lit (.bool true)], args := [d] }
  | _ => none }
def tallyNewRow : OpenClaim := { program := "ytefgpelodpggkaa", sum := "d54bdd668e099e333d53eebc8a5ec3eff9fc018f1c3c954381342b47d11061e3", func := "carryover/carryoverlaw07.TallyNew", spec := "tallyNew", unfollowed := true, recurses := true, apart := false }
def TallyNewSaid : Prop := tallyNewRow.holds Try.pinned (OpenSpec.ofChange tallyNewSpec)

/-- ITS FALSE NEIGHBOUR: 'it returns false'. Refute it at one input. -/
def tallyNewWrong : ChangeSpec := { name := "tallyNew", fn := fun _ => fun
  | [d] => { results := [.lit (.bool false)], args := [d] }
  | _ => none }
def TallyNewWrongFalsely : Prop := tallyNewRow.holds Try.pinned (OpenSpec.ofChange tallyNewWrong)

/-- 'carryoverlaw07.TallyAlone': WHATEVER THE INPUT: true; the input reads as it did. -/
def tallyAloneSpec : ChangeSpec := { name := "tallyAlone", fn := fun _ => fun
  | [d1, d2, d3] => { results := [.lit (.bool true)], args := [d1, d2, d3] }
  | _ => none }
def tallyAloneRow : OpenClaim := { program := "ytefgpelodpggkaa", sum := "d54bdd668e099e333d53eebc8a5ec3eff9fc018f1c3c954381342b47d11061e3", func := "carryover/carryoverlaw07.TallyAlone", spec := "tallyAlone", unfollowed := true, recurses := true, apart := false }
def TallyAloneSaid : Prop := tallyAloneRow.holds Try.pinned (OpenSpec.ofChange tallyAloneSpec)

/-- ITS FALSE NEIGHBOUR: 'it returns false'. Refute it at one input. -/
def tallyAloneWrong : ChangeSpec := { name := "tallyAlone", fn := fun _ => fun
  | [d1, d2, d3] => { results := [.lit (.bool false)], args := [d1, d2, d3] }
  | _ => none }
def TallyAloneWrongFalsely : Prop := tallyAloneRow.holds Try.pinned (OpenSpec.ofChange tallyAloneWrong)

/-- 'carryoverlaw07.TallySteps': WHATEVER THE INPUT: true; the input reads as it did. -/
def tallyStepsSpec : ChangeSpec := { name := "tallySteps", fn := fun _ => fun
  | [d1, d2, d3] => { results := [.lit (.bool true)], args := [d1, d2, d3] }
  | _ => none }
def tallyStepsRow : OpenClaim := { program := "ytefgpelodpggkaa", sum := "d54bdd668e099e333d53eebc8a5ec3eff9fc018f1c3c954381342b47d11061e3", func := "carryover/carryoverlaw07.TallySteps", spec := "tallySteps", inPlace := ["math.Float64frombits", "math.Float64bits"], unfollowed := true, recurses := true, apart := false }
def TallyStepsSaid : Prop := tallyStepsRow.holds Try.pinned (OpenSpec.ofChange tallyStepsSpec)

/-- ITS FALSE NEIGHBOUR: 'it returns false'. Refute it at one input. -/
def tallyStepsWrong : ChangeSpec := { name := "tallySteps", fn := fun _ => fun
  | [d1, d2, d3] => { results := [.lit (.bool false)], args := [d1, d2, d3] }
  | _ => none }
def TallyStepsWrongFalsely : Prop := tallyStepsRow.holds Try.pinned (OpenSpec.ofChange tallyStepsWrong)

/-- 'carryoverlaw07.TallyAdds': WHATEVER THE INPUT: true; the input reads as it did. -/
def tallyAddsSpec : ChangeSpec := { name := "tallyAdds", fn := fun _ => fun
  | [d1, d2, d3] => { results := [.lit (.bool true)], args := [d1, d2, d3] }
  | _ => none }
def tallyAddsRow : OpenClaim := { program := "ytefgpelodpggkaa", sum := "d54bdd668e099e333d53eebc8a5ec3eff9fc018f1c3c954381342b47d11061e3", func := "carryover/carryoverlaw07.TallyAdds", spec := "tallyAdds", inPlace := ["math.Float64frombits", "math.Float64bits"], unfollowed := true, recurses := true, apart := false }
def TallyAddsSaid : Prop := tallyAddsRow.holds Try.pinned (OpenSpec.ofChange tallyAddsSpec)

/-- ITS FALSE NEIGHBOUR: 'it returns false'. Refute it at one input. -/
def tallyAddsWrong : ChangeSpec := { name := "tallyAdds", fn := fun _ => fun
  | [d1, d2, d3] => { results := [.lit (.bool false)], args := [d1, d2, d3] }
  | _ => none }
def TallyAddsWrongFalsely : Prop := tallyAddsRow.holds Try.pinned (OpenSpec.ofChange tallyAddsWrong)

/-- 'carryoverlaw07.TallyBetween': WHATEVER THE INPUT: true; the input reads as it did. -/
def tallyBetweenSpec : ChangeSpec := { name := "tallyBetween", fn := fun _ => fun
  | [d1, d2, d3] => { results := [.lit (.bool true)], args := [d1, d2, d3] }
  | _ => none }
def tallyBetweenRow : OpenClaim := { program := "ytefgpelodpggkaa", sum := "d54bdd668e099e333d53eebc8a5ec3eff9fc018f1c3c954381342b47d11061e3", func := "carryover/carryoverlaw07.TallyBetween", spec := "tallyBetween", inPlace := ["math.Float64frombits", "math.Float64bits"], unfollowed := true, recurses := true, apart := false }
def TallyBetweenSaid : Prop := tallyBetweenRow.holds Try.pinned (OpenSpec.ofChange tallyBetweenSpec)

/-- ITS FALSE NEIGHBOUR: 'it returns false'. Refute it at one input. -/
def tallyBetweenWrong : ChangeSpec := { name := "tallyBetween", fn := fun _ => fun
  | [d1, d2, d3] => { results := [.lit (.bool false)], args := [d1, d2, d3] }
  | _ => none }
def TallyBetweenWrongFalsely : Prop := tallyBetweenRow.holds Try.pinned (OpenSpec.ofChange tallyBetweenWrong)

/-- 'carryoverlaw08.MultiAlone': WHATEVER THE INPUT: true; the input reads as it did. -/
def multiAloneSpec : ChangeSpec := { name := "multiAlone", fn := fun _ => fun
  | [d1, d2] => { results := [.lit (.bool true)], args := [d1, d2] }
  | _ => none }
def multiAloneRow : OpenClaim := { program := "ytefgpelodpggkaa", sum := "d54bdd668e099e333d53eebc8a5ec3eff9fc018f1c3c954381342b47d11061e3", func := "carryover/carryoverlaw08.MultiAlone", spec := "multiAlone", inPlace := ["math.Float64frombits", "math.Float64bits"], unfollowed := true, recurses := true, apart := false }
def MultiAloneSaid : Prop := multiAloneRow.holds Try.pinned (OpenSpec.ofChange multiAloneSpec)

/-- ITS FALSE NEIGHBOUR: 'it returns false'. Refute it at one input. -/
def multiAloneWrong : ChangeSpec := { name := "multiAlone", fn := fun _ => fun
  | [d1, d2] => { results := [.lit (.bool false)], args := [d1, d2] }
  | _ => none }
def MultiAloneWrongFalsely : Prop := multiAloneRow.holds Try.pinned (OpenSpec.ofChange multiAloneWrong)

/-- 'carryoverlaw08.MultiSteps': WHATEVER THE INPUT: true; the input reads as it did. -/
def multiStepsSpec : ChangeSpec := { name := "multiSteps", fn := fun _ => fun
  | [d1, d2, d3] => { results := [.lit (.bool true)], args := [d1, d2, d3] }
  | _ => none }
def multiStepsRow : OpenClaim := { program := "ytefgpelodpggkaa", sum := "d54bdd668e099e333d53eebc8a5ec3eff9fc018f1c3c954381342b47d11061e3", func := "carryover/carryoverlaw08.MultiSteps", spec := "multiSteps", inPlace := ["math.Float64frombits", "math.Float64bits"], unfollowed := true, recurses := true, apart := false }
def MultiStepsSaid : Prop := multiStepsRow.holds Try.pinned (OpenSpec.ofChange multiStepsSpec)

/-- ITS FALSE NEIGHBOUR: 'it returns false'. Refute it at one input. -/
def multiStepsWrong : ChangeSpec := { name := "multiSteps", fn := fun _ => fun
  | [d1, d2, d3] => { results := [.lit (.bool false)], args := [d1, d2, d3] }
  | _ => none }
def MultiStepsWrongFalsely : Prop := multiStepsRow.holds Try.pinned (OpenSpec.ofChange multiStepsWrong)

/-- 'carryoverlaw08.MultiBag': WHATEVER THE INPUT: true; the input reads as it did. -/
def multiBagSpec : ChangeSpec := { name := "multiBag", fn := fun _ => fun
  | [d1, d2, d3] => { results := [.lit (.bool true)], args := [d1, d2, d3] }
  | _ => none }
def multiBagRow : OpenClaim := { program := "ytefgpelodpggkaa", sum := "d54bdd668e099e333d53eebc8a5ec3eff9fc018f1c3c954381342b47d11061e3", func := "carryover/carryoverlaw08.MultiBag", spec := "multiBag", inPlace := ["math.Float64bits", "math.Float64frombits"], unfollowed := true, recurses := true, apart := false }
def MultiBagSaid : Prop := multiBagRow.holds Try.pinned (OpenSpec.ofChange multiBagSpec)

/-- ITS FALSE NEIGHBOUR: 'it returns false'. Refute it at one input. -/
def multiBagWrong : ChangeSpec := { name := "multiBag", fn := fun _ => fun
  | [d1, d2, d3] => { results := [.lit (.bool false)], args := [d1, d2, d3] }
  | _ => none }
def MultiBagWrongFalsely : Prop := multiBagRow.holds Try.pinned (OpenSpec.ofChange multiBagWrong)

/-- 'carryoverlaw08.MultiFirst': WHATEVER THE INPUT: true; the input reads as it did. -/
def multiFirstSpec : ChangeSpec := { name := "multiFirst", fn := fun _ => fun
  | [d1, d2] => { results := [.lit (.bool true)], args := [d1, d2] }
  | _ => none }
def multiFirstRow : OpenClaim := { program := "ytefgpelodpggkaa", sum := "d54bdd668e099e333d53eebc8a5ec3eff9fc018f1c3c954381342b47d11061e3", func := "carryover/carryoverlaw08.MultiFirst", spec := "multiFirst", inPlace := ["math.Float64frombits", "math.Float64bits"], unfollowed := true, recurses := true, apart := false }
def MultiFirstSaid : Prop := multiFirstRow.holds Try.pinned (OpenSpec.ofChange multiFirstSpec)

/-- ITS FALSE NEIGHBOUR: 'it returns false'. Refute it at one input. -/
def multiFirstWrong : ChangeSpec := { name := "multiFirst", fn := fun _ => fun
  | [d1, d2] => { results := [.lit (.bool false)], args := [d1, d2] }
  | _ => none }
def MultiFirstWrongFalsely : Prop := multiFirstRow.holds Try.pinned (OpenSpec.ofChange multiFirstWrong)

/-- 'carryoverlaw08.MultiFull': WHATEVER THE INPUT: true; the input reads as it did. -/
def multiFullSpec : ChangeSpec := { name := "multiFull", fn := fun _ => fun
  | [d1, d2] => { results := [.lit (.bool true)], args := [d1, d2] }
  | _ => none }
def multiFullRow : OpenClaim := { program := "ytefgpelodpggkaa", sum := "d54bdd668e099e333d53eebc8a5ec3eff9fc018f1c3c954381342b47d11061e3", func := "carryover/carryoverlaw08.MultiFull", spec := "multiFull", inPlace := ["math.Float64frombits"], unfollowed := true, recurses := true, apart := false }
def MultiFullSaid : Prop := multiFullRow.holds Try.pinned (OpenSpec.ofChange multiFullSpec)

/-- ITS FALSE NEIGHBOUR: 'it returns false'. Refute it at one input. -/
def multiFullWrong : ChangeSpec := { name := "multiFull", fn := fun _ => fun
  | [d1, d2] => { results := [.lit (.bool false)], args := [d1, d2] }
  | _ => none }
def MultiFullWrongFalsely : Prop := multiFullRow.holds Try.pinned (OpenSpec.ofChange multiFullWrong)

/- THE SECOND FORM. 'bulk': how many values and letters a reading holds, each counted each time it is reached (what is shared counts as often as it is met; a slice's spare places count too). A statement '..UptoSaid' is the law's where the arguments, and the package variables that the reading takes, are together of bulk at most 1048576: NARROWER than '..Said'. Prove '..Said' where nothing that the law and all that it calls make is longer than what came in: it says more and counts as full. Else prove '..UptoSaid'. A law counts once. -/
mutual
def uptoBulk {H : Type} : DataW H → Nat
  | .lit (.string bytes) => bytes.length + 1
  | .lit _ => 1
  | .nil => 1
  | .ptr d => uptoBulk d + 1
  | .slice elems spare => uptoBulkAll elems + uptoBulkAll spare + 1
  | .agg parts => uptoBulkAll parts + 1
  | .iface _ d => uptoBulk d + 1
  | .map entries => uptoBulkEntries entries + 1
  | .held _ => 1
def uptoBulkAll {H : Type} : List (DataW H) → Nat
  | [] => 0
  | d :: r => uptoBulk d + uptoBulkAll r
def uptoBulkEntries {H : Type} : List (Lit × DataW H) → Nat
  | [] => 0
  | x :: r => uptoBulkEntry x + uptoBulkEntries r
def uptoBulkEntry {H : Type} : Lit × DataW H → Nat
  | (.string bytes, d) => bytes.length + uptoBulk d + 1
  | (_, d) => uptoBulk d + 1
 end
def uptoSmall : (H : Type) → List (DataW H) → Bool := fun _ ds => decide (uptoBulkAll ds ≤ 1048576)
def OpenSpec.upto (s : _root_.Go.ChangeSpec) : _root_.Go.OpenSpec := { _root_.Go.OpenSpec.ofChange s with cond := some uptoSmall }

/-- 'carryoverlaw07.TallyNew', WHERE WHAT IT READS IS OF BULK AT MOST 1048576: true; the input reads as it did. -/
def tallyNewUptoRow : OpenClaim := { program := "ytefgpelodpggkaa", sum := "d54bdd668e099e333d53eebc8a5ec3eff9fc018f1c3c954381342b47d11061e3", func := "carryover/carryoverlaw07.TallyNew", spec := "tallyNew", unfollowed := true, recurses := true, apart := false, narrowed := true }
def TallyNewUptoSaid : Prop := tallyNewUptoRow.holds Try.pinned (OpenSpec.upto tallyNewSpec)

/-- 'carryoverlaw07.TallyAlone', WHERE WHAT IT READS IS OF BULK AT MOST 1048576: true; the input reads as it did. -/
def tallyAloneUptoRow : OpenClaim := { program := "ytefgpelodpggkaa", sum := "d54bdd668e099e333d53eebc8a5ec3eff9fc018f1c3c954381342b47d11061e3", func := "carryover/carryoverlaw07.TallyAlone", spec := "tallyAlone", unfollowed := true, recurses := true, apart := false, narrowed := true }
def TallyAloneUptoSaid : Prop := tallyAloneUptoRow.holds Try.pinned (OpenSpec.upto tallyAloneSpec)

/-- 'carryoverlaw07.TallySteps', WHERE WHAT IT READS IS OF BULK AT MOST 1048576: true; the input reads as it did. -/
def tallyStepsUptoRow : OpenClaim := { program := "ytefgpelodpggkaa", sum := "d54bdd668e099e333d53eebc8a5ec3eff9fc018f1c3c954381342b47d11061e3", func := "carryover/carryoverlaw07.TallySteps", spec := "tallySteps", inPlace := ["math.Float64frombits", "math.Float64bits"], unfollowed := true, recurses := true, apart := false, narrowed := true }
def TallyStepsUptoSaid : Prop := tallyStepsUptoRow.holds Try.pinned (OpenSpec.upto tallyStepsSpec)

/-- 'carryoverlaw07.TallyAdds', WHERE WHAT IT READS IS OF BULK AT MOST 1048576: true; the input reads as it did. -/
def tallyAddsUptoRow : OpenClaim := { program := "ytefgpelodpggkaa", sum := "d54bdd668e099e333d53eebc8a5ec3eff9fc018f1c3c954381342b47d11061e3", func := "carryover/carryoverlaw07.TallyAdds", spec := "tallyAdds", inPlace := ["math.Float64frombits", "math.Float64bits"], unfollowed := true, recurses := true, apart := false, narrowed := true }
def TallyAddsUptoSaid : Prop := tallyAddsUptoRow.holds Try.pinned (OpenSpec.upto tallyAddsSpec)

/-- 'carryoverlaw07.TallyBetween', WHERE WHAT IT READS IS OF BULK AT MOST 1048576: true; the input reads as it did. -/
def tallyBetweenUptoRow : OpenClaim := { program := "ytefgpelodpggkaa", sum := "d54bdd668e099e333d53eebc8a5ec3eff9fc018f1c3c954381342b47d11061e3", func := "carryover/carryoverlaw07.TallyBetween", spec := "tallyBetween", inPlace := ["math.Float64frombits", "math.Float64bits"], unfollowed := true, recurses := true, apart := false, narrowed := true }
def TallyBetweenUptoSaid : Prop := tallyBetweenUptoRow.holds Try.pinned (OpenSpec.upto tallyBetweenSpec)

/-- 'carryoverlaw08.MultiAlone', WHERE WHAT IT READS IS OF BULK AT MOST 1048576: true; the input reads as it did. -/
def multiAloneUptoRow : OpenClaim := { program := "ytefgpelodpggkaa", sum := "d54bdd668e099e333d53eebc8a5ec3eff9fc018f1c3c954381342b47d11061e3", func := "carryover/carryoverlaw08.MultiAlone", spec := "multiAlone", inPlace := ["math.Float64frombits", "math.Float64bits"], unfollowed := true, recurses := true, apart := false, narrowed := true }
def MultiAloneUptoSaid : Prop := multiAloneUptoRow.holds Try.pinned (OpenSpec.upto multiAloneSpec)

/-- 'carryoverlaw08.MultiSteps', WHERE WHAT IT READS IS OF BULK AT MOST 1048576: true; the input reads as it did. -/
def multiStepsUptoRow : OpenClaim := { program := "ytefgpelodpggkaa", sum := "d54bdd668e099e333d53eebc8a5ec3eff9fc018f1c3c954381342b47d11061e3", func := "carryover/carryoverlaw08.MultiSteps", spec := "multiSteps", inPlace := ["math.Float64frombits", "math.Float64bits"], unfollowed := true, recurses := true, apart := false, narrowed := true }
def MultiStepsUptoSaid : Prop := multiStepsUptoRow.holds Try.pinned (OpenSpec.upto multiStepsSpec)

/-- 'carryoverlaw08.MultiBag', WHERE WHAT IT READS IS OF BULK AT MOST 1048576: true; the input reads as it did. -/
def multiBagUptoRow : OpenClaim := { program := "ytefgpelodpggkaa", sum := "d54bdd668e099e333d53eebc8a5ec3eff9fc018f1c3c954381342b47d11061e3", func := "carryover/carryoverlaw08.MultiBag", spec := "multiBag", inPlace := ["math.Float64bits", "math.Float64frombits"], unfollowed := true, recurses := true, apart := false, narrowed := true }
def MultiBagUptoSaid : Prop := multiBagUptoRow.holds Try.pinned (OpenSpec.upto multiBagSpec)

/-- 'carryoverlaw08.MultiFirst', WHERE WHAT IT READS IS OF BULK AT MOST 1048576: true; the input reads as it did. -/
def multiFirstUptoRow : OpenClaim := { program := "ytefgpelodpggkaa", sum := "d54bdd668e099e333d53eebc8a5ec3eff9fc018f1c3c954381342b47d11061e3", func := "carryover/carryoverlaw08.MultiFirst", spec := "multiFirst", inPlace := ["math.Float64frombits", "math.Float64bits"], unfollowed := true, recurses := true, apart := false, narrowed := true }
def MultiFirstUptoSaid : Prop := multiFirstUptoRow.holds Try.pinned (OpenSpec.upto multiFirstSpec)

/-- 'carryoverlaw08.MultiFull', WHERE WHAT IT READS IS OF BULK AT MOST 1048576: true; the input reads as it did. -/
def multiFullUptoRow : OpenClaim := { program := "ytefgpelodpggkaa", sum := "d54bdd668e099e333d53eebc8a5ec3eff9fc018f1c3c954381342b47d11061e3", func := "carryover/carryoverlaw08.MultiFull", spec := "multiFull", inPlace := ["math.Float64frombits"], unfollowed := true, recurses := true, apart := false, narrowed := true }
def MultiFullUptoSaid : Prop := multiFullUptoRow.holds Try.pinned (OpenSpec.upto multiFullSpec)

end Rows
end Go.Proofs.Ytefgpelodpggkaa
