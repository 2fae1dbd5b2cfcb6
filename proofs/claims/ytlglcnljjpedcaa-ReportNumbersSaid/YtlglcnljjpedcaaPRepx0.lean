-- Written by a program of this session (wip/fprint) out of the translation: each Go function as a Lean function, and its walk.
import Derived.Test.YtlglcnljjpedcaaProg
import Derived.Below
import Derived.Deep.Draws
import Derived.Deep.AppendLies
import Derived.Maps.AppendAt
import Derived.OwnWalk
import Derived.Laws.BytesArg
import Derived.Laws.MakeOwn
import Derived.Laws.OwnMore
import Derived.Deep.OwnRows
import Derived.Tactics
import Derived.Lib.ConvBytes
import Derived.Laws.Slices
import Derived.WalkKit
import Derived.KernelRfl
import Derived.RowKit3
import Derived.Deep.LoopGhost
import Derived.Deep.QuietTactic
import Derived.BigQuiet
import Derived.WideLaws
import Derived.Deep.DeepCutAuto
import Derived.Deep.CutBlock
import Derived.Deep.RegionHeld3
import Derived.Laws.Rows
import Derived.Lib.AppendStr
import Derived.ArgAppend
import Derived.Laws.IdiomCopy
import Derived.OrdersHeld
import Derived.Laws.BitsLemmas
import Derived.RowKit
import Derived.Test.YtlglcnljjpedcaaWWords
import Derived.Test.YtlglcnljjpedcaaWLast
import Derived.Test.YtlglcnljjpedcaaWTab
import Derived.Test.YtlglcnljjpedcaaWFour
import Derived.Test.YtlglcnljjpedcaaWQPut
import Derived.Test.YtlglcnljjpedcaaWApart
import Derived.Test.YtlglcnljjpedcaaWArr
import Derived.Test.YtlglcnljjpedcaaWZeros
import Derived.Test.YtlglcnljjpedcaaWFoot
import Derived.Test.YtlglcnljjpedcaaWKept
import Derived.Test.YtlglcnljjpedcaaWShare
import Derived.Test.YtlglcnljjpedcaaWN
import Derived.Test.YtlglcnljjpedcaaWFootNe
import Derived.Test.YtlglcnljjpedcaaWAt
import Derived.Test.YtlglcnljjpedcaaWEqStruct
import Derived.Test.YtlglcnljjpedcaaWRepsOne
import Derived.Test.YtlglcnljjpedcaaWInv
import Derived.Test.YtlglcnljjpedcaaWInvWords
import Derived.Test.YtlglcnljjpedcaaWGuard
import Derived.Test.YtlglcnljjpedcaaWNEv
import Derived.Test.YtlglcnljjpedcaaWMore
import Derived.Test.YtlglcnljjpedcaaFw
import Derived.Test.YtlglcnljjpedcaaText
namespace Go.Proofs.Ytlglcnljjpedcaa.PRep
open Go.RowKit Go.Proofs.YtlglcnljjpedcaaW.PrintWords Go.Proofs.YtlglcnljjpedcaaW.PrintLast Go.Proofs.YtlglcnljjpedcaaW.PrintMore
attribute [local go_sem] max2_int min2_int max_two min_two max_three min_three max_four min_four   -- for this text's walks alone
set_option linter.unusedVariables false
set_option linter.unusedSimpArgs false



def errW : Option Int → Value
  | none => .nilIface
  | some c => .iface 0 (.int .i64 c)
theorem errW_none : errW none = .nilIface := rfl
theorem errW_some (c : Int) : errW (some c) = .iface 0 (.int .i64 c) := rfl

theorem info5 : (Try.prog.info? 5).map (fun i => (i.zero, i.size, i.bytes)) = some (some (.int .u8 0), 1, 1) := by kernel_rfl
theorem info9 : (Try.prog.info? 9).map (fun i => (i.zero, i.size, i.bytes)) = some (some (.string ⟨#[]⟩), 1, 16) := by kernel_rfl
-- the values' own types

end Go.Proofs.Ytlglcnljjpedcaa.PRep
