import Derived.Test.YtlglcnljjpedcaaVeTab
/-! How each function of this seat is called. -/
namespace Go.Proofs.Ytlglcnljjpedcaa.Ve
open Go
def pol (f : FuncId) : Pol := match f with
  | 42 | 44 | 45 | 46 | 47 | 48 | 50 | 65 | 66 | 67 | 72 | 73 | 95 | 96 | 97 => .res


  | _ => .pure
def cfg : Cfg := ⟨pol, fun _ _ => none⟩
theorem mix : Try.prog.follows .mixedOrders = true := by kernel_rfl
theorem stat : progStat Try.prog = true := by kernel_rfl
end Go.Proofs.Ytlglcnljjpedcaa.Ve
