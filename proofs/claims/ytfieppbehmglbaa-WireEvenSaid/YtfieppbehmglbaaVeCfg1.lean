import Derived.Test.YtfieppbehmglbaaVeTab
/-! How each function of this seat is called. -/
namespace Go.Proofs.Ytfieppbehmglbaa.Ve
open Go
def pol (f : FuncId) : Pol := match f with
  | 16 | 19 | 23 | 42 | 45 | 53 | 60 | 101 => .res
  | 18 | 59 => .std
  | 68 | 77 => .keep
  | _ => .pure
def cfg : Cfg := ⟨pol, fun _ _ => none⟩
theorem mix : Try.prog.follows .mixedOrders = true := by kernel_rfl
theorem stat : progStat Try.prog = true := by kernel_rfl
end Go.Proofs.Ytfieppbehmglbaa.Ve
