import Derived.Test.YtnolgpagdjcjbaaVeTab
/-! How each function of this seat is called. -/
namespace Go.Proofs.Ytnolgpagdjcjbaa.Ve
open Go
def pol (f : FuncId) : Pol := match f with
  | 16 | 19 | 23 | 24 | 25 | 30 | 31 | 32 | 36 | 38 | 39 | 40 | 43 | 51 | 53 | 60 | 64 | 74 | 75 | 103 | 104 | 105 | 106 | 107 | 109 => .res
  | 80 => .std
  | 77 | 84 | 87 => .keep
  | _ => .pure
def cfg : Cfg := ⟨pol, fun _ _ => none⟩
theorem mix : Try.prog.follows .mixedOrders = true := by kernel_rfl
theorem stat : progStat Try.prog = true := by kernel_rfl
end Go.Proofs.Ytnolgpagdjcjbaa.Ve
