import Derived.Test.YtefgpelodpggkaaVeTab
/-! How each function of this seat is called. -/
namespace Go.Proofs.Ytefgpelodpggkaa.Ve
open Go
def pol (f : FuncId) : Pol := match f with
  | 17 | 18 | 19 | 20 | 21 | 23 | 31 | 32 | 33 | 37 | 39 | 40 | 42 | 44 | 50 | 58 | 81 | 82 | 86 | 87 | 88 | 89 | 90 | 91 | 93 | 94 | 95 | 96 | 98 | 99 | 100 | 104 | 107 | 108 | 109 => .res
  | 84 => .std

  | _ => .pure
def cfg : Cfg := ⟨pol, fun _ _ => none⟩
theorem mix : Try.prog.follows .mixedOrders = true := by kernel_rfl
theorem stat : progStat Try.prog = true := by kernel_rfl
end Go.Proofs.Ytefgpelodpggkaa.Ve
