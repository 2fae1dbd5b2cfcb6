import Derived.Test.YtfieppbehmglbaaWpB
/-! The law WirePlans, by the evaluator. -/
namespace Go.Proofs.Ytfieppbehmglbaa.XWirePlans
open Go Ve
theorem walk (a : Int) (w : World) (w0 : (Lit.int .i64 a).wf = true) :
    Calls Try.prog 7 #[.int .i64 a] w fun e w' => e = .returned (.bool true) ∧ RowKit.Below w.heap.size w w' :=
  ew_calls orc_none mix stat (wp a) (by simp [PList, PRel])
end Go.Proofs.Ytfieppbehmglbaa.XWirePlans
