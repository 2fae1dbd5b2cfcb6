import Derived.Test.YtefgpelodpggkaaTw
/-! The law TallyNew, by the evaluator. -/
namespace Go.Proofs.Ytefgpelodpggkaa.XTallyNew
open Go Ve
theorem walk (a : Int) (w : World) (w0 : (Lit.int .i64 a).wf = true) :
    Calls Try.prog 3 #[.int .i64 a] w fun e w' => e = .returned (.bool true) ∧ RowKit.Below w.heap.size w w' :=
  ew_calls orc_none mix stat (tallyNew_law a) (by simp [PList, PRel])
end Go.Proofs.Ytefgpelodpggkaa.XTallyNew
