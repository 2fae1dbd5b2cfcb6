import Derived.Test.YtnolgpagdjcjbaaKi
import Derived.Test.YtnolgpagdjcjbaaOr
/-! The law KfifoFull, by the evaluator. -/
namespace Go.Proofs.Ytnolgpagdjcjbaa.XKfifoFull
open Go Ve
theorem walk (a b : Int) (w : World) (w0 : (Lit.int .i64 a).wf = true) (w1 : (Lit.int .i64 b).wf = true) :
    Calls Try.prog 4 #[.int .i64 a, .int .i64 b] w fun e w' => e = .returned (.bool true) ∧ RowKit.Below w.heap.size w w' :=
  ew_calls orc_none mix stat (kfifoFull_law a b (i64_wf w0) (i64_wf w1)) (by simp [PList, PRel])
end Go.Proofs.Ytnolgpagdjcjbaa.XKfifoFull
