import Derived.Test.YtfieppbehmglbaaWe
/-! The law WireEven, by the evaluator. -/
namespace Go.Proofs.Ytfieppbehmglbaa.XWireEven
open Go Ve
theorem wfb {n : Int} (h : (Lit.int .i64 n).wf = true) : -(2 ^ 63) ≤ n ∧ n < 2 ^ 63 := by
  have h2 : -9223372036854775808 ≤ n ∧ n ≤ 9223372036854775807 := by simpa [Lit.wf, IntKind.min, IntKind.max, IntKind.signed, IntKind.bits] using h
  exact ⟨by omega, by omega⟩
theorem walk (a b : Int) (w : World) (w0 : (Lit.int .i64 a).wf = true) (w1 : (Lit.int .i64 b).wf = true) :
    Calls Try.prog 8 #[.int .i64 a, .int .i64 b] w fun e w' => e = .returned (.bool true) ∧ RowKit.Below w.heap.size w w' :=
  ew_calls orc_none mix stat (wireEven_law a b (wfb w0) (wfb w1)) (by simp [PList, PRel])
end Go.Proofs.Ytfieppbehmglbaa.XWireEven
