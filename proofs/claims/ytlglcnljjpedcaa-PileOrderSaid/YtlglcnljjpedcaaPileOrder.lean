import Derived.Test.YtlglcnljjpedcaaPo
import Derived.Test.YtlglcnljjpedcaaOq
/-! The law PileOrder, by the evaluator. -/
namespace Go.Proofs.Ytlglcnljjpedcaa.XPileOrder
open Go Ve
theorem walk (c0 : Array Value) (ps0 : List PV) (c1 : Array Value) (ps1 : List PV) (c2 : Array Value) (ps2 : List PV) (w : World)
    (pl0 : PList (fun B => B < w.heap.size) w ps0 c0.toList) (wf0 : WItem ps0) (pl1 : PList (fun B => B < w.heap.size) w ps1 c1.toList) (wf1 : WItem ps1) (pl2 : PList (fun B => B < w.heap.size) w ps2 c2.toList) (wf2 : WItem ps2) :
    Calls Try.prog 8 #[.agg c0, .agg c1, .agg c2] w fun e w' => e = .returned (.bool true) ∧ RowKit.Below w.heap.size w w' := by
  obtain ⟨p, u, rfl, hp⟩ := item_of wf0
  obtain ⟨q, v, rfl, hq⟩ := item_of wf1
  obtain ⟨r, x, rfl, hr⟩ := item_of wf2
  refine ew_calls orc_none mix stat (pileOrder_law p q r u v x hp hq hr) ?_
  simp only [PList]
  exact ⟨_, _, rfl, by simp only [PRel]; exact ⟨c0, rfl, pl0⟩, _, _, rfl, by simp only [PRel]; exact ⟨c1, rfl, pl1⟩, _, _, rfl, by simp only [PRel]; exact ⟨c2, rfl, pl2⟩, rfl⟩
end Go.Proofs.Ytlglcnljjpedcaa.XPileOrder
