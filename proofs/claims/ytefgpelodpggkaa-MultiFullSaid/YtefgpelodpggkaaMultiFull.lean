import Derived.Test.YtefgpelodpggkaaMf
import Derived.Test.YtefgpelodpggkaaOr
/-! The law MultiFull, by the evaluator. -/
namespace Go.Proofs.Ytefgpelodpggkaa.XMultiFull
open Go Ve
theorem walk (a : Int) (c1 : Array Value) (ps1 : List PV) (w : World) (w0 : (Lit.int .i64 a).wf = true)
    (pl1 : PList (fun B => B < w.heap.size) w ps1 c1.toList) (wf1 : WCons (WInt .u64) (WCons (WInt .i64) WEnd) ps1) :
    Calls Try.prog 12 #[.int .i64 a, .agg c1] w fun e w' => e = .returned (.bool true) ∧ RowKit.Below w.heap.size w w' := by
  obtain ⟨e, f, rfl, ⟨p, rfl, hp⟩, g, i, rfl, ⟨v, rfl, hv⟩, rfl⟩ := wf1
  obtain ⟨hp1, hp2⟩ := u64_wf hp
  obtain ⟨pn, rfl⟩ : ∃ n : Nat, p = n := ⟨p.toNat, by omega⟩
  refine ew_calls orc_none mix stat (multiFull_law a pn v (i64_wf w0) (by omega)) ?_
  simp only [PList]
  exact ⟨_, _, rfl, by simp [PRel], _, _, rfl, by simp only [PRel]; exact ⟨c1, rfl, pl1⟩, rfl⟩
end Go.Proofs.Ytefgpelodpggkaa.XMultiFull
