import Derived.Test.YtnolgpagdjcjbaaKx
import Derived.Test.YtnolgpagdjcjbaaOr
/-! The law KfifoSlots, by the evaluator. -/
namespace Go.Proofs.Ytnolgpagdjcjbaa.XKfifoSlots
open Go Ve
theorem walk (a : Int) (v1 : Value) (ps1 : List PV) (v2 : Value) (ps2 : List PV) (w : World) (w0 : (Lit.int .i64 a).wf = true)
    (pl1 : PList (fun B => B < w.heap.size) w ps1 [v1]) (wf1 : WSl (WSl WRaw) ps1)
    (pl2 : PList (fun B => B < w.heap.size) w ps2 [v2]) (wf2 : WSl (WInt .i64) ps2) :
    Calls Try.prog 7 #[.int .i64 a, v1, v2] w fun e w' => e = .returned (.bool true) ∧ RowKit.Below w.heap.size w w' := by
  obtain ⟨r1, rfl, l1, h1⟩ := wf1
  obtain ⟨r2, rfl, l2, h2⟩ := wf2
  obtain ⟨x1, rfl, g1⟩ := ops_of h1
  obtain ⟨x2, rfl, g2⟩ := ints_of h2
  simp only [PList] at pl1 pl2
  obtain ⟨u1, t1, e1, p1, n1⟩ := pl1
  obtain ⟨u2, t2, e2, p2, n2⟩ := pl2
  cases e1; cases e2
  refine ew_calls orc_none mix stat (kfifoSlots_law a (i64_wf w0) g1 (by simpa using l1) x2 g2 (by simpa using l2)) ?_
  simp only [PList]
  exact ⟨_, _, rfl, by simp [PRel], _, _, rfl, p1, _, _, rfl, p2, rfl⟩
end Go.Proofs.Ytnolgpagdjcjbaa.XKfifoSlots
