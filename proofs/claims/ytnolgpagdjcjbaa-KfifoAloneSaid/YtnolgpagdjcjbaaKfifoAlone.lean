import Derived.Test.YtnolgpagdjcjbaaKm
import Derived.Test.YtnolgpagdjcjbaaOr
/-! The law KfifoAlone, by the evaluator. -/
namespace Go.Proofs.Ytnolgpagdjcjbaa.XKfifoAlone
open Go Ve
theorem walk (a : Int) (v1 : Value) (ps1 : List PV) (w : World) (w0 : (Lit.int .i64 a).wf = true)
    (pl1 : PList (fun B => B < w.heap.size) w ps1 [v1]) (wf1 : WSl WRaw ps1) :
    Calls Try.prog 3 #[.int .i64 a, v1] w fun e w' => e = .returned (.bool true) ∧ RowKit.Below w.heap.size w w' := by
  obtain ⟨r1, rfl, l1, h1⟩ := wf1
  obtain ⟨x1, rfl, g1⟩ := list_of (f := rRw) (Wf := RwOk) (rows := r1) fun r2 hr2 => raw_of (h1 r2 hr2)
  simp only [PList] at pl1
  obtain ⟨u1, t1, e1, p1, n1⟩ := pl1
  cases e1
  refine ew_calls orc_none mix stat (kfifoAlone_law a x1 (i64_wf w0) g1 (by simpa using l1)) ?_
  simp only [PList]
  exact ⟨_, _, rfl, by simp [PRel], _, _, rfl, p1, rfl⟩
end Go.Proofs.Ytnolgpagdjcjbaa.XKfifoAlone
