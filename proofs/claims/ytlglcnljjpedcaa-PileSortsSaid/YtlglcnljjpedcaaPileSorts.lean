import Derived.Test.YtlglcnljjpedcaaHm
import Derived.Test.YtlglcnljjpedcaaOq
/-! The law PileSorts, by the evaluator. -/
namespace Go.Proofs.Ytlglcnljjpedcaa.XPileSorts
open Go Ve
theorem items_of : ∀ {rows : List (List PV)}, (∀ r ∈ rows, WItem r) → ∃ l : List IV, rows = l.map rIV ∧ ∀ x ∈ l, x.1 < 2 ^ 64
  | [], _ => ⟨[], rfl, by simp⟩
  | r :: rs, h => by
    obtain ⟨p, v, rfl, hp⟩ := item_of (h r (by simp))
    obtain ⟨l, rfl, hl⟩ := items_of (rows := rs) fun r hr => h r (by simp [hr])
    refine ⟨(p, v) :: l, rfl, fun x hx => ?_⟩
    rcases List.mem_cons.1 hx with rfl | hx
    · exact hp
    · exact hl x hx
theorem walk (v1 : Value) (ps1 : List PV) (w : World)
    (pl1 : PList (fun B => B < w.heap.size) w ps1 [v1]) (wf1 : WSl WItem ps1) :
    Calls Try.prog 11 #[v1] w fun e w' => e = .returned (.bool true) ∧ RowKit.Below w.heap.size w w' := by
  obtain ⟨r1, rfl, l1, h1⟩ := wf1
  obtain ⟨x1, rfl, g1⟩ := items_of h1
  simp only [PList] at pl1
  obtain ⟨u1, t1, e1, p1, n1⟩ := pl1
  cases e1
  refine ew_calls orc_none mix stat (pileSorts_law x1 g1 (by simpa using l1)) ?_
  simp only [PList]
  exact ⟨_, _, rfl, p1, rfl⟩
end Go.Proofs.Ytlglcnljjpedcaa.XPileSorts
