import Derived.Test.YtlglcnljjpedcaaPu
import Derived.Test.YtlglcnljjpedcaaOq
/-! The law PilePlays, by the evaluator. -/
namespace Go.Proofs.Ytlglcnljjpedcaa.XPilePlays
open Go Ve
theorem items_of : ∀ {rows : List (List PV)}, (∀ r ∈ rows, WItem r) → ∃ l : List IV, rows = l.map rIV ∧ ∀ x ∈ l, x.1 < 2 ^ 64
  | [], _ => ⟨[], rfl, by simp⟩
  | r :: rs, h => by
    obtain ⟨p, v, rfl, hp⟩ := item_of (h r (by simp))
    obtain ⟨l, rfl, hl⟩ := items_of (rows := rs) fun r hr => h r (by simp [hr])
    refine ⟨(p, v) :: l, rfl, fun x hx => ?_⟩
    rcases List.mem_cons.1 hx with rfl | hx
    · exact hp
    · exact hl x hx
theorem acts_of : ∀ {rows : List (List PV)}, (∀ r ∈ rows, WCons (WInt .i64) (WCons WItem WEnd) r) → ∃ l : List Ac, rows = l.map rAc ∧ ∀ x ∈ l, AcOk x
  | [], _ => ⟨[], rfl, by simp⟩
  | r :: rs, h => by
    obtain ⟨e, f, rfl, ⟨k, rfl, hk⟩, g, i, rfl, hi, rfl⟩ := h r (by simp)
    obtain ⟨p, v, rfl, hp⟩ := item_of hi
    obtain ⟨l, rfl, hl⟩ := acts_of (rows := rs) fun r hr => h r (by simp [hr])
    refine ⟨⟨k, (p, v)⟩ :: l, rfl, fun x hx => ?_⟩
    rcases List.mem_cons.1 hx with rfl | hx
    · exact ⟨wf_i64 hk, hp⟩
    · exact hl x hx
theorem walk (v1 : Value) (ps1 : List PV) (v2 : Value) (ps2 : List PV) (w : World)
    (pl1 : PList (fun B => B < w.heap.size) w ps1 [v1]) (wf1 : WSl WItem ps1)
    (pl2 : PList (fun B => B < w.heap.size) w ps2 [v2]) (wf2 : WSl (WCons (WInt .i64) (WCons WItem WEnd)) ps2) :
    Calls Try.prog 13 #[v1, v2] w fun e w' => e = .returned (.bool true) ∧ RowKit.Below w.heap.size w w' := by
  obtain ⟨r1, rfl, l1, h1⟩ := wf1
  obtain ⟨r2, rfl, l2, h2⟩ := wf2
  obtain ⟨x1, rfl, g1⟩ := items_of h1
  obtain ⟨x2, rfl, g2⟩ := acts_of h2
  simp only [PList] at pl1 pl2
  obtain ⟨u1, t1, e1, p1, n1⟩ := pl1
  obtain ⟨u2, t2, e2, p2, n2⟩ := pl2
  cases e1; cases e2
  refine ew_calls orc_none mix stat (pilePlays_law x1 g1 (by simpa using l1) x2 g2 (by simpa using l2)) ?_
  simp only [PList]
  exact ⟨_, _, rfl, p1, _, _, rfl, p2, rfl⟩
end Go.Proofs.Ytlglcnljjpedcaa.XPilePlays
