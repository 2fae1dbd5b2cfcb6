import Derived.Test.YtefgpelodpggkaaTm
import Derived.Test.YtefgpelodpggkaaOn
/-! The law TallyAlone, by the evaluator. -/
namespace Go.Proofs.Ytefgpelodpggkaa.XTallyAlone
open Go Ve
theorem i64_of {a : Int} (h : (Lit.int .i64 a).wf = true) : i64 a := by
  have h2 : -9223372036854775808 ≤ a ∧ a ≤ 9223372036854775807 := by simpa [Lit.wf, IntKind.min, IntKind.max, IntKind.signed, IntKind.bits] using h
  exact ⟨by omega, by omega⟩
theorem rows_of {rows : List (List PV)} (h : ∀ r ∈ rows, ∃ x : Int, r = [.sc (.int .i64 x)] ∧ (Lit.int .i64 x).wf = true) : ∃ xs : List Int, rows = xs.map iRow ∧ ∀ x ∈ xs, i64 x := by
  obtain ⟨xs, h1, h2⟩ := list_of (f := iRow) (Wf := fun x => (Lit.int .i64 x).wf = true) h
  exact ⟨xs, h1, fun x hx => i64_of (h2 x hx)⟩
theorem walk (a : Int) (v1 : Value) (ps1 : List PV) (v2 : Value) (ps2 : List PV) (w : World) (w0 : (Lit.int .i64 a).wf = true)
    (pl1 : PList (fun B => B < w.heap.size) w ps1 [v1]) (wf1 : ∃ rows : List (List PV), ps1 = [.fz rows] ∧ rows.length ≤ maxLen ∧ ∀ r ∈ rows, ∃ x : Int, r = [.sc (.int .i64 x)] ∧ (Lit.int .i64 x).wf = true)
    (pl2 : PList (fun B => B < w.heap.size) w ps2 [v2]) (wf2 : ∃ rows : List (List PV), ps2 = [.fz rows] ∧ rows.length ≤ maxLen ∧ ∀ r ∈ rows, ∃ x : Int, r = [.sc (.int .i64 x)] ∧ (Lit.int .i64 x).wf = true) :
    Calls Try.prog 4 #[.int .i64 a, v1, v2] w fun e w' => e = .returned (.bool true) ∧ RowKit.Below w.heap.size w w' := by
  obtain ⟨r1, rfl, l1, h1⟩ := wf1
  obtain ⟨r2, rfl, l2, h2⟩ := wf2
  obtain ⟨x1, rfl, g1⟩ := rows_of h1
  obtain ⟨x2, rfl, g2⟩ := rows_of h2
  simp only [PList] at pl1 pl2
  obtain ⟨u1, t1, e1, p1, n1⟩ := pl1
  obtain ⟨u2, t2, e2, p2, n2⟩ := pl2
  cases e1; cases e2
  refine ew_calls orc_none mix stat (tallyAlone_law a x1 x2 (i64_of w0) g1 g2 (by simpa using l1) (by simpa using l2)) ?_
  simp only [PList]
  exact ⟨_, _, rfl, by simp [PRel], _, _, rfl, p1, _, _, rfl, p2, rfl⟩
end Go.Proofs.Ytefgpelodpggkaa.XTallyAlone
