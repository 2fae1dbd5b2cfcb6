import Derived.Test.YtnolgpagdjcjbaaOn
import Derived.Test.YtnolgpagdjcjbaaDs
set_option linter.unusedVariables false
namespace Go.Proofs.Ytnolgpagdjcjbaa.Ve
open Go
def WInt (k : IntKind) (ps : List PV) : Prop := ∃ x : Int, ps = [.sc (.int k x)] ∧ (Lit.int k x).wf = true
def WCons (P Q : List PV → Prop) (ps : List PV) : Prop := ∃ a b, ps = a ++ b ∧ P a ∧ Q b
def WEnd (ps : List PV) : Prop := ps = []
def WSl (P : List PV → Prop) (ps : List PV) : Prop := ∃ rows : List (List PV), ps = [.fz rows] ∧ rows.length ≤ maxLen ∧ ∀ r ∈ rows, P r
def WRaw : List PV → Prop := WCons (WInt .i64) (WCons (WCons (WInt .u64) (WCons (WInt .i64) WEnd)) (WCons (WInt .i64) (WCons (WInt .i64) WEnd)))
theorem i64_wf {a : Int} (h : (Lit.int .i64 a).wf = true) : i64 a := by
  have h2 : -9223372036854775808 ≤ a ∧ a ≤ 9223372036854775807 := by simpa [Lit.wf, IntKind.min, IntKind.max, IntKind.signed, IntKind.bits] using h
  exact ⟨by omega, by omega⟩
theorem u64_wf {a : Int} (h : (Lit.int .u64 a).wf = true) : 0 ≤ a ∧ a < 2 ^ 64 := by
  have h2 : 0 ≤ a ∧ a ≤ 18446744073709551615 := by simpa [Lit.wf, IntKind.min, IntKind.max, IntKind.signed, IntKind.bits] using h
  exact ⟨by omega, by omega⟩
theorem raw_of {r : List PV} (h : WRaw r) : ∃ x : Rw, r = rRw x ∧ RwOk x := by
  obtain ⟨a, b, rfl, ⟨k, rfl, hk⟩, c, d, rfl, ⟨e, f, rfl, ⟨p, rfl, hp⟩, g, i, rfl, ⟨v, rfl, hv⟩, rfl⟩, j, l, rfl, ⟨d0, rfl, h0⟩, q, s, rfl, ⟨d1, rfl, h1⟩, rfl⟩ := h
  obtain ⟨hp1, hp2⟩ := u64_wf hp
  obtain ⟨pn, rfl⟩ : ∃ n : Nat, p = n := ⟨p.toNat, by omega⟩
  exact ⟨⟨k, pn, v, d0, d1⟩, rfl, ⟨i64_wf hk, by show pn < 2 ^ 64; omega, i64_wf hv, i64_wf h0, i64_wf h1⟩⟩
theorem ops_of {rows : List (List PV)} (h : ∀ r ∈ rows, WSl WRaw r) : ∃ ops : List (List Rw), rows = (ops.map fun l => [.fz (l.map rRw)]) ∧ ∀ l ∈ ops, l.length ≤ maxLen ∧ ∀ x ∈ l, RwOk x :=
  list_of (f := fun l : List Rw => [PV.fz (l.map rRw)]) (Wf := fun l => l.length ≤ maxLen ∧ ∀ x ∈ l, RwOk x) fun r hr => by
    obtain ⟨rows2, rfl, hl, h2⟩ := h r hr
    obtain ⟨l, rfl, h3⟩ := list_of (f := rRw) (Wf := RwOk) (rows := rows2) fun r2 hr2 => raw_of (h2 r2 hr2)
    exact ⟨l, rfl, by simpa using hl, h3⟩
theorem ints_of {rows : List (List PV)} (h : ∀ r ∈ rows, WInt .i64 r) : ∃ xs : List Int, (rows = xs.map fun x => [.sc (.int .i64 x)]) ∧ ∀ x ∈ xs, i64 x :=
  list_of (f := fun x : Int => [PV.sc (.int .i64 x)]) (Wf := i64) fun r hr => by
    obtain ⟨x, rfl, hx⟩ := h r hr
    exact ⟨x, rfl, i64_wf hx⟩
end Go.Proofs.Ytnolgpagdjcjbaa.Ve
