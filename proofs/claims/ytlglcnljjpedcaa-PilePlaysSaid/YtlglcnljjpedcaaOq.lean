import Derived.Test.YtlglcnljjpedcaaOn
import Derived.Test.YtlglcnljjpedcaaTn
set_option linter.unusedVariables false
namespace Go.Proofs.Ytlglcnljjpedcaa.Ve
open Go
def WInt (k : IntKind) (ps : List PV) : Prop := ∃ x : Int, ps = [.sc (.int k x)] ∧ (Lit.int k x).wf = true
def WCons (P Q : List PV → Prop) (ps : List PV) : Prop := ∃ a b, ps = a ++ b ∧ P a ∧ Q b
def WEnd (ps : List PV) : Prop := ps = []
def WSl (P : List PV → Prop) (ps : List PV) : Prop := ∃ rows : List (List PV), ps = [.fz rows] ∧ rows.length ≤ maxLen ∧ ∀ r ∈ rows, P r
/-- An item in the making: a priority's bits, a value. -/
def WItem : List PV → Prop := WCons (WInt .u64) (WCons (WInt .i64) WEnd)
theorem wf_i64 {a : Int} (h : (Lit.int .i64 a).wf = true) : -(2 ^ 63) ≤ a ∧ a < 2 ^ 63 := by
  have h2 : -9223372036854775808 ≤ a ∧ a ≤ 9223372036854775807 := by simpa [Lit.wf, IntKind.min, IntKind.max, IntKind.signed, IntKind.bits] using h
  exact ⟨by omega, by omega⟩
theorem wf_u64 {a : Int} (h : (Lit.int .u64 a).wf = true) : 0 ≤ a ∧ a < 2 ^ 64 := by
  have h2 : 0 ≤ a ∧ a ≤ 18446744073709551615 := by simpa [Lit.wf, IntKind.min, IntKind.max, IntKind.signed, IntKind.bits] using h
  exact ⟨by omega, by omega⟩
theorem item_of {r : List PV} (h : WItem r) : ∃ (p : Nat) (v : Int), r = [.sc (.int .u64 p), .sc (.int .i64 v)] ∧ p < 2 ^ 64 := by
  obtain ⟨e, f, rfl, ⟨p, rfl, hp⟩, g, i, rfl, ⟨v, rfl, hv⟩, rfl⟩ := h
  obtain ⟨hp1, hp2⟩ := wf_u64 hp
  obtain ⟨pn, rfl⟩ : ∃ n : Nat, p = n := ⟨p.toNat, by omega⟩
  exact ⟨pn, v, rfl, by omega⟩
end Go.Proofs.Ytlglcnljjpedcaa.Ve
