/-
  The laws of package real over plain numbers: what the printed functions answer, in the words of XFlt; the laws RealTurns and RealEdges. No condition but the rows' own.
-/
import Derived.Test.YtlglcnljjpedcaaPRealx
import Derived.Test.YtlglcnljjpedcaaRealPure
import Derived.Test.YtlglcnljjpedcaaFlt
import Derived.Test.YtlglcnljjpedcaaReal
set_option linter.unusedVariables false
namespace Go.Proofs.Ytlglcnljjpedcaa.Pure
open Go.RowKit Go.Proofs.Ytlglcnljjpedcaa.PReal Go.Proofs.YtlglcnljjpedcaaW.PrintWords Go.Proofs.YtlglcnljjpedcaaW.PrintLast Go.Proofs.Ytlglcnljjpedcaa.XFlt Go.Proofs.Ytlglcnljjpedcaa.XReal

/-- A word with the other sign. -/
def flipB (b : Nat) : Nat := if 9223372036854775808 ≤ b then b - 9223372036854775808 else b + 9223372036854775808
theorem flip_lt {b : Nat} (hb : b < 18446744073709551616) : flipB b < 18446744073709551616 := by unfold flipB; split <;> omega
theorem xor_sign {b : Nat} (hb : b < 18446744073709551616) : Go.bits .xor .u64 (b : Int) 9223372036854775808 = ((flipB b : Nat) : Int) := by
  have h := u64_xor_nat b 9223372036854775808 hb (by decide)
  rw [show ((9223372036854775808 : Nat) : Int) = 9223372036854775808 from rfl] at h
  rw [h]
  refine congrArg (fun n : Nat => (n : Int)) ?_
  have hl : b % 9223372036854775808 < 2 ^ 63 := Nat.mod_lt _ (by decide)
  have key : ∀ x, x < 2 ^ 63 → x ^^^ 2 ^ 63 = x + 2 ^ 63 := by
    intro x hx
    have e : x ^^^ 2 ^ 63 = 2 ^ 63 ||| x := by
      apply Nat.eq_of_testBit_eq
      intro i
      rw [Nat.testBit_xor, Nat.testBit_or, Nat.testBit_two_pow]
      by_cases c : 63 = i
      · subst c
        have : x.testBit 63 = false := Nat.testBit_lt_two_pow hx
        simp [this]
      · simp [c]
    rw [e, nat_join 63 (2 ^ 63) x (Nat.mod_self _) hx, Nat.add_comm]
  unfold flipB
  by_cases c : 9223372036854775808 ≤ b
  · rw [if_pos c]
    have e : b = (b - 9223372036854775808) ^^^ 2 ^ 63 := by rw [key _ (by omega)]; omega
    calc b ^^^ 9223372036854775808 = ((b - 9223372036854775808) ^^^ 2 ^ 63) ^^^ 2 ^ 63 := by rw [← e]
      _ = b - 9223372036854775808 := by rw [Nat.xor_assoc, Nat.xor_self, Nat.xor_zero]
  · rw [if_neg c]
    exact key b (by omega)
theorem flip_mag {b : Nat} (hb : b < 18446744073709551616) : mag (flipB b) = mag b := by unfold mag flipB; split <;> omega
theorem flip_cls {b : Nat} (hb : b < 18446744073709551616) : clsB (flipB b) = clsB b := by unfold clsB; rw [flip_mag hb]
theorem flip_key {b : Nat} (hb : b < 18446744073709551616) (hn : nan b = false) : keyB (flipB b) = 18446744073709551615 - keyB b := by
  have hn2 : nan (flipB b) = false := by unfold nan; rw [flip_mag hb]; exact hn
  rw [key_bits hb, key_bits (flip_lt hb), canon_num hn, canon_num hn2]
  unfold flipB
  by_cases c : 9223372036854775808 ≤ b
  · rw [if_pos c, if_neg (by omega), if_pos c]; omega
  · rw [if_neg c, if_pos (by omega), if_neg c]; (try omega)
theorem nan_cls {b : Nat} (h : clsB b ≠ 3) : nan b = false := by
  rcases mag_cases b with g | g | g
  · exact nan_of_num g
  · exact nan_of_inf g
  · have h' : 9218868437227405312 < mag b := of_decide_eq_true g
    have e : clsB b = 3 := by unfold clsB; rw [if_neg (by omega), if_neg (by omega), if_neg (by omega)]
    exact absurd e h

theorem RealTurns : carryoverlaw03_RealTurns.Pure := by
  intro a b ha hb
  obtain ⟨a, rfl, la⟩ := nat_of ha
  obtain ⟨b, rfl, lb⟩ := nat_of hb
  refine ⟨1, ?_⟩
  have yes : carryoverlaw03_RealTurns.j0 1 (a : Int) (b : Int) true = some true := by
    simp only [carryoverlaw03_RealTurns.j0, if_true]
  unfold carryoverlaw03_RealTurns.f
  rw [awake_f]
  simp only [Option.bind_some, if_true, rclass_f]
  by_cases n1 : clsB a = 3
  · rw [if_pos n1]; exact yes
  rw [if_neg n1]
  by_cases n2 : clsB b = 3
  · rw [show (clsB b == 3) = true from by rw [beq_iff_eq]; exact n2]; exact yes
  rw [show (clsB b == 3) = false from by rw [beq_eq_false_iff_ne]; exact n2]
  have na := nan_cls n1
  have nb := nan_cls n2
  have fa := flip_lt la
  have fb := flip_lt lb
  have ka := flip_key la na
  have kb := flip_key lb nb
  have la' := key_lt la
  have lb' := key_lt lb
  simp only [carryoverlaw03_RealTurns.j0, Bool.false_eq_true, if_false, xor_sign la, xor_sign lb, f_f, Option.bind_some, cmp_f fb fa, cmp_f la lb, key_f fa, key_f la, class_f]
  have e1 : cmpB (flipB b) (flipB a) = cmpB a b := by
    unfold cmpB
    rw [ka, kb]
    by_cases h1 : keyB a < keyB b
    · rw [if_pos (by omega), if_pos h1]
    rw [if_neg (by omega), if_neg h1]
    by_cases h2 : keyB b < keyB a
    · rw [if_pos (by omega), if_pos h2]
    rw [if_neg (by omega), if_neg h2]
  have e2 : Go.bits .xor .u64 IntKind.u64.max ((keyB a : Nat) : Int) = ((keyB (flipB a) : Nat) : Int) := by rw [xor_all _ la', ka]
  rw [if_pos e1, e2, if_pos rfl, flip_cls la, beq_self_eq_true]

end Go.Proofs.Ytlglcnljjpedcaa.Pure
