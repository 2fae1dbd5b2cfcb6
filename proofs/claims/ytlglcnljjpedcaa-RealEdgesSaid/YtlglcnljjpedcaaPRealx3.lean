-- Written by a program of this session (wip/fprint) out of the translation: each Go function as a Lean function, and its walk.
import Derived.Test.YtlglcnljjpedcaaPRealx0
namespace Go.Proofs.Ytlglcnljjpedcaa.PReal
open Go.RowKit Go.Proofs.YtlglcnljjpedcaaW.PrintWords Go.Proofs.YtlglcnljjpedcaaW.PrintLast Go.Proofs.YtlglcnljjpedcaaW.PrintMore
attribute [local go_sem] max2_int min2_int max_two min_two max_three min_three max_four min_four   -- for this text's walks alone
set_option linter.unusedVariables false
set_option linter.unusedSimpArgs false

/-! ### carryoverref03_Class: function 19 -/
def carryoverref03_Class.f (a0 : Int) : Option (Int) := if (Int.tmod a0 9223372036854775808) = 0 then (some 0) else (if (Int.tmod a0 9223372036854775808) < 9218868437227405312 then (some 1) else (if (Int.tmod a0 9223372036854775808) = 9218868437227405312 then (some 2) else (some 3)))
set_option maxHeartbeats 8000000 in
set_option maxRecDepth 100000 in
theorem carryoverref03_Class.calls (a0 : Int) (r : Int) (w : World) (h : carryoverref03_Class.f a0 = some r) :
    Calls Try.prog 19 #[.int .u64 a0] w fun e w' => e = .returned (.int .i64 r) ∧ Drawn0 w w' := by
  have H : (if (Int.tmod a0 9223372036854775808) = 0 then (some 0) else (if (Int.tmod a0 9223372036854775808) < 9218868437227405312 then (some 1) else (if (Int.tmod a0 9223372036854775808) = 9218868437227405312 then (some 2) else (some 3)))) = some r := h
  clear h
  by_cases c2 : (Int.tmod a0 9223372036854775808) = 0
  · rw [if_pos c2] at H
    have c2b0 : ((Int.tmod a0 9223372036854775808) == 0) = true := beq_iff_eq.mpr c2
    have c2b1 : ((Int.tmod a0 9223372036854775808) != 0) = false := bne_eq_false_iff_eq.mpr c2
    clear c2
    obtain rfl := Option.some.inj H
    go_enter Try.func19, Try.ntmps19
    go_wp2
    go_ret
    exact ⟨by first | rfl | (simp; done) | (simp [*]; done), by repeat (first | exact Drawn0.refl _ | apply Drawn0.step)⟩
  · rw [if_neg c2] at H
    have c2b0 : ((Int.tmod a0 9223372036854775808) == 0) = false := beq_eq_false_iff_ne.mpr c2
    have c2b1 : ((Int.tmod a0 9223372036854775808) != 0) = true := bne_iff_ne.mpr c2
    by_cases c3 : (Int.tmod a0 9223372036854775808) < 9218868437227405312
    · rw [if_pos c3] at H
      have c3b0 : decide ((Int.tmod a0 9223372036854775808) < 9218868437227405312) = true := decide_eq_true c3
      clear c3
      obtain rfl := Option.some.inj H
      go_enter Try.func19, Try.ntmps19
      go_wp2
      go_ret
      exact ⟨by first | rfl | (simp; done) | (simp [*]; done), by repeat (first | exact Drawn0.refl _ | apply Drawn0.step)⟩
    · rw [if_neg c3] at H
      have c3b0 : decide ((Int.tmod a0 9223372036854775808) < 9218868437227405312) = false := decide_eq_false c3
      clear c3
      by_cases c4 : (Int.tmod a0 9223372036854775808) = 9218868437227405312
      · rw [if_pos c4] at H
        have c4b0 : ((Int.tmod a0 9223372036854775808) == 9218868437227405312) = true := beq_iff_eq.mpr c4
        have c4b1 : ((Int.tmod a0 9223372036854775808) != 9218868437227405312) = false := bne_eq_false_iff_eq.mpr c4
        clear c4
        obtain rfl := Option.some.inj H
        go_enter Try.func19, Try.ntmps19
        go_wp2
        go_ret
        exact ⟨by first | rfl | (simp; done) | (simp [*]; done), by repeat (first | exact Drawn0.refl _ | apply Drawn0.step)⟩
      · rw [if_neg c4] at H
        have c4b0 : ((Int.tmod a0 9223372036854775808) == 9218868437227405312) = false := beq_eq_false_iff_ne.mpr c4
        have c4b1 : ((Int.tmod a0 9223372036854775808) != 9218868437227405312) = true := bne_iff_ne.mpr c4
        obtain rfl := Option.some.inj H
        go_enter Try.func19, Try.ntmps19
        go_wp2
        go_ret
        exact ⟨by first | rfl | (simp; done) | (simp [*]; done), by repeat (first | exact Drawn0.refl _ | apply Drawn0.step)⟩

end Go.Proofs.Ytlglcnljjpedcaa.PReal
