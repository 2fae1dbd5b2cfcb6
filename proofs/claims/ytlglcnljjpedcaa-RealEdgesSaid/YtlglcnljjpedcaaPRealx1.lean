-- Written by a program of this session (wip/fprint) out of the translation: each Go function as a Lean function, and its walk.
import Derived.Test.YtlglcnljjpedcaaPRealx0
namespace Go.Proofs.Ytlglcnljjpedcaa.PReal
open Go.RowKit Go.Proofs.YtlglcnljjpedcaaW.PrintWords Go.Proofs.YtlglcnljjpedcaaW.PrintLast Go.Proofs.YtlglcnljjpedcaaW.PrintMore
attribute [local go_sem] max2_int min2_int max_two min_two max_three min_three max_four min_four   -- for this text's walks alone
set_option linter.unusedVariables false
set_option linter.unusedSimpArgs false

/-! ### real_Canon: function 27 -/
def real_Canon.f (a0 : Nat) : Option (Nat) := if (FloatKind.f64.format.order a0 a0 != some Ordering.eq) = true then (some (toF 9221120237041090560)) else (some a0)
set_option maxHeartbeats 8000000 in
set_option maxRecDepth 100000 in
theorem real_Canon.calls (a0 : Nat) (r : Nat) (w : World) (h : real_Canon.f a0 = some r) :
    Calls Try.prog 27 #[.float .f64 a0] w fun e w' => e = .returned (.float .f64 r) ∧ Drawn0 w w' := by
  have H : (if (FloatKind.f64.format.order a0 a0 != some Ordering.eq) = true then (some (toF 9221120237041090560)) else (some a0)) = some r := h
  clear h
  by_cases c2 : (FloatKind.f64.format.order a0 a0 != some Ordering.eq) = true
  · rw [if_pos c2] at H
    have c2b0 : (FloatKind.f64.format.order a0 a0 != some Ordering.eq) = true := c2
    (try (have c2b1 : decide (FloatKind.f64.format.order a0 a0 = some Ordering.eq) = false := by simpa using c2))
    (try (have c2b2 : (FloatKind.f64.format.order a0 a0 == some Ordering.eq) = false := by simpa using c2))
    (try (have c2b3 : ¬ (FloatKind.f64.format.order a0 a0 = some Ordering.eq) := by simpa using c2))
    clear c2
    obtain rfl := Option.some.inj H
    go_enter Try.func27, Try.ntmps27
    go_wp2
    go_ret
    exact ⟨by first | rfl | (simp; done) | (simp [*]; done), by repeat (first | exact Drawn0.refl _ | apply Drawn0.step)⟩
  · rw [if_neg c2] at H
    have c2b0 : (FloatKind.f64.format.order a0 a0 != some Ordering.eq) = false := by simpa using c2
    (try (have c2b1 : decide (FloatKind.f64.format.order a0 a0 = some Ordering.eq) = true := by simpa using c2))
    (try (have c2b2 : (FloatKind.f64.format.order a0 a0 == some Ordering.eq) = true := by simpa using c2))
    clear c2
    obtain rfl := Option.some.inj H
    go_enter Try.func27, Try.ntmps27
    go_wp2
    go_ret
    exact ⟨by first | rfl | (simp; done) | (simp [*]; done), by repeat (first | exact Drawn0.refl _ | apply Drawn0.step)⟩

/-! ### real_Key: function 22 -/
def real_Key.f (a0 : Nat) : Option (Int) := (real_Canon.f a0).bind fun t101 => (if (Go.bits .and .u64 (ofF t101) 9223372036854775808) = 0 then (some (Go.bits .or .u64 (ofF t101) 9223372036854775808)) else (some (Go.bits .xor .u64 IntKind.u64.max (ofF t101))))
set_option maxHeartbeats 8000000 in
set_option maxRecDepth 100000 in
theorem real_Key.calls (a0 : Nat) (r : Int) (w : World) (h : real_Key.f a0 = some r) :
    Calls Try.prog 22 #[.float .f64 a0] w fun e w' => e = .returned (.int .u64 r) ∧ Drawn0 w w' := by
  have H : ((real_Canon.f a0).bind fun t101 => (if (Go.bits .and .u64 (ofF t101) 9223372036854775808) = 0 then (some (Go.bits .or .u64 (ofF t101) 9223372036854775808)) else (some (Go.bits .xor .u64 IntKind.u64.max (ofF t101))))) = some r := h
  clear h
  replace H := Option.bind_eq_some_iff.mp H
  obtain ⟨t101, A20, H⟩ := H
  replace H : (if (Go.bits .and .u64 (ofF t101) 9223372036854775808) = 0 then (some (Go.bits .or .u64 (ofF t101) 9223372036854775808)) else (some (Go.bits .xor .u64 IntKind.u64.max (ofF t101)))) = some r := H
  have A2 := Aside0.mk A20
  clear A20
  by_cases c3 : (Go.bits .and .u64 (ofF t101) 9223372036854775808) = 0
  · rw [if_pos c3] at H
    have c3b0 : ((Go.bits .and .u64 (ofF t101) 9223372036854775808) == 0) = true := beq_iff_eq.mpr c3
    have c3b1 : ((Go.bits .and .u64 (ofF t101) 9223372036854775808) != 0) = false := bne_eq_false_iff_eq.mpr c3
    clear c3
    obtain rfl := Option.some.inj H
    go_enter Try.func22, Try.ntmps22
    go_wp2_with (first | ((with_reducible refine gate_callee (f := 27) rfl ?_); refine goesL_ (some 5) rfl rfl Try.func27 (by kernel_rfl) rfl #[.float .f64 a0] rfl (by (try simp only [List.map_toArray, List.map_cons, List.map_nil]); first | done | rfl | (simp only [List.length_drop, List.length_take]; rfl)) ?_; (with_reducible refine (real_Canon.calls a0 t101 _ A2.out).mono ?_); rintro e w' ⟨rfl, ⟨nd, rfl⟩⟩; refine ⟨_, rfl, ?_⟩))
    go_ret
    exact ⟨by first | rfl | (simp; done) | (simp [*]; done), by repeat (first | exact Drawn0.refl _ | apply Drawn0.step)⟩
  · rw [if_neg c3] at H
    have c3b0 : ((Go.bits .and .u64 (ofF t101) 9223372036854775808) == 0) = false := beq_eq_false_iff_ne.mpr c3
    have c3b1 : ((Go.bits .and .u64 (ofF t101) 9223372036854775808) != 0) = true := bne_iff_ne.mpr c3
    obtain rfl := Option.some.inj H
    go_enter Try.func22, Try.ntmps22
    go_wp2_with (first | ((with_reducible refine gate_callee (f := 27) rfl ?_); refine goesL_ (some 5) rfl rfl Try.func27 (by kernel_rfl) rfl #[.float .f64 a0] rfl (by (try simp only [List.map_toArray, List.map_cons, List.map_nil]); first | done | rfl | (simp only [List.length_drop, List.length_take]; rfl)) ?_; (with_reducible refine (real_Canon.calls a0 t101 _ A2.out).mono ?_); rintro e w' ⟨rfl, ⟨nd, rfl⟩⟩; refine ⟨_, rfl, ?_⟩))
    go_ret
    exact ⟨by first | rfl | (simp; done) | (simp [*]; done), by repeat (first | exact Drawn0.refl _ | apply Drawn0.step)⟩

/-! ### real_Cmp: function 17 -/
def real_Cmp.f (a0 : Nat) (a1 : Nat) : Option (Int) := (real_Key.f a0).bind fun t102 => ((real_Key.f a1).bind fun t103 => (if t102 < t103 then (some (-1)) else (if t102 > t103 then (some 1) else (some 0))))
set_option maxHeartbeats 8000000 in
set_option maxRecDepth 100000 in
theorem real_Cmp.calls (a0 : Nat) (a1 : Nat) (r : Int) (w : World) (h : real_Cmp.f a0 a1 = some r) :
    Calls Try.prog 17 #[.float .f64 a0, .float .f64 a1] w fun e w' => e = .returned (.int .i64 r) ∧ Drawn0 w w' := by
  have H : ((real_Key.f a0).bind fun t102 => ((real_Key.f a1).bind fun t103 => (if t102 < t103 then (some (-1)) else (if t102 > t103 then (some 1) else (some 0))))) = some r := h
  clear h
  replace H := Option.bind_eq_some_iff.mp H
  obtain ⟨t102, A30, H⟩ := H
  replace H : ((real_Key.f a1).bind fun t103 => (if t102 < t103 then (some (-1)) else (if t102 > t103 then (some 1) else (some 0)))) = some r := H
  have A3 := Aside0.mk A30
  clear A30
  replace H := Option.bind_eq_some_iff.mp H
  obtain ⟨t103, A40, H⟩ := H
  replace H : (if t102 < t103 then (some (-1)) else (if t102 > t103 then (some 1) else (some 0))) = some r := H
  have A4 := Aside0.mk A40
  clear A40
  by_cases c5 : t102 < t103
  · rw [if_pos c5] at H
    have c5b0 : decide (t102 < t103) = true := decide_eq_true c5
    clear c5
    obtain rfl := Option.some.inj H
    go_enter Try.func17, Try.ntmps17
    go_wp2_with (first | ((with_reducible refine gate_callee (f := 22) rfl ?_); refine goesL_ (some 8) rfl rfl Try.func22 (by kernel_rfl) rfl #[.float .f64 a0] rfl (by (try simp only [List.map_toArray, List.map_cons, List.map_nil]); first | done | rfl | (simp only [List.length_drop, List.length_take]; rfl)) ?_; (with_reducible refine (real_Key.calls a0 t102 _ A3.out).mono ?_); rintro e w' ⟨rfl, ⟨nd, rfl⟩⟩; refine ⟨_, rfl, ?_⟩) | ((with_reducible refine gate_callee (f := 22) rfl ?_); refine goesL_ (some 10) rfl rfl Try.func22 (by kernel_rfl) rfl #[.float .f64 a1] rfl (by (try simp only [List.map_toArray, List.map_cons, List.map_nil]); first | done | rfl | (simp only [List.length_drop, List.length_take]; rfl)) ?_; (with_reducible refine (real_Key.calls a1 t103 _ A4.out).mono ?_); rintro e w' ⟨rfl, ⟨nd, rfl⟩⟩; refine ⟨_, rfl, ?_⟩))
    go_ret
    exact ⟨by first | rfl | (simp; done) | (simp [*]; done), by repeat (first | exact Drawn0.refl _ | apply Drawn0.step)⟩
  · rw [if_neg c5] at H
    have c5b0 : decide (t102 < t103) = false := decide_eq_false c5
    clear c5
    by_cases c6 : t102 > t103
    · rw [if_pos c6] at H
      have c6b0 : decide (t103 < t102) = true := decide_eq_true c6
      clear c6
      obtain rfl := Option.some.inj H
      go_enter Try.func17, Try.ntmps17
      go_wp2_with (first | ((with_reducible refine gate_callee (f := 22) rfl ?_); refine goesL_ (some 8) rfl rfl Try.func22 (by kernel_rfl) rfl #[.float .f64 a0] rfl (by (try simp only [List.map_toArray, List.map_cons, List.map_nil]); first | done | rfl | (simp only [List.length_drop, List.length_take]; rfl)) ?_; (with_reducible refine (real_Key.calls a0 t102 _ A3.out).mono ?_); rintro e w' ⟨rfl, ⟨nd, rfl⟩⟩; refine ⟨_, rfl, ?_⟩) | ((with_reducible refine gate_callee (f := 22) rfl ?_); refine goesL_ (some 10) rfl rfl Try.func22 (by kernel_rfl) rfl #[.float .f64 a1] rfl (by (try simp only [List.map_toArray, List.map_cons, List.map_nil]); first | done | rfl | (simp only [List.length_drop, List.length_take]; rfl)) ?_; (with_reducible refine (real_Key.calls a1 t103 _ A4.out).mono ?_); rintro e w' ⟨rfl, ⟨nd, rfl⟩⟩; refine ⟨_, rfl, ?_⟩))
      go_ret
      exact ⟨by first | rfl | (simp; done) | (simp [*]; done), by repeat (first | exact Drawn0.refl _ | apply Drawn0.step)⟩
    · rw [if_neg c6] at H
      have c6b0 : decide (t103 < t102) = false := decide_eq_false c6
      clear c6
      obtain rfl := Option.some.inj H
      go_enter Try.func17, Try.ntmps17
      go_wp2_with (first | ((with_reducible refine gate_callee (f := 22) rfl ?_); refine goesL_ (some 8) rfl rfl Try.func22 (by kernel_rfl) rfl #[.float .f64 a0] rfl (by (try simp only [List.map_toArray, List.map_cons, List.map_nil]); first | done | rfl | (simp only [List.length_drop, List.length_take]; rfl)) ?_; (with_reducible refine (real_Key.calls a0 t102 _ A3.out).mono ?_); rintro e w' ⟨rfl, ⟨nd, rfl⟩⟩; refine ⟨_, rfl, ?_⟩) | ((with_reducible refine gate_callee (f := 22) rfl ?_); refine goesL_ (some 10) rfl rfl Try.func22 (by kernel_rfl) rfl #[.float .f64 a1] rfl (by (try simp only [List.map_toArray, List.map_cons, List.map_nil]); first | done | rfl | (simp only [List.length_drop, List.length_take]; rfl)) ?_; (with_reducible refine (real_Key.calls a1 t103 _ A4.out).mono ?_); rintro e w' ⟨rfl, ⟨nd, rfl⟩⟩; refine ⟨_, rfl, ?_⟩))
      go_ret
      exact ⟨by first | rfl | (simp; done) | (simp [*]; done), by repeat (first | exact Drawn0.refl _ | apply Drawn0.step)⟩

/-! ### math_Inf: function 20 -/
def math_Inf.f (a0 : Int) : Option (Nat) := if a0 ≥ 0 then (some (toF 9218868437227405312)) else (some (toF 18442240474082181120))
set_option maxHeartbeats 8000000 in
set_option maxRecDepth 100000 in
theorem math_Inf.calls (a0 : Int) (r : Nat) (w : World) (h : math_Inf.f a0 = some r) :
    Calls Try.prog 20 #[.int .i64 a0] w fun e w' => e = .returned (.float .f64 r) ∧ Drawn0 w w' := by
  have H : (if a0 ≥ 0 then (some (toF 9218868437227405312)) else (some (toF 18442240474082181120))) = some r := h
  clear h
  by_cases c2 : a0 ≥ 0
  · rw [if_pos c2] at H
    have c2b0 : decide (0 ≤ a0) = true := decide_eq_true c2
    clear c2
    obtain rfl := Option.some.inj H
    go_enter Try.func20, Try.ntmps20
    go_wp2
    go_ret
    exact ⟨by first | rfl | (simp; done) | (simp [*]; done), by repeat (first | exact Drawn0.refl _ | apply Drawn0.step)⟩
  · rw [if_neg c2] at H
    have c2b0 : decide (0 ≤ a0) = false := decide_eq_false c2
    clear c2
    obtain rfl := Option.some.inj H
    go_enter Try.func20, Try.ntmps20
    go_wp2
    go_ret
    exact ⟨by first | rfl | (simp; done) | (simp [*]; done), by repeat (first | exact Drawn0.refl _ | apply Drawn0.step)⟩

/-! ### real_Class: function 23 -/
def real_Class.f (a0 : Nat) : Option (Int) := some (XFlt.clsB a0)
theorem real_Class.calls (a0 : Nat) (r : Int) (w : World) (h : real_Class.f a0 = some r) :
    Calls Try.prog 23 #[.float .f64 a0] w fun e w' => e = .returned (.int .i64 r) ∧ Drawn0 w w' := by
  refine (XReal.class_any a0 w).mono ?_
  rintro e w' ⟨rfl, hq⟩
  have hr : XFlt.clsB a0 = r := Option.some.inj h
  subst hr
  rcases hq with rfl | rfl
  · exact ⟨rfl, ⟨⟨0, rfl⟩⟩⟩
  · exact ⟨rfl, ⟨⟨1, rfl⟩⟩⟩

/-! ### math_Copysign: function 21 -/
def math_Copysign.f (a0 : Nat) (a1 : Nat) : Option (Nat) := some (toF (Go.bits .or .u64 (Go.bits .andNot .u64 (ofF a0) 9223372036854775808) (Go.bits .and .u64 (ofF a1) 9223372036854775808)))
set_option maxHeartbeats 8000000 in
set_option maxRecDepth 100000 in
theorem math_Copysign.calls (a0 : Nat) (a1 : Nat) (r : Nat) (w : World) (h : math_Copysign.f a0 a1 = some r) :
    Calls Try.prog 21 #[.float .f64 a0, .float .f64 a1] w fun e w' => e = .returned (.float .f64 r) ∧ Drawn0 w w' := by
  have H : (some (toF (Go.bits .or .u64 (Go.bits .andNot .u64 (ofF a0) 9223372036854775808) (Go.bits .and .u64 (ofF a1) 9223372036854775808)))) = some r := h
  clear h
  obtain rfl := Option.some.inj H
  go_enter Try.func21, Try.ntmps21
  go_wp2
  go_ret
  exact ⟨by first | rfl | (simp; done) | (simp [*]; done), by repeat (first | exact Drawn0.refl _ | apply Drawn0.step)⟩

/-! ### math_NaN: function 60 -/
def math_NaN.f  : Option (Nat) := some (toF 9221120237041090561)
set_option maxHeartbeats 8000000 in
set_option maxRecDepth 100000 in
theorem math_NaN.calls  (r : Nat) (w : World) (h : math_NaN.f  = some r) :
    Calls Try.prog 60 #[] w fun e w' => e = .returned (.float .f64 r) ∧ Drawn0 w w' := by
  have H : (some (toF 9221120237041090561)) = some r := h
  clear h
  obtain rfl := Option.some.inj H
  go_enter Try.func60, Try.ntmps60
  go_wp2
  go_ret
  exact ⟨by first | rfl | (simp; done) | (simp [*]; done), by repeat (first | exact Drawn0.refl _ | apply Drawn0.step)⟩

-- NOT PRINTED: function 63 (real_words)

/-! ### real_Text: function 36 -/
def real_Text.f (a0 : Nat) : Option (ByteArray) := if a0 < 18446744073709551616 then some (XWords.textB a0) else none
theorem real_Text.calls (a0 : Nat) (r : ByteArray) (w : World) (h : real_Text.f a0 = some r) :
    Calls Try.prog 36 #[.float .f64 a0] w fun e w' => e = .returned (.string r) ∧ Below w.heap.size w w' := by
  unfold real_Text.f at h
  by_cases hb : a0 < 18446744073709551616
  · rw [if_pos hb] at h
    have hr : XWords.textB a0 = r := Option.some.inj h
    subst hr
    exact XWords.text_any a0 w hb
  · rw [if_neg hb] at h
    cases h

end Go.Proofs.Ytlglcnljjpedcaa.PReal
