-- Written by a program of this session (wip/fprint) out of the translation: each Go function as a Lean function, and its walk.
import Derived.Test.YtlglcnljjpedcaaPRepx0
namespace Go.Proofs.Ytlglcnljjpedcaa.PRep
open Go.RowKit Go.Proofs.YtlglcnljjpedcaaW.PrintWords Go.Proofs.YtlglcnljjpedcaaW.PrintLast Go.Proofs.YtlglcnljjpedcaaW.PrintMore
attribute [local go_sem] max2_int min2_int max_two min_two max_three min_three max_four min_four   -- for this text's walks alone
set_option linter.unusedVariables false
set_option linter.unusedSimpArgs false

/-! ### carryoverref27_Hex: function 57 -/
def carryoverref27_Hex.l0 : Nat → Int → ByteArray → Int → Option (ByteArray)
  | 0, _, _, _ => none
  | k + 1, x0, x3, x4 => if x4 < 8 then (if 0 ≤ (Int.tmod x0 16) then (if (Int.tmod x0 16) ≤ (((Int.tmod x0 16) + 1) % 4294967296) then (if (((Int.tmod x0 16) + 1) % 4294967296) ≤ 16 then (if ((⟨#[48, 49, 50, 51, 52, 53, 54, 55, 56, 57, 97, 98, 99, 100, 101, 102]⟩ : ByteArray).extract ((Int.tmod x0 16) : Int).toNat ((((Int.tmod x0 16) + 1) % 4294967296) : Int).toNat).size + x3.size ≤ 9223372036854775807 then (carryoverref27_Hex.l0 k ((Int.tdiv x0 16) % 4294967296) (((⟨#[48, 49, 50, 51, 52, 53, 54, 55, 56, 57, 97, 98, 99, 100, 101, 102]⟩ : ByteArray).extract ((Int.tmod x0 16) : Int).toNat ((((Int.tmod x0 16) + 1) % 4294967296) : Int).toNat) ++ x3) (wrap64 (x4 + 1))) else (none)) else (none)) else (none)) else (none)) else (some x3)
def carryoverref27_Hex.f (k : Nat) (a0 : Int) : Option (ByteArray) := carryoverref27_Hex.l0 k a0 (⟨#[]⟩ : ByteArray) 0
theorem carryoverref27_Hex.mono_l : ∀ k, (∀ y0 y1 y2, LeO (carryoverref27_Hex.l0 k y0 y1 y2) (carryoverref27_Hex.l0 (k + 1) y0 y1 y2))
  | 0 => fun _ _ _ r h => by simp [carryoverref27_Hex.l0] at h
  | k + 1 => by
    have ih0 := carryoverref27_Hex.mono_l k
    · intro y0 y1 y2
      unfold carryoverref27_Hex.l0
      repeat' first
      | (with_reducible exact ih0 _ _ _)
      | (with_reducible exact LeO.refl _)
      | (with_reducible exact LeO.none _)
      | (with_reducible refine LeO.ite ?_ ?_)
      | (with_reducible refine LeO.bind ?_ (fun _ => ?_))
      | exact ih0 _ _ _
      | exact LeO.none _
      | refine LeO.ite ?_ ?_
      | refine LeO.bind ?_ (fun _ => ?_)
theorem carryoverref27_Hex.mono : ∀ a0 k, LeO (carryoverref27_Hex.f k a0) (carryoverref27_Hex.f (k + 1) a0) := by
  intro a0 k
  have ih0 := carryoverref27_Hex.mono_l k
  unfold carryoverref27_Hex.f
  repeat' first
      | (with_reducible exact ih0 _ _ _)
      | (with_reducible exact LeO.refl _)
      | (with_reducible exact LeO.none _)
      | (with_reducible refine LeO.ite ?_ ?_)
      | (with_reducible refine LeO.bind ?_ (fun _ => ?_))
      | exact ih0 _ _ _
      | exact LeO.none _
      | refine LeO.ite ?_ ?_
      | refine LeO.bind ?_ (fun _ => ?_)
set_option maxHeartbeats 8000000 in
set_option maxRecDepth 100000 in
theorem carryoverref27_Hex.calls (k : Nat) (a0 : Int) (r : ByteArray) (w : World) (h : carryoverref27_Hex.f k a0 = some r) :
    Calls Try.prog 57 #[.int .u32 a0] w fun e w' => e = .returned (.string r) ∧ Drawn0 w w' := by
  have H : (carryoverref27_Hex.l0 k a0 (⟨#[]⟩ : ByteArray) 0) = some r := h
  clear h
  have H' := Aside0.mk H
  clear H
  go_enter Try.func57, Try.ntmps57
  go_wp2
  go_loopg [0, 3, 4] k (fun kq v0 v3 v4 w' => ∃ (x0_1 : Int) (x3_1 : ByteArray) (x4_1 : Int), v0 = .int .u32 x0_1 ∧ v3 = .string x3_1 ∧ v4 = .int .i64 x4_1 ∧ Aside0 (carryoverref27_Hex.l0 kq x0_1 x3_1 x4_1 = some r) ∧ Aside0 (kq ≤ k) ∧ Drawn0 w w')
  case atStart => exact ⟨(a0), ((⟨#[]⟩ : ByteArray)), (0), (by first | rfl | (simp; done) | (simp [*]; done)), (by first | rfl | (simp; done) | (simp [*]; done)), (by first | rfl | (simp; done) | (simp [*]; done)), H', ⟨Nat.le_refl _⟩, by repeat (first | exact Drawn0.refl _ | apply Drawn0.step)⟩
  case round =>
    clear H'
    obtain ⟨x0_1, x3_1, x4_1, rfl, rfl, rfl, HA, HK1, ⟨m1, rfl⟩⟩ := hrel
    cases gk with
    | zero => exact absurd HA.out (by simp [carryoverref27_Hex.l0])
    | succ k1 =>
      have H := HA.out
      clear HA
      simp only [carryoverref27_Hex.l0] at H
      by_cases c2 : x4_1 < 8
      · rw [if_pos c2] at H
        have c2b0 : decide (x4_1 < 8) = true := decide_eq_true c2
        clear c2
        obtain ⟨ji3, hji3⟩ : ∃ j_ : Int, (Int.tmod x0_1 16) = j_ := ⟨_, rfl⟩
        replace H : (if 0 ≤ (ji3) then (if (ji3) ≤ (((ji3) + 1) % 4294967296) then (if (((ji3) + 1) % 4294967296) ≤ 16 then (if ((⟨#[48, 49, 50, 51, 52, 53, 54, 55, 56, 57, 97, 98, 99, 100, 101, 102]⟩ : ByteArray).extract ((ji3) : Int).toNat ((((ji3) + 1) % 4294967296) : Int).toNat).size + x3_1.size ≤ 9223372036854775807 then (carryoverref27_Hex.l0 k1 ((Int.tdiv x0_1 16) % 4294967296) (((⟨#[48, 49, 50, 51, 52, 53, 54, 55, 56, 57, 97, 98, 99, 100, 101, 102]⟩ : ByteArray).extract ((ji3) : Int).toNat ((((ji3) + 1) % 4294967296) : Int).toNat) ++ x3_1) (wrap64 (x4_1 + 1))) else (none)) else (none)) else (none)) else (none)) = some r := by first | (rw [hji3] at H; exact H) | (simp only [hji3] at H ⊢; exact H)
        by_cases c4 : 0 ≤ (ji3)
        · rw [if_pos c4] at H
          have c4b0 := eq_true c4
          have c4b1 : decide (0 ≤ (ji3)) = true := decide_eq_true c4
          clear c4
          by_cases c5 : (ji3) ≤ (((ji3) + 1) % 4294967296)
          · rw [if_pos c5] at H
            have c5b0 := eq_true c5
            have c5b1 : decide ((ji3) ≤ (((ji3) + 1) % 4294967296)) = true := decide_eq_true c5
            by_cases c6 : (((ji3) + 1) % 4294967296) ≤ 16
            · rw [if_pos c6] at H
              have c6b0 := eq_true c6
              have c6b1 : decide ((((ji3) + 1) % 4294967296) ≤ 16) = true := decide_eq_true c6
              by_cases c7 : ((⟨#[48, 49, 50, 51, 52, 53, 54, 55, 56, 57, 97, 98, 99, 100, 101, 102]⟩ : ByteArray).extract ((ji3) : Int).toNat ((((ji3) + 1) % 4294967296) : Int).toNat).size + x3_1.size ≤ 9223372036854775807
              · rw [if_pos c7] at H
                have c7b0 := eq_true c7
                have c7b1 : decide (((⟨#[48, 49, 50, 51, 52, 53, 54, 55, 56, 57, 97, 98, 99, 100, 101, 102]⟩ : ByteArray).extract ((ji3) : Int).toNat ((((ji3) + 1) % 4294967296) : Int).toNat).size + x3_1.size ≤ 9223372036854775807) = true := decide_eq_true c7
                try have c7b2 : (9223372036854775807 < ((⟨#[48, 49, 50, 51, 52, 53, 54, 55, 56, 57, 97, 98, 99, 100, 101, 102]⟩ : ByteArray).extract ((ji3) : Int).toNat ((((ji3) + 1) % 4294967296) : Int).toNat).size + x3_1.size) = False := eq_false (Nat.not_lt.2 c7)
                have H' := Aside0.mk H
                clear H
                go_wp2
                go_roundg k1
                case measure => have := HK1.out; omega
                case rel => exact ⟨((Int.tdiv x0_1 16) % 4294967296), (((⟨#[48, 49, 50, 51, 52, 53, 54, 55, 56, 57, 97, 98, 99, 100, 101, 102]⟩ : ByteArray).extract ((ji3) : Int).toNat ((((ji3) + 1) % 4294967296) : Int).toNat) ++ x3_1), (wrap64 (x4_1 + 1)), (by first | rfl | (simp; done) | (simp [*]; done)), (by first | rfl | (simp; done) | (simp only [← hji3] <;> (first | rfl | simp)) | (simp [*]; done)), (by first | rfl | (simp; done) | (simp [*]; done)), H', ⟨by have := HK1.out; omega⟩, by repeat (first | exact Drawn0.refl _ | apply Drawn0.step)⟩
              · rw [if_neg c7] at H
                exact absurd H (by simp)
            · rw [if_neg c6] at H
              exact absurd H (by simp)
          · rw [if_neg c5] at H
            exact absurd H (by simp)
        · rw [if_neg c4] at H
          exact absurd H (by simp)
      · rw [if_neg c2] at H
        have c2b0 : decide (x4_1 < 8) = false := decide_eq_false c2
        clear c2
        obtain rfl := Option.some.inj H
        go_wp2
        go_ret
        exact ⟨by first | rfl | (simp; done) | (simp [*]; done), by repeat (first | exact Drawn0.refl _ | apply Drawn0.step)⟩

/-! ### real_Canon: function 27 -/
def real_Canon.f (a0 : Nat) : Option (Nat) := if (FloatKind.f64.format.order a0 a0 != some Ordering.eq) = true then (some (toF 9221120237041090560)) else (some a0)
set_option maxHeartbeats 8000000 in
set_option maxRecDepth 100000 in
theorem real_Canon.calls (a0 : Nat) (r : Nat) (w : World) (h : real_Canon.f a0 = some r) :
    Calls Try.prog 27 #[.float .f64 a0] w fun e w' => e = .returned (.float .f64 r) ∧ Drawn0 w w' := by
  have H : (if (FloatKind.f64.format.order a0 a0 != some Ordering.eq) = true then (some (toF 9221120237041090560)) else (some a0)) = some r := h
  clear h
  by_cases c2 : (FloatKind.f64.format.order a0 a0 != some Ordering.eq) = true
  · rw [if_pos c2] at H
    have c2b0 : (FloatKind.f64.format.order a0 a0 != some Ordering.eq) = true := c2
    (try (have c2b1 : decide (FloatKind.f64.format.order a0 a0 = some Ordering.eq) = false := by simpa using c2))
    (try (have c2b2 : (FloatKind.f64.format.order a0 a0 == some Ordering.eq) = false := by simpa using c2))
    (try (have c2b3 : ¬ (FloatKind.f64.format.order a0 a0 = some Ordering.eq) := by simpa using c2))
    clear c2
    obtain rfl := Option.some.inj H
    go_enter Try.func27, Try.ntmps27
    go_wp2
    go_ret
    exact ⟨by first | rfl | (simp; done) | (simp [*]; done), by repeat (first | exact Drawn0.refl _ | apply Drawn0.step)⟩
  · rw [if_neg c2] at H
    have c2b0 : (FloatKind.f64.format.order a0 a0 != some Ordering.eq) = false := by simpa using c2
    (try (have c2b1 : decide (FloatKind.f64.format.order a0 a0 = some Ordering.eq) = true := by simpa using c2))
    (try (have c2b2 : (FloatKind.f64.format.order a0 a0 == some Ordering.eq) = true := by simpa using c2))
    clear c2
    obtain rfl := Option.some.inj H
    go_enter Try.func27, Try.ntmps27
    go_wp2
    go_ret
    exact ⟨by first | rfl | (simp; done) | (simp [*]; done), by repeat (first | exact Drawn0.refl _ | apply Drawn0.step)⟩

/-! ### real_Key: function 22 -/
def real_Key.f (a0 : Nat) : Option (Int) := (real_Canon.f a0).bind fun t148 => (if (Go.bits .and .u64 (ofF t148) 9223372036854775808) = 0 then (some (Go.bits .or .u64 (ofF t148) 9223372036854775808)) else (some (Go.bits .xor .u64 IntKind.u64.max (ofF t148))))
set_option maxHeartbeats 8000000 in
set_option maxRecDepth 100000 in
theorem real_Key.calls (a0 : Nat) (r : Int) (w : World) (h : real_Key.f a0 = some r) :
    Calls Try.prog 22 #[.float .f64 a0] w fun e w' => e = .returned (.int .u64 r) ∧ Drawn0 w w' := by
  have H : ((real_Canon.f a0).bind fun t148 => (if (Go.bits .and .u64 (ofF t148) 9223372036854775808) = 0 then (some (Go.bits .or .u64 (ofF t148) 9223372036854775808)) else (some (Go.bits .xor .u64 IntKind.u64.max (ofF t148))))) = some r := h
  clear h
  replace H := Option.bind_eq_some_iff.mp H
  obtain ⟨t148, A20, H⟩ := H
  replace H : (if (Go.bits .and .u64 (ofF t148) 9223372036854775808) = 0 then (some (Go.bits .or .u64 (ofF t148) 9223372036854775808)) else (some (Go.bits .xor .u64 IntKind.u64.max (ofF t148)))) = some r := H
  have A2 := Aside0.mk A20
  clear A20
  by_cases c3 : (Go.bits .and .u64 (ofF t148) 9223372036854775808) = 0
  · rw [if_pos c3] at H
    have c3b0 : ((Go.bits .and .u64 (ofF t148) 9223372036854775808) == 0) = true := beq_iff_eq.mpr c3
    have c3b1 : ((Go.bits .and .u64 (ofF t148) 9223372036854775808) != 0) = false := bne_eq_false_iff_eq.mpr c3
    clear c3
    obtain rfl := Option.some.inj H
    go_enter Try.func22, Try.ntmps22
    go_wp2_with (first | ((with_reducible refine gate_callee (f := 27) rfl ?_); refine goesL_ (some 5) rfl rfl Try.func27 (by kernel_rfl) rfl #[.float .f64 a0] rfl (by (try simp only [List.map_toArray, List.map_cons, List.map_nil]); first | done | rfl | (simp only [List.length_drop, List.length_take]; rfl)) ?_; (with_reducible refine (real_Canon.calls a0 t148 _ A2.out).mono ?_); rintro e w' ⟨rfl, ⟨nd, rfl⟩⟩; refine ⟨_, rfl, ?_⟩))
    go_ret
    exact ⟨by first | rfl | (simp; done) | (simp [*]; done), by repeat (first | exact Drawn0.refl _ | apply Drawn0.step)⟩
  · rw [if_neg c3] at H
    have c3b0 : ((Go.bits .and .u64 (ofF t148) 9223372036854775808) == 0) = false := beq_eq_false_iff_ne.mpr c3
    have c3b1 : ((Go.bits .and .u64 (ofF t148) 9223372036854775808) != 0) = true := bne_iff_ne.mpr c3
    obtain rfl := Option.some.inj H
    go_enter Try.func22, Try.ntmps22
    go_wp2_with (first | ((with_reducible refine gate_callee (f := 27) rfl ?_); refine goesL_ (some 5) rfl rfl Try.func27 (by kernel_rfl) rfl #[.float .f64 a0] rfl (by (try simp only [List.map_toArray, List.map_cons, List.map_nil]); first | done | rfl | (simp only [List.length_drop, List.length_take]; rfl)) ?_; (with_reducible refine (real_Canon.calls a0 t148 _ A2.out).mono ?_); rintro e w' ⟨rfl, ⟨nd, rfl⟩⟩; refine ⟨_, rfl, ?_⟩))
    go_ret
    exact ⟨by first | rfl | (simp; done) | (simp [*]; done), by repeat (first | exact Drawn0.refl _ | apply Drawn0.step)⟩

/-! ### math_Inf: function 20 -/
def math_Inf.f (a0 : Int) : Option (Nat) := if a0 ≥ 0 then (some (toF 9218868437227405312)) else (some (toF 18442240474082181120))
set_option maxHeartbeats 8000000 in
set_option maxRecDepth 100000 in
theorem math_Inf.calls (a0 : Int) (r : Nat) (w : World) (h : math_Inf.f a0 = some r) :
    Calls Try.prog 20 #[.int .i64 a0] w fun e w' => e = .returned (.float .f64 r) ∧ Drawn0 w w' := by
  have H : (if a0 ≥ 0 then (some (toF 9218868437227405312)) else (some (toF 18442240474082181120))) = some r := h
  clear h
  by_cases c2 : a0 ≥ 0
  · rw [if_pos c2] at H
    have c2b0 : decide (0 ≤ a0) = true := decide_eq_true c2
    clear c2
    obtain rfl := Option.some.inj H
    go_enter Try.func20, Try.ntmps20
    go_wp2
    go_ret
    exact ⟨by first | rfl | (simp; done) | (simp [*]; done), by repeat (first | exact Drawn0.refl _ | apply Drawn0.step)⟩
  · rw [if_neg c2] at H
    have c2b0 : decide (0 ≤ a0) = false := decide_eq_false c2
    clear c2
    obtain rfl := Option.some.inj H
    go_enter Try.func20, Try.ntmps20
    go_wp2
    go_ret
    exact ⟨by first | rfl | (simp; done) | (simp [*]; done), by repeat (first | exact Drawn0.refl _ | apply Drawn0.step)⟩

/-! ### math_Copysign: function 21 -/
def math_Copysign.f (a0 : Nat) (a1 : Nat) : Option (Nat) := some (toF (Go.bits .or .u64 (Go.bits .andNot .u64 (ofF a0) 9223372036854775808) (Go.bits .and .u64 (ofF a1) 9223372036854775808)))
set_option maxHeartbeats 8000000 in
set_option maxRecDepth 100000 in
theorem math_Copysign.calls (a0 : Nat) (a1 : Nat) (r : Nat) (w : World) (h : math_Copysign.f a0 a1 = some r) :
    Calls Try.prog 21 #[.float .f64 a0, .float .f64 a1] w fun e w' => e = .returned (.float .f64 r) ∧ Drawn0 w w' := by
  have H : (some (toF (Go.bits .or .u64 (Go.bits .andNot .u64 (ofF a0) 9223372036854775808) (Go.bits .and .u64 (ofF a1) 9223372036854775808)))) = some r := h
  clear h
  obtain rfl := Option.some.inj H
  go_enter Try.func21, Try.ntmps21
  go_wp2
  go_ret
  exact ⟨by first | rfl | (simp; done) | (simp [*]; done), by repeat (first | exact Drawn0.refl _ | apply Drawn0.step)⟩

/-! ### math_NaN: function 60 -/
def math_NaN.f  : Option (Nat) := some (toF 9221120237041090561)
set_option maxHeartbeats 8000000 in
set_option maxRecDepth 100000 in
theorem math_NaN.calls  (r : Nat) (w : World) (h : math_NaN.f  = some r) :
    Calls Try.prog 60 #[] w fun e w' => e = .returned (.float .f64 r) ∧ Drawn0 w w' := by
  have H : (some (toF 9221120237041090561)) = some r := h
  clear h
  obtain rfl := Option.some.inj H
  go_enter Try.func60, Try.ntmps60
  go_wp2
  go_ret
  exact ⟨by first | rfl | (simp; done) | (simp [*]; done), by repeat (first | exact Drawn0.refl _ | apply Drawn0.step)⟩

-- NOT PRINTED: function 63 (real_words)

/-! ### real_Text: function 36 -/
def real_Text.f (a0 : Nat) : Option (ByteArray) := if a0 < 18446744073709551616 then some (XWords.textB a0) else none
theorem real_Text.calls (a0 : Nat) (r : ByteArray) (w : World) (h : real_Text.f a0 = some r) :
    Calls Try.prog 36 #[.float .f64 a0] w fun e w' => e = .returned (.string r) ∧ Below w.heap.size w w' := by
  unfold real_Text.f at h
  by_cases hb : a0 < 18446744073709551616
  · rw [if_pos hb] at h
    have hr : XWords.textB a0 = r := Option.some.inj h
    subst hr
    exact XWords.text_any a0 w hb
  · rw [if_neg hb] at h
    cases h

end Go.Proofs.Ytlglcnljjpedcaa.PRep
