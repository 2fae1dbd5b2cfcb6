/-
  The contracts of package real's arithmetic: Canon, Key, Cmp, Class, Back, and of math.Inf, NaN, Copysign at the constants that are used. A float is its word.
-/
import Derived.Test.YtlglcnljjpedcaaProg
import Derived.Test.YtlglcnljjpedcaaFlt
import Derived.WalkKit
import Derived.LoopTactic
import Derived.Outline
import Derived.BigQuiet
import Derived.Deep.QuietTactic
import Derived.WalkLawsBesides
import Derived.WalkSpells
import Derived.Laws.Externs
import Derived.Lib.Hide
set_option linter.unusedVariables false
set_option linter.unusedSimpArgs false
namespace Go.Proofs.Ytlglcnljjpedcaa
open Go.RowKit
namespace XReal
open XFlt

theorem ret_u {k : IntKind} {a b : Int} (h : a = b) : Ending.returned (.int k a) = .returned (.int k b) := by rw [h]
theorem ret_f {a b : Nat} (h : a = b) : Ending.returned (.float .f64 a) = .returned (.float .f64 b) := by rw [h]

theorem frombits_run (n : Int) (w : World) : (callFunc 61 #[.int .u64 n]).run Try.prog w = .ok (.value (.float .f64 n.toNat)) w := by
  rw [run_callFunc_extern (fn := Try.f61) (e := Extern.MathFloatBits.float64frombits) Try.func61 (by kernel_rfl) (by kernel_rfl) (by kernel_rfl) (by kernel_rfl)]
  rfl
theorem bits_run (b : Nat) (w : World) : (callFunc 26 #[.float .f64 b]).run Try.prog w = .ok (.value (.int .u64 (b : Int))) w := by
  rw [run_callFunc_extern (fn := Try.f26) (e := Extern.MathFloatBits.float64bits) Try.func26 (by kernel_rfl) (by kernel_rfl) (by kernel_rfl) (by kernel_rfl)]
  rfl

theorem canon_any (b : Nat) (w : World) :
    Calls Try.prog 27 #[.float .f64 b] w fun e w' => e = .returned (.float .f64 (canonB b)) ∧ w = w' := by
  have hfb := frombits_run
  go_enter Try.func27, Try.ntmps27
  go_wp2
  · rename_i h
    rw [neq_self] at h
    go_ret
    exact ⟨ret_f (canon_nan h).symm, rfl⟩
  · rename_i h
    rw [neq_self] at h
    go_ret
    exact ⟨ret_f (canon_num h).symm, rfl⟩

theorem key_bits {b : Nat} (hb : b < 18446744073709551616) : keyB b = if 9223372036854775808 ≤ canonB b then 18446744073709551615 - canonB b else canonB b + 9223372036854775808 := rfl

theorem key_any (b : Nat) (w : World) (hb : b < 18446744073709551616) :
    Calls Try.prog 22 #[.float .f64 b] w fun e w' => e = .returned (.int .u64 (keyB b : Nat)) ∧ w = w' := by
  have hfb := bits_run
  have hc := canon_lt hb
  have HB := Lib.hid hb
  have HC := Lib.hid hc
  clear hb hc
  go_enter Try.func22, Try.ntmps22
  go_wp2_with (go_at_call 27; refine (canon_any _ _).mono ?_; rintro e w' ⟨rfl, rfl⟩)
  · have h : (bits BinOp.and IntKind.u64 (canonB b : Int) 9223372036854775808 != 0) = true := by assumption
    rw [and_sign _ HC.out] at h
    go_ret
    refine ⟨ret_u ?_, rfl⟩
    rw [xor_all _ HC.out, key_bits HB.out, if_pos (of_decide_eq_true h)]
  · have h : (bits BinOp.and IntKind.u64 (canonB b : Int) 9223372036854775808 != 0) = false := by assumption
    rw [and_sign _ HC.out] at h
    have h' := of_decide_eq_false h
    go_ret
    refine ⟨ret_u ?_, rfl⟩
    rw [or_sign _ (by omega), key_bits HB.out, if_neg h']

theorem cmp_any (a b : Nat) (w : World) (ha : a < 18446744073709551616) (hb : b < 18446744073709551616) :
    Calls Try.prog 17 #[.float .f64 a, .float .f64 b] w fun e w' => e = .returned (.int .i64 (cmpB a b)) ∧ w = w' := by
  have h0 : cmpB a b = if ((keyB a : Nat) : Int) < ((keyB b : Nat) : Int) then -1 else if ((keyB b : Nat) : Int) < ((keyB a : Nat) : Int) then 1 else 0 := by
    unfold cmpB
    simp only [Int.ofNat_lt]
  have H0 := Lib.hid h0
  have HA := Lib.hid ha
  have HB := Lib.hid hb
  clear h0 ha hb
  go_enter Try.func17, Try.ntmps17
  go_wp2_with fail
  refine (key_any _ _ HA.out).mono ?_; rintro e w' ⟨rfl, rfl⟩
  go_wp2_with fail
  refine (key_any _ _ HB.out).mono ?_; rintro e w' ⟨rfl, rfl⟩
  generalize keyB a = x at *
  generalize keyB b = y at *
  go_wp2
  · rename_i h
    go_ret
    exact ⟨ret_u (by rw [H0.out, if_pos (by omega)]), rfl⟩
  · rename_i h1 h2
    go_ret
    exact ⟨ret_u (by rw [H0.out, if_neg (by omega), if_pos (by omega)]), rfl⟩
  · rename_i h1 h2
    go_ret
    exact ⟨ret_u (by rw [H0.out, if_neg (by omega), if_neg (by omega)]), rfl⟩


def Quiet (w w' : World) : Prop := w' = w ∨ w' = w.drew

theorem class_any (b : Nat) (w : World) :
    Calls Try.prog 23 #[.float .f64 b] w fun e w' => e = .returned (.int .i64 (clsB b)) ∧ Quiet w w' := by
  rcases mag_cases b with h | h | h
  · obtain ⟨r, hr, h2⟩ := run_sub_num (P := Try.prog) 24 h w
    have h3 : (FloatKind.f64.format.order b b != some Ordering.eq) = false := by rw [neq_self]; exact nan_of_num h
    by_cases z : mag b = 0
    · have h4 : (FloatKind.f64.format.order b 0 == some Ordering.eq) = true := by rw [order_zero]; exact decide_eq_true z
      have hc : clsB b = 0 := by unfold clsB; rw [if_pos z]
      have HC := Lib.hid hc
      clear h z hc
      go_enter Try.func23, Try.ntmps23
      go_wp2
      go_ret
      exact ⟨ret_u HC.out.symm, .inl rfl⟩
    · have h4 : (FloatKind.f64.format.order b 0 == some Ordering.eq) = false := by rw [order_zero]; exact decide_eq_false z
      have hc : clsB b = 1 := by unfold clsB; rw [if_neg z, if_pos h]
      have HC := Lib.hid hc
      clear h z hc
      go_enter Try.func23, Try.ntmps23
      go_wp2
      go_ret
      exact ⟨ret_u HC.out.symm, .inl rfl⟩
  · obtain ⟨r, hr, h2⟩ := run_sub_inf (P := Try.prog) 24 h w
    have h3 : (FloatKind.f64.format.order b b != some Ordering.eq) = false := by rw [neq_self]; exact nan_of_inf h
    have h4 : (FloatKind.f64.format.order b 0 == some Ordering.eq) = false := by rw [order_zero]; exact decide_eq_false (by omega)
    have hc : clsB b = 2 := by unfold clsB; rw [if_neg (by omega), if_neg (by omega), if_pos h]
    have HC := Lib.hid hc
    clear h hc
    go_enter Try.func23, Try.ntmps23
    go_wp2
    go_ret
    exact ⟨ret_u HC.out.symm, .inr rfl⟩
  · have h3 : (FloatKind.f64.format.order b b != some Ordering.eq) = true := by rw [neq_self]; exact h
    have hc : clsB b = 3 := by
      have : 9218868437227405312 < mag b := of_decide_eq_true h
      unfold clsB; rw [if_neg (by omega), if_neg (by omega), if_neg (by omega)]
    have HC := Lib.hid hc
    clear h hc
    go_enter Try.func23, Try.ntmps23
    go_wp2
    go_ret
    exact ⟨ret_u HC.out.symm, .inl rfl⟩

/-- The word of a key. -/
def backB (k : Nat) : Nat := if 9223372036854775808 ≤ k then k % 9223372036854775808 else 18446744073709551615 - k

theorem back_lt {k : Nat} (hk : k < 18446744073709551616) : backB k < 18446744073709551616 := by unfold backB; split <;> omega

theorem back_yes (k : Nat) (w : World) (hk : k < 18446744073709551616) (h : keyB (backB k) = k) :
    Calls Try.prog 24 #[.int .u64 (k : Int)] w fun e w' => e = .returned (.tuple #[.float .f64 (backB k), .bool true]) ∧ w = w' := by
  have hb := back_lt hk
  have hfb := frombits_run
  have x2 := xor_all k hk
  have x3 := andNot_sign k hk
  by_cases c : 9223372036854775808 ≤ k
  · have x1 : (bits .and .u64 (k : Int) 9223372036854775808 != 0) = true := by rw [and_sign k hk]; exact decide_eq_true c
    have e : k % 9223372036854775808 = backB k := by unfold backB; rw [if_pos c]
    rw [e] at x3
    have HB := Lib.hid hb
    have ht : (((keyB (backB k) : Nat) : Int) != (k : Int)) = false := by rw [h]; exact bne_self_eq_false _
    clear hk hb h c e x2
    generalize backB k = y at *
    go_enter Try.func24, Try.ntmps24
    go_wp2_with (go_at_call 22; refine (key_any _ _ HB.out).mono ?_; rintro e w' ⟨rfl, rfl⟩)
    go_ret2
    exact ⟨rfl, rfl⟩
  · have x1 : (bits .and .u64 (k : Int) 9223372036854775808 != 0) = false := by rw [and_sign k hk]; exact decide_eq_false c
    have e : 18446744073709551615 - k = backB k := by unfold backB; rw [if_neg c]
    rw [e] at x2
    have HB := Lib.hid hb
    have ht : (((keyB (backB k) : Nat) : Int) != (k : Int)) = false := by rw [h]; exact bne_self_eq_false _
    clear hk hb h c e x3
    generalize backB k = y at *
    go_enter Try.func24, Try.ntmps24
    go_wp2_with fail
    rename_i h
    clear h
    refine (key_any y _ HB.out).mono ?_
    rintro e w' ⟨rfl, rfl⟩
    go_wp2
    go_ret2
    exact ⟨rfl, rfl⟩

theorem back_no (k : Nat) (w : World) (hk : k < 18446744073709551616) (h : keyB (backB k) ≠ k) :
    Calls Try.prog 24 #[.int .u64 (k : Int)] w fun e w' => e = .returned (.tuple #[.float .f64 0, .bool false]) ∧ w = w' := by
  have hb := back_lt hk
  have hfb := frombits_run
  have x2 := xor_all k hk
  have x3 := andNot_sign k hk
  by_cases c : 9223372036854775808 ≤ k
  · have x1 : (bits .and .u64 (k : Int) 9223372036854775808 != 0) = true := by rw [and_sign k hk]; exact decide_eq_true c
    have e : k % 9223372036854775808 = backB k := by unfold backB; rw [if_pos c]
    rw [e] at x3
    have HB := Lib.hid hb
    have ht : (((keyB (backB k) : Nat) : Int) != (k : Int)) = true := by rw [bne_iff_ne]; omega
    clear hk hb h c e x2
    generalize backB k = y at *
    go_enter Try.func24, Try.ntmps24
    go_wp2_with (go_at_call 22; refine (key_any _ _ HB.out).mono ?_; rintro e w' ⟨rfl, rfl⟩)
    go_ret2
    exact ⟨rfl, rfl⟩
  · have x1 : (bits .and .u64 (k : Int) 9223372036854775808 != 0) = false := by rw [and_sign k hk]; exact decide_eq_false c
    have e : 18446744073709551615 - k = backB k := by unfold backB; rw [if_neg c]
    rw [e] at x2
    have HB := Lib.hid hb
    have ht : (((keyB (backB k) : Nat) : Int) != (k : Int)) = true := by rw [bne_iff_ne]; omega
    clear hk hb h c e x3
    generalize backB k = y at *
    go_enter Try.func24, Try.ntmps24
    go_wp2_with fail
    rename_i h
    clear h
    refine (key_any y _ HB.out).mono ?_
    rintro e w' ⟨rfl, rfl⟩
    go_wp2
    go_ret2
    exact ⟨rfl, rfl⟩

theorem inf_pos (w : World) : Calls Try.prog 20 #[.int .i64 1] w fun e w' => e = .returned (.float .f64 9218868437227405312) ∧ w = w' := by
  have hfb := frombits_run
  go_enter Try.func20, Try.ntmps20
  go_wp2
  go_ret
  exact ⟨rfl, rfl⟩
theorem inf_neg (w : World) : Calls Try.prog 20 #[.int .i64 (-1)] w fun e w' => e = .returned (.float .f64 18442240474082181120) ∧ w = w' := by
  have hfb := frombits_run
  go_enter Try.func20, Try.ntmps20
  go_wp2
  go_ret
  exact ⟨rfl, rfl⟩
theorem nan_any (w : World) : Calls Try.prog 60 #[] w fun e w' => e = .returned (.float .f64 9221120237041090561) ∧ w = w' := by
  have hfb := frombits_run
  go_enter Try.func60, Try.ntmps60
  go_wp2
  go_ret
  exact ⟨rfl, rfl⟩
theorem neg_zero (w : World) : Calls Try.prog 21 #[.float .f64 0, .float .f64 13830554455654793216] w fun e w' => e = .returned (.float .f64 9223372036854775808) ∧ w = w' := by
  have hfb := frombits_run
  have hbt := bits_run
  have h1 : bits .andNot .u64 0 9223372036854775808 = 0 := by decide +kernel
  have h2 : bits .and .u64 13830554455654793216 9223372036854775808 = 9223372036854775808 := by decide +kernel
  have h3 : bits .or .u64 0 9223372036854775808 = 9223372036854775808 := by decide +kernel
  go_enter Try.func21, Try.ntmps21
  go_wp2
  go_ret
  exact ⟨rfl, rfl⟩

end XReal
end Go.Proofs.Ytlglcnljjpedcaa
