/-
  Plain facts on the words of float64: which are no numbers, how two stand to each other, the key that rises with them. No program here.
-/
import Derived.WalkKit
import Derived.WalkLawsBesides
import Derived.Laws.BitsAllLaws
set_option linter.unusedVariables false
set_option linter.unusedSimpArgs false
namespace Go.Proofs.Ytnolgpagdjcjbaa
open Go.RowKit
namespace XFlt

/-- The rung of a word: its bits but the sign. -/
def mag (b : Nat) : Nat := b % 9223372036854775808
def nan (b : Nat) : Bool := decide (9218868437227405312 < mag b)
def canonB (b : Nat) : Nat := if nan b then 9221120237041090560 else b
def keyB (b : Nat) : Nat := if 9223372036854775808 ≤ canonB b then 18446744073709551615 - canonB b else canonB b + 9223372036854775808
def cmpB (a b : Nat) : Int := if keyB a < keyB b then -1 else if keyB b < keyB a then 1 else 0
def clsB (b : Nat) : Int := if mag b = 0 then 0 else if mag b < 9218868437227405312 then 1 else if mag b = 9218868437227405312 then 2 else 3

theorem canon_lt {b : Nat} (h : b < 18446744073709551616) : canonB b < 18446744073709551616 := by unfold canonB; split <;> omega
theorem canon_nan {b : Nat} (h : nan b = true) : canonB b = 9221120237041090560 := if_pos h
theorem canon_num {b : Nat} (h : nan b = false) : canonB b = b := by unfold canonB; rw [h]; rfl
theorem key_lt {b : Nat} (h : b < 18446744073709551616) : keyB b < 18446744073709551616 := by
  have := canon_lt h
  unfold keyB
  split <;> omega
theorem nan_canon (b : Nat) : nan (canonB b) = nan b := by
  unfold canonB
  split
  · rename_i h; rw [h]; decide
  · rfl
theorem canon_canon (b : Nat) : canonB (canonB b) = canonB b := by
  cases h : nan b
  · rw [canon_num h, canon_num h]
  · rw [canon_nan h]; decide
theorem key_canon (b : Nat) : keyB (canonB b) = keyB b := by unfold keyB; rw [canon_canon]
theorem cmp_canon (a b : Nat) : cmpB (canonB a) (canonB b) = cmpB a b := by unfold cmpB; rw [key_canon, key_canon]
theorem key_inj {a b : Nat} (ha : a < 18446744073709551616) (hb : b < 18446744073709551616) (h : keyB a = keyB b) : canonB a = canonB b := by
  have h1 := canon_lt ha
  have h2 := canon_lt hb
  unfold keyB at h
  split at h <;> split at h <;> omega

@[go_sem] theorem run_store_float {P : Program} (w : World) (a : Addr) (b : Nat) (m : Mode) : (store a (.float .f64 b) m).run P w = stored P w a (.float .f64 b) m := run_store P w a _ m rfl

/-! ### What the machine's float operations say -/
theorem fmt : FloatKind.f64.format = Ieee.double := rfl
theorem sw : Ieee.double.signWeight = 9223372036854775808 := by decide +kernel
theorem bn : Ieee.double.binade = 4503599627370496 := by decide +kernel
theorem ir : Ieee.double.infRung = 9218868437227405312 := by decide +kernel
theorem lp : Ieee.double.leastPlace = -1074 := by decide +kernel

def neg (b : Nat) : Bool := b / 9223372036854775808 % 2 == 1
/-- A finite word's magnitude, in units of the least. -/
def val (r : Nat) : Nat := if r < 4503599627370496 then r else (4503599627370496 + r % 4503599627370496) * 2 ^ (r / 4503599627370496 - 1)

theorem read_nan {b : Nat} (h : nan b = true) : ∃ n f, Ieee.double.read b = .nan n f := by
  have h' : 9218868437227405312 < b % 9223372036854775808 := of_decide_eq_true h
  unfold Ieee.Format.read
  simp only [sw, bn, ir]
  rw [if_neg (by omega), if_neg (by omega), if_neg (by omega)]
  exact ⟨_, _, rfl⟩
theorem read_inf {b : Nat} (h : mag b = 9218868437227405312) : Ieee.double.read b = .infinity (neg b) := by
  have h' : b % 9223372036854775808 = 9218868437227405312 := h
  unfold Ieee.Format.read
  simp only [sw, bn, ir]
  rw [if_neg (by omega), if_neg (by omega), if_pos h']
  rfl
theorem read_num {b : Nat} (h : mag b < 9218868437227405312) : ∃ m e, Ieee.double.read b = .number (neg b) m e ∧ -1074 ≤ e ∧ m * 2 ^ (e + 1074).toNat = val (mag b) := by
  have h' : b % 9223372036854775808 < 9218868437227405312 := h
  unfold Ieee.Format.read
  simp only [sw, bn, ir, lp]
  by_cases c : b % 9223372036854775808 < 4503599627370496
  · rw [if_pos c]
    refine ⟨_, _, rfl, Int.le_refl _, ?_⟩
    unfold val mag
    rw [if_pos c, show ((-1074 : Int) + 1074).toNat = 0 from rfl, Nat.pow_zero, Nat.mul_one]
  · rw [if_neg c, if_pos h']
    refine ⟨_, _, rfl, by omega, ?_⟩
    unfold val mag
    rw [if_neg c, show ((-1074 : Int) + ((b % 9223372036854775808 / 4503599627370496 - 1 : Nat) : Int) + 1074).toNat = b % 9223372036854775808 / 4503599627370496 - 1 from by omega]

theorem val_succ (r : Nat) : val r < val (r + 1) := by
  unfold val
  by_cases h : r + 1 < 4503599627370496
  · rw [if_pos (by omega), if_pos h]; omega
  rw [if_neg h]
  by_cases h2 : r < 4503599627370496
  · have : r = 4503599627370495 := by omega
    subst this; decide
  rw [if_neg h2]
  by_cases h3 : r % 4503599627370496 = 4503599627370495
  · have e1 : (r + 1) % 4503599627370496 = 0 := by omega
    have e2 : (r + 1) / 4503599627370496 - 1 = (r / 4503599627370496 - 1) + 1 := by omega
    rw [e1, e2, h3, Nat.pow_succ]
    have : 0 < 2 ^ (r / 4503599627370496 - 1) := Nat.two_pow_pos _
    generalize 2 ^ (r / 4503599627370496 - 1) = p at *
    omega
  · have e1 : (r + 1) % 4503599627370496 = r % 4503599627370496 + 1 := by omega
    have e2 : (r + 1) / 4503599627370496 - 1 = r / 4503599627370496 - 1 := by omega
    rw [e1, e2]
    have : 0 < 2 ^ (r / 4503599627370496 - 1) := Nat.two_pow_pos _
    exact Nat.mul_lt_mul_of_pos_right (by omega) this
theorem val_lt {r s : Nat} (h : r < s) : val r < val s := by
  obtain ⟨d, rfl⟩ : ∃ d, s = r + 1 + d := ⟨s - r - 1, by omega⟩
  induction d with
  | zero => exact val_succ r
  | succ d ih => exact Nat.lt_trans (ih (by omega)) (val_succ _)
theorem val_zero : val 0 = 0 := rfl

/-- With its sign. -/
def sval (b : Nat) : Int := if neg b then -(val (mag b) : Int) else (val (mag b) : Int)

theorem compare_int (a b : Int) : compare a b = if a < b then .lt else if b < a then .gt else .eq := by
  simp only [compare, compareOfLessAndEq]
  split
  · rfl
  · split
    · rw [if_neg (by omega)]
    · rw [if_pos (by omega)]

theorem signed_scale (s : Bool) (m k : Nat) (p : Nat) : Ieee.signed s m k * (2 ^ p : Nat) = Ieee.signed s m (k + p) := by
  unfold Ieee.signed
  cases s
  · simp only [Bool.false_eq_true, if_false, Nat.shiftLeft_eq, Nat.pow_add]; push_cast; rw [Int.mul_assoc]
  · simp only [if_true, Nat.shiftLeft_eq, Nat.pow_add]; push_cast; rw [Int.neg_mul, Int.mul_assoc]

theorem compare_scale (a b : Int) (p : Nat) (hp : 0 < p) : compare (a * p) (b * p) = compare a b := by
  have hp' : (0 : Int) < p := by omega
  rw [compare_int, compare_int]
  by_cases h : a < b
  · rw [if_pos h, if_pos (Int.mul_lt_mul_of_pos_right h hp')]
  rw [if_neg h, if_neg (fun hc => h (Int.lt_of_mul_lt_mul_right hc (Int.le_of_lt hp')))]
  by_cases h2 : b < a
  · rw [if_pos h2, if_pos (Int.mul_lt_mul_of_pos_right h2 hp')]
  rw [if_neg h2, if_neg (fun hc => h2 (Int.lt_of_mul_lt_mul_right hc (Int.le_of_lt hp')))]

theorem order_num {a b : Nat} (ha : mag a < 9218868437227405312) (hb : mag b < 9218868437227405312) : FloatKind.f64.format.order a b = some (compare (sval a) (sval b)) := by
  obtain ⟨m, i, e1, h1, v1⟩ := read_num ha
  obtain ⟨n, j, e2, h2, v2⟩ := read_num hb
  rw [fmt]
  unfold Ieee.Format.order
  rw [e1, e2]
  simp only [Ieee.Datum.order]
  have hk : ∃ k : Nat, min i j = -1074 + k := ⟨(min i j + 1074).toNat, by omega⟩
  obtain ⟨k, hk⟩ := hk
  rw [hk, ← compare_scale _ _ (2 ^ k) (Nat.two_pow_pos _)]
  have s1 : (i - (-1074 + (k : Int))).toNat + k = (i + 1074).toNat := by omega
  have s2 : (j - (-1074 + (k : Int))).toNat + k = (j + 1074).toNat := by omega
  rw [signed_scale, signed_scale, s1, s2]
  unfold Ieee.signed sval
  rw [Nat.shiftLeft_eq, Nat.shiftLeft_eq, v1, v2]

theorem mag_cases (b : Nat) : mag b < 9218868437227405312 ∨ mag b = 9218868437227405312 ∨ nan b = true := by
  have e : nan b = true ↔ 9218868437227405312 < mag b := by unfold nan; exact decide_eq_true_iff
  rw [e]; omega
theorem nan_of_num {b : Nat} (h : mag b < 9218868437227405312) : nan b = false := decide_eq_false (by omega)
theorem nan_of_inf {b : Nat} (h : mag b = 9218868437227405312) : nan b = false := decide_eq_false (by omega)

theorem order_self (b : Nat) : FloatKind.f64.format.order b b = if nan b then none else some .eq := by
  rcases mag_cases b with h | h | h
  · rw [order_num h h, nan_of_num h, compare_int, if_neg (Int.lt_irrefl _), if_neg (Int.lt_irrefl _)]; rfl
  · rw [fmt, nan_of_inf h]; unfold Ieee.Format.order; rw [read_inf h]; cases neg b <;> rfl
  · obtain ⟨n, f, e⟩ := read_nan h
    rw [fmt, h]; unfold Ieee.Format.order; rw [e]; rfl
theorem neq_self (b : Nat) : (FloatKind.f64.format.order b b != some Ordering.eq) = nan b := by
  rw [order_self]; cases nan b <;> rfl
end XFlt
end Go.Proofs.Ytnolgpagdjcjbaa
