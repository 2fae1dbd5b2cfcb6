/-
  Plain facts on the words of float64: which are no numbers, how two stand to each other, the key that rises with them. No program here.
-/
import Derived.WalkKit
import Derived.WalkLawsBesides
import Derived.Laws.BitsAllLaws
set_option linter.unusedVariables false
set_option linter.unusedSimpArgs false
namespace Go.Proofs.Ytlglcnljjpedcaa
open Go.RowKit
namespace XFlt

/-- The rung of a word: its bits but the sign. -/
def mag (b : Nat) : Nat := b % 9223372036854775808
def nan (b : Nat) : Bool := decide (9218868437227405312 < mag b)
def canonB (b : Nat) : Nat := if nan b then 9221120237041090560 else b
def keyB (b : Nat) : Nat := if 9223372036854775808 ≤ canonB b then 18446744073709551615 - canonB b else canonB b + 9223372036854775808
def cmpB (a b : Nat) : Int := if keyB a < keyB b then -1 else if keyB b < keyB a then 1 else 0
def clsB (b : Nat) : Int := if mag b = 0 then 0 else if mag b < 9218868437227405312 then 1 else if mag b = 9218868437227405312 then 2 else 3

theorem canon_lt {b : Nat} (h : b < 18446744073709551616) : canonB b < 18446744073709551616 := by unfold canonB; split <;> omega
theorem canon_nan {b : Nat} (h : nan b = true) : canonB b = 9221120237041090560 := if_pos h
theorem canon_num {b : Nat} (h : nan b = false) : canonB b = b := by unfold canonB; rw [h]; rfl
theorem key_lt {b : Nat} (h : b < 18446744073709551616) : keyB b < 18446744073709551616 := by
  have := canon_lt h
  unfold keyB
  split <;> omega
theorem nan_canon (b : Nat) : nan (canonB b) = nan b := by
  unfold canonB
  split
  · rename_i h; rw [h]; decide
  · rfl
theorem canon_canon (b : Nat) : canonB (canonB b) = canonB b := by
  cases h : nan b
  · rw [canon_num h, canon_num h]
  · rw [canon_nan h]; decide
theorem key_canon (b : Nat) : keyB (canonB b) = keyB b := by unfold keyB; rw [canon_canon]
theorem cmp_canon (a b : Nat) : cmpB (canonB a) (canonB b) = cmpB a b := by unfold cmpB; rw [key_canon, key_canon]
theorem key_inj {a b : Nat} (ha : a < 18446744073709551616) (hb : b < 18446744073709551616) (h : keyB a = keyB b) : canonB a = canonB b := by
  have h1 := canon_lt ha
  have h2 := canon_lt hb
  unfold keyB at h
  split at h <;> split at h <;> omega

/-! ### What the machine's float operations say -/
theorem fmt : FloatKind.f64.format = Ieee.double := rfl
theorem sw : Ieee.double.signWeight = 9223372036854775808 := by decide +kernel
theorem bn : Ieee.double.binade = 4503599627370496 := by decide +kernel
theorem ir : Ieee.double.infRung = 9218868437227405312 := by decide +kernel
theorem lp : Ieee.double.leastPlace = -1074 := by decide +kernel

def neg (b : Nat) : Bool := b / 9223372036854775808 % 2 == 1
/-- A finite word's magnitude, in units of the least. -/
def val (r : Nat) : Nat := if r < 4503599627370496 then r else (4503599627370496 + r % 4503599627370496) * 2 ^ (r / 4503599627370496 - 1)

theorem read_nan {b : Nat} (h : nan b = true) : ∃ n f, Ieee.double.read b = .nan n f := by
  have h' : 9218868437227405312 < b % 9223372036854775808 := of_decide_eq_true h
  unfold Ieee.Format.read
  simp only [sw, bn, ir]
  rw [if_neg (by omega), if_neg (by omega), if_neg (by omega)]
  exact ⟨_, _, rfl⟩
theorem read_inf {b : Nat} (h : mag b = 9218868437227405312) : Ieee.double.read b = .infinity (neg b) := by
  have h' : b % 9223372036854775808 = 9218868437227405312 := h
  unfold Ieee.Format.read
  simp only [sw, bn, ir]
  rw [if_neg (by omega), if_neg (by omega), if_pos h']
  rfl
theorem read_num {b : Nat} (h : mag b < 9218868437227405312) : ∃ m e, Ieee.double.read b = .number (neg b) m e ∧ -1074 ≤ e ∧ m * 2 ^ (e + 1074).toNat = val (mag b) := by
  have h' : b % 9223372036854775808 < 9218868437227405312 := h
  unfold Ieee.Format.read
  simp only [sw, bn, ir, lp]
  by_cases c : b % 9223372036854775808 < 4503599627370496
  · rw [if_pos c]
    refine ⟨_, _, rfl, Int.le_refl _, ?_⟩
    unfold val mag
    rw [if_pos c, show ((-1074 : Int) + 1074).toNat = 0 from rfl, Nat.pow_zero, Nat.mul_one]
  · rw [if_neg c, if_pos h']
    refine ⟨_, _, rfl, by omega, ?_⟩
    unfold val mag
    rw [if_neg c, show ((-1074 : Int) + ((b % 9223372036854775808 / 4503599627370496 - 1 : Nat) : Int) + 1074).toNat = b % 9223372036854775808 / 4503599627370496 - 1 from by omega]

theorem val_succ (r : Nat) : val r < val (r + 1) := by
  unfold val
  by_cases h : r + 1 < 4503599627370496
  · rw [if_pos (by omega), if_pos h]; omega
  rw [if_neg h]
  by_cases h2 : r < 4503599627370496
  · have : r = 4503599627370495 := by omega
    subst this; decide
  rw [if_neg h2]
  by_cases h3 : r % 4503599627370496 = 4503599627370495
  · have e1 : (r + 1) % 4503599627370496 = 0 := by omega
    have e2 : (r + 1) / 4503599627370496 - 1 = (r / 4503599627370496 - 1) + 1 := by omega
    rw [e1, e2, h3, Nat.pow_succ]
    have : 0 < 2 ^ (r / 4503599627370496 - 1) := Nat.two_pow_pos _
    generalize 2 ^ (r / 4503599627370496 - 1) = p at *
    omega
  · have e1 : (r + 1) % 4503599627370496 = r % 4503599627370496 + 1 := by omega
    have e2 : (r + 1) / 4503599627370496 - 1 = r / 4503599627370496 - 1 := by omega
    rw [e1, e2]
    have : 0 < 2 ^ (r / 4503599627370496 - 1) := Nat.two_pow_pos _
    exact Nat.mul_lt_mul_of_pos_right (by omega) this
theorem val_lt {r s : Nat} (h : r < s) : val r < val s := by
  obtain ⟨d, rfl⟩ : ∃ d, s = r + 1 + d := ⟨s - r - 1, by omega⟩
  induction d with
  | zero => exact val_succ r
  | succ d ih => exact Nat.lt_trans (ih (by omega)) (val_succ _)
theorem val_zero : val 0 = 0 := rfl

/-- With its sign. -/
def sval (b : Nat) : Int := if neg b then -(val (mag b) : Int) else (val (mag b) : Int)

theorem compare_int (a b : Int) : compare a b = if a < b then .lt else if b < a then .gt else .eq := by
  simp only [compare, compareOfLessAndEq]
  split
  · rfl
  · split
    · rw [if_neg (by omega)]
    · rw [if_pos (by omega)]

theorem signed_scale (s : Bool) (m k : Nat) (p : Nat) : Ieee.signed s m k * (2 ^ p : Nat) = Ieee.signed s m (k + p) := by
  unfold Ieee.signed
  cases s
  · simp only [Bool.false_eq_true, if_false, Nat.shiftLeft_eq, Nat.pow_add]; push_cast; rw [Int.mul_assoc]
  · simp only [if_true, Nat.shiftLeft_eq, Nat.pow_add]; push_cast; rw [Int.neg_mul, Int.mul_assoc]

theorem compare_scale (a b : Int) (p : Nat) (hp : 0 < p) : compare (a * p) (b * p) = compare a b := by
  have hp' : (0 : Int) < p := by omega
  rw [compare_int, compare_int]
  by_cases h : a < b
  · rw [if_pos h, if_pos (Int.mul_lt_mul_of_pos_right h hp')]
  rw [if_neg h, if_neg (fun hc => h (Int.lt_of_mul_lt_mul_right hc (Int.le_of_lt hp')))]
  by_cases h2 : b < a
  · rw [if_pos h2, if_pos (Int.mul_lt_mul_of_pos_right h2 hp')]
  rw [if_neg h2, if_neg (fun hc => h2 (Int.lt_of_mul_lt_mul_right hc (Int.le_of_lt hp')))]

theorem order_num {a b : Nat} (ha : mag a < 9218868437227405312) (hb : mag b < 9218868437227405312) : FloatKind.f64.format.order a b = some (compare (sval a) (sval b)) := by
  obtain ⟨m, i, e1, h1, v1⟩ := read_num ha
  obtain ⟨n, j, e2, h2, v2⟩ := read_num hb
  rw [fmt]
  unfold Ieee.Format.order
  rw [e1, e2]
  simp only [Ieee.Datum.order]
  have hk : ∃ k : Nat, min i j = -1074 + k := ⟨(min i j + 1074).toNat, by omega⟩
  obtain ⟨k, hk⟩ := hk
  rw [hk, ← compare_scale _ _ (2 ^ k) (Nat.two_pow_pos _)]
  have s1 : (i - (-1074 + (k : Int))).toNat + k = (i + 1074).toNat := by omega
  have s2 : (j - (-1074 + (k : Int))).toNat + k = (j + 1074).toNat := by omega
  rw [signed_scale, signed_scale, s1, s2]
  unfold Ieee.signed sval
  rw [Nat.shiftLeft_eq, Nat.shiftLeft_eq, v1, v2]

theorem mag_cases (b : Nat) : mag b < 9218868437227405312 ∨ mag b = 9218868437227405312 ∨ nan b = true := by
  have e : nan b = true ↔ 9218868437227405312 < mag b := by unfold nan; exact decide_eq_true_iff
  rw [e]; omega
theorem nan_of_num {b : Nat} (h : mag b < 9218868437227405312) : nan b = false := decide_eq_false (by omega)
theorem nan_of_inf {b : Nat} (h : mag b = 9218868437227405312) : nan b = false := decide_eq_false (by omega)

theorem order_self (b : Nat) : FloatKind.f64.format.order b b = if nan b then none else some .eq := by
  rcases mag_cases b with h | h | h
  · rw [order_num h h, nan_of_num h, compare_int, if_neg (Int.lt_irrefl _), if_neg (Int.lt_irrefl _)]; rfl
  · rw [fmt, nan_of_inf h]; unfold Ieee.Format.order; rw [read_inf h]; cases neg b <;> rfl
  · obtain ⟨n, f, e⟩ := read_nan h
    rw [fmt, h]; unfold Ieee.Format.order; rw [e]; rfl
theorem neq_self (b : Nat) : (FloatKind.f64.format.order b b != some Ordering.eq) = nan b := by
  rw [order_self]; cases nan b <;> rfl
theorem mag_zero : mag 0 = 0 := rfl
theorem order_zero (b : Nat) : (FloatKind.f64.format.order b 0 == some Ordering.eq) = decide (mag b = 0) := by
  rcases mag_cases b with h | h | h
  · rw [order_num h (by decide), compare_int]
    have z : sval 0 = 0 := rfl
    rw [z]
    by_cases c : mag b = 0
    · have : sval b = 0 := by unfold sval; rw [c]; cases neg b <;> rfl
      rw [this, decide_eq_true c]; rfl
    · have hv := val_lt (show 0 < mag b by omega)
      rw [val_zero] at hv
      rw [decide_eq_false c]
      unfold sval
      cases neg b
      · simp only [Bool.false_eq_true, if_false]; rw [if_neg (by omega), if_pos (by omega)]; rfl
      · simp only [if_true]; rw [if_pos (by omega)]; rfl
  · rw [fmt]; unfold Ieee.Format.order; rw [read_inf h, decide_eq_false (by omega)]
    cases neg b <;> decide +kernel
  · obtain ⟨n, f, e⟩ := read_nan h
    have h' : 9218868437227405312 < mag b := of_decide_eq_true h
    rw [fmt]; unfold Ieee.Format.order; rw [e, decide_eq_false (by omega)]; rfl

theorem order_mixed {a b : Nat} (ha : nan a = false) (hb : nan b = false) : FloatKind.f64.format.order a b = some (compare (sval a) (sval b)) := by
  have big : ∀ x, mag x < 9218868437227405312 → val (mag x) < val 9218868437227405312 := fun x h => val_lt h
  rcases mag_cases a with h | h | h
  · rcases mag_cases b with g | g | g
    · exact order_num h g
    · obtain ⟨m, e, e1, _, _⟩ := read_num h
      rw [fmt]; unfold Ieee.Format.order; rw [e1, read_inf g]
      simp only [Ieee.Datum.order]
      have := big a h
      rw [compare_int]
      unfold sval
      rw [g]
      generalize val 9218868437227405312 = B at *
      cases neg a <;> cases neg b <;> simp only [Bool.false_eq_true, if_false, if_true]
      · rw [if_pos (by omega)]
      · rw [if_neg (by omega), if_pos (by omega)]
      · rw [if_pos (by omega)]
      · rw [if_neg (by omega), if_pos (by omega)]
    · rw [hb] at g; cases g
  · rcases mag_cases b with g | g | g
    · obtain ⟨m, e, e1, _, _⟩ := read_num g
      rw [fmt]; unfold Ieee.Format.order; rw [e1, read_inf h]
      simp only [Ieee.Datum.order]
      have := big b g
      rw [compare_int]
      unfold sval
      rw [h]
      generalize val 9218868437227405312 = B at *
      cases neg a <;> cases neg b <;> simp only [Bool.false_eq_true, if_false, if_true]
      · rw [if_neg (by omega), if_pos (by omega)]
      · rw [if_neg (by omega), if_pos (by omega)]
      · rw [if_pos (by omega)]
      · rw [if_pos (by omega)]
    · rw [fmt]; unfold Ieee.Format.order; rw [read_inf h, read_inf g]
      simp only [Ieee.Datum.order]
      rw [compare_int]
      unfold sval
      rw [h, g]
      have : 0 < val 9218868437227405312 := val_lt (r := 0) (by decide)
      generalize val 9218868437227405312 = B at *
      cases neg a <;> cases neg b <;> simp only [Bool.false_eq_true, if_false, if_true]
      · rw [if_neg (by omega), if_neg (by omega)]; rfl
      · rw [if_neg (by omega), if_pos (by omega)]; rfl
      · rw [if_pos (by omega)]; rfl
      · rw [if_neg (by omega), if_neg (by omega)]; rfl
    · rw [hb] at g; cases g
  · rw [ha] at h; cases h

/-- Less, by the keys, of two that are numbers and not both zero. -/
theorem sval_key {a b : Nat} (la : a < 18446744073709551616) (lb : b < 18446744073709551616) (ha : nan a = false) (hb : nan b = false) (hz : ¬ (mag a = 0 ∧ mag b = 0)) :
    (sval a < sval b ↔ keyB a < keyB b) ∧ (sval b < sval a ↔ keyB b < keyB a) := by
  have mono : ∀ x y : Nat, (val x < val y ↔ x < y) := fun x y => ⟨fun h => by
    rcases Nat.lt_trichotomy x y with c | c | c
    · exact c
    · subst c; omega
    · have := val_lt c; omega, val_lt⟩
  have k : ∀ x, x < 18446744073709551616 → nan x = false → (neg x = true ∧ keyB x = 9223372036854775807 - mag x ∧ mag x ≤ 9223372036854775807 ∨ neg x = false ∧ keyB x = 9223372036854775808 + mag x) := by
    intro x hx hn
    have hb : (neg x = true ↔ 9223372036854775808 ≤ x) := by unfold neg; rw [beq_iff_eq]; omega
    unfold keyB
    rw [canon_num hn]
    by_cases c : 9223372036854775808 ≤ x
    · refine .inl ⟨hb.2 c, ?_, ?_⟩
      · rw [if_pos c]; unfold mag; omega
      · unfold mag; omega
    · refine .inr ⟨by cases h : neg x; rfl; exact absurd (hb.1 h) c, ?_⟩
      rw [if_neg c]; unfold mag; omega
  have m1 := mono (mag a) (mag b)
  have m2 := mono (mag b) (mag a)
  have z1 : 0 < mag a ↔ 0 < val (mag a) := by have := mono 0 (mag a); rw [val_zero] at this; exact this.symm
  have z2 : 0 < mag b ↔ 0 < val (mag b) := by have := mono 0 (mag b); rw [val_zero] at this; exact this.symm
  unfold sval
  rcases k a la ha with ⟨n1, k1, l1⟩ | ⟨n1, k1⟩ <;> rcases k b lb hb with ⟨n2, k2, l2⟩ | ⟨n2, k2⟩ <;> rw [n1, n2, k1, k2] <;> simp only [Bool.false_eq_true, if_false, if_true] <;> omega

theorem order_lt {a b : Nat} (la : a < 18446744073709551616) (lb : b < 18446744073709551616) (ha : nan a = false) (hb : nan b = false) (hz : ¬ (mag a = 0 ∧ mag b = 0)) :
    (FloatKind.f64.format.order a b == some Ordering.lt) = decide (cmpB a b < 0) ∧ (FloatKind.f64.format.order a b == some Ordering.gt) = decide (0 < cmpB a b) := by
  rw [order_mixed ha hb, compare_int]
  obtain ⟨h1, h2⟩ := sval_key la lb ha hb hz
  unfold cmpB
  by_cases c : sval a < sval b
  · rw [if_pos c, if_pos (h1.1 c)]; exact ⟨rfl, rfl⟩
  rw [if_neg c, if_neg (fun h => c (h1.2 h))]
  by_cases d : sval b < sval a
  · rw [if_pos d, if_pos (h2.1 d)]; exact ⟨rfl, rfl⟩
  rw [if_neg d, if_neg (fun h => d (h2.2 h))]; exact ⟨rfl, rfl⟩

/-- f - f: nothing, or no number. -/
theorem sub_self_num {b : Nat} (h : mag b < 9218868437227405312) : ∃ r, FloatKind.f64.format.sub b b = some r ∧ (FloatKind.f64.format.order r 0 != some Ordering.eq) = false := by
  obtain ⟨m, e, e1, _, _⟩ := read_num h
  refine ⟨_, by rw [fmt]; unfold Ieee.Format.sub; rw [e1]; rfl, ?_⟩
  have z : ∀ s, Ieee.signed s m (e - min e e).toNat + Ieee.signed (!s) m (e - min e e).toNat = 0 := by intro s; unfold Ieee.signed; cases s <;> simp <;> omega
  have w : ∀ s : Bool, (s && !s) = false := by decide
  simp only [z, if_true, w, Int.natAbs_zero]
  unfold Ieee.Format.write
  simp only [Ieee.Format.nearest, if_true]
  decide +kernel
theorem sub_self_inf {b : Nat} (h : mag b = 9218868437227405312) : FloatKind.f64.format.sub b b = none := by
  rw [fmt]; unfold Ieee.Format.sub; rw [read_inf h]; cases neg b <;> rfl

theorem order_nan {r : Nat} (h : nan r = true) (b : Nat) : FloatKind.f64.format.order r b = none := by
  obtain ⟨n, f, e⟩ := read_nan h
  rw [fmt]; unfold Ieee.Format.order; rw [e]; rfl
theorem run_sub_inf {P : Program} (t : TypeId) {b : Nat} (h : mag b = 9218868437227405312) (w : World) :
    ∃ r, (binOp .sub t (.float .f64 b) (.float .f64 b)).run P w = .ok (.float .f64 r) w.drew ∧ (FloatKind.f64.format.order r 0 != some Ordering.eq) = true := by
  have hs := sub_self_inf h
  have hb : binOp .sub t (.float .f64 b) (.float .f64 b) = (do pure (Value.float .f64 (← choose (.nanBits .f64 b b)))) := by simp [binOp, Op.floatArith, hs]
  rw [hb]
  refine ⟨_, rfl, ?_⟩
  rw [order_nan]
  · rfl
  · unfold nan mag
    generalize w.tape w.drawn (Question.nanBits FloatKind.f64 b b) = q
    apply decide_eq_true
    show 9218868437227405312 < (q % 2 * 9223372036854775808 + 9218868437227405312 + 1 + q / 2 % 4503599627370495) % 9223372036854775808
    have hx : q / 2 % 4503599627370495 < 4503599627370495 := Nat.mod_lt _ (by decide)
    have hs : q % 2 = 0 ∨ q % 2 = 1 := by omega
    generalize q / 2 % 4503599627370495 = x at *
    rcases hs with e | e <;> rw [e] <;> omega
theorem run_sub_num {P : Program} (t : TypeId) {b : Nat} (h : mag b < 9218868437227405312) (w : World) :
    ∃ r, (binOp .sub t (.float .f64 b) (.float .f64 b)).run P w = .ok (.float .f64 r) w ∧ (FloatKind.f64.format.order r 0 != some Ordering.eq) = false := by
  obtain ⟨r, hs, h2⟩ := sub_self_num h
  exact ⟨r, by simp [binOp, Op.floatArith, hs], h2⟩

/-! ### The bits of a key -/
theorem and_sign (b : Nat) (h : b < 18446744073709551616) : (bits .and .u64 (b : Int) 9223372036854775808 != 0) = decide (9223372036854775808 ≤ b) := by
  have e := u64_and_nat b 9223372036854775808 h (by decide)
  rw [show ((9223372036854775808 : Nat) : Int) = 9223372036854775808 from rfl] at e
  have nb := nat_bit 63 b
  rw [show 2 ^ 63 = 9223372036854775808 from rfl] at nb
  rw [e, nb]
  by_cases c : 9223372036854775808 ≤ b
  · rw [decide_eq_true c, show b / 9223372036854775808 % 2 = 1 from by omega]; rfl
  · rw [decide_eq_false c, show b / 9223372036854775808 % 2 = 0 from by omega]; rfl
theorem xor_all (b : Nat) (h : b < 18446744073709551616) : bits .xor .u64 IntKind.u64.max (b : Int) = ((18446744073709551615 - b : Nat) : Int) := by
  have e := u64_xor_nat 18446744073709551615 b (by decide) h
  rw [show ((18446744073709551615 : Nat) : Int) = IntKind.u64.max from rfl] at e
  rw [e]
  congr 1
  apply Nat.eq_of_testBit_eq
  intro i
  rw [show 18446744073709551615 - b = 2 ^ 64 - (b + 1) from by omega, Nat.testBit_two_pow_sub_succ (by omega), Nat.testBit_xor, show 18446744073709551615 = 2 ^ 64 - 1 from rfl, Nat.testBit_two_pow_sub_one]
  by_cases c : i < 64
  · simp [c]
  · have : b.testBit i = false := Nat.testBit_lt_two_pow (Nat.lt_of_lt_of_le (show b < 2 ^ 64 by omega) (Nat.pow_le_pow_right (by decide) (by omega)))
    simp [c, this]
theorem or_sign (b : Nat) (h : b < 9223372036854775808) : bits .or .u64 (b : Int) 9223372036854775808 = ((b + 9223372036854775808 : Nat) : Int) := by
  have e := u64_or_nat b 9223372036854775808 (by omega) (by decide)
  rw [show ((9223372036854775808 : Nat) : Int) = 9223372036854775808 from rfl] at e
  rw [e, Nat.or_comm, nat_join 63 9223372036854775808 b (by decide) (by omega), Nat.add_comm]
theorem andNot_sign (b : Nat) (h : b < 18446744073709551616) : bits .andNot .u64 (b : Int) 9223372036854775808 = ((b % 9223372036854775808 : Nat) : Int) := by
  have e := u64_andNot_nat b 9223372036854775808 h (by decide)
  rw [show ((9223372036854775808 : Nat) : Int) = 9223372036854775808 from rfl] at e
  rw [e, show 18446744073709551615 - 9223372036854775808 = 2 ^ 63 - 1 from rfl, Nat.and_two_pow_sub_one_eq_mod]

end XFlt
end Go.Proofs.Ytlglcnljjpedcaa
