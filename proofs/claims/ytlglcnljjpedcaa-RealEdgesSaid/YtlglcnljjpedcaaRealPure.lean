/-
  The laws of package real over plain numbers: what the printed functions answer, in the words of XFlt; the laws RealOrder, RealEdges, RealTurns, RealKeys, RealBack. No condition but the rows' own.
-/
import Derived.Test.YtlglcnljjpedcaaPRealx
import Derived.Test.YtlglcnljjpedcaaFlt
import Derived.Test.YtlglcnljjpedcaaReal
set_option linter.unusedVariables false
namespace Go.Proofs.Ytlglcnljjpedcaa.Pure
open Go.RowKit Go.Proofs.Ytlglcnljjpedcaa.PReal Go.Proofs.YtlglcnljjpedcaaW.PrintWords Go.Proofs.YtlglcnljjpedcaaW.PrintLast Go.Proofs.Ytlglcnljjpedcaa.XFlt Go.Proofs.Ytlglcnljjpedcaa.XReal

theorem toF_nat (b : Nat) : toF (b : Int) = b := by unfold toF; exact Int.toNat_natCast b
theorem ofF_nat (b : Nat) : ofF b = (b : Int) := by unfold ofF; exact Eq.refl _
theorem tmod_nat (b : Nat) : Int.tmod (b : Int) 9223372036854775808 = ((mag b : Nat) : Int) := rfl

theorem canon_f (b : Nat) : real_Canon.f b = some (canonB b) := by
  unfold real_Canon.f
  rw [neq_self]
  cases h : nan b
  · rw [if_neg (by decide), canon_num h]
  · rw [if_pos rfl, canon_nan h]; rfl
theorem key_f {b : Nat} (hb : b < 18446744073709551616) : real_Key.f b = some ((keyB b : Nat) : Int) := by
  have hc := canon_lt hb
  unfold real_Key.f
  rw [canon_f]
  simp only [Option.bind_some, ofF_nat]
  have hs := and_sign _ hc
  by_cases c : 9223372036854775808 ≤ canonB b
  · rw [decide_eq_true c] at hs
    rw [if_neg (by simpa using hs), xor_all _ hc, key_bits hb, if_pos c]
  · rw [decide_eq_false c] at hs
    rw [if_pos (by simpa using hs), or_sign _ (by omega), key_bits hb, if_neg c]
theorem cmp_f {a b : Nat} (ha : a < 18446744073709551616) (hb : b < 18446744073709551616) : real_Cmp.f a b = some (cmpB a b) := by
  unfold real_Cmp.f cmpB
  rw [key_f ha, key_f hb]
  simp only [Option.bind_some]
  by_cases h1 : keyB a < keyB b
  · rw [if_pos (by omega), if_pos h1]
  rw [if_neg (by omega), if_neg h1]
  by_cases h2 : keyB b < keyB a
  · rw [if_pos (by omega), if_pos h2]
  rw [if_neg (by omega), if_neg h2]
theorem class_f (b : Nat) : real_Class.f b = some (clsB b) := rfl
theorem f_f (b : Nat) : carryoverlaw03_F.f (b : Int) = some b := by unfold carryoverlaw03_F.f; rw [toF_nat]
theorem rbits_f (b : Nat) : carryoverref03_Bits.f (b : Int) = some ((canonB b : Nat) : Int) := by
  unfold carryoverref03_Bits.f
  rw [tmod_nat]
  cases h : nan b
  · have : ¬ 9218868437227405312 < mag b := of_decide_eq_false h
    rw [if_neg (by omega), canon_num h]
  · have : 9218868437227405312 < mag b := of_decide_eq_true h
    rw [if_pos (by omega), canon_nan h]; rfl
theorem rkey_f {b : Nat} (hb : b < 18446744073709551616) : carryoverref03_Key.f (b : Int) = some ((keyB b : Nat) : Int) := by
  have hc := canon_lt hb
  unfold carryoverref03_Key.f
  rw [rbits_f]
  simp only [Option.bind_some]
  rw [key_bits hb]
  by_cases c : 9223372036854775808 ≤ canonB b
  · rw [if_pos (by omega), if_pos c]
    simp only [IntKind.wrap_u64]
    refine congrArg some ?_; omega
  · rw [if_neg (by omega), if_neg c]
    simp only [IntKind.wrap_u64]
    refine congrArg some ?_; omega
theorem rcmp_f {a b : Nat} (ha : a < 18446744073709551616) (hb : b < 18446744073709551616) : carryoverref03_Cmp.f (a : Int) (b : Int) = some (cmpB a b) := by
  unfold carryoverref03_Cmp.f cmpB
  rw [rkey_f ha, rkey_f hb]
  simp only [Option.bind_some]
  by_cases h1 : keyB a < keyB b
  · rw [if_pos (by omega), if_pos h1]
  rw [if_neg (by omega), if_neg h1]
  by_cases h2 : keyB b < keyB a
  · rw [if_pos (by omega), if_pos h2]
  rw [if_neg (by omega), if_neg h2]
theorem rclass_f (b : Nat) : carryoverref03_Class.f (b : Int) = some (clsB b) := by
  unfold carryoverref03_Class.f clsB
  rw [tmod_nat]
  by_cases h0 : mag b = 0
  · rw [if_pos (by omega), if_pos h0]
  rw [if_neg (by omega), if_neg h0]
  by_cases h1 : mag b < 9218868437227405312
  · rw [if_pos (by omega), if_pos h1]
  rw [if_neg (by omega), if_neg h1]
  by_cases h2 : mag b = 9218868437227405312
  · rw [if_pos (by omega), if_pos h2]
  rw [if_neg (by omega), if_neg h2]
theorem back_f (k : Nat) {b : Nat} (hb : b < 18446744073709551616) : real_Back.f (k + 1) (b : Int) = some (if keyB (backB b) = b then (backB b, true) else (0, false)) := by
  have hl := back_lt hb
  have hs := and_sign _ hb
  have j0 : real_Back.j0 (k + 1) (b : Int) ((backB b : Nat) : Int) = some (if keyB (backB b) = b then (backB b, true) else (0, false)) := by
    show (real_Key.f (toF ((backB b : Nat) : Int))).bind (fun t162 => (if t162 = (b : Int) then (some (toF ((backB b : Nat) : Int), true)) else (some (0, false)))) = _
    rw [toF_nat, key_f hl]
    simp only [Option.bind_some]
    by_cases e : keyB (backB b) = b
    · rw [if_pos (by omega), if_pos e]
    · rw [if_neg (by omega), if_neg e]
  unfold real_Back.f
  by_cases c : 9223372036854775808 ≤ b
  · rw [decide_eq_true c] at hs
    have e : b % 9223372036854775808 = backB b := by unfold backB; rw [if_pos c]
    rw [if_neg (by simpa using hs), andNot_sign _ hb, e]
    exact j0
  · rw [decide_eq_false c] at hs
    have e : 18446744073709551615 - b = backB b := by unfold backB; rw [if_neg c]
    rw [if_pos (by simpa using hs), xor_all _ hb, e]
    exact j0
theorem nat_of {a : Int} (h : (Lit.int .u64 a).wf = true) : ∃ b : Nat, a = (b : Int) ∧ b < 18446744073709551616 := by
  have h2 : 0 ≤ a ∧ a ≤ 18446744073709551615 := by simpa [Lit.wf, IntKind.min, IntKind.max, IntKind.signed, IntKind.bits] using h
  exact ⟨a.toNat, by omega, by omega⟩
theorem awake_f : carryoverlaw03_awake.f = some true := by
  unfold carryoverlaw03_awake.f
  rw [key_f (by decide)]
  decide +kernel

/-! ### The plain facts -/
theorem cmp_self (a : Nat) : cmpB a a = 0 := by unfold cmpB; rw [if_neg (Nat.lt_irrefl _), if_neg (Nat.lt_irrefl _)]
theorem cmp_flip (a b : Nat) : cmpB b a = -cmpB a b := by
  unfold cmpB
  by_cases h1 : keyB a < keyB b
  · rw [if_neg (by omega), if_pos h1, if_pos h1]; rfl
  by_cases h2 : keyB b < keyB a
  · rw [if_pos h2, if_neg h1, if_pos h2]
  · rw [if_neg h2, if_neg h1, if_neg h1, if_neg h2]; rfl
theorem cmp_range (a b : Nat) : cmpB a b = -1 ∨ cmpB a b = 0 ∨ cmpB a b = 1 := by unfold cmpB; split; exact .inl rfl; split; exact .inr (.inr rfl); exact .inr (.inl rfl)
theorem cmp_le {a b : Nat} : cmpB a b ≤ 0 ↔ keyB a ≤ keyB b := by
  unfold cmpB
  by_cases h1 : keyB a < keyB b
  · rw [if_pos h1]; omega
  rw [if_neg h1]
  by_cases h2 : keyB b < keyB a
  · rw [if_pos h2]; omega
  rw [if_neg h2]; omega

theorem RealOrder : carryoverlaw03_RealOrder.Pure := by
  intro a b c ha hb hc
  obtain ⟨a, rfl, la⟩ := nat_of ha
  obtain ⟨b, rfl, lb⟩ := nat_of hb
  obtain ⟨c, rfl, lc⟩ := nat_of hc
  refine ⟨2, ?_⟩
  have j1 : carryoverlaw03_RealOrder.j1 1 (a : Int) (b : Int) a b (cmpB a b) false = some true := by
    simp only [carryoverlaw03_RealOrder.j1]
    rw [if_neg (by decide), rclass_f, rclass_f]
    simp only [Option.bind_some]
    by_cases n1 : clsB a = 3
    · rw [if_pos n1]
    rw [if_neg n1]
    by_cases n2 : clsB b = 3
    · rw [if_pos n2]
    rw [if_neg n2]
    have cls : ∀ x, clsB x ≠ 3 → nan x = false := by
      intro x hx
      rcases mag_cases x with h | h | h
      · exact nan_of_num h
      · exact nan_of_inf h
      · have h' : 9218868437227405312 < mag x := of_decide_eq_true h
        have e : clsB x = 3 := by unfold clsB; rw [if_neg (by omega), if_neg (by omega), if_neg (by omega)]
        exact absurd e hx
    have rng : ∀ x, 0 ≤ clsB x ∧ clsB x ≤ 3 ∧ (clsB x = 0 ↔ mag x = 0) := by
      intro x
      unfold clsB
      split
      · omega
      split
      · omega
      split <;> omega
    obtain ⟨a1, a2, a3⟩ := rng a
    obtain ⟨b1, b2, b3⟩ := rng b
    have hw : wrap64 (clsB a + clsB b) = clsB a + clsB b := by unfold wrap64; omega
    rw [hw]
    by_cases z : clsB a + clsB b = 0
    · rw [if_pos z]
    rw [if_neg z]
    obtain ⟨o1, o2⟩ := order_lt la lb (cls a n1) (cls b n2) (by omega)
    rw [o1, o2, if_pos (by simp)]
    simp
  have j0 : carryoverlaw03_RealOrder.j0 2 (a : Int) (b : Int) a b c (cmpB a b) false = some true := by
    rw [show (2 : Nat) = 1 + 1 from rfl, carryoverlaw03_RealOrder.j0]
    rw [if_neg (by decide), cmp_f lb lc, cmp_f la lc]
    simp only [Option.bind_some]
    by_cases h1 : cmpB a b ≤ 0
    · rw [if_pos h1]
      by_cases h2 : cmpB b c ≤ 0
      · rw [if_pos h2]
        have h3 : cmpB a c ≤ 0 := cmp_le.2 (Nat.le_trans (cmp_le.1 h1) (cmp_le.1 h2))
        rw [decide_eq_false (by omega)]
        exact j1
      · rw [if_neg h2]; exact j1
    · rw [if_neg h1]; exact j1
  unfold carryoverlaw03_RealOrder.f
  rw [awake_f]
  simp only [Option.bind_some, if_true, f_f, cmp_f la lb, cmp_f lb la, cmp_f la la, rcmp_f la lb]
  have hw : wrap64 (-cmpB a b) = -cmpB a b := by rcases cmp_range a b with h | h | h <;> rw [h] <;> decide +kernel
  rw [hw, cmp_flip a b, if_pos rfl, cmp_self]
  exact j0

theorem RealKeys : carryoverlaw03_RealKeys.Pure := by
  intro a ha
  obtain ⟨a, rfl, la⟩ := nat_of ha
  refine ⟨1, ?_⟩
  have lk := key_lt la
  have hb : backB (keyB a) = canonB a := by
    have := canon_lt la
    unfold backB
    rw [key_bits la]
    by_cases c : 9223372036854775808 ≤ canonB a
    · rw [if_pos c, if_neg (by omega)]; omega
    · rw [if_neg c, if_pos (by omega)]; omega
  unfold carryoverlaw03_RealKeys.f
  rw [awake_f]
  simp only [Option.bind_some, if_true, f_f, rkey_f la, back_f 0 lk, key_f la, canon_f, rbits_f, class_f, rclass_f, ofF_nat, hb, key_canon]
  simp

theorem RealBack : carryoverlaw03_RealBack.Pure := by
  intro a ha
  obtain ⟨a, rfl, la⟩ := nat_of ha
  refine ⟨1, ?_⟩
  have lb := back_lt la
  unfold carryoverlaw03_RealBack.f
  rw [awake_f]
  simp only [Option.bind_some, if_true, back_f 0 la]
  by_cases e : keyB (backB a) = a
  · rw [if_pos e]
    simp only [if_true, ofF_nat]
    rw [rkey_f lb, rbits_f]
    simp only [Option.bind_some, e, if_true]
    have : canonB (backB a) = backB a := by
      have hc := canon_lt lb
      have hk := key_bits lb
      rw [e] at hk
      unfold backB at hk hc ⊢
      by_cases c : 9223372036854775808 ≤ a
      · rw [if_pos c] at hk hc ⊢
        generalize canonB (a % 9223372036854775808) = x at *
        split at hk <;> omega
      · rw [if_neg c] at hk hc ⊢
        generalize canonB (18446744073709551615 - a) = x at *
        split at hk <;> omega
    rw [this, beq_self_eq_true]
  · rw [if_neg e]
    simp only [Bool.false_eq_true, if_false, ofF_nat]
    have k1 := rkey_f (b := 18442240474082181120) (by decide)
    have k2 := rkey_f (b := 9218868437227405312) (by decide)
    have k3 := rkey_f (b := 9221120237041090560) (by decide)
    have e1 : keyB 18442240474082181120 = 4503599627370495 := by decide
    have e2 : keyB 9218868437227405312 = 18442240474082181120 := by decide
    have e3 : keyB 9221120237041090560 = 18444492273895866368 := by decide
    rw [e1] at k1
    rw [e2] at k2
    rw [e3] at k3
    have q : a < 4503599627370495 ∨ (18442240474082181120 < a ∧ a ≠ 18444492273895866368) := by
      have num : nan (backB a) = false → keyB (backB a) = a := by
        intro hn
        rw [key_bits lb, canon_num hn]
        unfold backB
        by_cases c : 9223372036854775808 ≤ a
        · rw [if_pos c, if_neg (by omega)]; omega
        · rw [if_neg c, if_pos (by omega)]; omega
      by_cases c : 9223372036854775808 ≤ a
      · by_cases c2 : 18442240474082181120 < a
        · refine .inr ⟨c2, fun h => e ?_⟩
          subst h; decide
        · exact absurd (num (decide_eq_false (by unfold mag backB; rw [if_pos c]; omega))) e
      · by_cases c2 : a < 4503599627370495
        · exact .inl c2
        · exact absurd (num (decide_eq_false (by unfold mag backB; rw [if_neg c]; omega))) e
    have k1' : carryoverref03_Key.f 18442240474082181120 = some 4503599627370495 := k1
    have k2' : carryoverref03_Key.f 9218868437227405312 = some 18442240474082181120 := k2
    have k3' : carryoverref03_Key.f 9221120237041090560 = some 18444492273895866368 := k3
    rw [k1', k2', k3']
    simp only [Option.bind_some]
    have z : ((0 : Nat) : Int) = 0 := rfl
    rcases q with q | ⟨q1, q2⟩
    · rw [if_neg (by omega), if_pos z, if_pos (by omega)]
    · rw [if_pos (by omega), if_pos z, if_neg (by omega)]
      have : (((a : Nat) : Int) != 18444492273895866368) = true := by rw [bne_iff_ne]; omega
      rw [this]

end Go.Proofs.Ytlglcnljjpedcaa.Pure
