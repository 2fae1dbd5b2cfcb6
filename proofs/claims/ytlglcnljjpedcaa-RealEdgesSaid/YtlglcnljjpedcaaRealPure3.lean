/-
  The laws of package real over plain numbers: what the printed functions answer, in the words of XFlt; the laws RealTurns and RealEdges. No condition but the rows' own.
-/
import Derived.Test.YtlglcnljjpedcaaPRealx
import Derived.Test.YtlglcnljjpedcaaRealPure
import Derived.Test.YtlglcnljjpedcaaFlt
import Derived.Test.YtlglcnljjpedcaaReal
set_option linter.unusedVariables false
namespace Go.Proofs.Ytlglcnljjpedcaa.Pure
open Go.RowKit Go.Proofs.Ytlglcnljjpedcaa.PReal Go.Proofs.YtlglcnljjpedcaaW.PrintWords Go.Proofs.YtlglcnljjpedcaaW.PrintLast Go.Proofs.Ytlglcnljjpedcaa.XFlt Go.Proofs.Ytlglcnljjpedcaa.XReal

theorem or_nan {b : Nat} (hb : b < 18446744073709551616) : ∃ c : Nat, Go.bits .or .u64 (b : Int) 9221120237041090560 = (c : Int) ∧ c < 18446744073709551616 ∧ nan c = true := by
  have h := u64_or_nat b 9221120237041090560 hb (by decide)
  rw [show ((9221120237041090560 : Nat) : Int) = 9221120237041090560 from rfl] at h
  refine ⟨b ||| 9221120237041090560, h, Nat.or_lt_two_pow (n := 64) (by omega) (by decide), ?_⟩
  have e : (b ||| 9221120237041090560) % 2 ^ 63 = (b % 2 ^ 63) ||| 9221120237041090560 := by
    rw [Nat.or_mod_two_pow, show 9221120237041090560 % 2 ^ 63 = 9221120237041090560 from by decide]
  unfold nan mag
  apply decide_eq_true
  show 9218868437227405312 < (b ||| 9221120237041090560) % 2 ^ 63
  rw [e]
  exact Nat.lt_of_lt_of_le (by decide) Nat.right_le_or

theorem edges_loop (a0 : Int) (l : List Nat) (g : Option Bool) (hl : l.length = 9) (hlt : ∀ x ∈ l, x < 18446744073709551616)
    (hs : ∀ i, i < 8 → cmpB (l.getD i 0) (l.getD (i + 1) 0) = -1) (hg : ∀ k, carryoverlaw03_RealEdges.l0 (k + 1) a0 l 9 = g) :
    carryoverlaw03_RealEdges.l0 9 a0 l 1 = g := by
  have step : ∀ (k i : Nat), i < 8 → carryoverlaw03_RealEdges.l0 (k + 1) a0 l ((i + 1 : Nat) : Int) = carryoverlaw03_RealEdges.l0 k a0 l ((i + 2 : Nat) : Int) := by
    intro k i hi
    have w1 : wrap64 (((i + 1 : Nat) : Int) - 1) = (i : Int) := by unfold wrap64; omega
    have w2 : wrap64 (((i + 1 : Nat) : Int) + 1) = ((i + 2 : Nat) : Int) := by unfold wrap64; omega
    have r1 : rdOf (0 : Nat) l (i : Int) = l.getD i 0 := rfl
    have r2 : rdOf (0 : Nat) l ((i + 1 : Nat) : Int) = l.getD (i + 1) 0 := rfl
    have m : ∀ j, j < 9 → l.getD j 0 < 18446744073709551616 := by
      intro j hj
      rw [List.getD_eq_getElem?_getD, List.getElem?_eq_getElem (by omega)]
      exact hlt _ (List.getElem_mem _)
    rw [carryoverlaw03_RealEdges.l0, w1, w2, r1, r2, cmp_f (m i (by omega)) (m (i + 1) (by omega)), hs i hi, if_pos (by omega), if_pos (by omega), if_pos (by omega), if_pos (by omega)]
    simp only [Option.bind_some, if_true]
  have s0 := step 8 0 (by omega)
  have s1 := step 7 1 (by omega)
  have s2 := step 6 2 (by omega)
  have s3 := step 5 3 (by omega)
  have s4 := step 4 4 (by omega)
  have s5 := step 3 5 (by omega)
  have s6 := step 2 6 (by omega)
  have s7 := step 1 7 (by omega)
  have h9 := hg 0
  simp only [Nat.reduceAdd, Int.cast_ofNat_Int, Int.cast_ofNat_Int] at s0 s1 s2 s3 s4 s5 s6 s7 h9
  rw [s0, s1, s2, s3, s4, s5, s6, s7, h9]

theorem key_nan {b : Nat} (hb : b < 18446744073709551616) (h : nan b = true) : keyB b = 18444492273895866368 := by rw [key_bits hb, canon_nan h]; rfl
theorem key_class {b : Nat} (hb : b < 18446744073709551616) : 4503599627370495 ≤ keyB b ∧ keyB b ≤ 18444492273895866368 ∧ (keyB b = 18444492273895866368 ↔ clsB b = 3) := by
  cases h : nan b
  · have h1 : ¬ 9218868437227405312 < mag b := of_decide_eq_false h
    have c3 : clsB b ≠ 3 := by
      unfold clsB
      split
      · omega
      split
      · omega
      rw [if_pos (by omega)]; omega
    unfold mag at h1
    rw [key_bits hb, canon_num h]
    split <;> omega
  · have h1 : 9218868437227405312 < mag b := of_decide_eq_true h
    rw [key_nan hb h]
    refine ⟨by omega, by omega, fun _ => ?_, fun _ => rfl⟩
    unfold clsB; rw [if_neg (by omega), if_neg (by omega), if_neg (by omega)]

theorem RealEdges : carryoverlaw03_RealEdges.Pure := by
  intro a ha
  obtain ⟨a, rfl, la⟩ := nat_of ha
  obtain ⟨c, hc, lc, nc⟩ := or_nan la
  refine ⟨9, ?_⟩
  have i1 : math_Inf.f (-1) = some 18442240474082181120 := by decide +kernel
  have i2 : math_Inf.f 1 = some 9218868437227405312 := by decide +kernel
  have i3 : math_Copysign.f 0 13830554455654793216 = some 9223372036854775808 := by decide +kernel
  unfold carryoverlaw03_RealEdges.f
  rw [awake_f, Option.bind_some, if_pos rfl, i1, Option.bind_some, i3, Option.bind_some, i2, Option.bind_some, hc, f_f, Option.bind_some]
  have kc := key_nan lc nc
  obtain ⟨k1, k2, k3⟩ := key_class la
  refine edges_loop _ _ _ rfl ?_ ?_ ?_
  · intro x hx
    simp only [List.mem_cons, List.not_mem_nil, or_false] at hx
    rcases hx with rfl | rfl | rfl | rfl | rfl | rfl | rfl | rfl | rfl <;> first | exact lc | decide
  · intro i hi
    obtain h | h | h | h | h | h | h | h : i = 0 ∨ i = 1 ∨ i = 2 ∨ i = 3 ∨ i = 4 ∨ i = 5 ∨ i = 6 ∨ i = 7 := by omega
    · subst h; simp only [Nat.reduceAdd, List.getD_cons_succ, List.getD_cons_zero]; decide +kernel
    · subst h; simp only [Nat.reduceAdd, List.getD_cons_succ, List.getD_cons_zero]; decide +kernel
    · subst h; simp only [Nat.reduceAdd, List.getD_cons_succ, List.getD_cons_zero]; decide +kernel
    · subst h; simp only [Nat.reduceAdd, List.getD_cons_succ, List.getD_cons_zero]; decide +kernel
    · subst h; simp only [Nat.reduceAdd, List.getD_cons_succ, List.getD_cons_zero]; decide +kernel
    · subst h; simp only [Nat.reduceAdd, List.getD_cons_succ, List.getD_cons_zero]; decide +kernel
    · subst h; simp only [Nat.reduceAdd, List.getD_cons_succ, List.getD_cons_zero]; decide +kernel
    · subst h
      simp only [Nat.reduceAdd, List.getD_cons_succ, List.getD_cons_zero]
      unfold cmpB
      rw [kc]
      decide +kernel
  · intro k
    have r1 : rdOf (0 : Nat) [18442240474082181120, 18442240474082181119, 9223372036854775809, 9223372036854775808, 0, 1, 9218868437227405311, 9218868437227405312, c] 0 = 18442240474082181120 := rfl
    have r2 : rdOf (0 : Nat) [18442240474082181120, 18442240474082181119, 9223372036854775809, 9223372036854775808, 0, 1, 9218868437227405311, 9218868437227405312, c] 8 = c := rfl
    have e1 : keyB 18442240474082181120 = 4503599627370495 := by decide
    have c1 : cmpB 18442240474082181120 a ≤ 0 := cmp_le.2 (by rw [e1]; exact k1)
    have c2 : cmpB a c ≤ 0 := cmp_le.2 (by rw [kc]; exact k2)
    rw [carryoverlaw03_RealEdges.l0, if_neg (by simp), f_f, Option.bind_some, r1, r2, if_pos (by simp), cmp_f (by decide) la, Option.bind_some, if_pos (by simp), cmp_f la lc, Option.bind_some, if_pos c1, if_pos c2, rclass_f, Option.bind_some]
    have e : (cmpB a c == 0) = (clsB a == 3) := by
      have z : cmpB a c = 0 ↔ keyB a = 18444492273895866368 := by
        unfold cmpB
        rw [kc]
        by_cases h1 : keyB a < 18444492273895866368
        · rw [if_pos h1]; omega
        rw [if_neg h1, if_neg (by omega)]
        omega
      rw [Bool.eq_iff_iff, beq_iff_eq, beq_iff_eq, z, k3]
    rw [e, beq_self_eq_true]

end Go.Proofs.Ytlglcnljjpedcaa.Pure
