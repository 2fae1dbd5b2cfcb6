-- Written by a program of this session (wip/fprint) out of the translation: each Go function as a Lean function, and its walk.
import Derived.Test.YtlglcnljjpedcaaPRealx0
import Derived.Test.YtlglcnljjpedcaaPRealx1
import Derived.Test.YtlglcnljjpedcaaPRealx2
import Derived.Test.YtlglcnljjpedcaaPRealx3
namespace Go.Proofs.Ytlglcnljjpedcaa.PReal
open Go.RowKit Go.Proofs.YtlglcnljjpedcaaW.PrintWords Go.Proofs.YtlglcnljjpedcaaW.PrintLast Go.Proofs.YtlglcnljjpedcaaW.PrintMore
attribute [local go_sem] max2_int min2_int max_two min_two max_three min_three max_four min_four   -- for this text's walks alone
set_option linter.unusedVariables false
set_option linter.unusedSimpArgs false

/-! ### carryoverlaw03_RealOrder: function 3 -/
mutual
def carryoverlaw03_RealOrder.j0 : Nat → Int → Int → Nat → Nat → Nat → Int → Bool → Option (Bool)
  | 0, _, _, _, _, _, _, _ => none
  | k + 1, x0, x1, x7, x8, x9, x10, x40 => if x40 = true then (some false) else (if x10 ≤ 0 then ((real_Cmp.f x8 x9).bind fun t124 => (if t124 ≤ 0 then ((real_Cmp.f x7 x9).bind fun t125 => (carryoverlaw03_RealOrder.j1 k x0 x1 x7 x8 x10 (decide (t125 > 0)))) else (carryoverlaw03_RealOrder.j1 k x0 x1 x7 x8 x10 false))) else (carryoverlaw03_RealOrder.j1 k x0 x1 x7 x8 x10 false))
def carryoverlaw03_RealOrder.j1 : Nat → Int → Int → Nat → Nat → Int → Bool → Option (Bool)
  | 0, _, _, _, _, _, _ => none
  | k + 1, x0, x1, x7, x8, x10, x54 => if x54 = true then (some false) else ((carryoverref03_Class.f x0).bind fun t126 => (if t126 = 3 then (some true) else ((carryoverref03_Class.f x1).bind fun t127 => (if t127 = 3 then (some true) else ((carryoverref03_Class.f x0).bind fun t128 => (if (wrap64 (t128 + t127)) = 0 then (some true) else (if ((FloatKind.f64.format.order x7 x8 == some Ordering.lt) == (decide (x10 < 0))) = true then (some ((FloatKind.f64.format.order x7 x8 == some Ordering.gt) == (decide (x10 > 0)))) else (some false))))))))
end
def carryoverlaw03_RealOrder.f (k : Nat) (a0 : Int) (a1 : Int) (a2 : Int) : Option (Bool) := (carryoverlaw03_awake.f).bind fun t116 => (if t116 = true then ((carryoverlaw03_F.f a0).bind fun t117 => ((carryoverlaw03_F.f a1).bind fun t118 => ((carryoverlaw03_F.f a2).bind fun t119 => ((real_Cmp.f t117 t118).bind fun t120 => ((carryoverref03_Cmp.f a0 a1).bind fun t121 => (if t120 = t121 then ((real_Cmp.f t118 t117).bind fun t122 => (if t122 = (wrap64 (-t120)) then ((real_Cmp.f t117 t117).bind fun t123 => (carryoverlaw03_RealOrder.j0 k a0 a1 t117 t118 t119 t120 (t123 != 0))) else (carryoverlaw03_RealOrder.j0 k a0 a1 t117 t118 t119 t120 true))) else (carryoverlaw03_RealOrder.j0 k a0 a1 t117 t118 t119 t120 true))))))) else (some false))
theorem carryoverlaw03_RealOrder.mono_l : ∀ k, (∀ y0 y1 y2 y3 y4 y5 y6, LeO (carryoverlaw03_RealOrder.j0 k y0 y1 y2 y3 y4 y5 y6) (carryoverlaw03_RealOrder.j0 (k + 1) y0 y1 y2 y3 y4 y5 y6)) ∧ (∀ y0 y1 y2 y3 y4 y5, LeO (carryoverlaw03_RealOrder.j1 k y0 y1 y2 y3 y4 y5) (carryoverlaw03_RealOrder.j1 (k + 1) y0 y1 y2 y3 y4 y5))
  | 0 => ⟨fun _ _ _ _ _ _ _ r h => by simp [carryoverlaw03_RealOrder.j0] at h, fun _ _ _ _ _ _ r h => by simp [carryoverlaw03_RealOrder.j1] at h⟩
  | k + 1 => by
    obtain ⟨ih0, ih1⟩ := carryoverlaw03_RealOrder.mono_l k
    refine ⟨?_, ?_⟩
    · intro y0 y1 y2 y3 y4 y5 y6
      unfold carryoverlaw03_RealOrder.j0
      repeat' first
      | (with_reducible exact ih0 _ _ _ _ _ _ _)
      | (with_reducible exact ih1 _ _ _ _ _ _)
      | (with_reducible exact LeO.refl _)
      | (with_reducible exact LeO.none _)
      | (with_reducible refine LeO.ite ?_ ?_)
      | (with_reducible refine LeO.bind ?_ (fun _ => ?_))
      | exact ih0 _ _ _ _ _ _ _
      | exact ih1 _ _ _ _ _ _
      | exact LeO.none _
      | refine LeO.ite ?_ ?_
      | refine LeO.bind ?_ (fun _ => ?_)
    · intro y0 y1 y2 y3 y4 y5
      unfold carryoverlaw03_RealOrder.j1
      repeat' first
      | (with_reducible exact ih0 _ _ _ _ _ _ _)
      | (with_reducible exact ih1 _ _ _ _ _ _)
      | (with_reducible exact LeO.refl _)
      | (with_reducible exact LeO.none _)
      | (with_reducible refine LeO.ite ?_ ?_)
      | (with_reducible refine LeO.bind ?_ (fun _ => ?_))
      | exact ih0 _ _ _ _ _ _ _
      | exact ih1 _ _ _ _ _ _
      | exact LeO.none _
      | refine LeO.ite ?_ ?_
      | refine LeO.bind ?_ (fun _ => ?_)
theorem carryoverlaw03_RealOrder.mono : ∀ a0 a1 a2 k, LeO (carryoverlaw03_RealOrder.f k a0 a1 a2) (carryoverlaw03_RealOrder.f (k + 1) a0 a1 a2) := by
  intro a0 a1 a2 k
  obtain ⟨ih0, ih1⟩ := carryoverlaw03_RealOrder.mono_l k
  unfold carryoverlaw03_RealOrder.f
  repeat' first
      | (with_reducible exact ih0 _ _ _ _ _ _ _)
      | (with_reducible exact ih1 _ _ _ _ _ _)
      | (with_reducible exact LeO.refl _)
      | (with_reducible exact LeO.none _)
      | (with_reducible refine LeO.ite ?_ ?_)
      | (with_reducible refine LeO.bind ?_ (fun _ => ?_))
      | exact ih0 _ _ _ _ _ _ _
      | exact ih1 _ _ _ _ _ _
      | exact LeO.none _
      | refine LeO.ite ?_ ?_
      | refine LeO.bind ?_ (fun _ => ?_)
set_option maxHeartbeats 8000000 in
set_option maxRecDepth 100000 in
theorem carryoverlaw03_RealOrder.calls (k : Nat) (a0 : Int) (a1 : Int) (a2 : Int) (r : Bool) (w : World) (h : carryoverlaw03_RealOrder.f k a0 a1 a2 = some r) :
    Calls Try.prog 3 #[.int .u64 a0, .int .u64 a1, .int .u64 a2] w fun e w' => e = .returned (.bool r) ∧ Below w.heap.size w w' := by
  have HB := Aside0.mk (Below.refl w.heap.size w)
  have H : ((carryoverlaw03_awake.f).bind fun t116 => (if t116 = true then ((carryoverlaw03_F.f a0).bind fun t117 => ((carryoverlaw03_F.f a1).bind fun t118 => ((carryoverlaw03_F.f a2).bind fun t119 => ((real_Cmp.f t117 t118).bind fun t120 => ((carryoverref03_Cmp.f a0 a1).bind fun t121 => (if t120 = t121 then ((real_Cmp.f t118 t117).bind fun t122 => (if t122 = (wrap64 (-t120)) then ((real_Cmp.f t117 t117).bind fun t123 => (carryoverlaw03_RealOrder.j0 k a0 a1 t117 t118 t119 t120 (t123 != 0))) else (carryoverlaw03_RealOrder.j0 k a0 a1 t117 t118 t119 t120 true))) else (carryoverlaw03_RealOrder.j0 k a0 a1 t117 t118 t119 t120 true))))))) else (some false))) = some r := h
  clear h
  replace H := Option.bind_eq_some_iff.mp H
  obtain ⟨t116, A40, H⟩ := H
  replace H : (if t116 = true then ((carryoverlaw03_F.f a0).bind fun t117 => ((carryoverlaw03_F.f a1).bind fun t118 => ((carryoverlaw03_F.f a2).bind fun t119 => ((real_Cmp.f t117 t118).bind fun t120 => ((carryoverref03_Cmp.f a0 a1).bind fun t121 => (if t120 = t121 then ((real_Cmp.f t118 t117).bind fun t122 => (if t122 = (wrap64 (-t120)) then ((real_Cmp.f t117 t117).bind fun t123 => (carryoverlaw03_RealOrder.j0 k a0 a1 t117 t118 t119 t120 (t123 != 0))) else (carryoverlaw03_RealOrder.j0 k a0 a1 t117 t118 t119 t120 true))) else (carryoverlaw03_RealOrder.j0 k a0 a1 t117 t118 t119 t120 true))))))) else (some false)) = some r := H
  have A4 := Aside0.mk A40
  clear A40
  by_cases c5 : t116 = true
  · subst c5
    have H1 : ((carryoverlaw03_F.f a0).bind fun t117 => ((carryoverlaw03_F.f a1).bind fun t118 => ((carryoverlaw03_F.f a2).bind fun t119 => ((real_Cmp.f t117 t118).bind fun t120 => ((carryoverref03_Cmp.f a0 a1).bind fun t121 => (if t120 = t121 then ((real_Cmp.f t118 t117).bind fun t122 => (if t122 = (wrap64 (-t120)) then ((real_Cmp.f t117 t117).bind fun t123 => (carryoverlaw03_RealOrder.j0 k a0 a1 t117 t118 t119 t120 (t123 != 0))) else (carryoverlaw03_RealOrder.j0 k a0 a1 t117 t118 t119 t120 true))) else (carryoverlaw03_RealOrder.j0 k a0 a1 t117 t118 t119 t120 true))))))) = some r := by rw [if_pos rfl] at H; exact H
    clear H
    have H := H1
    clear H1
    replace H := Option.bind_eq_some_iff.mp H
    obtain ⟨t117, A60, H⟩ := H
    replace H : ((carryoverlaw03_F.f a1).bind fun t118 => ((carryoverlaw03_F.f a2).bind fun t119 => ((real_Cmp.f t117 t118).bind fun t120 => ((carryoverref03_Cmp.f a0 a1).bind fun t121 => (if t120 = t121 then ((real_Cmp.f t118 t117).bind fun t122 => (if t122 = (wrap64 (-t120)) then ((real_Cmp.f t117 t117).bind fun t123 => (carryoverlaw03_RealOrder.j0 k a0 a1 t117 t118 t119 t120 (t123 != 0))) else (carryoverlaw03_RealOrder.j0 k a0 a1 t117 t118 t119 t120 true))) else (carryoverlaw03_RealOrder.j0 k a0 a1 t117 t118 t119 t120 true)))))) = some r := H
    have A6 := Aside0.mk A60
    clear A60
    replace H := Option.bind_eq_some_iff.mp H
    obtain ⟨t118, A70, H⟩ := H
    replace H : ((carryoverlaw03_F.f a2).bind fun t119 => ((real_Cmp.f t117 t118).bind fun t120 => ((carryoverref03_Cmp.f a0 a1).bind fun t121 => (if t120 = t121 then ((real_Cmp.f t118 t117).bind fun t122 => (if t122 = (wrap64 (-t120)) then ((real_Cmp.f t117 t117).bind fun t123 => (carryoverlaw03_RealOrder.j0 k a0 a1 t117 t118 t119 t120 (t123 != 0))) else (carryoverlaw03_RealOrder.j0 k a0 a1 t117 t118 t119 t120 true))) else (carryoverlaw03_RealOrder.j0 k a0 a1 t117 t118 t119 t120 true))))) = some r := H
    have A7 := Aside0.mk A70
    clear A70
    replace H := Option.bind_eq_some_iff.mp H
    obtain ⟨t119, A80, H⟩ := H
    replace H : ((real_Cmp.f t117 t118).bind fun t120 => ((carryoverref03_Cmp.f a0 a1).bind fun t121 => (if t120 = t121 then ((real_Cmp.f t118 t117).bind fun t122 => (if t122 = (wrap64 (-t120)) then ((real_Cmp.f t117 t117).bind fun t123 => (carryoverlaw03_RealOrder.j0 k a0 a1 t117 t118 t119 t120 (t123 != 0))) else (carryoverlaw03_RealOrder.j0 k a0 a1 t117 t118 t119 t120 true))) else (carryoverlaw03_RealOrder.j0 k a0 a1 t117 t118 t119 t120 true)))) = some r := H
    have A8 := Aside0.mk A80
    clear A80
    replace H := Option.bind_eq_some_iff.mp H
    obtain ⟨t120, A90, H⟩ := H
    replace H : ((carryoverref03_Cmp.f a0 a1).bind fun t121 => (if t120 = t121 then ((real_Cmp.f t118 t117).bind fun t122 => (if t122 = (wrap64 (-t120)) then ((real_Cmp.f t117 t117).bind fun t123 => (carryoverlaw03_RealOrder.j0 k a0 a1 t117 t118 t119 t120 (t123 != 0))) else (carryoverlaw03_RealOrder.j0 k a0 a1 t117 t118 t119 t120 true))) else (carryoverlaw03_RealOrder.j0 k a0 a1 t117 t118 t119 t120 true))) = some r := H
    have A9 := Aside0.mk A90
    clear A90
    have HC10 := Aside0.mk H
    clear H
    go_enter Try.func3, Try.ntmps3
    go_upto_region 5 with (first | ((with_reducible refine gate_callee (f := 15) rfl ?_); refine goesL_ (some 11) rfl rfl Try.func15 (by kernel_rfl) rfl #[] rfl (by (try simp only [List.map_toArray, List.map_cons, List.map_nil]); first | done | rfl | (simp only [List.length_drop, List.length_take]; rfl)) ?_; (with_reducible refine (carryoverlaw03_awake.calls  true _ A4.out).mono ?_); rintro e w11 ⟨rfl, hb⟩; refine ⟨_, rfl, ?_⟩; have n0_ := Aside0.mk (below_step (by repeat (first | (with_reducible first | exact HB.out | apply below_alloc | apply pw_below_drewN | apply below_drew1) | exact HB.out)) hb); clear HB; have HB := n0_; clear n0_; (try clear hb); (try clear hb2); (try clear hk); (try clear hi)) | ((with_reducible refine gate_callee (f := 16) rfl ?_); refine goesL_ (some 14) rfl rfl Try.func16 (by kernel_rfl) rfl #[.int .u64 a0] rfl (by (try simp only [List.map_toArray, List.map_cons, List.map_nil]); first | done | rfl | (simp only [List.length_drop, List.length_take]; rfl)) ?_; (with_reducible refine (carryoverlaw03_F.calls a0 t117 _ A6.out).mono ?_); rintro e w' ⟨rfl, ⟨nd, rfl⟩⟩; refine ⟨_, rfl, ?_⟩) | ((with_reducible refine gate_callee (f := 16) rfl ?_); refine goesL_ (some 16) rfl rfl Try.func16 (by kernel_rfl) rfl #[.int .u64 a1] rfl (by (try simp only [List.map_toArray, List.map_cons, List.map_nil]); first | done | rfl | (simp only [List.length_drop, List.length_take]; rfl)) ?_; (with_reducible refine (carryoverlaw03_F.calls a1 t118 _ A7.out).mono ?_); rintro e w' ⟨rfl, ⟨nd, rfl⟩⟩; refine ⟨_, rfl, ?_⟩) | ((with_reducible refine gate_callee (f := 16) rfl ?_); refine goesL_ (some 18) rfl rfl Try.func16 (by kernel_rfl) rfl #[.int .u64 a2] rfl (by (try simp only [List.map_toArray, List.map_cons, List.map_nil]); first | done | rfl | (simp only [List.length_drop, List.length_take]; rfl)) ?_; (with_reducible refine (carryoverlaw03_F.calls a2 t119 _ A8.out).mono ?_); rintro e w' ⟨rfl, ⟨nd, rfl⟩⟩; refine ⟨_, rfl, ?_⟩) | ((with_reducible refine gate_callee (f := 17) rfl ?_); refine goesL_ (some 21) rfl rfl Try.func17 (by kernel_rfl) rfl #[.float .f64 t117, .float .f64 t118] rfl (by (try simp only [List.map_toArray, List.map_cons, List.map_nil]); first | done | rfl | (simp only [List.length_drop, List.length_take]; rfl)) ?_; (with_reducible refine (real_Cmp.calls t117 t118 t120 _ A9.out).mono ?_); rintro e w' ⟨rfl, ⟨nd, rfl⟩⟩; refine ⟨_, rfl, ?_⟩))
    (try simp only [Act.put, List.setIfInBounds_toArray, List.set_cons_zero, List.set_cons_succ])
    go_cut [40] (fun v40 wc => ∃ (kq : Nat) (x40_9 : Bool), v40 = .bool x40_9 ∧ Aside0 (carryoverlaw03_RealOrder.j0 kq a0 a1 t117 t118 t119 t120 x40_9 = some r) ∧ Aside0 (kq ≤ k) ∧ Aside0 (Below w.heap.size w wc))
    case first =>
      have H := HC10.out
      clear HC10
      replace H := Option.bind_eq_some_iff.mp H
      obtain ⟨t121, A120, H⟩ := H
      replace H : (if t120 = t121 then ((real_Cmp.f t118 t117).bind fun t122 => (if t122 = (wrap64 (-t120)) then ((real_Cmp.f t117 t117).bind fun t123 => (carryoverlaw03_RealOrder.j0 k a0 a1 t117 t118 t119 t120 (t123 != 0))) else (carryoverlaw03_RealOrder.j0 k a0 a1 t117 t118 t119 t120 true))) else (carryoverlaw03_RealOrder.j0 k a0 a1 t117 t118 t119 t120 true)) = some r := H
      have A12 := Aside0.mk A120
      clear A120
      by_cases c13 : t120 = t121
      · rw [if_pos c13] at H
        have c13b0 : (t120 == t121) = true := beq_iff_eq.mpr c13
        have c13b1 : (t120 != t121) = false := bne_eq_false_iff_eq.mpr c13
        clear c13
        (first | rw [c13b0] | (simp only [i64_w, i32_w]; rw [c13b0]) | skip)
        replace H := Option.bind_eq_some_iff.mp H
        obtain ⟨t122, A140, H⟩ := H
        replace H : (if t122 = (wrap64 (-t120)) then ((real_Cmp.f t117 t117).bind fun t123 => (carryoverlaw03_RealOrder.j0 k a0 a1 t117 t118 t119 t120 (t123 != 0))) else (carryoverlaw03_RealOrder.j0 k a0 a1 t117 t118 t119 t120 true)) = some r := H
        have A14 := Aside0.mk A140
        clear A140
        by_cases c15 : t122 = (wrap64 (-t120))
        · rw [if_pos c15] at H
          have c15b0 : (t122 == (wrap64 (-t120))) = true := beq_iff_eq.mpr c15
          have c15b1 : (t122 != (wrap64 (-t120))) = false := bne_eq_false_iff_eq.mpr c15
          clear c15
          replace H := Option.bind_eq_some_iff.mp H
          obtain ⟨t123, A160, H⟩ := H
          replace H : (carryoverlaw03_RealOrder.j0 k a0 a1 t117 t118 t119 t120 (t123 != 0)) = some r := H
          have A16 := Aside0.mk A160
          clear A160
          have H' := Aside0.mk H
          clear H
          go_wp2_with (first | ((with_reducible refine gate_callee (f := 18) rfl ?_); refine goesL_ (some 25) rfl rfl Try.func18 (by kernel_rfl) rfl #[.int .u64 a0, .int .u64 a1] rfl (by (try simp only [List.map_toArray, List.map_cons, List.map_nil]); first | done | rfl | (simp only [List.length_drop, List.length_take]; rfl)) ?_; (with_reducible refine (carryoverref03_Cmp.calls a0 a1 t121 _ A12.out).mono ?_); rintro e w' ⟨rfl, ⟨nd, rfl⟩⟩; refine ⟨_, rfl, ?_⟩) | (go_at_call 17; (with_reducible refine (real_Cmp.calls t118 t117 t122 _ A14.out).mono ?_); rintro e w' ⟨rfl, ⟨nd, rfl⟩⟩) | (go_at_call 17; (with_reducible refine (real_Cmp.calls t117 t117 t123 _ A16.out).mono ?_); rintro e w' ⟨rfl, ⟨nd, rfl⟩⟩))
          go_meet
          case rel => exact ⟨_, ((t123 != 0)), (by first | rfl | (simp; done) | (simp [*]; done)), H', ⟨by first | omega | exact Nat.le_refl _⟩, ⟨by repeat (first | (with_reducible first | exact HB.out | apply below_alloc | apply pw_below_drewN | apply below_drew1) | exact HB.out)⟩⟩
        · rw [if_neg c15] at H
          have c15b0 : (t122 == (wrap64 (-t120))) = false := beq_eq_false_iff_ne.mpr c15
          have c15b1 : (t122 != (wrap64 (-t120))) = true := bne_iff_ne.mpr c15
          have H' := Aside0.mk H
          clear H
          go_wp2_with (first | ((with_reducible refine gate_callee (f := 18) rfl ?_); refine goesL_ (some 25) rfl rfl Try.func18 (by kernel_rfl) rfl #[.int .u64 a0, .int .u64 a1] rfl (by (try simp only [List.map_toArray, List.map_cons, List.map_nil]); first | done | rfl | (simp only [List.length_drop, List.length_take]; rfl)) ?_; (with_reducible refine (carryoverref03_Cmp.calls a0 a1 t121 _ A12.out).mono ?_); rintro e w' ⟨rfl, ⟨nd, rfl⟩⟩; refine ⟨_, rfl, ?_⟩) | (go_at_call 17; (with_reducible refine (real_Cmp.calls t118 t117 t122 _ A14.out).mono ?_); rintro e w' ⟨rfl, ⟨nd, rfl⟩⟩))
          go_meet
          case rel => exact ⟨_, (true), (by first | rfl | (simp; done) | (simp [*]; done)), H', ⟨by first | omega | exact Nat.le_refl _⟩, ⟨by repeat (first | (with_reducible first | exact HB.out | apply below_alloc | apply pw_below_drewN | apply below_drew1) | exact HB.out)⟩⟩
      · rw [if_neg c13] at H
        have c13b0 : (t120 == t121) = false := beq_eq_false_iff_ne.mpr c13
        have c13b1 : (t120 != t121) = true := bne_iff_ne.mpr c13
        (first | rw [c13b0] | (simp only [i64_w, i32_w]; rw [c13b0]) | skip)
        have H' := Aside0.mk H
        clear H
        go_wp2_with (first | ((with_reducible refine gate_callee (f := 18) rfl ?_); refine goesL_ (some 25) rfl rfl Try.func18 (by kernel_rfl) rfl #[.int .u64 a0, .int .u64 a1] rfl (by (try simp only [List.map_toArray, List.map_cons, List.map_nil]); first | done | rfl | (simp only [List.length_drop, List.length_take]; rfl)) ?_; (with_reducible refine (carryoverref03_Cmp.calls a0 a1 t121 _ A12.out).mono ?_); rintro e w' ⟨rfl, ⟨nd, rfl⟩⟩; refine ⟨_, rfl, ?_⟩))
        go_meet
        case rel => exact ⟨_, (true), (by first | rfl | (simp; done) | (simp [*]; done)), H', ⟨by first | omega | exact Nat.le_refl _⟩, ⟨by repeat (first | (with_reducible first | exact HB.out | apply below_alloc | apply pw_below_drewN | apply below_drew1) | exact HB.out)⟩⟩
    case rest =>
      clear HC10
      try clear c1
      try clear p2
      try clear c3
      try clear c5
      try clear p6
      try clear c13
      try clear c13b0
      try clear c13b1
      try clear c15
      try clear c15b0
      try clear c15b1
      try clear c16
      obtain ⟨kq, x40_9, rfl, HA, HJ9, HB⟩ := hcut
      cases kq with
      | zero => exact absurd HA.out (by simp [carryoverlaw03_RealOrder.j0])
      | succ kj9 =>
        have H := HA.out
        clear HA
        simp only [carryoverlaw03_RealOrder.j0] at H
        by_cases c17 : x40_9 = true
        · subst c17
          have H1 : (some false) = some r := by rw [if_pos rfl] at H; exact H
          clear H
          have H := H1
          clear H1
          obtain rfl := Option.some.inj H
          go_wp2
          go_ret
          exact ⟨by first | rfl | (simp [errW_none, errW_some] <;> rfl) | (simp [*, errW_none, errW_some] <;> rfl), by repeat (first | (with_reducible first | exact HB.out | apply below_alloc | apply pw_below_drewN | apply below_drew1) | exact HB.out)⟩
        · replace c17 := Bool.eq_false_iff.mpr c17
          subst c17
          have H1 : (if t120 ≤ 0 then ((real_Cmp.f t118 t119).bind fun t124 => (if t124 ≤ 0 then ((real_Cmp.f t117 t119).bind fun t125 => (carryoverlaw03_RealOrder.j1 kj9 a0 a1 t117 t118 t120 (decide (t125 > 0)))) else (carryoverlaw03_RealOrder.j1 kj9 a0 a1 t117 t118 t120 false))) else (carryoverlaw03_RealOrder.j1 kj9 a0 a1 t117 t118 t120 false)) = some r := by rw [if_neg (show ¬ (false = true) by decide)] at H; exact H
          clear H
          have H := H1
          clear H1
          have HC18 := Aside0.mk H
          clear H
          go_upto_region 7 with (fail)
          go_cut [54] (fun v54 wc => ∃ (kq : Nat) (x54_17 : Bool), v54 = .bool x54_17 ∧ Aside0 (carryoverlaw03_RealOrder.j1 kq a0 a1 t117 t118 t120 x54_17 = some r) ∧ Aside0 (kq ≤ kj9) ∧ Aside0 (Below w.heap.size w wc))
          case first =>
            have H := HC18.out
            clear HC18
            by_cases c19 : t120 ≤ 0
            · rw [if_pos c19] at H
              have c19b0 : decide (t120 ≤ 0) = true := decide_eq_true c19
              clear c19
              (first | rw [c19b0] | (simp only [i64_w, i32_w]; rw [c19b0]) | skip)
              replace H := Option.bind_eq_some_iff.mp H
              obtain ⟨t124, A200, H⟩ := H
              replace H : (if t124 ≤ 0 then ((real_Cmp.f t117 t119).bind fun t125 => (carryoverlaw03_RealOrder.j1 kj9 a0 a1 t117 t118 t120 (decide (t125 > 0)))) else (carryoverlaw03_RealOrder.j1 kj9 a0 a1 t117 t118 t120 false)) = some r := H
              have A20 := Aside0.mk A200
              clear A200
              by_cases c21 : t124 ≤ 0
              · rw [if_pos c21] at H
                have c21b0 : decide (t124 ≤ 0) = true := decide_eq_true c21
                clear c21
                replace H := Option.bind_eq_some_iff.mp H
                obtain ⟨t125, A220, H⟩ := H
                replace H : (carryoverlaw03_RealOrder.j1 kj9 a0 a1 t117 t118 t120 (decide (t125 > 0))) = some r := H
                have A22 := Aside0.mk A220
                clear A220
                have H' := Aside0.mk H
                clear H
                go_wp2_with (first | (go_at_call 17; (with_reducible refine (real_Cmp.calls t118 t119 t124 _ A20.out).mono ?_); rintro e w' ⟨rfl, ⟨nd, rfl⟩⟩) | (go_at_call 17; (with_reducible refine (real_Cmp.calls t117 t119 t125 _ A22.out).mono ?_); rintro e w' ⟨rfl, ⟨nd, rfl⟩⟩))
                go_meet
                case rel => exact ⟨_, (decide (t125 > 0)), (by first | rfl | (simp; done) | (simp [*]; done)), H', ⟨by have := HJ9.out; first | omega | exact Nat.le_refl _⟩, ⟨by repeat (first | (with_reducible first | exact HB.out | apply below_alloc | apply pw_below_drewN | apply below_drew1) | exact HB.out)⟩⟩
              · rw [if_neg c21] at H
                have c21b0 : decide (t124 ≤ 0) = false := decide_eq_false c21
                clear c21
                have H' := Aside0.mk H
                clear H
                go_wp2_with (first | (go_at_call 17; (with_reducible refine (real_Cmp.calls t118 t119 t124 _ A20.out).mono ?_); rintro e w' ⟨rfl, ⟨nd, rfl⟩⟩))
                go_meet
                case rel => exact ⟨_, (false), (by first | rfl | (simp; done) | (simp [*]; done)), H', ⟨by have := HJ9.out; first | omega | exact Nat.le_refl _⟩, ⟨by repeat (first | (with_reducible first | exact HB.out | apply below_alloc | apply pw_below_drewN | apply below_drew1) | exact HB.out)⟩⟩
            · rw [if_neg c19] at H
              have c19b0 : decide (t120 ≤ 0) = false := decide_eq_false c19
              clear c19
              (first | rw [c19b0] | (simp only [i64_w, i32_w]; rw [c19b0]) | skip)
              have H' := Aside0.mk H
              clear H
              go_wp2
              go_meet
              case rel => exact ⟨_, (false), (by first | rfl | (simp; done) | (simp [*]; done)), H', ⟨by have := HJ9.out; first | omega | exact Nat.le_refl _⟩, ⟨by repeat (first | (with_reducible first | exact HB.out | apply below_alloc | apply pw_below_drewN | apply below_drew1) | exact HB.out)⟩⟩
          case rest =>
            clear HC18
            try clear c1
            try clear c2
            try clear p2
            try clear c3
            try clear c5
            try clear p6
            try clear c13
            try clear c13b0
            try clear c13b1
            try clear c15
            try clear c15b0
            try clear c15b1
            try clear c16
            try clear c17
            try clear c18
            try clear c19
            try clear c19b0
            try clear c21
            try clear c21b0
            try clear p2
            try clear p6
            obtain ⟨kq, x54_17, rfl, HA, HJ17, HB⟩ := hcut
            cases kq with
            | zero => exact absurd HA.out (by simp [carryoverlaw03_RealOrder.j1])
            | succ kj17 =>
              have H := HA.out
              clear HA
              simp only [carryoverlaw03_RealOrder.j1] at H
              by_cases c23 : x54_17 = true
              · subst c23
                have H1 : (some false) = some r := by rw [if_pos rfl] at H; exact H
                clear H
                have H := H1
                clear H1
                obtain rfl := Option.some.inj H
                go_wp2
                go_ret
                exact ⟨by first | rfl | (simp [errW_none, errW_some] <;> rfl) | (simp [*, errW_none, errW_some] <;> rfl), by repeat (first | (with_reducible first | exact HB.out | apply below_alloc | apply pw_below_drewN | apply below_drew1) | exact HB.out)⟩
              · replace c23 := Bool.eq_false_iff.mpr c23
                subst c23
                have H1 : ((carryoverref03_Class.f a0).bind fun t126 => (if t126 = 3 then (some true) else ((carryoverref03_Class.f a1).bind fun t127 => (if t127 = 3 then (some true) else ((carryoverref03_Class.f a0).bind fun t128 => (if (wrap64 (t128 + t127)) = 0 then (some true) else (if ((FloatKind.f64.format.order t117 t118 == some Ordering.lt) == (decide (t120 < 0))) = true then (some ((FloatKind.f64.format.order t117 t118 == some Ordering.gt) == (decide (t120 > 0)))) else (some false)))))))) = some r := by rw [if_neg (show ¬ (false = true) by decide)] at H; exact H
                clear H
                have H := H1
                clear H1
                replace H := Option.bind_eq_some_iff.mp H
                obtain ⟨t126, A240, H⟩ := H
                replace H : (if t126 = 3 then (some true) else ((carryoverref03_Class.f a1).bind fun t127 => (if t127 = 3 then (some true) else ((carryoverref03_Class.f a0).bind fun t128 => (if (wrap64 (t128 + t127)) = 0 then (some true) else (if ((FloatKind.f64.format.order t117 t118 == some Ordering.lt) == (decide (t120 < 0))) = true then (some ((FloatKind.f64.format.order t117 t118 == some Ordering.gt) == (decide (t120 > 0)))) else (some false))))))) = some r := H
                have A24 := Aside0.mk A240
                clear A240
                by_cases c25 : t126 = 3
                · rw [if_pos c25] at H
                  have c25b0 : (t126 == 3) = true := beq_iff_eq.mpr c25
                  have c25b1 : (t126 != 3) = false := bne_eq_false_iff_eq.mpr c25
                  clear c25
                  obtain rfl := Option.some.inj H
                  go_wp2_with (first | ((with_reducible refine gate_callee (f := 19) rfl ?_); refine goesL_ (some 56) rfl rfl Try.func19 (by kernel_rfl) rfl #[.int .u64 a0] rfl (by (try simp only [List.map_toArray, List.map_cons, List.map_nil]); first | done | rfl | (simp only [List.length_drop, List.length_take]; rfl)) ?_; (with_reducible refine (carryoverref03_Class.calls a0 t126 _ A24.out).mono ?_); rintro e w' ⟨rfl, ⟨nd, rfl⟩⟩; refine ⟨_, rfl, ?_⟩))
                  go_ret
                  exact ⟨by first | rfl | (simp [errW_none, errW_some] <;> rfl) | (simp [*, errW_none, errW_some] <;> rfl), by repeat (first | (with_reducible first | exact HB.out | apply below_alloc | apply pw_below_drewN | apply below_drew1) | exact HB.out)⟩
                · rw [if_neg c25] at H
                  have c25b0 : (t126 == 3) = false := beq_eq_false_iff_ne.mpr c25
                  have c25b1 : (t126 != 3) = true := bne_iff_ne.mpr c25
                  replace H := Option.bind_eq_some_iff.mp H
                  obtain ⟨t127, A260, H⟩ := H
                  replace H : (if t127 = 3 then (some true) else ((carryoverref03_Class.f a0).bind fun t128 => (if (wrap64 (t128 + t127)) = 0 then (some true) else (if ((FloatKind.f64.format.order t117 t118 == some Ordering.lt) == (decide (t120 < 0))) = true then (some ((FloatKind.f64.format.order t117 t118 == some Ordering.gt) == (decide (t120 > 0)))) else (some false))))) = some r := H
                  have A26 := Aside0.mk A260
                  clear A260
                  by_cases c27 : t127 = 3
                  · rw [if_pos c27] at H
                    have c27b0 : (t127 == 3) = true := beq_iff_eq.mpr c27
                    have c27b1 : (t127 != 3) = false := bne_eq_false_iff_eq.mpr c27
                    clear c27
                    obtain rfl := Option.some.inj H
                    go_wp2_with (first | ((with_reducible refine gate_callee (f := 19) rfl ?_); refine goesL_ (some 56) rfl rfl Try.func19 (by kernel_rfl) rfl #[.int .u64 a0] rfl (by (try simp only [List.map_toArray, List.map_cons, List.map_nil]); first | done | rfl | (simp only [List.length_drop, List.length_take]; rfl)) ?_; (with_reducible refine (carryoverref03_Class.calls a0 t126 _ A24.out).mono ?_); rintro e w' ⟨rfl, ⟨nd, rfl⟩⟩; refine ⟨_, rfl, ?_⟩) | (go_at_call 19; (with_reducible refine (carryoverref03_Class.calls a1 t127 _ A26.out).mono ?_); rintro e w' ⟨rfl, ⟨nd, rfl⟩⟩))
                    go_ret
                    exact ⟨by first | rfl | (simp [errW_none, errW_some] <;> rfl) | (simp [*, errW_none, errW_some] <;> rfl), by repeat (first | (with_reducible first | exact HB.out | apply below_alloc | apply pw_below_drewN | apply below_drew1) | exact HB.out)⟩
                  · rw [if_neg c27] at H
                    have c27b0 : (t127 == 3) = false := beq_eq_false_iff_ne.mpr c27
                    have c27b1 : (t127 != 3) = true := bne_iff_ne.mpr c27
                    replace H := Option.bind_eq_some_iff.mp H
                    obtain ⟨t128, A280, H⟩ := H
                    replace H : (if (wrap64 (t128 + t127)) = 0 then (some true) else (if ((FloatKind.f64.format.order t117 t118 == some Ordering.lt) == (decide (t120 < 0))) = true then (some ((FloatKind.f64.format.order t117 t118 == some Ordering.gt) == (decide (t120 > 0)))) else (some false))) = some r := H
                    have A28 := Aside0.mk A280
                    clear A280
                    by_cases c29 : (wrap64 (t128 + t127)) = 0
                    · rw [if_pos c29] at H
                      have c29b0 : ((wrap64 (t128 + t127)) == 0) = true := beq_iff_eq.mpr c29
                      have c29b1 : ((wrap64 (t128 + t127)) != 0) = false := bne_eq_false_iff_eq.mpr c29
                      clear c29
                      obtain rfl := Option.some.inj H
                      go_wp2_with (first | ((with_reducible refine gate_callee (f := 19) rfl ?_); refine goesL_ (some 56) rfl rfl Try.func19 (by kernel_rfl) rfl #[.int .u64 a0] rfl (by (try simp only [List.map_toArray, List.map_cons, List.map_nil]); first | done | rfl | (simp only [List.length_drop, List.length_take]; rfl)) ?_; (with_reducible refine (carryoverref03_Class.calls a0 t126 _ A24.out).mono ?_); rintro e w' ⟨rfl, ⟨nd, rfl⟩⟩; refine ⟨_, rfl, ?_⟩) | (go_at_call 19; (with_reducible refine (carryoverref03_Class.calls a1 t127 _ A26.out).mono ?_); rintro e w' ⟨rfl, ⟨nd, rfl⟩⟩) | (go_at_call 19; (with_reducible refine (carryoverref03_Class.calls a0 t128 _ A28.out).mono ?_); rintro e w' ⟨rfl, ⟨nd, rfl⟩⟩))
                      go_ret
                      exact ⟨by first | rfl | (simp [errW_none, errW_some] <;> rfl) | (simp [*, errW_none, errW_some] <;> rfl), by repeat (first | (with_reducible first | exact HB.out | apply below_alloc | apply pw_below_drewN | apply below_drew1) | exact HB.out)⟩
                    · rw [if_neg c29] at H
                      have c29b0 : ((wrap64 (t128 + t127)) == 0) = false := beq_eq_false_iff_ne.mpr c29
                      have c29b1 : ((wrap64 (t128 + t127)) != 0) = true := bne_iff_ne.mpr c29
                      by_cases c30 : ((FloatKind.f64.format.order t117 t118 == some Ordering.lt) == (decide (t120 < 0))) = true
                      · rw [if_pos c30] at H
                        have c30b0 : ((FloatKind.f64.format.order t117 t118 == some Ordering.lt) == (decide (t120 < 0))) = true := c30
                        (try (have c30b1 : decide ((FloatKind.f64.format.order t117 t118 == some Ordering.lt) = (decide (t120 < 0))) = true := by simpa using c30))
                        (try (have c30b2 : ((FloatKind.f64.format.order t117 t118 == some Ordering.lt) == (decide (t120 < 0))) = true := by simpa using c30))
                        clear c30
                        obtain rfl := Option.some.inj H
                        go_wp2_with (first | ((with_reducible refine gate_callee (f := 19) rfl ?_); refine goesL_ (some 56) rfl rfl Try.func19 (by kernel_rfl) rfl #[.int .u64 a0] rfl (by (try simp only [List.map_toArray, List.map_cons, List.map_nil]); first | done | rfl | (simp only [List.length_drop, List.length_take]; rfl)) ?_; (with_reducible refine (carryoverref03_Class.calls a0 t126 _ A24.out).mono ?_); rintro e w' ⟨rfl, ⟨nd, rfl⟩⟩; refine ⟨_, rfl, ?_⟩) | (go_at_call 19; (with_reducible refine (carryoverref03_Class.calls a1 t127 _ A26.out).mono ?_); rintro e w' ⟨rfl, ⟨nd, rfl⟩⟩) | (go_at_call 19; (with_reducible refine (carryoverref03_Class.calls a0 t128 _ A28.out).mono ?_); rintro e w' ⟨rfl, ⟨nd, rfl⟩⟩))
                        go_ret
                        exact ⟨by first | rfl | (simp [errW_none, errW_some] <;> rfl) | (simp [*, errW_none, errW_some] <;> rfl), by repeat (first | (with_reducible first | exact HB.out | apply below_alloc | apply pw_below_drewN | apply below_drew1) | exact HB.out)⟩
                      · rw [if_neg c30] at H
                        have c30b0 : ((FloatKind.f64.format.order t117 t118 == some Ordering.lt) == (decide (t120 < 0))) = false := by simpa using c30
                        (try (have c30b1 : decide ((FloatKind.f64.format.order t117 t118 == some Ordering.lt) = (decide (t120 < 0))) = false := by simpa using c30))
                        (try (have c30b2 : ((FloatKind.f64.format.order t117 t118 == some Ordering.lt) == (decide (t120 < 0))) = false := by simpa using c30))
                        (try (have c30b3 : ¬ ((FloatKind.f64.format.order t117 t118 == some Ordering.lt) = (decide (t120 < 0))) := by simpa using c30))
                        clear c30
                        obtain rfl := Option.some.inj H
                        go_wp2_with (first | ((with_reducible refine gate_callee (f := 19) rfl ?_); refine goesL_ (some 56) rfl rfl Try.func19 (by kernel_rfl) rfl #[.int .u64 a0] rfl (by (try simp only [List.map_toArray, List.map_cons, List.map_nil]); first | done | rfl | (simp only [List.length_drop, List.length_take]; rfl)) ?_; (with_reducible refine (carryoverref03_Class.calls a0 t126 _ A24.out).mono ?_); rintro e w' ⟨rfl, ⟨nd, rfl⟩⟩; refine ⟨_, rfl, ?_⟩) | (go_at_call 19; (with_reducible refine (carryoverref03_Class.calls a1 t127 _ A26.out).mono ?_); rintro e w' ⟨rfl, ⟨nd, rfl⟩⟩) | (go_at_call 19; (with_reducible refine (carryoverref03_Class.calls a0 t128 _ A28.out).mono ?_); rintro e w' ⟨rfl, ⟨nd, rfl⟩⟩))
                        go_ret
                        exact ⟨by first | rfl | (simp [errW_none, errW_some] <;> rfl) | (simp [*, errW_none, errW_some] <;> rfl), by repeat (first | (with_reducible first | exact HB.out | apply below_alloc | apply pw_below_drewN | apply below_drew1) | exact HB.out)⟩
  · replace c5 := Bool.eq_false_iff.mpr c5
    subst c5
    have H1 : (some false) = some r := by rw [if_neg (show ¬ (false = true) by decide)] at H; exact H
    clear H
    have H := H1
    clear H1
    obtain rfl := Option.some.inj H
    go_enter Try.func3, Try.ntmps3
    go_wp2_with (first | ((with_reducible refine gate_callee (f := 15) rfl ?_); refine goesL_ (some 11) rfl rfl Try.func15 (by kernel_rfl) rfl #[] rfl (by (try simp only [List.map_toArray, List.map_cons, List.map_nil]); first | done | rfl | (simp only [List.length_drop, List.length_take]; rfl)) ?_; (with_reducible refine (carryoverlaw03_awake.calls  false _ A4.out).mono ?_); rintro e w31 ⟨rfl, hb⟩; refine ⟨_, rfl, ?_⟩; have n0_ := Aside0.mk (below_step (by repeat (first | (with_reducible first | exact HB.out | apply below_alloc | apply pw_below_drewN | apply below_drew1) | exact HB.out)) hb); clear HB; have HB := n0_; clear n0_; (try clear hb); (try clear hb2); (try clear hk); (try clear hi)))
    go_ret
    exact ⟨by first | rfl | (simp [errW_none, errW_some] <;> rfl) | (simp [*, errW_none, errW_some] <;> rfl), by repeat (first | (with_reducible first | exact HB.out | apply below_alloc | apply pw_below_drewN | apply below_drew1) | exact HB.out)⟩

/-- THE ONE PURE STATEMENT of carryoverlaw03_RealOrder: yours. -/
def carryoverlaw03_RealOrder.Pure : Prop := ∀ (a0 : Int) (a1 : Int) (a2 : Int), (Lit.int .u64 a0).wf = true → (Lit.int .u64 a1).wf = true → (Lit.int .u64 a2).wf = true → ∃ k, carryoverlaw03_RealOrder.f k a0 a1 a2 = some true
theorem carryoverlaw03_RealOrder.walk (P : carryoverlaw03_RealOrder.Pure) (a0 : Int) (a1 : Int) (a2 : Int) (w : World) (w0 : (Lit.int .u64 a0).wf = true) (w1 : (Lit.int .u64 a1).wf = true) (w2 : (Lit.int .u64 a2).wf = true) :
    Calls Try.prog 3 #[.int .u64 a0, .int .u64 a1, .int .u64 a2] w fun e w' => e = .returned (.bool true) ∧ Below w.heap.size w w' := by
  obtain ⟨k, h⟩ := P a0 a1 a2 w0 w1 w2
  refine (carryoverlaw03_RealOrder.calls k a0 a1 a2 true w h).mono ?_
  rintro e w' ⟨rfl, hd⟩
  exact ⟨rfl, hd⟩

end Go.Proofs.Ytlglcnljjpedcaa.PReal
