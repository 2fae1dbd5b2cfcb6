-- Written by a program of this session (wip/fprint) out of the translation: each Go function as a Lean function, and its walk.
import Derived.Test.YtlglcnljjpedcaaPRealx0
import Derived.Test.YtlglcnljjpedcaaPRealx1
import Derived.Test.YtlglcnljjpedcaaPRealx2
import Derived.Test.YtlglcnljjpedcaaPRealx3
namespace Go.Proofs.Ytlglcnljjpedcaa.PReal
open Go.RowKit Go.Proofs.YtlglcnljjpedcaaW.PrintWords Go.Proofs.YtlglcnljjpedcaaW.PrintLast Go.Proofs.YtlglcnljjpedcaaW.PrintMore
attribute [local go_sem] max2_int min2_int max_two min_two max_three min_three max_four min_four   -- for this text's walks alone
set_option linter.unusedVariables false
set_option linter.unusedSimpArgs false

/-! ### carryoverlaw03_RealTurns: function 5 -/
def carryoverlaw03_RealTurns.j0 : Nat → Int → Int → Bool → Option (Bool)
  | 0, _, _, _ => none
  | k + 1, x0, x1, x16 => if x16 = true then (some true) else ((carryoverlaw03_F.f x0).bind fun t149 => ((carryoverlaw03_F.f x1).bind fun t150 => ((carryoverlaw03_F.f (Go.bits .xor .u64 x1 9223372036854775808)).bind fun t151 => ((carryoverlaw03_F.f (Go.bits .xor .u64 x0 9223372036854775808)).bind fun t152 => ((real_Cmp.f t151 t152).bind fun t153 => ((real_Cmp.f t149 t150).bind fun t154 => (if t153 = t154 then ((carryoverlaw03_F.f (Go.bits .xor .u64 x0 9223372036854775808)).bind fun t155 => ((real_Key.f t155).bind fun t156 => ((real_Key.f t149).bind fun t157 => (if t156 = (Go.bits .xor .u64 IntKind.u64.max t157) then ((real_Class.f t155).bind fun t158 => ((real_Class.f t149).bind fun t159 => (some (t158 == t159)))) else (some false))))) else (some false))))))))
def carryoverlaw03_RealTurns.f (k : Nat) (a0 : Int) (a1 : Int) : Option (Bool) := (carryoverlaw03_awake.f).bind fun t146 => (if t146 = true then ((carryoverref03_Class.f a0).bind fun t147 => (if t147 = 3 then (carryoverlaw03_RealTurns.j0 k a0 a1 true) else ((carryoverref03_Class.f a1).bind fun t148 => (carryoverlaw03_RealTurns.j0 k a0 a1 (t148 == 3))))) else (some false))
theorem carryoverlaw03_RealTurns.mono_l : ∀ k, (∀ y0 y1 y2, LeO (carryoverlaw03_RealTurns.j0 k y0 y1 y2) (carryoverlaw03_RealTurns.j0 (k + 1) y0 y1 y2))
  | 0 => fun _ _ _ r h => by simp [carryoverlaw03_RealTurns.j0] at h
  | k + 1 => by
    have ih0 := carryoverlaw03_RealTurns.mono_l k
    · intro y0 y1 y2
      unfold carryoverlaw03_RealTurns.j0
      repeat' first
      | (with_reducible exact ih0 _ _ _)
      | (with_reducible exact LeO.refl _)
      | (with_reducible exact LeO.none _)
      | (with_reducible refine LeO.ite ?_ ?_)
      | (with_reducible refine LeO.bind ?_ (fun _ => ?_))
      | exact ih0 _ _ _
      | exact LeO.none _
      | refine LeO.ite ?_ ?_
      | refine LeO.bind ?_ (fun _ => ?_)
theorem carryoverlaw03_RealTurns.mono : ∀ a0 a1 k, LeO (carryoverlaw03_RealTurns.f k a0 a1) (carryoverlaw03_RealTurns.f (k + 1) a0 a1) := by
  intro a0 a1 k
  have ih0 := carryoverlaw03_RealTurns.mono_l k
  unfold carryoverlaw03_RealTurns.f
  repeat' first
      | (with_reducible exact ih0 _ _ _)
      | (with_reducible exact LeO.refl _)
      | (with_reducible exact LeO.none _)
      | (with_reducible refine LeO.ite ?_ ?_)
      | (with_reducible refine LeO.bind ?_ (fun _ => ?_))
      | exact ih0 _ _ _
      | exact LeO.none _
      | refine LeO.ite ?_ ?_
      | refine LeO.bind ?_ (fun _ => ?_)
set_option maxHeartbeats 8000000 in
set_option maxRecDepth 100000 in
theorem carryoverlaw03_RealTurns.calls (k : Nat) (a0 : Int) (a1 : Int) (r : Bool) (w : World) (h : carryoverlaw03_RealTurns.f k a0 a1 = some r) :
    Calls Try.prog 5 #[.int .u64 a0, .int .u64 a1] w fun e w' => e = .returned (.bool r) ∧ Below w.heap.size w w' := by
  have HB := Aside0.mk (Below.refl w.heap.size w)
  have H : ((carryoverlaw03_awake.f).bind fun t146 => (if t146 = true then ((carryoverref03_Class.f a0).bind fun t147 => (if t147 = 3 then (carryoverlaw03_RealTurns.j0 k a0 a1 true) else ((carryoverref03_Class.f a1).bind fun t148 => (carryoverlaw03_RealTurns.j0 k a0 a1 (t148 == 3))))) else (some false))) = some r := h
  clear h
  replace H := Option.bind_eq_some_iff.mp H
  obtain ⟨t146, A30, H⟩ := H
  replace H : (if t146 = true then ((carryoverref03_Class.f a0).bind fun t147 => (if t147 = 3 then (carryoverlaw03_RealTurns.j0 k a0 a1 true) else ((carryoverref03_Class.f a1).bind fun t148 => (carryoverlaw03_RealTurns.j0 k a0 a1 (t148 == 3))))) else (some false)) = some r := H
  have A3 := Aside0.mk A30
  clear A30
  by_cases c4 : t146 = true
  · subst c4
    have H1 : ((carryoverref03_Class.f a0).bind fun t147 => (if t147 = 3 then (carryoverlaw03_RealTurns.j0 k a0 a1 true) else ((carryoverref03_Class.f a1).bind fun t148 => (carryoverlaw03_RealTurns.j0 k a0 a1 (t148 == 3))))) = some r := by rw [if_pos rfl] at H; exact H
    clear H
    have H := H1
    clear H1
    have HC5 := Aside0.mk H
    clear H
    go_enter Try.func5, Try.ntmps5
    go_upto_region 3 with (first | ((with_reducible refine gate_callee (f := 15) rfl ?_); refine goesL_ (some 7) rfl rfl Try.func15 (by kernel_rfl) rfl #[] rfl (by (try simp only [List.map_toArray, List.map_cons, List.map_nil]); first | done | rfl | (simp only [List.length_drop, List.length_take]; rfl)) ?_; (with_reducible refine (carryoverlaw03_awake.calls  true _ A3.out).mono ?_); rintro e w6 ⟨rfl, hb⟩; refine ⟨_, rfl, ?_⟩; have n0_ := Aside0.mk (below_step (by repeat (first | (with_reducible first | exact HB.out | apply below_alloc | apply pw_below_drewN | apply below_drew1) | exact HB.out)) hb); clear HB; have HB := n0_; clear n0_; (try clear hb); (try clear hb2); (try clear hk); (try clear hi)))
    (try simp only [Act.put, List.setIfInBounds_toArray, List.set_cons_zero, List.set_cons_succ])
    go_cut [16] (fun v16 wc => ∃ (kq : Nat) (x16_4 : Bool), v16 = .bool x16_4 ∧ Aside0 (carryoverlaw03_RealTurns.j0 kq a0 a1 x16_4 = some r) ∧ Aside0 (kq ≤ k) ∧ Aside0 (Below w.heap.size w wc))
    case first =>
      have H := HC5.out
      clear HC5
      replace H := Option.bind_eq_some_iff.mp H
      obtain ⟨t147, A70, H⟩ := H
      replace H : (if t147 = 3 then (carryoverlaw03_RealTurns.j0 k a0 a1 true) else ((carryoverref03_Class.f a1).bind fun t148 => (carryoverlaw03_RealTurns.j0 k a0 a1 (t148 == 3)))) = some r := H
      have A7 := Aside0.mk A70
      clear A70
      by_cases c8 : t147 = 3
      · rw [if_pos c8] at H
        have c8b0 : (t147 == 3) = true := beq_iff_eq.mpr c8
        have c8b1 : (t147 != 3) = false := bne_eq_false_iff_eq.mpr c8
        clear c8
        (first | rw [c8b0] | (simp only [i64_w, i32_w]; rw [c8b0]) | skip)
        have H' := Aside0.mk H
        clear H
        go_wp2_with (first | ((with_reducible refine gate_callee (f := 19) rfl ?_); refine goesL_ (some 10) rfl rfl Try.func19 (by kernel_rfl) rfl #[.int .u64 a0] rfl (by (try simp only [List.map_toArray, List.map_cons, List.map_nil]); first | done | rfl | (simp only [List.length_drop, List.length_take]; rfl)) ?_; (with_reducible refine (carryoverref03_Class.calls a0 t147 _ A7.out).mono ?_); rintro e w' ⟨rfl, ⟨nd, rfl⟩⟩; refine ⟨_, rfl, ?_⟩))
        go_meet
        case rel => exact ⟨_, (true), (by first | rfl | (simp; done) | (simp [*]; done)), H', ⟨by first | omega | exact Nat.le_refl _⟩, ⟨by repeat (first | (with_reducible first | exact HB.out | apply below_alloc | apply pw_below_drewN | apply below_drew1) | exact HB.out)⟩⟩
      · rw [if_neg c8] at H
        have c8b0 : (t147 == 3) = false := beq_eq_false_iff_ne.mpr c8
        have c8b1 : (t147 != 3) = true := bne_iff_ne.mpr c8
        (first | rw [c8b0] | (simp only [i64_w, i32_w]; rw [c8b0]) | skip)
        replace H := Option.bind_eq_some_iff.mp H
        obtain ⟨t148, A90, H⟩ := H
        replace H : (carryoverlaw03_RealTurns.j0 k a0 a1 (t148 == 3)) = some r := H
        have A9 := Aside0.mk A90
        clear A90
        have H' := Aside0.mk H
        clear H
        go_wp2_with (first | ((with_reducible refine gate_callee (f := 19) rfl ?_); refine goesL_ (some 10) rfl rfl Try.func19 (by kernel_rfl) rfl #[.int .u64 a0] rfl (by (try simp only [List.map_toArray, List.map_cons, List.map_nil]); first | done | rfl | (simp only [List.length_drop, List.length_take]; rfl)) ?_; (with_reducible refine (carryoverref03_Class.calls a0 t147 _ A7.out).mono ?_); rintro e w' ⟨rfl, ⟨nd, rfl⟩⟩; refine ⟨_, rfl, ?_⟩) | (go_at_call 19; (with_reducible refine (carryoverref03_Class.calls a1 t148 _ A9.out).mono ?_); rintro e w' ⟨rfl, ⟨nd, rfl⟩⟩))
        go_meet
        case rel => exact ⟨_, ((t148 == 3)), (by first | rfl | (simp; done) | (simp [*]; done)), H', ⟨by first | omega | exact Nat.le_refl _⟩, ⟨by repeat (first | (with_reducible first | exact HB.out | apply below_alloc | apply pw_below_drewN | apply below_drew1) | exact HB.out)⟩⟩
    case rest =>
      clear HC5
      try clear c1
      try clear p2
      try clear c4
      try clear c5
      try clear c8
      try clear c8b0
      try clear c8b1
      obtain ⟨kq, x16_4, rfl, HA, HJ4, HB⟩ := hcut
      cases kq with
      | zero => exact absurd HA.out (by simp [carryoverlaw03_RealTurns.j0])
      | succ kj4 =>
        have H := HA.out
        clear HA
        simp only [carryoverlaw03_RealTurns.j0] at H
        by_cases c10 : x16_4 = true
        · subst c10
          have H1 : (some true) = some r := by rw [if_pos rfl] at H; exact H
          clear H
          have H := H1
          clear H1
          obtain rfl := Option.some.inj H
          go_wp2
          go_ret
          exact ⟨by first | rfl | (simp [errW_none, errW_some] <;> rfl) | (simp [*, errW_none, errW_some] <;> rfl), by repeat (first | (with_reducible first | exact HB.out | apply below_alloc | apply pw_below_drewN | apply below_drew1) | exact HB.out)⟩
        · replace c10 := Bool.eq_false_iff.mpr c10
          subst c10
          have H1 : ((carryoverlaw03_F.f a0).bind fun t149 => ((carryoverlaw03_F.f a1).bind fun t150 => ((carryoverlaw03_F.f (Go.bits .xor .u64 a1 9223372036854775808)).bind fun t151 => ((carryoverlaw03_F.f (Go.bits .xor .u64 a0 9223372036854775808)).bind fun t152 => ((real_Cmp.f t151 t152).bind fun t153 => ((real_Cmp.f t149 t150).bind fun t154 => (if t153 = t154 then ((carryoverlaw03_F.f (Go.bits .xor .u64 a0 9223372036854775808)).bind fun t155 => ((real_Key.f t155).bind fun t156 => ((real_Key.f t149).bind fun t157 => (if t156 = (Go.bits .xor .u64 IntKind.u64.max t157) then ((real_Class.f t155).bind fun t158 => ((real_Class.f t149).bind fun t159 => (some (t158 == t159)))) else (some false))))) else (some false)))))))) = some r := by rw [if_neg (show ¬ (false = true) by decide)] at H; exact H
          clear H
          have H := H1
          clear H1
          replace H := Option.bind_eq_some_iff.mp H
          obtain ⟨t149, A110, H⟩ := H
          replace H : ((carryoverlaw03_F.f a1).bind fun t150 => ((carryoverlaw03_F.f (Go.bits .xor .u64 a1 9223372036854775808)).bind fun t151 => ((carryoverlaw03_F.f (Go.bits .xor .u64 a0 9223372036854775808)).bind fun t152 => ((real_Cmp.f t151 t152).bind fun t153 => ((real_Cmp.f t149 t150).bind fun t154 => (if t153 = t154 then ((carryoverlaw03_F.f (Go.bits .xor .u64 a0 9223372036854775808)).bind fun t155 => ((real_Key.f t155).bind fun t156 => ((real_Key.f t149).bind fun t157 => (if t156 = (Go.bits .xor .u64 IntKind.u64.max t157) then ((real_Class.f t155).bind fun t158 => ((real_Class.f t149).bind fun t159 => (some (t158 == t159)))) else (some false))))) else (some false))))))) = some r := H
          have A11 := Aside0.mk A110
          clear A110
          replace H := Option.bind_eq_some_iff.mp H
          obtain ⟨t150, A120, H⟩ := H
          replace H : ((carryoverlaw03_F.f (Go.bits .xor .u64 a1 9223372036854775808)).bind fun t151 => ((carryoverlaw03_F.f (Go.bits .xor .u64 a0 9223372036854775808)).bind fun t152 => ((real_Cmp.f t151 t152).bind fun t153 => ((real_Cmp.f t149 t150).bind fun t154 => (if t153 = t154 then ((carryoverlaw03_F.f (Go.bits .xor .u64 a0 9223372036854775808)).bind fun t155 => ((real_Key.f t155).bind fun t156 => ((real_Key.f t149).bind fun t157 => (if t156 = (Go.bits .xor .u64 IntKind.u64.max t157) then ((real_Class.f t155).bind fun t158 => ((real_Class.f t149).bind fun t159 => (some (t158 == t159)))) else (some false))))) else (some false)))))) = some r := H
          have A12 := Aside0.mk A120
          clear A120
          replace H := Option.bind_eq_some_iff.mp H
          obtain ⟨t151, A130, H⟩ := H
          replace H : ((carryoverlaw03_F.f (Go.bits .xor .u64 a0 9223372036854775808)).bind fun t152 => ((real_Cmp.f t151 t152).bind fun t153 => ((real_Cmp.f t149 t150).bind fun t154 => (if t153 = t154 then ((carryoverlaw03_F.f (Go.bits .xor .u64 a0 9223372036854775808)).bind fun t155 => ((real_Key.f t155).bind fun t156 => ((real_Key.f t149).bind fun t157 => (if t156 = (Go.bits .xor .u64 IntKind.u64.max t157) then ((real_Class.f t155).bind fun t158 => ((real_Class.f t149).bind fun t159 => (some (t158 == t159)))) else (some false))))) else (some false))))) = some r := H
          have A13 := Aside0.mk A130
          clear A130
          replace H := Option.bind_eq_some_iff.mp H
          obtain ⟨t152, A140, H⟩ := H
          replace H : ((real_Cmp.f t151 t152).bind fun t153 => ((real_Cmp.f t149 t150).bind fun t154 => (if t153 = t154 then ((carryoverlaw03_F.f (Go.bits .xor .u64 a0 9223372036854775808)).bind fun t155 => ((real_Key.f t155).bind fun t156 => ((real_Key.f t149).bind fun t157 => (if t156 = (Go.bits .xor .u64 IntKind.u64.max t157) then ((real_Class.f t155).bind fun t158 => ((real_Class.f t149).bind fun t159 => (some (t158 == t159)))) else (some false))))) else (some false)))) = some r := H
          have A14 := Aside0.mk A140
          clear A140
          replace H := Option.bind_eq_some_iff.mp H
          obtain ⟨t153, A150, H⟩ := H
          replace H : ((real_Cmp.f t149 t150).bind fun t154 => (if t153 = t154 then ((carryoverlaw03_F.f (Go.bits .xor .u64 a0 9223372036854775808)).bind fun t155 => ((real_Key.f t155).bind fun t156 => ((real_Key.f t149).bind fun t157 => (if t156 = (Go.bits .xor .u64 IntKind.u64.max t157) then ((real_Class.f t155).bind fun t158 => ((real_Class.f t149).bind fun t159 => (some (t158 == t159)))) else (some false))))) else (some false))) = some r := H
          have A15 := Aside0.mk A150
          clear A150
          replace H := Option.bind_eq_some_iff.mp H
          obtain ⟨t154, A160, H⟩ := H
          replace H : (if t153 = t154 then ((carryoverlaw03_F.f (Go.bits .xor .u64 a0 9223372036854775808)).bind fun t155 => ((real_Key.f t155).bind fun t156 => ((real_Key.f t149).bind fun t157 => (if t156 = (Go.bits .xor .u64 IntKind.u64.max t157) then ((real_Class.f t155).bind fun t158 => ((real_Class.f t149).bind fun t159 => (some (t158 == t159)))) else (some false))))) else (some false)) = some r := H
          have A16 := Aside0.mk A160
          clear A160
          by_cases c17 : t153 = t154
          · rw [if_pos c17] at H
            have c17b0 : (t153 == t154) = true := beq_iff_eq.mpr c17
            have c17b1 : (t153 != t154) = false := bne_eq_false_iff_eq.mpr c17
            clear c17
            replace H := Option.bind_eq_some_iff.mp H
            obtain ⟨t155, A180, H⟩ := H
            replace H : ((real_Key.f t155).bind fun t156 => ((real_Key.f t149).bind fun t157 => (if t156 = (Go.bits .xor .u64 IntKind.u64.max t157) then ((real_Class.f t155).bind fun t158 => ((real_Class.f t149).bind fun t159 => (some (t158 == t159)))) else (some false)))) = some r := H
            have A18 := Aside0.mk A180
            clear A180
            replace H := Option.bind_eq_some_iff.mp H
            obtain ⟨t156, A190, H⟩ := H
            replace H : ((real_Key.f t149).bind fun t157 => (if t156 = (Go.bits .xor .u64 IntKind.u64.max t157) then ((real_Class.f t155).bind fun t158 => ((real_Class.f t149).bind fun t159 => (some (t158 == t159)))) else (some false))) = some r := H
            have A19 := Aside0.mk A190
            clear A190
            replace H := Option.bind_eq_some_iff.mp H
            obtain ⟨t157, A200, H⟩ := H
            replace H : (if t156 = (Go.bits .xor .u64 IntKind.u64.max t157) then ((real_Class.f t155).bind fun t158 => ((real_Class.f t149).bind fun t159 => (some (t158 == t159)))) else (some false)) = some r := H
            have A20 := Aside0.mk A200
            clear A200
            by_cases c21 : t156 = (Go.bits .xor .u64 IntKind.u64.max t157)
            · rw [if_pos c21] at H
              have c21b0 : (t156 == (Go.bits .xor .u64 IntKind.u64.max t157)) = true := beq_iff_eq.mpr c21
              have c21b1 : (t156 != (Go.bits .xor .u64 IntKind.u64.max t157)) = false := bne_eq_false_iff_eq.mpr c21
              clear c21
              replace H := Option.bind_eq_some_iff.mp H
              obtain ⟨t158, A220, H⟩ := H
              replace H : ((real_Class.f t149).bind fun t159 => (some (t158 == t159))) = some r := H
              have A22 := Aside0.mk A220
              clear A220
              replace H := Option.bind_eq_some_iff.mp H
              obtain ⟨t159, A230, H⟩ := H
              replace H : (some (t158 == t159)) = some r := H
              have A23 := Aside0.mk A230
              clear A230
              obtain rfl := Option.some.inj H
              go_wp2_with (first | ((with_reducible refine gate_callee (f := 16) rfl ?_); refine goesL_ (some 18) rfl rfl Try.func16 (by kernel_rfl) rfl #[.int .u64 a0] rfl (by (try simp only [List.map_toArray, List.map_cons, List.map_nil]); first | done | rfl | (simp only [List.length_drop, List.length_take]; rfl)) ?_; (with_reducible refine (carryoverlaw03_F.calls a0 t149 _ A11.out).mono ?_); rintro e w' ⟨rfl, ⟨nd, rfl⟩⟩; refine ⟨_, rfl, ?_⟩) | ((with_reducible refine gate_callee (f := 16) rfl ?_); refine goesL_ (some 20) rfl rfl Try.func16 (by kernel_rfl) rfl #[.int .u64 a1] rfl (by (try simp only [List.map_toArray, List.map_cons, List.map_nil]); first | done | rfl | (simp only [List.length_drop, List.length_take]; rfl)) ?_; (with_reducible refine (carryoverlaw03_F.calls a1 t150 _ A12.out).mono ?_); rintro e w' ⟨rfl, ⟨nd, rfl⟩⟩; refine ⟨_, rfl, ?_⟩) | ((with_reducible refine gate_callee (f := 16) rfl ?_); refine goesL_ (some 23) rfl rfl Try.func16 (by kernel_rfl) rfl #[.int .u64 (Go.bits .xor .u64 a1 9223372036854775808)] rfl (by (try simp only [List.map_toArray, List.map_cons, List.map_nil]); first | done | rfl | (simp only [List.length_drop, List.length_take]; rfl)) ?_; (with_reducible refine (carryoverlaw03_F.calls (Go.bits .xor .u64 a1 9223372036854775808) t151 _ A13.out).mono ?_); rintro e w' ⟨rfl, ⟨nd, rfl⟩⟩; refine ⟨_, rfl, ?_⟩) | ((with_reducible refine gate_callee (f := 16) rfl ?_); refine goesL_ (some 26) rfl rfl Try.func16 (by kernel_rfl) rfl #[.int .u64 (Go.bits .xor .u64 a0 9223372036854775808)] rfl (by (try simp only [List.map_toArray, List.map_cons, List.map_nil]); first | done | rfl | (simp only [List.length_drop, List.length_take]; rfl)) ?_; (with_reducible refine (carryoverlaw03_F.calls (Go.bits .xor .u64 a0 9223372036854775808) t152 _ A14.out).mono ?_); rintro e w' ⟨rfl, ⟨nd, rfl⟩⟩; refine ⟨_, rfl, ?_⟩) | ((with_reducible refine gate_callee (f := 17) rfl ?_); refine goesL_ (some 27) rfl rfl Try.func17 (by kernel_rfl) rfl #[.float .f64 t151, .float .f64 t152] rfl (by (try simp only [List.map_toArray, List.map_cons, List.map_nil]); first | done | rfl | (simp only [List.length_drop, List.length_take]; rfl)) ?_; (with_reducible refine (real_Cmp.calls t151 t152 t153 _ A15.out).mono ?_); rintro e w' ⟨rfl, ⟨nd, rfl⟩⟩; refine ⟨_, rfl, ?_⟩) | ((with_reducible refine gate_callee (f := 17) rfl ?_); refine goesL_ (some 30) rfl rfl Try.func17 (by kernel_rfl) rfl #[.float .f64 t149, .float .f64 t150] rfl (by (try simp only [List.map_toArray, List.map_cons, List.map_nil]); first | done | rfl | (simp only [List.length_drop, List.length_take]; rfl)) ?_; (with_reducible refine (real_Cmp.calls t149 t150 t154 _ A16.out).mono ?_); rintro e w' ⟨rfl, ⟨nd, rfl⟩⟩; refine ⟨_, rfl, ?_⟩) | (go_at_call 16; (with_reducible refine (carryoverlaw03_F.calls (Go.bits .xor .u64 a0 9223372036854775808) t155 _ A18.out).mono ?_); rintro e w' ⟨rfl, ⟨nd, rfl⟩⟩) | (go_at_call 22; (with_reducible refine (real_Key.calls t155 t156 _ A19.out).mono ?_); rintro e w' ⟨rfl, ⟨nd, rfl⟩⟩) | (go_at_call 22; (with_reducible refine (real_Key.calls t149 t157 _ A20.out).mono ?_); rintro e w' ⟨rfl, ⟨nd, rfl⟩⟩) | (go_at_call 23; (with_reducible refine (real_Class.calls t155 t158 _ A22.out).mono ?_); rintro e w' ⟨rfl, ⟨nd, rfl⟩⟩) | (go_at_call 23; (with_reducible refine (real_Class.calls t149 t159 _ A23.out).mono ?_); rintro e w' ⟨rfl, ⟨nd, rfl⟩⟩))
              go_ret
              exact ⟨by first | rfl | (simp [errW_none, errW_some] <;> rfl) | (simp [*, errW_none, errW_some] <;> rfl), by repeat (first | (with_reducible first | exact HB.out | apply below_alloc | apply pw_below_drewN | apply below_drew1) | exact HB.out)⟩
            · rw [if_neg c21] at H
              have c21b0 : (t156 == (Go.bits .xor .u64 IntKind.u64.max t157)) = false := beq_eq_false_iff_ne.mpr c21
              have c21b1 : (t156 != (Go.bits .xor .u64 IntKind.u64.max t157)) = true := bne_iff_ne.mpr c21
              obtain rfl := Option.some.inj H
              go_wp2_with (first | ((with_reducible refine gate_callee (f := 16) rfl ?_); refine goesL_ (some 18) rfl rfl Try.func16 (by kernel_rfl) rfl #[.int .u64 a0] rfl (by (try simp only [List.map_toArray, List.map_cons, List.map_nil]); first | done | rfl | (simp only [List.length_drop, List.length_take]; rfl)) ?_; (with_reducible refine (carryoverlaw03_F.calls a0 t149 _ A11.out).mono ?_); rintro e w' ⟨rfl, ⟨nd, rfl⟩⟩; refine ⟨_, rfl, ?_⟩) | ((with_reducible refine gate_callee (f := 16) rfl ?_); refine goesL_ (some 20) rfl rfl Try.func16 (by kernel_rfl) rfl #[.int .u64 a1] rfl (by (try simp only [List.map_toArray, List.map_cons, List.map_nil]); first | done | rfl | (simp only [List.length_drop, List.length_take]; rfl)) ?_; (with_reducible refine (carryoverlaw03_F.calls a1 t150 _ A12.out).mono ?_); rintro e w' ⟨rfl, ⟨nd, rfl⟩⟩; refine ⟨_, rfl, ?_⟩) | ((with_reducible refine gate_callee (f := 16) rfl ?_); refine goesL_ (some 23) rfl rfl Try.func16 (by kernel_rfl) rfl #[.int .u64 (Go.bits .xor .u64 a1 9223372036854775808)] rfl (by (try simp only [List.map_toArray, List.map_cons, List.map_nil]); first | done | rfl | (simp only [List.length_drop, List.length_take]; rfl)) ?_; (with_reducible refine (carryoverlaw03_F.calls (Go.bits .xor .u64 a1 9223372036854775808) t151 _ A13.out).mono ?_); rintro e w' ⟨rfl, ⟨nd, rfl⟩⟩; refine ⟨_, rfl, ?_⟩) | ((with_reducible refine gate_callee (f := 16) rfl ?_); refine goesL_ (some 26) rfl rfl Try.func16 (by kernel_rfl) rfl #[.int .u64 (Go.bits .xor .u64 a0 9223372036854775808)] rfl (by (try simp only [List.map_toArray, List.map_cons, List.map_nil]); first | done | rfl | (simp only [List.length_drop, List.length_take]; rfl)) ?_; (with_reducible refine (carryoverlaw03_F.calls (Go.bits .xor .u64 a0 9223372036854775808) t152 _ A14.out).mono ?_); rintro e w' ⟨rfl, ⟨nd, rfl⟩⟩; refine ⟨_, rfl, ?_⟩) | ((with_reducible refine gate_callee (f := 17) rfl ?_); refine goesL_ (some 27) rfl rfl Try.func17 (by kernel_rfl) rfl #[.float .f64 t151, .float .f64 t152] rfl (by (try simp only [List.map_toArray, List.map_cons, List.map_nil]); first | done | rfl | (simp only [List.length_drop, List.length_take]; rfl)) ?_; (with_reducible refine (real_Cmp.calls t151 t152 t153 _ A15.out).mono ?_); rintro e w' ⟨rfl, ⟨nd, rfl⟩⟩; refine ⟨_, rfl, ?_⟩) | ((with_reducible refine gate_callee (f := 17) rfl ?_); refine goesL_ (some 30) rfl rfl Try.func17 (by kernel_rfl) rfl #[.float .f64 t149, .float .f64 t150] rfl (by (try simp only [List.map_toArray, List.map_cons, List.map_nil]); first | done | rfl | (simp only [List.length_drop, List.length_take]; rfl)) ?_; (with_reducible refine (real_Cmp.calls t149 t150 t154 _ A16.out).mono ?_); rintro e w' ⟨rfl, ⟨nd, rfl⟩⟩; refine ⟨_, rfl, ?_⟩) | (go_at_call 16; (with_reducible refine (carryoverlaw03_F.calls (Go.bits .xor .u64 a0 9223372036854775808) t155 _ A18.out).mono ?_); rintro e w' ⟨rfl, ⟨nd, rfl⟩⟩) | (go_at_call 22; (with_reducible refine (real_Key.calls t155 t156 _ A19.out).mono ?_); rintro e w' ⟨rfl, ⟨nd, rfl⟩⟩) | (go_at_call 22; (with_reducible refine (real_Key.calls t149 t157 _ A20.out).mono ?_); rintro e w' ⟨rfl, ⟨nd, rfl⟩⟩))
              go_ret
              exact ⟨by first | rfl | (simp [errW_none, errW_some] <;> rfl) | (simp [*, errW_none, errW_some] <;> rfl), by repeat (first | (with_reducible first | exact HB.out | apply below_alloc | apply pw_below_drewN | apply below_drew1) | exact HB.out)⟩
          · rw [if_neg c17] at H
            have c17b0 : (t153 == t154) = false := beq_eq_false_iff_ne.mpr c17
            have c17b1 : (t153 != t154) = true := bne_iff_ne.mpr c17
            obtain rfl := Option.some.inj H
            go_wp2_with (first | ((with_reducible refine gate_callee (f := 16) rfl ?_); refine goesL_ (some 18) rfl rfl Try.func16 (by kernel_rfl) rfl #[.int .u64 a0] rfl (by (try simp only [List.map_toArray, List.map_cons, List.map_nil]); first | done | rfl | (simp only [List.length_drop, List.length_take]; rfl)) ?_; (with_reducible refine (carryoverlaw03_F.calls a0 t149 _ A11.out).mono ?_); rintro e w' ⟨rfl, ⟨nd, rfl⟩⟩; refine ⟨_, rfl, ?_⟩) | ((with_reducible refine gate_callee (f := 16) rfl ?_); refine goesL_ (some 20) rfl rfl Try.func16 (by kernel_rfl) rfl #[.int .u64 a1] rfl (by (try simp only [List.map_toArray, List.map_cons, List.map_nil]); first | done | rfl | (simp only [List.length_drop, List.length_take]; rfl)) ?_; (with_reducible refine (carryoverlaw03_F.calls a1 t150 _ A12.out).mono ?_); rintro e w' ⟨rfl, ⟨nd, rfl⟩⟩; refine ⟨_, rfl, ?_⟩) | ((with_reducible refine gate_callee (f := 16) rfl ?_); refine goesL_ (some 23) rfl rfl Try.func16 (by kernel_rfl) rfl #[.int .u64 (Go.bits .xor .u64 a1 9223372036854775808)] rfl (by (try simp only [List.map_toArray, List.map_cons, List.map_nil]); first | done | rfl | (simp only [List.length_drop, List.length_take]; rfl)) ?_; (with_reducible refine (carryoverlaw03_F.calls (Go.bits .xor .u64 a1 9223372036854775808) t151 _ A13.out).mono ?_); rintro e w' ⟨rfl, ⟨nd, rfl⟩⟩; refine ⟨_, rfl, ?_⟩) | ((with_reducible refine gate_callee (f := 16) rfl ?_); refine goesL_ (some 26) rfl rfl Try.func16 (by kernel_rfl) rfl #[.int .u64 (Go.bits .xor .u64 a0 9223372036854775808)] rfl (by (try simp only [List.map_toArray, List.map_cons, List.map_nil]); first | done | rfl | (simp only [List.length_drop, List.length_take]; rfl)) ?_; (with_reducible refine (carryoverlaw03_F.calls (Go.bits .xor .u64 a0 9223372036854775808) t152 _ A14.out).mono ?_); rintro e w' ⟨rfl, ⟨nd, rfl⟩⟩; refine ⟨_, rfl, ?_⟩) | ((with_reducible refine gate_callee (f := 17) rfl ?_); refine goesL_ (some 27) rfl rfl Try.func17 (by kernel_rfl) rfl #[.float .f64 t151, .float .f64 t152] rfl (by (try simp only [List.map_toArray, List.map_cons, List.map_nil]); first | done | rfl | (simp only [List.length_drop, List.length_take]; rfl)) ?_; (with_reducible refine (real_Cmp.calls t151 t152 t153 _ A15.out).mono ?_); rintro e w' ⟨rfl, ⟨nd, rfl⟩⟩; refine ⟨_, rfl, ?_⟩) | ((with_reducible refine gate_callee (f := 17) rfl ?_); refine goesL_ (some 30) rfl rfl Try.func17 (by kernel_rfl) rfl #[.float .f64 t149, .float .f64 t150] rfl (by (try simp only [List.map_toArray, List.map_cons, List.map_nil]); first | done | rfl | (simp only [List.length_drop, List.length_take]; rfl)) ?_; (with_reducible refine (real_Cmp.calls t149 t150 t154 _ A16.out).mono ?_); rintro e w' ⟨rfl, ⟨nd, rfl⟩⟩; refine ⟨_, rfl, ?_⟩))
            go_ret
            exact ⟨by first | rfl | (simp [errW_none, errW_some] <;> rfl) | (simp [*, errW_none, errW_some] <;> rfl), by repeat (first | (with_reducible first | exact HB.out | apply below_alloc | apply pw_below_drewN | apply below_drew1) | exact HB.out)⟩
  · replace c4 := Bool.eq_false_iff.mpr c4
    subst c4
    have H1 : (some false) = some r := by rw [if_neg (show ¬ (false = true) by decide)] at H; exact H
    clear H
    have H := H1
    clear H1
    obtain rfl := Option.some.inj H
    go_enter Try.func5, Try.ntmps5
    go_wp2_with (first | ((with_reducible refine gate_callee (f := 15) rfl ?_); refine goesL_ (some 7) rfl rfl Try.func15 (by kernel_rfl) rfl #[] rfl (by (try simp only [List.map_toArray, List.map_cons, List.map_nil]); first | done | rfl | (simp only [List.length_drop, List.length_take]; rfl)) ?_; (with_reducible refine (carryoverlaw03_awake.calls  false _ A3.out).mono ?_); rintro e w24 ⟨rfl, hb⟩; refine ⟨_, rfl, ?_⟩; have n0_ := Aside0.mk (below_step (by repeat (first | (with_reducible first | exact HB.out | apply below_alloc | apply pw_below_drewN | apply below_drew1) | exact HB.out)) hb); clear HB; have HB := n0_; clear n0_; (try clear hb); (try clear hb2); (try clear hk); (try clear hi)))
    go_ret
    exact ⟨by first | rfl | (simp [errW_none, errW_some] <;> rfl) | (simp [*, errW_none, errW_some] <;> rfl), by repeat (first | (with_reducible first | exact HB.out | apply below_alloc | apply pw_below_drewN | apply below_drew1) | exact HB.out)⟩

/-- THE ONE PURE STATEMENT of carryoverlaw03_RealTurns: yours. -/
def carryoverlaw03_RealTurns.Pure : Prop := ∀ (a0 : Int) (a1 : Int), (Lit.int .u64 a0).wf = true → (Lit.int .u64 a1).wf = true → ∃ k, carryoverlaw03_RealTurns.f k a0 a1 = some true
theorem carryoverlaw03_RealTurns.walk (P : carryoverlaw03_RealTurns.Pure) (a0 : Int) (a1 : Int) (w : World) (w0 : (Lit.int .u64 a0).wf = true) (w1 : (Lit.int .u64 a1).wf = true) :
    Calls Try.prog 5 #[.int .u64 a0, .int .u64 a1] w fun e w' => e = .returned (.bool true) ∧ Below w.heap.size w w' := by
  obtain ⟨k, h⟩ := P a0 a1 w0 w1
  refine (carryoverlaw03_RealTurns.calls k a0 a1 true w h).mono ?_
  rintro e w' ⟨rfl, hd⟩
  exact ⟨rfl, hd⟩

end Go.Proofs.Ytlglcnljjpedcaa.PReal
