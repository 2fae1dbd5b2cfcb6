-- Written by a program of this session (wip/fprint) out of the translation: each Go function as a Lean function, and its walk.
import Derived.Test.YtlglcnljjpedcaaPRealx0
import Derived.Test.YtlglcnljjpedcaaPRealx1
import Derived.Test.YtlglcnljjpedcaaPRealx2
import Derived.Test.YtlglcnljjpedcaaPRealx3
namespace Go.Proofs.Ytlglcnljjpedcaa.PReal
open Go.RowKit Go.Proofs.YtlglcnljjpedcaaW.PrintWords Go.Proofs.YtlglcnljjpedcaaW.PrintLast Go.Proofs.YtlglcnljjpedcaaW.PrintMore
attribute [local go_sem] max2_int min2_int max_two min_two max_three min_three max_four min_four   -- for this text's walks alone
set_option linter.unusedVariables false
set_option linter.unusedSimpArgs false

/-! ### carryoverlaw03_RealEdges: function 4 -/
def carryoverlaw03_RealEdges.l0 : Nat → Int → List Nat → Int → Option (Bool)
  | 0, _, _, _ => none
  | k + 1, x0, x3, x4 => if x4 < (x3.length : Int) then (if 0 ≤ (wrap64 (x4 - 1)) then (if (wrap64 (x4 - 1)) < (x3.length : Int) then (if 0 ≤ x4 then ((real_Cmp.f (rdOf (0 : Nat) x3 (wrap64 (x4 - 1))) (rdOf (0 : Nat) x3 x4)).bind fun t139 => (if t139 = (-1) then (carryoverlaw03_RealEdges.l0 k x0 x3 (wrap64 (x4 + 1))) else (some false))) else (none)) else (none)) else (none)) else ((carryoverlaw03_F.f x0).bind fun t140 => (if 0 < (x3.length : Int) then ((real_Cmp.f (rdOf (0 : Nat) x3 0) t140).bind fun t142 => (if 8 < (x3.length : Int) then ((real_Cmp.f t140 (rdOf (0 : Nat) x3 8)).bind fun t144 => (if t142 ≤ 0 then (if t144 ≤ 0 then ((carryoverref03_Class.f x0).bind fun t145 => (some ((t144 == 0) == (t145 == 3)))) else (some false)) else (some false))) else (none))) else (none)))
def carryoverlaw03_RealEdges.f (k : Nat) (a0 : Int) : Option (Bool) := (carryoverlaw03_awake.f).bind fun t129 => (if t129 = true then ((math_Inf.f (-1)).bind fun t130 => ((math_Copysign.f 0 13830554455654793216).bind fun t131 => ((math_Inf.f 1).bind fun t132 => ((carryoverlaw03_F.f (Go.bits .or .u64 a0 9221120237041090560)).bind fun t133 => (carryoverlaw03_RealEdges.l0 k a0 (([t130, 18442240474082181119, 9223372036854775809, t131, 0, 1, 9218868437227405311, t132, t133] : List Nat)) 1))))) else (some false))
theorem carryoverlaw03_RealEdges.mono_l : ∀ k, (∀ y0 y1 y2, LeO (carryoverlaw03_RealEdges.l0 k y0 y1 y2) (carryoverlaw03_RealEdges.l0 (k + 1) y0 y1 y2))
  | 0 => fun _ _ _ r h => by simp [carryoverlaw03_RealEdges.l0] at h
  | k + 1 => by
    have ih0 := carryoverlaw03_RealEdges.mono_l k
    · intro y0 y1 y2
      unfold carryoverlaw03_RealEdges.l0
      repeat' first
      | (with_reducible exact ih0 _ _ _)
      | (with_reducible exact LeO.refl _)
      | (with_reducible exact LeO.none _)
      | (with_reducible refine LeO.ite ?_ ?_)
      | (with_reducible refine LeO.bind ?_ (fun _ => ?_))
      | exact ih0 _ _ _
      | exact LeO.none _
      | refine LeO.ite ?_ ?_
      | refine LeO.bind ?_ (fun _ => ?_)
theorem carryoverlaw03_RealEdges.mono : ∀ a0 k, LeO (carryoverlaw03_RealEdges.f k a0) (carryoverlaw03_RealEdges.f (k + 1) a0) := by
  intro a0 k
  have ih0 := carryoverlaw03_RealEdges.mono_l k
  unfold carryoverlaw03_RealEdges.f
  repeat' first
      | (with_reducible exact ih0 _ _ _)
      | (with_reducible exact LeO.refl _)
      | (with_reducible exact LeO.none _)
      | (with_reducible refine LeO.ite ?_ ?_)
      | (with_reducible refine LeO.bind ?_ (fun _ => ?_))
      | exact ih0 _ _ _
      | exact LeO.none _
      | refine LeO.ite ?_ ?_
      | refine LeO.bind ?_ (fun _ => ?_)
set_option maxHeartbeats 8000000 in
set_option maxRecDepth 100000 in
theorem carryoverlaw03_RealEdges.calls (k : Nat) (a0 : Int) (r : Bool) (w : World) (h : carryoverlaw03_RealEdges.f k a0 = some r) :
    Calls Try.prog 4 #[.int .u64 a0] w fun e w' => e = .returned (.bool r) ∧ Below w.heap.size w w' := by
  have HB := Aside0.mk (Below.refl w.heap.size w)
  have H : ((carryoverlaw03_awake.f).bind fun t129 => (if t129 = true then ((math_Inf.f (-1)).bind fun t130 => ((math_Copysign.f 0 13830554455654793216).bind fun t131 => ((math_Inf.f 1).bind fun t132 => ((carryoverlaw03_F.f (Go.bits .or .u64 a0 9221120237041090560)).bind fun t133 => (carryoverlaw03_RealEdges.l0 k a0 (([t130, 18442240474082181119, 9223372036854775809, t131, 0, 1, 9218868437227405311, t132, t133] : List Nat)) 1))))) else (some false))) = some r := h
  clear h
  replace H := Option.bind_eq_some_iff.mp H
  obtain ⟨t129, A20, H⟩ := H
  replace H : (if t129 = true then ((math_Inf.f (-1)).bind fun t130 => ((math_Copysign.f 0 13830554455654793216).bind fun t131 => ((math_Inf.f 1).bind fun t132 => ((carryoverlaw03_F.f (Go.bits .or .u64 a0 9221120237041090560)).bind fun t133 => (carryoverlaw03_RealEdges.l0 k a0 (([t130, 18442240474082181119, 9223372036854775809, t131, 0, 1, 9218868437227405311, t132, t133] : List Nat)) 1))))) else (some false)) = some r := H
  have A2 := Aside0.mk A20
  clear A20
  by_cases c3 : t129 = true
  · subst c3
    have H1 : ((math_Inf.f (-1)).bind fun t130 => ((math_Copysign.f 0 13830554455654793216).bind fun t131 => ((math_Inf.f 1).bind fun t132 => ((carryoverlaw03_F.f (Go.bits .or .u64 a0 9221120237041090560)).bind fun t133 => (carryoverlaw03_RealEdges.l0 k a0 (([t130, 18442240474082181119, 9223372036854775809, t131, 0, 1, 9218868437227405311, t132, t133] : List Nat)) 1))))) = some r := by rw [if_pos rfl] at H; exact H
    clear H
    have H := H1
    clear H1
    replace H := Option.bind_eq_some_iff.mp H
    obtain ⟨t130, A40, H⟩ := H
    replace H : ((math_Copysign.f 0 13830554455654793216).bind fun t131 => ((math_Inf.f 1).bind fun t132 => ((carryoverlaw03_F.f (Go.bits .or .u64 a0 9221120237041090560)).bind fun t133 => (carryoverlaw03_RealEdges.l0 k a0 (([t130, 18442240474082181119, 9223372036854775809, t131, 0, 1, 9218868437227405311, t132, t133] : List Nat)) 1)))) = some r := H
    have A4 := Aside0.mk A40
    clear A40
    replace H := Option.bind_eq_some_iff.mp H
    obtain ⟨t131, A50, H⟩ := H
    replace H : ((math_Inf.f 1).bind fun t132 => ((carryoverlaw03_F.f (Go.bits .or .u64 a0 9221120237041090560)).bind fun t133 => (carryoverlaw03_RealEdges.l0 k a0 (([t130, 18442240474082181119, 9223372036854775809, t131, 0, 1, 9218868437227405311, t132, t133] : List Nat)) 1))) = some r := H
    have A5 := Aside0.mk A50
    clear A50
    replace H := Option.bind_eq_some_iff.mp H
    obtain ⟨t132, A60, H⟩ := H
    replace H : ((carryoverlaw03_F.f (Go.bits .or .u64 a0 9221120237041090560)).bind fun t133 => (carryoverlaw03_RealEdges.l0 k a0 (([t130, 18442240474082181119, 9223372036854775809, t131, 0, 1, 9218868437227405311, t132, t133] : List Nat)) 1)) = some r := H
    have A6 := Aside0.mk A60
    clear A60
    replace H := Option.bind_eq_some_iff.mp H
    obtain ⟨t133, A70, H⟩ := H
    replace H : (carryoverlaw03_RealEdges.l0 k a0 (([t130, 18442240474082181119, 9223372036854775809, t131, 0, 1, 9218868437227405311, t132, t133] : List Nat)) 1) = some r := H
    have A7 := Aside0.mk A70
    clear A70
    obtain ⟨y134, hy134⟩ : ∃ y_ : List Nat, y_ = (([t130, 18442240474082181119, 9223372036854775809, t131, 0, 1, 9218868437227405311, t132, t133] : List Nat)) := ⟨_, rfl⟩
    replace H : (carryoverlaw03_RealEdges.l0 k a0 y134 1) = some r := by first | (rw [hy134]; with_reducible exact H) | (have H2_ := (Option.bind_some _ _).symm.trans H; rw [hy134]; with_reducible exact H2_) | (have H2_ := (Option.bind_some _ _).symm.trans H; with_reducible exact H2_) | with_reducible exact H | (rw [hy134]; exact H) | exact H
    have Ny134 := Aside0.mk hy134
    clear hy134
    have H' := Aside0.mk H
    clear H
    go_enter Try.func4, Try.ntmps4
    go_wp2_with (first | (go_at_call 15; (with_reducible refine (carryoverlaw03_awake.calls  true _ A2.out).mono ?_); rintro e w8 ⟨rfl, hb⟩; have n0_ := Aside0.mk (below_step (by repeat (first | (with_reducible first | exact HB.out | apply below_alloc | apply pw_below_drewN | apply below_drew1) | exact HB.out)) hb); clear HB; have HB := n0_; clear n0_; (try clear hb); (try clear hb2); (try clear hk); (try clear hi)) | (go_at_call 20; (with_reducible refine (math_Inf.calls (-1) t130 _ A4.out).mono ?_); rintro e w' ⟨rfl, ⟨nd, rfl⟩⟩; (try first | exact ⟨rfl, _, World.drewN_drewN _ _ _⟩ | exact ⟨rfl, _, Eq.trans (World.drewN_drewN _ _ _) (congrArg (World.drewN _) (Nat.add_assoc _ _ _))⟩)) | (go_at_call 21; (with_reducible refine (math_Copysign.calls 0 13830554455654793216 t131 _ A5.out).mono ?_); rintro e w' ⟨rfl, ⟨nd, rfl⟩⟩; (try first | exact ⟨rfl, _, World.drewN_drewN _ _ _⟩ | exact ⟨rfl, _, Eq.trans (World.drewN_drewN _ _ _) (congrArg (World.drewN _) (Nat.add_assoc _ _ _))⟩)) | (go_at_call 20; (with_reducible refine (math_Inf.calls 1 t132 _ A6.out).mono ?_); rintro e w' ⟨rfl, ⟨nd, rfl⟩⟩; (try first | exact ⟨rfl, _, World.drewN_drewN _ _ _⟩ | exact ⟨rfl, _, Eq.trans (World.drewN_drewN _ _ _) (congrArg (World.drewN _) (Nat.add_assoc _ _ _))⟩)) | (go_at_call 16; (with_reducible refine (carryoverlaw03_F.calls (Go.bits .or .u64 a0 9221120237041090560) t133 _ A7.out).mono ?_); rintro e w' ⟨rfl, ⟨nd, rfl⟩⟩; (try first | exact ⟨rfl, _, World.drewN_drewN _ _ _⟩ | exact ⟨rfl, _, Eq.trans (World.drewN_drewN _ _ _) (congrArg (World.drewN _) (Nat.add_assoc _ _ _))⟩)) | ((with_reducible refine gate_dst (N := 16) rfl ?_); refine Kd.R_lit Kd.flt _ 24 ?hg (N := 16) ?hd (xs := ([t130, 18442240474082181119, 9223372036854775809, t131, 0, 1, 9218868437227405311, t132, t133] : List Nat)) (inner := [.float .f64 t130, .float .f64 18442240474082181119, .float .f64 9223372036854775809, .float .f64 t131, .float .f64 0, .float .f64 1, .float .f64 9218868437227405311, .float .f64 t132, .float .f64 t133]) (ok := fun _ => True) (okp := fun _ => True) ?hr ?hp (fun _ hk => hk) trivial (Below.refl _ _) (Nat.le_refl _) (by simp) ?_; (case hd => rfl); (case hg => rfl); (case hr => first | (go_simp; done) | (go_simp; rfl)); (case hp => exact (Reps.one (show Kd.M Kd.flt _ _ _ t130 [.float .f64 t130] from rfl) (Reps.one (show Kd.M Kd.flt _ _ _ 18442240474082181119 [.float .f64 18442240474082181119] from rfl) (Reps.one (show Kd.M Kd.flt _ _ _ 9223372036854775809 [.float .f64 9223372036854775809] from rfl) (Reps.one (show Kd.M Kd.flt _ _ _ t131 [.float .f64 t131] from rfl) (Reps.one (show Kd.M Kd.flt _ _ _ 0 [.float .f64 0] from rfl) (Reps.one (show Kd.M Kd.flt _ _ _ 1 [.float .f64 1] from rfl) (Reps.one (show Kd.M Kd.flt _ _ _ 9218868437227405311 [.float .f64 9218868437227405311] from rfl) (Reps.one (show Kd.M Kd.flt _ _ _ t132 [.float .f64 t132] from rfl) (Reps.one (show Kd.M Kd.flt _ _ _ t133 [.float .f64 t133] from rfl) (Reps.none _ _))))))))))); intro v135 w9 ho10 hb hg_ hnew_; clear hg_ hnew_; (first | rw [← Ny134.out] at ho10 | (simp only [Int.reduceToNat] at ho10; rw [← Ny134.out] at ho10)); have n0_ := Aside0.mk (Kd.R_lower ho10 (below_size (by repeat (first | (with_reducible first | exact HB.out | apply below_alloc | apply pw_below_drewN | apply below_drew1) | exact HB.out)))); have n1_ := Aside0.mk (below_step (by repeat (first | (with_reducible first | exact HB.out | apply below_alloc | apply pw_below_drewN | apply below_drew1) | exact HB.out)) hb); clear HB; have HO136 := n0_; have HB := n1_; clear n0_ n1_; clear hb ho10))
    repeat (go_quiet (first | (go_at_call 15; (with_reducible refine (carryoverlaw03_awake.calls  true _ A2.out).mono ?_); rintro e w8 ⟨rfl, hb⟩; have n0_ := Aside0.mk (below_step (by repeat (first | (with_reducible first | exact HB.out | apply below_alloc | apply pw_below_drewN | apply below_drew1) | exact HB.out)) hb); clear HB; have HB := n0_; clear n0_; (try clear hb); (try clear hb2); (try clear hk); (try clear hi)) | (go_at_call 20; (with_reducible refine (math_Inf.calls (-1) t130 _ A4.out).mono ?_); rintro e w' ⟨rfl, ⟨nd, rfl⟩⟩; (try first | exact ⟨rfl, _, World.drewN_drewN _ _ _⟩ | exact ⟨rfl, _, Eq.trans (World.drewN_drewN _ _ _) (congrArg (World.drewN _) (Nat.add_assoc _ _ _))⟩)) | (go_at_call 21; (with_reducible refine (math_Copysign.calls 0 13830554455654793216 t131 _ A5.out).mono ?_); rintro e w' ⟨rfl, ⟨nd, rfl⟩⟩; (try first | exact ⟨rfl, _, World.drewN_drewN _ _ _⟩ | exact ⟨rfl, _, Eq.trans (World.drewN_drewN _ _ _) (congrArg (World.drewN _) (Nat.add_assoc _ _ _))⟩)) | (go_at_call 20; (with_reducible refine (math_Inf.calls 1 t132 _ A6.out).mono ?_); rintro e w' ⟨rfl, ⟨nd, rfl⟩⟩; (try first | exact ⟨rfl, _, World.drewN_drewN _ _ _⟩ | exact ⟨rfl, _, Eq.trans (World.drewN_drewN _ _ _) (congrArg (World.drewN _) (Nat.add_assoc _ _ _))⟩)) | (go_at_call 16; (with_reducible refine (carryoverlaw03_F.calls (Go.bits .or .u64 a0 9221120237041090560) t133 _ A7.out).mono ?_); rintro e w' ⟨rfl, ⟨nd, rfl⟩⟩; (try first | exact ⟨rfl, _, World.drewN_drewN _ _ _⟩ | exact ⟨rfl, _, Eq.trans (World.drewN_drewN _ _ _) (congrArg (World.drewN _) (Nat.add_assoc _ _ _))⟩)) | ((with_reducible refine gate_dst (N := 16) rfl ?_); refine Kd.R_lit Kd.flt _ 24 ?hg (N := 16) ?hd (xs := ([t130, 18442240474082181119, 9223372036854775809, t131, 0, 1, 9218868437227405311, t132, t133] : List Nat)) (inner := [.float .f64 t130, .float .f64 18442240474082181119, .float .f64 9223372036854775809, .float .f64 t131, .float .f64 0, .float .f64 1, .float .f64 9218868437227405311, .float .f64 t132, .float .f64 t133]) (ok := fun _ => True) (okp := fun _ => True) ?hr ?hp (fun _ hk => hk) trivial (Below.refl _ _) (Nat.le_refl _) (by simp) ?_; (case hd => rfl); (case hg => rfl); (case hr => first | (go_simp; done) | (go_simp; rfl)); (case hp => exact (Reps.one (show Kd.M Kd.flt _ _ _ t130 [.float .f64 t130] from rfl) (Reps.one (show Kd.M Kd.flt _ _ _ 18442240474082181119 [.float .f64 18442240474082181119] from rfl) (Reps.one (show Kd.M Kd.flt _ _ _ 9223372036854775809 [.float .f64 9223372036854775809] from rfl) (Reps.one (show Kd.M Kd.flt _ _ _ t131 [.float .f64 t131] from rfl) (Reps.one (show Kd.M Kd.flt _ _ _ 0 [.float .f64 0] from rfl) (Reps.one (show Kd.M Kd.flt _ _ _ 1 [.float .f64 1] from rfl) (Reps.one (show Kd.M Kd.flt _ _ _ 9218868437227405311 [.float .f64 9218868437227405311] from rfl) (Reps.one (show Kd.M Kd.flt _ _ _ t132 [.float .f64 t132] from rfl) (Reps.one (show Kd.M Kd.flt _ _ _ t133 [.float .f64 t133] from rfl) (Reps.none _ _))))))))))); intro v135 w9 ho10 hb hg_ hnew_; clear hg_ hnew_; (first | rw [← Ny134.out] at ho10 | (simp only [Int.reduceToNat] at ho10; rw [← Ny134.out] at ho10)); have n0_ := Aside0.mk (Kd.R_lower ho10 (below_size (by repeat (first | (with_reducible first | exact HB.out | apply below_alloc | apply pw_below_drewN | apply below_drew1) | exact HB.out)))); have n1_ := Aside0.mk (below_step (by repeat (first | (with_reducible first | exact HB.out | apply below_alloc | apply pw_below_drewN | apply below_drew1) | exact HB.out)) hb); clear HB; have HO136 := n0_; have HB := n1_; clear n0_ n1_; clear hb ho10)); try go_wp2_with (first | (go_at_call 15; (with_reducible refine (carryoverlaw03_awake.calls  true _ A2.out).mono ?_); rintro e w8 ⟨rfl, hb⟩; have n0_ := Aside0.mk (below_step (by repeat (first | (with_reducible first | exact HB.out | apply below_alloc | apply pw_below_drewN | apply below_drew1) | exact HB.out)) hb); clear HB; have HB := n0_; clear n0_; (try clear hb); (try clear hb2); (try clear hk); (try clear hi)) | (go_at_call 20; (with_reducible refine (math_Inf.calls (-1) t130 _ A4.out).mono ?_); rintro e w' ⟨rfl, ⟨nd, rfl⟩⟩; (try first | exact ⟨rfl, _, World.drewN_drewN _ _ _⟩ | exact ⟨rfl, _, Eq.trans (World.drewN_drewN _ _ _) (congrArg (World.drewN _) (Nat.add_assoc _ _ _))⟩)) | (go_at_call 21; (with_reducible refine (math_Copysign.calls 0 13830554455654793216 t131 _ A5.out).mono ?_); rintro e w' ⟨rfl, ⟨nd, rfl⟩⟩; (try first | exact ⟨rfl, _, World.drewN_drewN _ _ _⟩ | exact ⟨rfl, _, Eq.trans (World.drewN_drewN _ _ _) (congrArg (World.drewN _) (Nat.add_assoc _ _ _))⟩)) | (go_at_call 20; (with_reducible refine (math_Inf.calls 1 t132 _ A6.out).mono ?_); rintro e w' ⟨rfl, ⟨nd, rfl⟩⟩; (try first | exact ⟨rfl, _, World.drewN_drewN _ _ _⟩ | exact ⟨rfl, _, Eq.trans (World.drewN_drewN _ _ _) (congrArg (World.drewN _) (Nat.add_assoc _ _ _))⟩)) | (go_at_call 16; (with_reducible refine (carryoverlaw03_F.calls (Go.bits .or .u64 a0 9221120237041090560) t133 _ A7.out).mono ?_); rintro e w' ⟨rfl, ⟨nd, rfl⟩⟩; (try first | exact ⟨rfl, _, World.drewN_drewN _ _ _⟩ | exact ⟨rfl, _, Eq.trans (World.drewN_drewN _ _ _) (congrArg (World.drewN _) (Nat.add_assoc _ _ _))⟩)) | ((with_reducible refine gate_dst (N := 16) rfl ?_); refine Kd.R_lit Kd.flt _ 24 ?hg (N := 16) ?hd (xs := ([t130, 18442240474082181119, 9223372036854775809, t131, 0, 1, 9218868437227405311, t132, t133] : List Nat)) (inner := [.float .f64 t130, .float .f64 18442240474082181119, .float .f64 9223372036854775809, .float .f64 t131, .float .f64 0, .float .f64 1, .float .f64 9218868437227405311, .float .f64 t132, .float .f64 t133]) (ok := fun _ => True) (okp := fun _ => True) ?hr ?hp (fun _ hk => hk) trivial (Below.refl _ _) (Nat.le_refl _) (by simp) ?_; (case hd => rfl); (case hg => rfl); (case hr => first | (go_simp; done) | (go_simp; rfl)); (case hp => exact (Reps.one (show Kd.M Kd.flt _ _ _ t130 [.float .f64 t130] from rfl) (Reps.one (show Kd.M Kd.flt _ _ _ 18442240474082181119 [.float .f64 18442240474082181119] from rfl) (Reps.one (show Kd.M Kd.flt _ _ _ 9223372036854775809 [.float .f64 9223372036854775809] from rfl) (Reps.one (show Kd.M Kd.flt _ _ _ t131 [.float .f64 t131] from rfl) (Reps.one (show Kd.M Kd.flt _ _ _ 0 [.float .f64 0] from rfl) (Reps.one (show Kd.M Kd.flt _ _ _ 1 [.float .f64 1] from rfl) (Reps.one (show Kd.M Kd.flt _ _ _ 9218868437227405311 [.float .f64 9218868437227405311] from rfl) (Reps.one (show Kd.M Kd.flt _ _ _ t132 [.float .f64 t132] from rfl) (Reps.one (show Kd.M Kd.flt _ _ _ t133 [.float .f64 t133] from rfl) (Reps.none _ _))))))))))); intro v135 w9 ho10 hb hg_ hnew_; clear hg_ hnew_; (first | rw [← Ny134.out] at ho10 | (simp only [Int.reduceToNat] at ho10; rw [← Ny134.out] at ho10)); have n0_ := Aside0.mk (Kd.R_lower ho10 (below_size (by repeat (first | (with_reducible first | exact HB.out | apply below_alloc | apply pw_below_drewN | apply below_drew1) | exact HB.out)))); have n1_ := Aside0.mk (below_step (by repeat (first | (with_reducible first | exact HB.out | apply below_alloc | apply pw_below_drewN | apply below_drew1) | exact HB.out)) hb); clear HB; have HO136 := n0_; have HB := n1_; clear n0_ n1_; clear hb ho10)))
    go_loopg [4] k (fun kq v4 w' => ∃ (x4_1 : Int), v4 = .int .i64 x4_1 ∧ Aside0 (carryoverlaw03_RealEdges.l0 kq a0 y134 x4_1 = some r) ∧ Aside0 (kq ≤ k) ∧ Aside0 (Kd.R Kd.flt 24 w' w.heap.size (fun _ => True) v135 y134) ∧ Aside0 (Below w.heap.size w w'))
    case atStart => exact ⟨(1), (by first | rfl | (simp; done) | (simp [*]; done)), H', ⟨Nat.le_refl _⟩, ⟨by (with_reducible repeat (first | apply Kd.R_alloc | apply Kd.R_drewN | apply Kd.R_drew)); exact HO136.out⟩, ⟨by repeat (first | (with_reducible first | exact HB.out | apply below_alloc | apply pw_below_drewN | apply below_drew1) | exact HB.out)⟩⟩
    case round =>
      clear H'
      try clear p2
      try clear c3
      try clear c4
      obtain ⟨x4_1, rfl, HA, HK1, HO_3, HB⟩ := hrel
      cases gk with
      | zero => exact absurd HA.out (by simp [carryoverlaw03_RealEdges.l0])
      | succ k1 =>
        have H := HA.out
        clear HA
        simp only [carryoverlaw03_RealEdges.l0] at H
        by_cases c11 : x4_1 < (y134.length : Int)
        · rw [if_pos c11] at H
          have c11b0 : decide (x4_1 < (y134.length : Int)) = true := decide_eq_true c11
          clear c11
          obtain ⟨ji12, hji12⟩ : ∃ j_ : Int, (wrap64 (x4_1 - 1)) = j_ := ⟨_, rfl⟩
          replace H : (if 0 ≤ (ji12) then (if (ji12) < (y134.length : Int) then (if 0 ≤ x4_1 then ((real_Cmp.f (rdOf (0 : Nat) y134 (ji12)) (rdOf (0 : Nat) y134 x4_1)).bind fun t139 => (if t139 = (-1) then (carryoverlaw03_RealEdges.l0 k1 a0 y134 (wrap64 (x4_1 + 1))) else (some false))) else (none)) else (none)) else (none)) = some r := by first | (rw [hji12] at H; exact H) | (simp only [hji12] at H ⊢; exact H)
          have hji12w : (IntKind.i64.wrap (x4_1 - 1)) = ji12 := (i64_w _).trans hji12
          by_cases c13 : 0 ≤ (ji12)
          · rw [if_pos c13] at H
            have c13b0 : decide (0 ≤ (ji12)) = true := decide_eq_true c13
            clear c13
            by_cases c14 : (ji12) < (y134.length : Int)
            · rw [if_pos c14] at H
              have c14b0 : decide ((ji12) < (y134.length : Int)) = true := decide_eq_true c14
              clear c14
              by_cases c15 : 0 ≤ x4_1
              · rw [if_pos c15] at H
                have c15b0 : decide (0 ≤ x4_1) = true := decide_eq_true c15
                clear c15
                replace H := Option.bind_eq_some_iff.mp H
                obtain ⟨t139, A160, H⟩ := H
                replace H : (if t139 = (-1) then (carryoverlaw03_RealEdges.l0 k1 a0 y134 (wrap64 (x4_1 + 1))) else (some false)) = some r := H
                have A16 := Aside0.mk A160
                clear A160
                by_cases c17 : t139 = (-1)
                · rw [if_pos c17] at H
                  have c17b0 : (t139 == (-1)) = true := beq_iff_eq.mpr c17
                  have c17b1 : (t139 != (-1)) = false := bne_eq_false_iff_eq.mpr c17
                  clear c17
                  have H' := Aside0.mk H
                  clear H
                  obtain ⟨Ao18, co18, eo18⟩ := Kd.R_slice HO_3.out
                  subst eo18
                  have p137 : 0 ≤ ((ji12) : Int) := of_decide_eq_true (by first | (with_reducible assumption) | assumption)
                  have q137 : (ji12) < (y134.length : Int) := of_decide_eq_true (by first | (with_reducible assumption) | assumption)
                  obtain ⟨ad137, e137, hx137_0⟩ := Kd.at_flt (Kd.R_reads' HO_3.out).2.2 (ji12) p137 q137
                  cases e137
                  replace p137 := eq_true p137
                  replace q137 := eq_true q137
                  have p138 : 0 ≤ (x4_1 : Int) := of_decide_eq_true (by first | (with_reducible assumption) | assumption)
                  have q138 : x4_1 < (y134.length : Int) := of_decide_eq_true (by first | (with_reducible assumption) | assumption)
                  obtain ⟨ad138, e138, hx138_0⟩ := Kd.at_flt (Kd.R_reads' HO_3.out).2.2 x4_1 p138 q138
                  obtain rfl : ad137 = ad138 := (by injection e138)
                  replace p138 := eq_true p138
                  replace q138 := eq_true q138
                  go_wp2_with (first | (go_at_call 17; (with_reducible refine (real_Cmp.calls (rdOf (0 : Nat) y134 (ji12)) (rdOf (0 : Nat) y134 x4_1) t139 _ A16.out).mono ?_); rintro e w' ⟨rfl, ⟨nd, rfl⟩⟩; (try first | exact ⟨rfl, _, World.drewN_drewN _ _ _⟩ | exact ⟨rfl, _, Eq.trans (World.drewN_drewN _ _ _) (congrArg (World.drewN _) (Nat.add_assoc _ _ _))⟩)))
                  repeat (go_quiet (first | (go_at_call 17; (with_reducible refine (real_Cmp.calls (rdOf (0 : Nat) y134 (ji12)) (rdOf (0 : Nat) y134 x4_1) t139 _ A16.out).mono ?_); rintro e w' ⟨rfl, ⟨nd, rfl⟩⟩; (try first | exact ⟨rfl, _, World.drewN_drewN _ _ _⟩ | exact ⟨rfl, _, Eq.trans (World.drewN_drewN _ _ _) (congrArg (World.drewN _) (Nat.add_assoc _ _ _))⟩))); try go_wp2_with (first | (go_at_call 17; (with_reducible refine (real_Cmp.calls (rdOf (0 : Nat) y134 (ji12)) (rdOf (0 : Nat) y134 x4_1) t139 _ A16.out).mono ?_); rintro e w' ⟨rfl, ⟨nd, rfl⟩⟩; (try first | exact ⟨rfl, _, World.drewN_drewN _ _ _⟩ | exact ⟨rfl, _, Eq.trans (World.drewN_drewN _ _ _) (congrArg (World.drewN _) (Nat.add_assoc _ _ _))⟩))))
                  go_roundg k1
                  case measure => have := HK1.out; omega
                  case rel => exact ⟨(wrap64 (x4_1 + 1)), (by first | rfl | (simp; done) | (simp [*]; done)), H', ⟨by have := HK1.out; omega⟩, ⟨by (with_reducible repeat (first | apply Kd.R_alloc | apply Kd.R_drewN | apply Kd.R_drew)); exact HO_3.out⟩, ⟨by repeat (first | (with_reducible first | exact HB.out | apply below_alloc | apply pw_below_drewN | apply below_drew1) | exact HB.out)⟩⟩
                · rw [if_neg c17] at H
                  have c17b0 : (t139 == (-1)) = false := beq_eq_false_iff_ne.mpr c17
                  have c17b1 : (t139 != (-1)) = true := bne_iff_ne.mpr c17
                  obtain rfl := Option.some.inj H
                  obtain ⟨Ao19, co19, eo19⟩ := Kd.R_slice HO_3.out
                  subst eo19
                  have p137 : 0 ≤ ((ji12) : Int) := of_decide_eq_true (by first | (with_reducible assumption) | assumption)
                  have q137 : (ji12) < (y134.length : Int) := of_decide_eq_true (by first | (with_reducible assumption) | assumption)
                  obtain ⟨ad137, e137, hx137_0⟩ := Kd.at_flt (Kd.R_reads' HO_3.out).2.2 (ji12) p137 q137
                  cases e137
                  replace p137 := eq_true p137
                  replace q137 := eq_true q137
                  have p138 : 0 ≤ (x4_1 : Int) := of_decide_eq_true (by first | (with_reducible assumption) | assumption)
                  have q138 : x4_1 < (y134.length : Int) := of_decide_eq_true (by first | (with_reducible assumption) | assumption)
                  obtain ⟨ad138, e138, hx138_0⟩ := Kd.at_flt (Kd.R_reads' HO_3.out).2.2 x4_1 p138 q138
                  obtain rfl : ad137 = ad138 := (by injection e138)
                  replace p138 := eq_true p138
                  replace q138 := eq_true q138
                  go_wp2_with (first | (go_at_call 17; (with_reducible refine (real_Cmp.calls (rdOf (0 : Nat) y134 (ji12)) (rdOf (0 : Nat) y134 x4_1) t139 _ A16.out).mono ?_); rintro e w' ⟨rfl, ⟨nd, rfl⟩⟩; (try first | exact ⟨rfl, _, World.drewN_drewN _ _ _⟩ | exact ⟨rfl, _, Eq.trans (World.drewN_drewN _ _ _) (congrArg (World.drewN _) (Nat.add_assoc _ _ _))⟩)))
                  repeat (go_quiet (first | (go_at_call 17; (with_reducible refine (real_Cmp.calls (rdOf (0 : Nat) y134 (ji12)) (rdOf (0 : Nat) y134 x4_1) t139 _ A16.out).mono ?_); rintro e w' ⟨rfl, ⟨nd, rfl⟩⟩; (try first | exact ⟨rfl, _, World.drewN_drewN _ _ _⟩ | exact ⟨rfl, _, Eq.trans (World.drewN_drewN _ _ _) (congrArg (World.drewN _) (Nat.add_assoc _ _ _))⟩))); try go_wp2_with (first | (go_at_call 17; (with_reducible refine (real_Cmp.calls (rdOf (0 : Nat) y134 (ji12)) (rdOf (0 : Nat) y134 x4_1) t139 _ A16.out).mono ?_); rintro e w' ⟨rfl, ⟨nd, rfl⟩⟩; (try first | exact ⟨rfl, _, World.drewN_drewN _ _ _⟩ | exact ⟨rfl, _, Eq.trans (World.drewN_drewN _ _ _) (congrArg (World.drewN _) (Nat.add_assoc _ _ _))⟩))))
                  go_ret
                  exact ⟨by first | rfl | (simp [errW_none, errW_some] <;> rfl) | (simp only [← hji12]; first | rfl | (simp [errW_none, errW_some] <;> rfl)) | (simp [*, errW_none, errW_some] <;> rfl), by repeat (first | (with_reducible first | exact HB.out | apply below_alloc | apply pw_below_drewN | apply below_drew1) | exact HB.out)⟩
              · rw [if_neg c15] at H
                exact absurd H (by simp)
            · rw [if_neg c14] at H
              exact absurd H (by simp)
          · rw [if_neg c13] at H
            exact absurd H (by simp)
        · rw [if_neg c11] at H
          have c11b0 : decide (x4_1 < (y134.length : Int)) = false := decide_eq_false c11
          clear c11
          replace H := Option.bind_eq_some_iff.mp H
          obtain ⟨t140, A200, H⟩ := H
          replace H : (if 0 < (y134.length : Int) then ((real_Cmp.f (rdOf (0 : Nat) y134 0) t140).bind fun t142 => (if 8 < (y134.length : Int) then ((real_Cmp.f t140 (rdOf (0 : Nat) y134 8)).bind fun t144 => (if t142 ≤ 0 then (if t144 ≤ 0 then ((carryoverref03_Class.f a0).bind fun t145 => (some ((t144 == 0) == (t145 == 3)))) else (some false)) else (some false))) else (none))) else (none)) = some r := H
          have A20 := Aside0.mk A200
          clear A200
          by_cases c21 : 0 < (y134.length : Int)
          · rw [if_pos c21] at H
            have c21b0 : decide (0 < (y134.length : Int)) = true := decide_eq_true c21
            have c21b1 : decide (0 < y134.length) = true := decide_eq_true (by omega)
            clear c21
            replace H := Option.bind_eq_some_iff.mp H
            obtain ⟨t142, A220, H⟩ := H
            replace H : (if 8 < (y134.length : Int) then ((real_Cmp.f t140 (rdOf (0 : Nat) y134 8)).bind fun t144 => (if t142 ≤ 0 then (if t144 ≤ 0 then ((carryoverref03_Class.f a0).bind fun t145 => (some ((t144 == 0) == (t145 == 3)))) else (some false)) else (some false))) else (none)) = some r := H
            have A22 := Aside0.mk A220
            clear A220
            by_cases c23 : 8 < (y134.length : Int)
            · rw [if_pos c23] at H
              have c23b0 : decide (8 < (y134.length : Int)) = true := decide_eq_true c23
              have c23b1 : decide (8 < y134.length) = true := decide_eq_true (by omega)
              clear c23
              replace H := Option.bind_eq_some_iff.mp H
              obtain ⟨t144, A240, H⟩ := H
              replace H : (if t142 ≤ 0 then (if t144 ≤ 0 then ((carryoverref03_Class.f a0).bind fun t145 => (some ((t144 == 0) == (t145 == 3)))) else (some false)) else (some false)) = some r := H
              have A24 := Aside0.mk A240
              clear A240
              by_cases c25 : t142 ≤ 0
              · rw [if_pos c25] at H
                have c25b0 : decide (t142 ≤ 0) = true := decide_eq_true c25
                clear c25
                by_cases c26 : t144 ≤ 0
                · rw [if_pos c26] at H
                  have c26b0 : decide (t144 ≤ 0) = true := decide_eq_true c26
                  clear c26
                  replace H := Option.bind_eq_some_iff.mp H
                  obtain ⟨t145, A270, H⟩ := H
                  replace H : (some ((t144 == 0) == (t145 == 3))) = some r := H
                  have A27 := Aside0.mk A270
                  clear A270
                  obtain rfl := Option.some.inj H
                  obtain ⟨Ao28, co28, eo28⟩ := Kd.R_slice HO_3.out
                  subst eo28
                  go_wp2_with (first | (go_at_call 16; (with_reducible refine (carryoverlaw03_F.calls a0 t140 _ A20.out).mono ?_); rintro e w' ⟨rfl, ⟨nd, rfl⟩⟩; (try first | exact ⟨rfl, _, World.drewN_drewN _ _ _⟩ | exact ⟨rfl, _, Eq.trans (World.drewN_drewN _ _ _) (congrArg (World.drewN _) (Nat.add_assoc _ _ _))⟩); have p141 : 0 ≤ (0 : Int) := (by omega); have q141 : 0 < (y134.length : Int) := of_decide_eq_true (by first | (with_reducible assumption) | assumption); obtain ⟨ad141, e141, hx141_0⟩ := Kd.at_flt (Kd.R_reads' HO_3.out).2.2 0 p141 q141; cases e141; have qi141 : (0 < y134.length) = True := eq_true (by omega); (try rw [show ((0 : Int)).toNat = 0 from rfl] at hx141_0); (try rw [Addr.add_zero'] at hx141_0); replace p141 := eq_true p141; replace q141 := eq_true q141) | (go_at_call 17; (with_reducible refine (real_Cmp.calls (rdOf (0 : Nat) y134 0) t140 t142 _ A22.out).mono ?_); rintro e w' ⟨rfl, ⟨nd, rfl⟩⟩; (try first | exact ⟨rfl, _, World.drewN_drewN _ _ _⟩ | exact ⟨rfl, _, Eq.trans (World.drewN_drewN _ _ _) (congrArg (World.drewN _) (Nat.add_assoc _ _ _))⟩); have p143 : 0 ≤ (8 : Int) := (by omega); have q143 : 8 < (y134.length : Int) := of_decide_eq_true (by first | (with_reducible assumption) | assumption); obtain ⟨ad143, e143, hx143_0⟩ := Kd.at_flt (Kd.R_reads' HO_3.out).2.2 8 p143 q143; obtain rfl : ad141 = ad143 := (by injection e143); (try simp only [show (8 : Int).toNat = 8 from rfl, Nat.reduceMul, Nat.reduceEqDiff, Go.Addr.add, ↓reduceIte] at hx143_0); have qi143 : (8 < y134.length) = True := eq_true (by omega); (try rw [show ((8 : Int)).toNat = 8 from rfl] at hx143_0); replace p143 := eq_true p143; replace q143 := eq_true q143) | (go_at_call 17; (with_reducible refine (real_Cmp.calls t140 (rdOf (0 : Nat) y134 8) t144 _ A24.out).mono ?_); rintro e w' ⟨rfl, ⟨nd, rfl⟩⟩; (try first | exact ⟨rfl, _, World.drewN_drewN _ _ _⟩ | exact ⟨rfl, _, Eq.trans (World.drewN_drewN _ _ _) (congrArg (World.drewN _) (Nat.add_assoc _ _ _))⟩)) | (go_at_call 19; (with_reducible refine (carryoverref03_Class.calls a0 t145 _ A27.out).mono ?_); rintro e w' ⟨rfl, ⟨nd, rfl⟩⟩; (try first | exact ⟨rfl, _, World.drewN_drewN _ _ _⟩ | exact ⟨rfl, _, Eq.trans (World.drewN_drewN _ _ _) (congrArg (World.drewN _) (Nat.add_assoc _ _ _))⟩)))
                  repeat (go_quiet (first | (go_at_call 16; (with_reducible refine (carryoverlaw03_F.calls a0 t140 _ A20.out).mono ?_); rintro e w' ⟨rfl, ⟨nd, rfl⟩⟩; (try first | exact ⟨rfl, _, World.drewN_drewN _ _ _⟩ | exact ⟨rfl, _, Eq.trans (World.drewN_drewN _ _ _) (congrArg (World.drewN _) (Nat.add_assoc _ _ _))⟩); have p141 : 0 ≤ (0 : Int) := (by omega); have q141 : 0 < (y134.length : Int) := of_decide_eq_true (by first | (with_reducible assumption) | assumption); obtain ⟨ad141, e141, hx141_0⟩ := Kd.at_flt (Kd.R_reads' HO_3.out).2.2 0 p141 q141; cases e141; have qi141 : (0 < y134.length) = True := eq_true (by omega); (try rw [show ((0 : Int)).toNat = 0 from rfl] at hx141_0); (try rw [Addr.add_zero'] at hx141_0); replace p141 := eq_true p141; replace q141 := eq_true q141) | (go_at_call 17; (with_reducible refine (real_Cmp.calls (rdOf (0 : Nat) y134 0) t140 t142 _ A22.out).mono ?_); rintro e w' ⟨rfl, ⟨nd, rfl⟩⟩; (try first | exact ⟨rfl, _, World.drewN_drewN _ _ _⟩ | exact ⟨rfl, _, Eq.trans (World.drewN_drewN _ _ _) (congrArg (World.drewN _) (Nat.add_assoc _ _ _))⟩); have p143 : 0 ≤ (8 : Int) := (by omega); have q143 : 8 < (y134.length : Int) := of_decide_eq_true (by first | (with_reducible assumption) | assumption); obtain ⟨ad143, e143, hx143_0⟩ := Kd.at_flt (Kd.R_reads' HO_3.out).2.2 8 p143 q143; obtain rfl : ad141 = ad143 := (by injection e143); (try simp only [show (8 : Int).toNat = 8 from rfl, Nat.reduceMul, Nat.reduceEqDiff, Go.Addr.add, ↓reduceIte] at hx143_0); have qi143 : (8 < y134.length) = True := eq_true (by omega); (try rw [show ((8 : Int)).toNat = 8 from rfl] at hx143_0); replace p143 := eq_true p143; replace q143 := eq_true q143) | (go_at_call 17; (with_reducible refine (real_Cmp.calls t140 (rdOf (0 : Nat) y134 8) t144 _ A24.out).mono ?_); rintro e w' ⟨rfl, ⟨nd, rfl⟩⟩; (try first | exact ⟨rfl, _, World.drewN_drewN _ _ _⟩ | exact ⟨rfl, _, Eq.trans (World.drewN_drewN _ _ _) (congrArg (World.drewN _) (Nat.add_assoc _ _ _))⟩)) | (go_at_call 19; (with_reducible refine (carryoverref03_Class.calls a0 t145 _ A27.out).mono ?_); rintro e w' ⟨rfl, ⟨nd, rfl⟩⟩; (try first | exact ⟨rfl, _, World.drewN_drewN _ _ _⟩ | exact ⟨rfl, _, Eq.trans (World.drewN_drewN _ _ _) (congrArg (World.drewN _) (Nat.add_assoc _ _ _))⟩))); try go_wp2_with (first | (go_at_call 16; (with_reducible refine (carryoverlaw03_F.calls a0 t140 _ A20.out).mono ?_); rintro e w' ⟨rfl, ⟨nd, rfl⟩⟩; (try first | exact ⟨rfl, _, World.drewN_drewN _ _ _⟩ | exact ⟨rfl, _, Eq.trans (World.drewN_drewN _ _ _) (congrArg (World.drewN _) (Nat.add_assoc _ _ _))⟩); have p141 : 0 ≤ (0 : Int) := (by omega); have q141 : 0 < (y134.length : Int) := of_decide_eq_true (by first | (with_reducible assumption) | assumption); obtain ⟨ad141, e141, hx141_0⟩ := Kd.at_flt (Kd.R_reads' HO_3.out).2.2 0 p141 q141; cases e141; have qi141 : (0 < y134.length) = True := eq_true (by omega); (try rw [show ((0 : Int)).toNat = 0 from rfl] at hx141_0); (try rw [Addr.add_zero'] at hx141_0); replace p141 := eq_true p141; replace q141 := eq_true q141) | (go_at_call 17; (with_reducible refine (real_Cmp.calls (rdOf (0 : Nat) y134 0) t140 t142 _ A22.out).mono ?_); rintro e w' ⟨rfl, ⟨nd, rfl⟩⟩; (try first | exact ⟨rfl, _, World.drewN_drewN _ _ _⟩ | exact ⟨rfl, _, Eq.trans (World.drewN_drewN _ _ _) (congrArg (World.drewN _) (Nat.add_assoc _ _ _))⟩); have p143 : 0 ≤ (8 : Int) := (by omega); have q143 : 8 < (y134.length : Int) := of_decide_eq_true (by first | (with_reducible assumption) | assumption); obtain ⟨ad143, e143, hx143_0⟩ := Kd.at_flt (Kd.R_reads' HO_3.out).2.2 8 p143 q143; obtain rfl : ad141 = ad143 := (by injection e143); (try simp only [show (8 : Int).toNat = 8 from rfl, Nat.reduceMul, Nat.reduceEqDiff, Go.Addr.add, ↓reduceIte] at hx143_0); have qi143 : (8 < y134.length) = True := eq_true (by omega); (try rw [show ((8 : Int)).toNat = 8 from rfl] at hx143_0); replace p143 := eq_true p143; replace q143 := eq_true q143) | (go_at_call 17; (with_reducible refine (real_Cmp.calls t140 (rdOf (0 : Nat) y134 8) t144 _ A24.out).mono ?_); rintro e w' ⟨rfl, ⟨nd, rfl⟩⟩; (try first | exact ⟨rfl, _, World.drewN_drewN _ _ _⟩ | exact ⟨rfl, _, Eq.trans (World.drewN_drewN _ _ _) (congrArg (World.drewN _) (Nat.add_assoc _ _ _))⟩)) | (go_at_call 19; (with_reducible refine (carryoverref03_Class.calls a0 t145 _ A27.out).mono ?_); rintro e w' ⟨rfl, ⟨nd, rfl⟩⟩; (try first | exact ⟨rfl, _, World.drewN_drewN _ _ _⟩ | exact ⟨rfl, _, Eq.trans (World.drewN_drewN _ _ _) (congrArg (World.drewN _) (Nat.add_assoc _ _ _))⟩))))
                  go_ret
                  exact ⟨by first | rfl | (simp [errW_none, errW_some] <;> rfl) | (simp [*, errW_none, errW_some] <;> rfl), by repeat (first | (with_reducible first | exact HB.out | apply below_alloc | apply pw_below_drewN | apply below_drew1) | exact HB.out)⟩
                · rw [if_neg c26] at H
                  have c26b0 : decide (t144 ≤ 0) = false := decide_eq_false c26
                  clear c26
                  obtain rfl := Option.some.inj H
                  obtain ⟨Ao29, co29, eo29⟩ := Kd.R_slice HO_3.out
                  subst eo29
                  go_wp2_with (first | (go_at_call 16; (with_reducible refine (carryoverlaw03_F.calls a0 t140 _ A20.out).mono ?_); rintro e w' ⟨rfl, ⟨nd, rfl⟩⟩; (try first | exact ⟨rfl, _, World.drewN_drewN _ _ _⟩ | exact ⟨rfl, _, Eq.trans (World.drewN_drewN _ _ _) (congrArg (World.drewN _) (Nat.add_assoc _ _ _))⟩); have p141 : 0 ≤ (0 : Int) := (by omega); have q141 : 0 < (y134.length : Int) := of_decide_eq_true (by first | (with_reducible assumption) | assumption); obtain ⟨ad141, e141, hx141_0⟩ := Kd.at_flt (Kd.R_reads' HO_3.out).2.2 0 p141 q141; cases e141; have qi141 : (0 < y134.length) = True := eq_true (by omega); (try rw [show ((0 : Int)).toNat = 0 from rfl] at hx141_0); (try rw [Addr.add_zero'] at hx141_0); replace p141 := eq_true p141; replace q141 := eq_true q141) | (go_at_call 17; (with_reducible refine (real_Cmp.calls (rdOf (0 : Nat) y134 0) t140 t142 _ A22.out).mono ?_); rintro e w' ⟨rfl, ⟨nd, rfl⟩⟩; (try first | exact ⟨rfl, _, World.drewN_drewN _ _ _⟩ | exact ⟨rfl, _, Eq.trans (World.drewN_drewN _ _ _) (congrArg (World.drewN _) (Nat.add_assoc _ _ _))⟩); have p143 : 0 ≤ (8 : Int) := (by omega); have q143 : 8 < (y134.length : Int) := of_decide_eq_true (by first | (with_reducible assumption) | assumption); obtain ⟨ad143, e143, hx143_0⟩ := Kd.at_flt (Kd.R_reads' HO_3.out).2.2 8 p143 q143; obtain rfl : ad141 = ad143 := (by injection e143); (try simp only [show (8 : Int).toNat = 8 from rfl, Nat.reduceMul, Nat.reduceEqDiff, Go.Addr.add, ↓reduceIte] at hx143_0); have qi143 : (8 < y134.length) = True := eq_true (by omega); (try rw [show ((8 : Int)).toNat = 8 from rfl] at hx143_0); replace p143 := eq_true p143; replace q143 := eq_true q143) | (go_at_call 17; (with_reducible refine (real_Cmp.calls t140 (rdOf (0 : Nat) y134 8) t144 _ A24.out).mono ?_); rintro e w' ⟨rfl, ⟨nd, rfl⟩⟩; (try first | exact ⟨rfl, _, World.drewN_drewN _ _ _⟩ | exact ⟨rfl, _, Eq.trans (World.drewN_drewN _ _ _) (congrArg (World.drewN _) (Nat.add_assoc _ _ _))⟩)))
                  repeat (go_quiet (first | (go_at_call 16; (with_reducible refine (carryoverlaw03_F.calls a0 t140 _ A20.out).mono ?_); rintro e w' ⟨rfl, ⟨nd, rfl⟩⟩; (try first | exact ⟨rfl, _, World.drewN_drewN _ _ _⟩ | exact ⟨rfl, _, Eq.trans (World.drewN_drewN _ _ _) (congrArg (World.drewN _) (Nat.add_assoc _ _ _))⟩); have p141 : 0 ≤ (0 : Int) := (by omega); have q141 : 0 < (y134.length : Int) := of_decide_eq_true (by first | (with_reducible assumption) | assumption); obtain ⟨ad141, e141, hx141_0⟩ := Kd.at_flt (Kd.R_reads' HO_3.out).2.2 0 p141 q141; cases e141; have qi141 : (0 < y134.length) = True := eq_true (by omega); (try rw [show ((0 : Int)).toNat = 0 from rfl] at hx141_0); (try rw [Addr.add_zero'] at hx141_0); replace p141 := eq_true p141; replace q141 := eq_true q141) | (go_at_call 17; (with_reducible refine (real_Cmp.calls (rdOf (0 : Nat) y134 0) t140 t142 _ A22.out).mono ?_); rintro e w' ⟨rfl, ⟨nd, rfl⟩⟩; (try first | exact ⟨rfl, _, World.drewN_drewN _ _ _⟩ | exact ⟨rfl, _, Eq.trans (World.drewN_drewN _ _ _) (congrArg (World.drewN _) (Nat.add_assoc _ _ _))⟩); have p143 : 0 ≤ (8 : Int) := (by omega); have q143 : 8 < (y134.length : Int) := of_decide_eq_true (by first | (with_reducible assumption) | assumption); obtain ⟨ad143, e143, hx143_0⟩ := Kd.at_flt (Kd.R_reads' HO_3.out).2.2 8 p143 q143; obtain rfl : ad141 = ad143 := (by injection e143); (try simp only [show (8 : Int).toNat = 8 from rfl, Nat.reduceMul, Nat.reduceEqDiff, Go.Addr.add, ↓reduceIte] at hx143_0); have qi143 : (8 < y134.length) = True := eq_true (by omega); (try rw [show ((8 : Int)).toNat = 8 from rfl] at hx143_0); replace p143 := eq_true p143; replace q143 := eq_true q143) | (go_at_call 17; (with_reducible refine (real_Cmp.calls t140 (rdOf (0 : Nat) y134 8) t144 _ A24.out).mono ?_); rintro e w' ⟨rfl, ⟨nd, rfl⟩⟩; (try first | exact ⟨rfl, _, World.drewN_drewN _ _ _⟩ | exact ⟨rfl, _, Eq.trans (World.drewN_drewN _ _ _) (congrArg (World.drewN _) (Nat.add_assoc _ _ _))⟩))); try go_wp2_with (first | (go_at_call 16; (with_reducible refine (carryoverlaw03_F.calls a0 t140 _ A20.out).mono ?_); rintro e w' ⟨rfl, ⟨nd, rfl⟩⟩; (try first | exact ⟨rfl, _, World.drewN_drewN _ _ _⟩ | exact ⟨rfl, _, Eq.trans (World.drewN_drewN _ _ _) (congrArg (World.drewN _) (Nat.add_assoc _ _ _))⟩); have p141 : 0 ≤ (0 : Int) := (by omega); have q141 : 0 < (y134.length : Int) := of_decide_eq_true (by first | (with_reducible assumption) | assumption); obtain ⟨ad141, e141, hx141_0⟩ := Kd.at_flt (Kd.R_reads' HO_3.out).2.2 0 p141 q141; cases e141; have qi141 : (0 < y134.length) = True := eq_true (by omega); (try rw [show ((0 : Int)).toNat = 0 from rfl] at hx141_0); (try rw [Addr.add_zero'] at hx141_0); replace p141 := eq_true p141; replace q141 := eq_true q141) | (go_at_call 17; (with_reducible refine (real_Cmp.calls (rdOf (0 : Nat) y134 0) t140 t142 _ A22.out).mono ?_); rintro e w' ⟨rfl, ⟨nd, rfl⟩⟩; (try first | exact ⟨rfl, _, World.drewN_drewN _ _ _⟩ | exact ⟨rfl, _, Eq.trans (World.drewN_drewN _ _ _) (congrArg (World.drewN _) (Nat.add_assoc _ _ _))⟩); have p143 : 0 ≤ (8 : Int) := (by omega); have q143 : 8 < (y134.length : Int) := of_decide_eq_true (by first | (with_reducible assumption) | assumption); obtain ⟨ad143, e143, hx143_0⟩ := Kd.at_flt (Kd.R_reads' HO_3.out).2.2 8 p143 q143; obtain rfl : ad141 = ad143 := (by injection e143); (try simp only [show (8 : Int).toNat = 8 from rfl, Nat.reduceMul, Nat.reduceEqDiff, Go.Addr.add, ↓reduceIte] at hx143_0); have qi143 : (8 < y134.length) = True := eq_true (by omega); (try rw [show ((8 : Int)).toNat = 8 from rfl] at hx143_0); replace p143 := eq_true p143; replace q143 := eq_true q143) | (go_at_call 17; (with_reducible refine (real_Cmp.calls t140 (rdOf (0 : Nat) y134 8) t144 _ A24.out).mono ?_); rintro e w' ⟨rfl, ⟨nd, rfl⟩⟩; (try first | exact ⟨rfl, _, World.drewN_drewN _ _ _⟩ | exact ⟨rfl, _, Eq.trans (World.drewN_drewN _ _ _) (congrArg (World.drewN _) (Nat.add_assoc _ _ _))⟩))))
                  go_ret
                  exact ⟨by first | rfl | (simp [errW_none, errW_some] <;> rfl) | (simp [*, errW_none, errW_some] <;> rfl), by repeat (first | (with_reducible first | exact HB.out | apply below_alloc | apply pw_below_drewN | apply below_drew1) | exact HB.out)⟩
              · rw [if_neg c25] at H
                have c25b0 : decide (t142 ≤ 0) = false := decide_eq_false c25
                clear c25
                obtain rfl := Option.some.inj H
                obtain ⟨Ao30, co30, eo30⟩ := Kd.R_slice HO_3.out
                subst eo30
                go_wp2_with (first | (go_at_call 16; (with_reducible refine (carryoverlaw03_F.calls a0 t140 _ A20.out).mono ?_); rintro e w' ⟨rfl, ⟨nd, rfl⟩⟩; (try first | exact ⟨rfl, _, World.drewN_drewN _ _ _⟩ | exact ⟨rfl, _, Eq.trans (World.drewN_drewN _ _ _) (congrArg (World.drewN _) (Nat.add_assoc _ _ _))⟩); have p141 : 0 ≤ (0 : Int) := (by omega); have q141 : 0 < (y134.length : Int) := of_decide_eq_true (by first | (with_reducible assumption) | assumption); obtain ⟨ad141, e141, hx141_0⟩ := Kd.at_flt (Kd.R_reads' HO_3.out).2.2 0 p141 q141; cases e141; have qi141 : (0 < y134.length) = True := eq_true (by omega); (try rw [show ((0 : Int)).toNat = 0 from rfl] at hx141_0); (try rw [Addr.add_zero'] at hx141_0); replace p141 := eq_true p141; replace q141 := eq_true q141) | (go_at_call 17; (with_reducible refine (real_Cmp.calls (rdOf (0 : Nat) y134 0) t140 t142 _ A22.out).mono ?_); rintro e w' ⟨rfl, ⟨nd, rfl⟩⟩; (try first | exact ⟨rfl, _, World.drewN_drewN _ _ _⟩ | exact ⟨rfl, _, Eq.trans (World.drewN_drewN _ _ _) (congrArg (World.drewN _) (Nat.add_assoc _ _ _))⟩); have p143 : 0 ≤ (8 : Int) := (by omega); have q143 : 8 < (y134.length : Int) := of_decide_eq_true (by first | (with_reducible assumption) | assumption); obtain ⟨ad143, e143, hx143_0⟩ := Kd.at_flt (Kd.R_reads' HO_3.out).2.2 8 p143 q143; obtain rfl : ad141 = ad143 := (by injection e143); (try simp only [show (8 : Int).toNat = 8 from rfl, Nat.reduceMul, Nat.reduceEqDiff, Go.Addr.add, ↓reduceIte] at hx143_0); have qi143 : (8 < y134.length) = True := eq_true (by omega); (try rw [show ((8 : Int)).toNat = 8 from rfl] at hx143_0); replace p143 := eq_true p143; replace q143 := eq_true q143) | (go_at_call 17; (with_reducible refine (real_Cmp.calls t140 (rdOf (0 : Nat) y134 8) t144 _ A24.out).mono ?_); rintro e w' ⟨rfl, ⟨nd, rfl⟩⟩; (try first | exact ⟨rfl, _, World.drewN_drewN _ _ _⟩ | exact ⟨rfl, _, Eq.trans (World.drewN_drewN _ _ _) (congrArg (World.drewN _) (Nat.add_assoc _ _ _))⟩)))
                repeat (go_quiet (first | (go_at_call 16; (with_reducible refine (carryoverlaw03_F.calls a0 t140 _ A20.out).mono ?_); rintro e w' ⟨rfl, ⟨nd, rfl⟩⟩; (try first | exact ⟨rfl, _, World.drewN_drewN _ _ _⟩ | exact ⟨rfl, _, Eq.trans (World.drewN_drewN _ _ _) (congrArg (World.drewN _) (Nat.add_assoc _ _ _))⟩); have p141 : 0 ≤ (0 : Int) := (by omega); have q141 : 0 < (y134.length : Int) := of_decide_eq_true (by first | (with_reducible assumption) | assumption); obtain ⟨ad141, e141, hx141_0⟩ := Kd.at_flt (Kd.R_reads' HO_3.out).2.2 0 p141 q141; cases e141; have qi141 : (0 < y134.length) = True := eq_true (by omega); (try rw [show ((0 : Int)).toNat = 0 from rfl] at hx141_0); (try rw [Addr.add_zero'] at hx141_0); replace p141 := eq_true p141; replace q141 := eq_true q141) | (go_at_call 17; (with_reducible refine (real_Cmp.calls (rdOf (0 : Nat) y134 0) t140 t142 _ A22.out).mono ?_); rintro e w' ⟨rfl, ⟨nd, rfl⟩⟩; (try first | exact ⟨rfl, _, World.drewN_drewN _ _ _⟩ | exact ⟨rfl, _, Eq.trans (World.drewN_drewN _ _ _) (congrArg (World.drewN _) (Nat.add_assoc _ _ _))⟩); have p143 : 0 ≤ (8 : Int) := (by omega); have q143 : 8 < (y134.length : Int) := of_decide_eq_true (by first | (with_reducible assumption) | assumption); obtain ⟨ad143, e143, hx143_0⟩ := Kd.at_flt (Kd.R_reads' HO_3.out).2.2 8 p143 q143; obtain rfl : ad141 = ad143 := (by injection e143); (try simp only [show (8 : Int).toNat = 8 from rfl, Nat.reduceMul, Nat.reduceEqDiff, Go.Addr.add, ↓reduceIte] at hx143_0); have qi143 : (8 < y134.length) = True := eq_true (by omega); (try rw [show ((8 : Int)).toNat = 8 from rfl] at hx143_0); replace p143 := eq_true p143; replace q143 := eq_true q143) | (go_at_call 17; (with_reducible refine (real_Cmp.calls t140 (rdOf (0 : Nat) y134 8) t144 _ A24.out).mono ?_); rintro e w' ⟨rfl, ⟨nd, rfl⟩⟩; (try first | exact ⟨rfl, _, World.drewN_drewN _ _ _⟩ | exact ⟨rfl, _, Eq.trans (World.drewN_drewN _ _ _) (congrArg (World.drewN _) (Nat.add_assoc _ _ _))⟩))); try go_wp2_with (first | (go_at_call 16; (with_reducible refine (carryoverlaw03_F.calls a0 t140 _ A20.out).mono ?_); rintro e w' ⟨rfl, ⟨nd, rfl⟩⟩; (try first | exact ⟨rfl, _, World.drewN_drewN _ _ _⟩ | exact ⟨rfl, _, Eq.trans (World.drewN_drewN _ _ _) (congrArg (World.drewN _) (Nat.add_assoc _ _ _))⟩); have p141 : 0 ≤ (0 : Int) := (by omega); have q141 : 0 < (y134.length : Int) := of_decide_eq_true (by first | (with_reducible assumption) | assumption); obtain ⟨ad141, e141, hx141_0⟩ := Kd.at_flt (Kd.R_reads' HO_3.out).2.2 0 p141 q141; cases e141; have qi141 : (0 < y134.length) = True := eq_true (by omega); (try rw [show ((0 : Int)).toNat = 0 from rfl] at hx141_0); (try rw [Addr.add_zero'] at hx141_0); replace p141 := eq_true p141; replace q141 := eq_true q141) | (go_at_call 17; (with_reducible refine (real_Cmp.calls (rdOf (0 : Nat) y134 0) t140 t142 _ A22.out).mono ?_); rintro e w' ⟨rfl, ⟨nd, rfl⟩⟩; (try first | exact ⟨rfl, _, World.drewN_drewN _ _ _⟩ | exact ⟨rfl, _, Eq.trans (World.drewN_drewN _ _ _) (congrArg (World.drewN _) (Nat.add_assoc _ _ _))⟩); have p143 : 0 ≤ (8 : Int) := (by omega); have q143 : 8 < (y134.length : Int) := of_decide_eq_true (by first | (with_reducible assumption) | assumption); obtain ⟨ad143, e143, hx143_0⟩ := Kd.at_flt (Kd.R_reads' HO_3.out).2.2 8 p143 q143; obtain rfl : ad141 = ad143 := (by injection e143); (try simp only [show (8 : Int).toNat = 8 from rfl, Nat.reduceMul, Nat.reduceEqDiff, Go.Addr.add, ↓reduceIte] at hx143_0); have qi143 : (8 < y134.length) = True := eq_true (by omega); (try rw [show ((8 : Int)).toNat = 8 from rfl] at hx143_0); replace p143 := eq_true p143; replace q143 := eq_true q143) | (go_at_call 17; (with_reducible refine (real_Cmp.calls t140 (rdOf (0 : Nat) y134 8) t144 _ A24.out).mono ?_); rintro e w' ⟨rfl, ⟨nd, rfl⟩⟩; (try first | exact ⟨rfl, _, World.drewN_drewN _ _ _⟩ | exact ⟨rfl, _, Eq.trans (World.drewN_drewN _ _ _) (congrArg (World.drewN _) (Nat.add_assoc _ _ _))⟩))))
                go_ret
                exact ⟨by first | rfl | (simp [errW_none, errW_some] <;> rfl) | (simp [*, errW_none, errW_some] <;> rfl), by repeat (first | (with_reducible first | exact HB.out | apply below_alloc | apply pw_below_drewN | apply below_drew1) | exact HB.out)⟩
            · rw [if_neg c23] at H
              exact absurd H (by simp)
          · rw [if_neg c21] at H
            exact absurd H (by simp)
  · replace c3 := Bool.eq_false_iff.mpr c3
    subst c3
    have H1 : (some false) = some r := by rw [if_neg (show ¬ (false = true) by decide)] at H; exact H
    clear H
    have H := H1
    clear H1
    obtain rfl := Option.some.inj H
    go_enter Try.func4, Try.ntmps4
    go_wp2_with (first | (go_at_call 15; (with_reducible refine (carryoverlaw03_awake.calls  false _ A2.out).mono ?_); rintro e w31 ⟨rfl, hb⟩; have n0_ := Aside0.mk (below_step (by repeat (first | (with_reducible first | exact HB.out | apply below_alloc | apply pw_below_drewN | apply below_drew1) | exact HB.out)) hb); clear HB; have HB := n0_; clear n0_; (try clear hb); (try clear hb2); (try clear hk); (try clear hi)))
    repeat (go_quiet (first | (go_at_call 15; (with_reducible refine (carryoverlaw03_awake.calls  false _ A2.out).mono ?_); rintro e w31 ⟨rfl, hb⟩; have n0_ := Aside0.mk (below_step (by repeat (first | (with_reducible first | exact HB.out | apply below_alloc | apply pw_below_drewN | apply below_drew1) | exact HB.out)) hb); clear HB; have HB := n0_; clear n0_; (try clear hb); (try clear hb2); (try clear hk); (try clear hi))); try go_wp2_with (first | (go_at_call 15; (with_reducible refine (carryoverlaw03_awake.calls  false _ A2.out).mono ?_); rintro e w31 ⟨rfl, hb⟩; have n0_ := Aside0.mk (below_step (by repeat (first | (with_reducible first | exact HB.out | apply below_alloc | apply pw_below_drewN | apply below_drew1) | exact HB.out)) hb); clear HB; have HB := n0_; clear n0_; (try clear hb); (try clear hb2); (try clear hk); (try clear hi))))
    go_ret
    exact ⟨by first | rfl | (simp [errW_none, errW_some] <;> rfl) | (simp [*, errW_none, errW_some] <;> rfl), by repeat (first | (with_reducible first | exact HB.out | apply below_alloc | apply pw_below_drewN | apply below_drew1) | exact HB.out)⟩

/-- THE ONE PURE STATEMENT of carryoverlaw03_RealEdges: yours. -/
def carryoverlaw03_RealEdges.Pure : Prop := ∀ (a0 : Int), (Lit.int .u64 a0).wf = true → ∃ k, carryoverlaw03_RealEdges.f k a0 = some true
theorem carryoverlaw03_RealEdges.walk (P : carryoverlaw03_RealEdges.Pure) (a0 : Int) (w : World) (w0 : (Lit.int .u64 a0).wf = true) :
    Calls Try.prog 4 #[.int .u64 a0] w fun e w' => e = .returned (.bool true) ∧ Below w.heap.size w w' := by
  obtain ⟨k, h⟩ := P a0 w0
  refine (carryoverlaw03_RealEdges.calls k a0 true w h).mono ?_
  rintro e w' ⟨rfl, hd⟩
  exact ⟨rfl, hd⟩

end Go.Proofs.Ytlglcnljjpedcaa.PReal
