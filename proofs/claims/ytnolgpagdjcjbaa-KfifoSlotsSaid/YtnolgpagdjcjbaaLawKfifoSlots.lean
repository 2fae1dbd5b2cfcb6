/-
  Proved: the law KfifoSlots answers true for every input, and its arguments read afterwards as before. No condition but the row's own.
-/
import Derived.Test.YtnolgpagdjcjbaaRows
import Derived.Test.YtnolgpagdjcjbaaKfifoSlots
import Derived.WalkKit
import Derived.ProofKit
import Derived.OpenShut
import Derived.ShutString
import Derived.ChangeOld
import Derived.Below
import Derived.SizedLaws
import Derived.Test.YtnolgpagdjcjbaaOn
namespace Go.Proofs.Ytnolgpagdjcjbaa.kfifoSlots
open Go.ChangeShapes Go.WideShapes Go.ChangeAt Go.RowKit
open Go.ChangeMaps (open_string shut_string)
set_option linter.unusedVariables false
theorem own : ownKnob Try.prog.godebug = none := by kernel_rfl
theorem laidOut : laidOutB Try.prog = true := by kernel_rfl
set_option maxRecDepth 100000 in
theorem lifted (os : Os) (started : os.Started) (H : Type) (enc : TypeId × Value → H) :
    ReturnsInHanded {} Try.checked os 7 .any (Rows.kfifoSlotsSpec.pre6 enc Try.prog Try.f7 Rows.kfifoSlotsRow.domain false) (Rows.kfifoSlotsSpec.post enc Try.prog Try.f7 false true false false) := by
  refine returnsInHanded_of_change_sized (C := Try.checked) own started (by kernel_rfl) Try.func7
    (ChangeSpec.witness6 (enc := enc) (C := Try.checked) false ⟨#[], #[.int .i64 0, .slice none 0 0, .slice none 0 0], []⟩ 8 (by kernel_rfl) (by kernel_rfl) (by kernel_rfl) (by kernel_rfl)) ?_
  intro W base args ds gs before hval0 hW hcnd hsz0 _
  have hsz : (DataW.weightsEach Try.prog (Try.f7.params.toList ++ Rows.kfifoSlotsSpec.plain.varTypes Try.prog) (ds ++ gs)).all (· ≤ reachBytes) = true := hsz0
  have hval : ∀ (j : Nat) t v, Try.f7.params[j]? = some t → args[j]? = some v → Value.okWide Try.prog W .any base t v := hval0
  have hW' := hW
  obtain ⟨p, q, hA0, hV, rfl, hfz, hnd⟩ := hW
  have hA : DataW.TrodAll enc Try.prog W 0 (fun _ => true) true Try.f7.params.toList args.toList ds p := hA0
  rw [Try.params7] at hA hval hsz
  obtain ⟨v0, vs0, d0, ds0, p0, q0, hargs, rfl, rfl, h0, r0⟩ := trodAll_cons hA
  obtain ⟨v1, vs1, d1, ds1, p1, q1, rfl, rfl, rfl, h1, r1⟩ := trodAll_cons r0
  obtain ⟨v2, vs2, d2, ds2, p2, q2, rfl, rfl, rfl, h2, r2⟩ := trodAll_cons r1
  obtain ⟨rfl, rfl, rfl⟩ := trodAll_nil r2
  obtain rfl : args = #[v0, v1, v2] := by cases args; simp_all
  obtain ⟨rfl, rfl⟩ := trodVars_none hV
  obtain ⟨a0, rfl, rfl, rfl, w0⟩ := open_int Try.underlying3 (hval 0 3 v0 rfl rfl) h0
  obtain ⟨a1, len1, cap1, rfl⟩ := okWide_slice Try.underlying55 (hval 1 55 v1 rfl rfl)
  have k1_ := h1
  have lt1 : ∀ x ∈ p1, x.block < W.heap.size := by obtain ⟨m, hm⟩ := k1_; exact DataW.trod_lt m _ _ _ hm
  obtain ⟨m1, hm1⟩ := h1
  obtain ⟨ps1, pl1, -, wf1⟩ := (Ve.op_slice (sz := 1) Try.underlying55 (by kernel_rfl) (by decide) (Ve.op_slice (sz := 5) Try.underlying22 (by kernel_rfl) (by decide) (Ve.op_struct Try.underlying44 (by kernel_rfl) (Ve.opF_cons (sz := 1) rfl (by kernel_rfl) (Ve.op_int Try.underlying3) (Ve.opF_cons (sz := 2) rfl (by kernel_rfl) (Ve.op_struct Try.underlying42 (by kernel_rfl) (Ve.opF_cons (sz := 1) rfl (by kernel_rfl) (Ve.op_int Try.underlying40) (Ve.opF_cons (sz := 1) rfl (by kernel_rfl) (Ve.op_int Try.underlying2) Ve.opF_nil))) (Ve.opF_cons (sz := 1) rfl (by kernel_rfl) (Ve.op_int Try.underlying3) (Ve.opF_cons (sz := 1) rfl (by kernel_rfl) (Ve.op_int Try.underlying3) Ve.opF_nil))))))) enc W m1 _ _ hm1
  obtain ⟨a2, len2, cap2, rfl⟩ := okWide_slice Try.underlying56 (hval 2 56 v2 rfl rfl)
  have k2_ := h2
  have lt2 : ∀ x ∈ p2, x.block < W.heap.size := by obtain ⟨m, hm⟩ := k2_; exact DataW.trod_lt m _ _ _ hm
  obtain ⟨m2, hm2⟩ := h2
  obtain ⟨ps2, pl2, -, wf2⟩ := (Ve.op_slice (sz := 1) Try.underlying56 (by kernel_rfl) (by decide) (Ve.op_int Try.underlying3)) enc W m2 _ _ hm2
  clear hA0 hval0 hsz0 hsz
  refine (Go.Proofs.Ytnolgpagdjcjbaa.XKfifoSlots.walk a0 (.slice a1 len1 cap1) ps1 (.slice a2 len2 cap2) ps2 W w0 pl1 wf1 pl2 wf2).mono fun e W' ⟨he, bel⟩ => ?_
  subst he
  exact ⟨_, rfl, _, _, _, [], _, [], hW', trodAll_mk1 (shut_bool Try.underlying4 _), (trodAll_cons_mk (shut_int Try.underlying3 w0) (trodAll_cons_mk (Below.trod laidOut (by kernel_rfl) (of_decide_eq_true (by kernel_rfl)) k1_ bel lt1) (trodAll_cons_mk (Below.trod laidOut (by kernel_rfl) (of_decide_eq_true (by kernel_rfl)) k2_ bel lt2) trodAll_mk0))), rfl, bel.frame _, fun h => by cases h⟩
theorem over : Rows.kfifoSlotsRow.holds Try.pinned (OpenSpec.ofChange Rows.kfifoSlotsSpec) :=
  OpenClaim.holds_of_wide 7 Try.f7 rfl rfl rfl rfl rfl rfl rfl ⟨rfl, rfl, rfl, rfl, rfl⟩ rfl rfl rfl rfl rfl (by kernel_rfl) Try.func7 (by kernel_rfl)
    (of_decide_eq_true (by kernel_rfl)) (by unfold Func.isWrapper; first | (rw [if_pos (by decide +kernel)]; kernel_rfl) | (rw [if_neg (by decide +kernel)]; exact ⟨rfl, rfl⟩))
    (fun os started H enc _ => lifted os started H enc)
theorem proved : Rows.KfifoSlotsSaid := over
end Go.Proofs.Ytnolgpagdjcjbaa.kfifoSlots
namespace Go.Proofs.Ytnolgpagdjcjbaa
/-- The row, under a short name, for the claim. -/
theorem kfifoSlots_holds : Rows.KfifoSlotsSaid := kfifoSlots.proved
end Go.Proofs.Ytnolgpagdjcjbaa
