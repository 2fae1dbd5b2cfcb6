import Derived.Test.YtfieppbehmglbaaVeF
/-! Addresses, cuts, lengths. -/
set_option linter.unusedVariables false
set_option linter.unusedSimpArgs false
namespace Go.Proofs.Ytfieppbehmglbaa.Ve
open Go

section
variable {P : Program} {ρ ρ' : Ren} {F F' : Nat → Prop} {w w' : World}

theorem makeSlice_sound {ev : Operand → Value} {o : Oper} {st st' : St} {R W R' W' : List Nat} {t : TypeId} {l c : Int} {kl kc : IntKind} {v : V}
    (hs : ∃ s : Sem Value, execOp ev o = (do pure (.value (← s))) ∧ s = Instr.makeSlice t (.int kl l) (.int kc c))
    (h : makeSliceV P st t l c = some (v, st', R', W')) (hp : Pre ρ F w st R W st'.next) (hwf : st.WF) : OpRes P ev o ρ F w st v st' W' ∧ Fine st st' W' := by
  unfold makeSliceV at h
  split at h
  · rename_i elem he
    split at h
    · rename_i info hi
      split at h
      · rename_i z hz
        split at h
        · rename_i hcond
          obtain ⟨h0, hlc, hc40, hcb, hzl, h1⟩ := hcond
          simp only [Option.some.injEq, Prod.mk.injEq] at h
          obtain ⟨rfl, rfl, rfl, rfl⟩ := h
          obtain ⟨i, x0, hi', hiz, rfl, hrun⟩ := run_zeroValue hz
          rw [hi] at hi'
          cases hi'
          obtain ⟨s, hs1, rfl⟩ := hs
          have hu := sliceElem_eq he
          obtain ⟨cn, rfl⟩ : ∃ n : Nat, c = n := ⟨c.toNat, by omega⟩
          obtain ⟨ln, rfl⟩ : ∃ n : Nat, l = n := ⟨l.toNat, by omega⟩
          have hwl : IntKind.i64.wrap (ln : Int) = ln := by
            simp [IntKind.wrap, IntKind.bits, IntKind.signed]; omega
          have hwc : IntKind.i64.wrap (cn : Int) = cn := by
            simp [IntKind.wrap, IntKind.bits, IntKind.signed]; omega
          have hb : (info.bytes : Int) * cn ≤ 2 ^ 40 := by
            have e : (cn : Int) * (info.bytes + 1) = info.bytes * cn + cn := by rw [Int.mul_add, Int.mul_comm]; simp
            rw [e] at hcb
            omega
          have hb0 : (0 : Int) ≤ (info.bytes : Int) * cn := Int.mul_nonneg (by omega) (by omega)
          have hlb : (info.bytes : Int) * ln ≤ 2 ^ 40 := Int.le_trans (Int.mul_le_mul_of_nonneg_left hlc (by omega)) hb
          have hcells : VList ρ F w (ofValue x0).cells x0.cells.toList := rel_cells (rel_ofValue x0)
          have hx0 : x0.cells.size = info.size := by have := hcells.length; simp at this; omega
          have hroom : ∀ w₁ : World, (askRoom (cn * info.bytes)).run P w₁ = .ok () w₁ := by
            intro w₁
            unfold askRoom
            rw [if_neg]
            · rfl
            · unfold roomBytes
              have : ((cn * info.bytes : Nat) : Int) ≤ 2 ^ 40 := by rw [Int.natCast_mul, Int.mul_comm]; exact hb
              omega
          have hrunm : ∃ b : Array Value, (Instr.makeSlice t (.int kl ln) (.int kc cn)).run P w = .ok (.slice (some ⟨w.heap.size, 0, none⟩) ln cn) (w.alloc (.cells b elem)) ∧ b = (Array.range (cn * info.size)).map (x0.cells[· % x0.cells.size]!) := by
            refine ⟨_, ?_, rfl⟩
            have t1 : ¬ ((cn : Int) < 0) := by omega
            have t2 : ¬ ((info.bytes : Int) * cn > 2 ^ 48) := by omega
            have t3 : ¬ ((ln : Int) < 0) := by omega
            have t4 : ¬ ((ln : Int) > cn) := by omega
            simp only [Instr.makeSlice, Sem.run_bind, run_underlying hu, Result.andThen_ok, asInt, asIntOf, Sem.run_pure, run_typeInfo hi, hwl, hwc]
            simp only [t1, t2, t3, t4, decide_false, Bool.or_false, Bool.false_eq_true, if_false, Sem.run_bind, Result.andThen_ok, Int.toNat_natCast, hroom, sizeOf, run_typeInfo hi, Sem.run_pure]
            by_cases hn : cn * info.size = 0
            · simp [hn, show Array.range 0 = #[] from rfl, newRow]
            · simp [hn, hrun, newRow]
          obtain ⟨b, hrunb, hb⟩ := hrunm
          refine ⟨⟨_, _, _, _, .inl (exec_value hs1 hrunb), ?_, post_new hp (Nat.lt_succ_self _) hwf (so := ⟨info.size, List.replicate cn (ofValue x0).cells⟩) rfl ⟨rfl, rfl, rfl⟩ ?_⟩, fine_new hwf _⟩
          · simp only [Int.toNat_natCast]
            exact mem_slice_rel (upd_same _ _ _) (by omega) (roomy_new rfl (show cn * info.size ≤ b.size by rw [hb]; simp))
          · intro r row hr
            simp only [List.getElem?_replicate] at hr
            split at hr
            · rename_i hlt
              simp only [Option.some.injEq] at hr
              subst hr
              refine ⟨hzl, fun k x hk => ?_⟩
              have hks : k < info.size := by
                have := (List.getElem?_eq_some_iff.1 hk).1
                omega
              obtain ⟨v, hv, hr⟩ := hcells.get k x hk
              refine ⟨v, ?_, rel_cell1 hr (List.all_eq_true.1 h1 x (List.mem_of_getElem? hk)), hr⟩
              have hlt2 : r * info.size + k < cn * info.size := by
                have : (r + 1) * info.size ≤ cn * info.size := Nat.mul_le_mul_right _ hlt
                rw [Nat.add_mul] at this
                omega
              have hmod : (r * info.size + k) % x0.cells.size = k := by
                rw [hx0, Nat.mul_comm, Nat.mul_add_mod, Nat.mod_eq_of_lt hks]
              rw [hb]
              simp only [Nat.zero_add, Array.getElem?_map, Array.getElem?_range, hlt2, if_true, Option.map_some, hmod]
              have hv' : x0.cells[k]? = some v := by simpa using hv
              rw [getElem!_def, hv']
            · simp at hr
        · simp at h
      · simp at h
    · simp at h
  · simp at h

theorem fieldAddr_sound {s : TypeId} {f : Nat} {x v : V} {vx : Value} (h : fieldAddrV P s f x = some v) (hx : VRel ρ F w x vx) : ∃ y, (Instr.fieldAt s vx f).run P w = .ok y w ∧ VRel ρ F w v y := by
  unfold fieldAddrV at h
  split at h
  · rename_i fields hu
    split at h
    · rename_i fd hf
      split at h
      · rename_i n hn
        have hplace : ∀ a : Addr, (fieldPlace a fd).run P w = .ok (a.add fd.offset) w := by
          intro a
          unfold fieldPlace
          rw [Sem.run_bind, run_sizeOf hn w]
          simp
        split at h
        · rename_i i r off
          simp only [Option.some.injEq] at h
          subst h
          simp only [VRel] at hx ⊢
          obtain ⟨B, o, s', hi, rfl⟩ := hx
          refine ⟨_, ?_, B, o, s', hi, rfl⟩
          simp only [Instr.fieldAt, Sem.run_bind, run_underlying hu, Result.andThen_ok, hf, Instr.sureAddr, Sem.run_pure, hplace, Addr.add_mid]
          congr 3
          simp only [Addr.mk.injEq, and_true, true_and]
          omega
        · rename_i cs
          simp only [Option.some.injEq] at h
          subst h
          simp only [VRel] at hx ⊢
          obtain ⟨B, o, hF, rfl, hc⟩ := hx
          refine ⟨_, ?_, B, o + fd.offset, hF, rfl, hc.drop fd.offset⟩
          simp only [Instr.fieldAt, Sem.run_bind, run_underlying hu, Result.andThen_ok, hf, Instr.sureAddr, Sem.run_pure, hplace, Addr.add_mid]
        · simp at h
      · simp at h
    · simp at h
  · simp at h

theorem field_sound {t : TypeId} {f : Nat} {x v : V} {vx : Value} (h : fieldV P t f x = some v) (hx : VRel ρ F w x vx) : ∃ y, (Instr.field t vx f).run P w = .ok y w ∧ VRel ρ F w v y := by
  unfold fieldV at h
  split at h
  · rename_i fields hu
    split at h
    · rename_i fd hf
      split at h
      · rename_i ha
        obtain ⟨a, rfl⟩ := isAgg_agg hx ha
        obtain ⟨y, hy, hr⟩ := part_val h (a := a) (by have := rel_cells hx; simpa [Value.cells] using this)
        refine ⟨y, ?_, hr⟩
        simp only [Instr.field, Sem.run_bind, run_underlying hu, Result.andThen_ok, hf, asAgg, Sem.run_pure, hy]
      · simp at h
    · simp at h
  · simp at h

theorem indexAddr_sound {t : TypeId} {x v : V} {vx : Value} {kk : IntKind} {k : Int} (h : indexAddrV P t x k = some v) (hx : VRel ρ F w x vx) : ∃ y, (Instr.indexAt t vx (.int kk k)).run P w = .ok y w ∧ VRel ρ F w v y := by
  unfold indexAddrV at h
  split at h
  · rename_i len elem hu
    split at h
    · rename_i size hs
      split at h
      · rename_i hk
        split at h
        · rename_i i r off
          simp only [Option.some.injEq] at h
          subst h
          simp only [VRel] at hx ⊢
          obtain ⟨B, o, s', hi, rfl⟩ := hx
          refine ⟨_, ?_, B, o, s', hi, rfl⟩
          simp only [Instr.indexAt, Sem.run_bind, asIntOf, Sem.run_pure, Result.andThen_ok, run_underlying hu, Instr.sureAddr, hk, and_self, if_true, run_sizeOf hs, Addr.add_mid]
          congr 3
          simp only [Addr.mk.injEq, and_true, true_and]
          omega
        · rename_i cs
          simp only [Option.some.injEq] at h
          subst h
          simp only [VRel] at hx ⊢
          obtain ⟨B, o, hF, rfl, hc⟩ := hx
          refine ⟨_, ?_, B, o + k.toNat * size, hF, rfl, hc.drop _⟩
          simp only [Instr.indexAt, Sem.run_bind, asIntOf, Sem.run_pure, Result.andThen_ok, run_underlying hu, Instr.sureAddr, hk, and_self, if_true, run_sizeOf hs, Addr.add_mid]
        · simp at h
      · simp at h
    · simp at h
  · rename_i elem hu
    split at h
    · rename_i size hs
      split at h
      · rename_i rows
        split at h
        · rename_i hk0
          split at h
          · rename_i row hrow
            split at h
            · rename_i hlen
              simp only [Option.some.injEq] at h
              subst h
              have hlt : k.toNat < rows.length := (List.getElem?_eq_some_iff.1 hrow).1
              simp only [VRel, PRel] at hx ⊢
              obtain ⟨a, cap, rfl, hcap, hR⟩ := hx
              rcases hR with rfl | ⟨B, o, s', rfl, hF, hR⟩
              · simp at hlt
              · obtain ⟨h1, h2⟩ := hR.get _ row hrow
                refine ⟨_, ?_, B, o + k.toNat * s', hF, rfl, h2⟩
                have hk : 0 ≤ k ∧ k < (rows.length : Int) := ⟨hk0, by omega⟩
                simp only [Instr.indexAt, Sem.run_bind, asIntOf, Sem.run_pure, Result.andThen_ok, run_underlying hu, hk, and_self, if_true, run_sizeOf hs, Addr.add_mid]
                rw [← h1, hlen]
            · simp at h
          · simp at h
        · simp at h
      · rename_i i s' r len
        split at h
        · rename_i hk
          obtain ⟨hk0, hk1, rfl⟩ := hk
          simp only [Option.some.injEq] at h
          subst h
          simp only [VRel] at hx ⊢
          obtain ⟨B, o, a, cap, hi, rfl, hlc, hca, -⟩ := hx
          refine ⟨_, ?_, B, o, s', hi, rfl⟩
          simp only [Instr.indexAt, Sem.run_bind, asIntOf, Sem.run_pure, Result.andThen_ok, run_underlying hu, hk0, hk1, and_self, if_true, run_sizeOf hs, Addr.add_mid]
          congr 3
          simp only [Addr.mk.injEq, and_true, true_and]
          rcases hca with rfl | rfl
          · omega
          · rw [Nat.add_mul]; omega
        · simp at h
      · simp at h
    · simp at h
  · simp at h

theorem index_sound {t : TypeId} {x v : V} {vx : Value} {kk : IntKind} {k : Int} (h : indexV P t x k = some v) (hx : VRel ρ F w x vx) : ∃ y, (Instr.index t vx (.int kk k)).run P w = .ok y w ∧ VRel ρ F w v y := by
  unfold indexV at h
  split at h
  · rename_i len elem hu
    split at h
    · rename_i size hs
      split at h
      · rename_i hk
        obtain ⟨h0, h1, ha⟩ := hk
        obtain ⟨a, rfl⟩ := isAgg_agg hx ha
        obtain ⟨y, hy, hr⟩ := part_val h (a := a) (by have := rel_cells hx; simpa [Value.cells] using this)
        refine ⟨y, ?_, hr⟩
        simp only [Instr.index, Sem.run_bind, asIntOf, Sem.run_pure, Result.andThen_ok, run_underlying hu, h0, h1, and_self, if_true, run_sizeOf hs, hy]
      · simp at h
    · simp at h
  · simp at h

end

end Go.Proofs.Ytfieppbehmglbaa.Ve
