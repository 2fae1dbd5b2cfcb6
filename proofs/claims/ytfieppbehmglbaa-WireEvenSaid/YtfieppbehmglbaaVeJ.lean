import Derived.Test.YtfieppbehmglbaaVeI
/-! Every operation but a call. -/
set_option linter.unusedVariables false
set_option linter.unusedSimpArgs false
namespace Go.Proofs.Ytfieppbehmglbaa.Ve
open Go

section
variable {P : Program} {ρ ρ' : Ren} {F F' : Nat → Prop} {w w' : World}

theorem scal_sound {env : Operand → Option V} {ev : Operand → Value} {o : Oper} {x : Value} (h : scal P env o = some x) (he : EnvRel ρ F w env ev o.op.operands.toList) (hs : ∀ cs b, o.op ≠ .select cs b) (w₁ : World) :
    (execOp ev o).run P w₁ = .ok (.value x) w₁ := by
  unfold scal at h
  split at h
  · rename_i hall
    have hc : execOp ev o = execOp (fun x => match env x with
      | some v => v.val?.getD undef
      | none => undef) o := by
      refine execOp_congr o hs fun y hy => ?_
      have hy' : y ∈ o.op.operands.toList := by simpa using hy
      have h1 := List.all_eq_true.1 hall y hy'
      cases hv : env y with
      | none => simp [hv] at h1
      | some v =>
        simp only [hv] at h1 ⊢
        cases hu : v.val? with
        | none => simp [hu] at h1
        | some u => simpa using VRel.val v (ev y) u (he y hy' v hv) hu
    rw [hc]
    split at h
    · rename_i v hv
      simp only [Option.some.injEq] at h
      subst h
      exact run_pureRun P _ _ hv w₁
    · simp at h
  · simp at h

theorem store_sound {st st' : St} {t : TypeId} {v p : V} {R W : List Nat} {vx px : Value} (h : storeV P st t v p = some (st', W)) (hp : Pre ρ F w st R W st'.next) (hwf : st.WF) (hpx : VRel ρ F w p px) (hvx : VRel ρ F w v vx) :
    ∃ w₁, (Instr.storeAt t px vx).run P w = .ok () w₁ ∧ Post ρ F w st ρ F w₁ st' W ∧ Fine st st' W := by
  cases p with
  | ptr i r off =>
    simp only [storeV] at h
    cases hvc : v.cells with
    | nil =>
      simp only [hvc] at h
      split at h
      · rename_i hsz
        simp only [Option.some.injEq, Prod.mk.injEq] at h
        obtain ⟨rfl, rfl⟩ := h
        simp only [VRel] at hpx
        obtain ⟨B, o, s, hρ, rfl⟩ := hpx
        have hcl := rel_cells hvx
        rw [hvc] at hcl
        simp only [VList] at hcl
        have hc0 : vx.cells = #[] := by apply Array.ext'; simpa using hcl
        refine ⟨w, ?_, post_same hp hwf rfl (Outs.refl w), fine_same hwf⟩
        simp [Instr.storeAt, Instr.sureAddr, storeVar, Sem.run_bind, run_sizeOf hsz, hc0, storeCells]
      · simp at h
    | cons y0 ys0 =>
    have hvl : v.cells.length ≠ 0 := by rw [hvc]; simp
    simp only [hvc] at h
    simp only [← hvc] at h
    cases hg : st.get i with
    | none => simp [hg] at h
    | some so =>
      simp only [hg] at h
      cases hr : so.rows[r]? with
      | none => simp [hr] at h
      | some row =>
        simp only [hr] at h
        split at h
        · rename_i hcond
          obtain ⟨hsz, hle, h1⟩ := hcond
          simp only [Option.some.injEq, Prod.mk.injEq] at h
          obtain ⟨rfl, rfl⟩ := h
          have hlt := get_lt hwf hg
          obtain ⟨so', hg', hobj⟩ := hp.obj i hlt (.inr (by simp))
          rw [hg] at hg'
          cases hg'
          simp only [VRel] at hpx
          obtain ⟨B, o, s, hρ, rfl⟩ := hpx
          obtain ⟨B', o', c, e, hρ', hF, hb, hR⟩ := hobj
          rw [hρ] at hρ'
          simp only [Option.some.injEq, Prod.mk.injEq] at hρ'
          obtain ⟨rfl, rfl, hs⟩ := hρ'
          have hcl := rel_cells hvx
          have hclen : vx.cells.size = v.cells.length := by have := hcl.length; simpa using this
          obtain ⟨hrl, hrow⟩ := hR r row hr
          have hcs : o + r * so.s + row.length ≤ c.size := by
            obtain ⟨y, hy⟩ : ∃ y, row[row.length - 1]? = some y := ⟨row[row.length - 1], by rw [List.getElem?_eq_getElem (by omega)]⟩
            obtain ⟨u, hu, -⟩ := hrow _ y hy
            have := (Array.getElem?_eq_some_iff.1 hu).1
            omega
          have hone : ∀ u ∈ vx.cells.toList, u.oneCell' = true := by
            intro u hu
            obtain ⟨k, hk, hku⟩ := List.getElem_of_mem hu
            have hk2 : k < v.cells.length := by simp at hk; omega
            obtain ⟨u', hu', hr'⟩ := hcl.get k v.cells[k] (by simp [hk2])
            have : u' = u := by
              rw [List.getElem?_eq_getElem hk, hku] at hu'
              simpa using hu'.symm
            subst this
            exact rel_cell1 hr' (List.all_eq_true.1 h1 _ (List.getElem_mem hk2))
          have hfit : o + r * s + off + vx.cells.size ≤ c.size := by rw [hs, hclen]; omega
          have hrun := store_run (P := P) hb (t := t) (x := vx) (by rw [hsz, hclen]) hfit hone
          have hfit' : o + r * s + off + vx.cells.toList.length ≤ c.size := by simpa using hfit
          have hwsz : (wr c (o + r * s + off) vx.cells.toList).size = c.size := by
            unfold wr
            simp
            omega
          refine ⟨_, ?_, post_store hp hwf hlt (by simp) hg hρ hF hb hwsz (setRow_heap w B c _ e _ hb) (so' := ⟨so.s, so.rows.set r (setAt row off v.cells)⟩) hs.symm (by simp) (Array.getElem?_eq_some_iff.1 hb).1 (fun B' hB' => setRow_other w B B' _ hB') ⟨rfl, rfl, rfl⟩ ?_, fine_set hwf hlt _⟩
          · simp only [Instr.storeAt, Instr.sureAddr, Sem.run_bind, Sem.run_pure, Result.andThen_ok, hrun]
          · show ORows ρ F w _ s o (so.rows.set r (setAt row off v.cells))
            intro r' row' hr'
            rw [List.getElem?_set] at hr'
            split at hr'
            · rename_i e'
              subst e'
              split at hr'
              · simp only [Option.some.injEq] at hr'
                subst hr'
                refine ⟨by rw [setAt_length hle, hrl, hs], fun k y hk => ?_⟩
                rw [setAt_get hle] at hk
                rw [wr_get hfit']
                split at hk
                · rename_i hkk
                  obtain ⟨u, hu, hur⟩ := hcl.get _ y hk
                  refine ⟨u, ?_, hone u (List.mem_of_getElem? hu), hur⟩
                  rw [if_pos (by simp; omega), ← hu]
                  congr 1
                  omega
                · rename_i hkk
                  obtain ⟨u, hu, hu1, hur⟩ := hrow k y hk
                  refine ⟨u, ?_, hu1, hur⟩
                  rw [if_neg (by simp; omega), ← hu, hs]
              · simp at hr'
            · rename_i hne
              obtain ⟨g1, g2⟩ := hR r' row' hr'
              refine ⟨by rw [g1, hs], fun k y hk => ?_⟩
              obtain ⟨u, hu, hu1, hur⟩ := g2 k y hk
              refine ⟨u, ?_, hu1, hur⟩
              have hk2 : k < s := by have := (List.getElem?_eq_some_iff.1 hk).1; omega
              have hoff : off + v.cells.length ≤ s := by rw [hs, ← hrl]; exact hle
              rw [wr_get hfit']
              rw [if_neg, ← hu, hs]
              simp only [Array.length_toList, hclen]
              rcases Nat.lt_or_ge r' r with hlt' | hge
              · have : (r' + 1) * s ≤ r * s := Nat.mul_le_mul_right _ hlt'
                rw [Nat.add_mul] at this
                omega
              · have hgt : r + 1 ≤ r' := by omega
                have : (r + 1) * s ≤ r' * s := Nat.mul_le_mul_right _ hgt
                rw [Nat.add_mul] at this
                omega
        · simp at h
  | _ => simp [storeV] at h

end

end Go.Proofs.Ytfieppbehmglbaa.Ve
