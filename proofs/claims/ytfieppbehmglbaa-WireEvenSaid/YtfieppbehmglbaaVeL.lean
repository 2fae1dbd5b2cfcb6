import Derived.Test.YtfieppbehmglbaaVeK
/-! Every operation but a call: the whole. -/
set_option linter.unusedVariables false
set_option linter.unusedSimpArgs false
namespace Go.Proofs.Ytfieppbehmglbaa.Ve
open Go

section
variable {P : Program} {ρ ρ' : Ren} {F F' : Nat → Prop} {w w' : World}

theorem one_some {st st' : St} {x : Option V} {v : V} {R W : List Nat} (h : one st x = some (v, st', R, W)) : x = some v ∧ st' = st ∧ R = [] ∧ W = [] := by
  unfold one at h
  cases x with
  | none => simp at h
  | some y =>
    simp only [Option.some.injEq, Prod.mk.injEq] at h
    obtain ⟨rfl, rfl, rfl, rfl⟩ := h
    exact ⟨rfl, rfl, rfl, rfl⟩

theorem EnvRel.sub {env : Operand → Option V} {ev : Operand → Value} {l m : List Operand} (h : EnvRel ρ F w env ev l) (hm : ∀ x ∈ m, x ∈ l) : EnvRel ρ F w env ev m := fun x hx => h x (hm x hx)

theorem scal_one {env : Operand → Option V} {ev : Operand → Value} {o : Oper} {st st' : St} {v : V} {R W R₀ W₀ : List Nat} (h : one st ((scal P env o).map ofValue) = some (v, st', R, W)) (he : EnvRel ρ F w env ev o.op.operands.toList)
    {n : Nat} (hp : Pre ρ F w st R₀ W₀ n) (hwf : st.WF) (hs : ∀ cs b, o.op ≠ .select cs b) : OpRes P ev o ρ F w st v st' W ∧ Fine st st' W := by
  obtain ⟨h1, rfl, rfl, rfl⟩ := one_some h
  cases hx : scal P env o with
  | none => simp [hx] at h1
  | some x =>
    simp only [hx, Option.map_some, Option.some.injEq] at h1
    subst h1
    exact ⟨opres_quiet hp hwf (scal_sound hx he hs w) (rel_ofValue x), fine_same hwf⟩

set_option maxHeartbeats 1600000 in
theorem vop_sound {env : Operand → Option V} {ev : Operand → Value} {o : Oper} {st st' : St} {v : V} {R W : List Nat} (h : vop P env o st = some (v, st', R, W)) (he : EnvRel ρ F w env ev o.op.operands.toList)
    (hp : Pre ρ F w st R W st'.next) (hwf : st.WF) : OpRes P ev o ρ F w st v st' W ∧ Fine st st' W := by
  have hRobj : ∀ i ∈ R, ∀ so, st.get i = some so → ObjRel ρ F w i so := fun i hi so hg => by
    obtain ⟨so', hg', ho⟩ := hp.obj i (get_lt hwf hg) (.inl hi)
    rw [hg] at hg'
    cases hg'
    exact ho
  unfold vop at h
  split at h
  · -- move
    rename_i x hop
    obtain ⟨h1, rfl, rfl, rfl⟩ := one_some h
    refine ⟨opres_quiet hp hwf (x := ev x) ?_ (he x (by rw [hop]; simp [Op.operands]) v h1), fine_same hwf⟩
    unfold execOp; rw [hop]; rfl
  · -- assign
    rename_i x hop
    obtain ⟨h1, rfl, rfl, rfl⟩ := one_some h
    refine ⟨opres_quiet hp hwf (x := ev x) ?_ (he x (by rw [hop]; simp [Op.operands]) v h1), fine_same hwf⟩
    unfold execOp; rw [hop]; rfl
  · -- pick
    rename_i c a b hop
    split at h
    · rename_i t hc
      have hcv := he c (by rw [hop]; simp [Op.operands]) _ hc
      simp only [VRel, PRel] at hcv
      split at h
      · obtain ⟨h1, rfl, rfl, rfl⟩ := one_some h
        refine ⟨opres_quiet hp hwf (x := ev a) ?_ (he a (by rw [hop]; simp [Op.operands]) v h1), fine_same hwf⟩
        unfold execOp; rw [hop]
        simp [hcv, asBool]
      · obtain ⟨h1, rfl, rfl, rfl⟩ := one_some h
        refine ⟨opres_quiet hp hwf (x := ev b) ?_ (he b (by rw [hop]; simp [Op.operands]) v h1), fine_same hwf⟩
        unfold execOp; rw [hop]
        simp [hcv, asBool]
    · simp at h
  · -- alloc
    rename_i t hop
    split at h
    · rename_i z hz
      split at h
      · rename_i h1
        simp only [Option.some.injEq, Prod.mk.injEq] at h
        obtain ⟨rfl, rfl, rfl, rfl⟩ := h
        obtain ⟨i, x0, hi, hiz, rfl, hrun⟩ := run_zeroValue hz
        have hcells : VList ρ F w (ofValue x0).cells x0.cells.toList := rel_cells (rel_ofValue x0)
        have hs : execOp ev o = (do pure (.value (← Instr.alloc t true (.tuple #[])))) := by unfold execOp; rw [hop]
        have hr : (Instr.alloc t true (.tuple #[])).run P w = .ok (.pointer (some ⟨w.heap.size, 0, none⟩)) (w.alloc (.cells x0.cells t)) := by
          simp [Instr.alloc, hrun, newVar, newRow]
        refine ⟨⟨_, _, _, _, .inl (exec_value hs hr), ?_, post_new hp (Nat.lt_succ_self _) hwf (so := ⟨(ofValue x0).cells.length, [(ofValue x0).cells]⟩) rfl ⟨rfl, rfl, rfl⟩ (orows_one hcells h1)⟩, fine_new hwf _⟩
        simp only [VRel]
        exact ⟨w.heap.size, 0, _, upd_same _ _ _, by simp⟩
      · simp at h
    · simp at h
  · -- box
    rename_i t x hop
    split at h
    · rename_i xv hx
      split at h
      · rename_i h1
        simp only [Option.some.injEq, Prod.mk.injEq] at h
        obtain ⟨rfl, rfl, rfl, rfl⟩ := h
        have hxr := he x (by rw [hop]; simp [Op.operands]) _ hx
        have hcells := rel_cells hxr
        have hs : execOp ev o = (do pure (.value (← Instr.box t (ev x)))) := by unfold execOp; rw [hop]
        have hr : (Instr.box t (ev x)).run P w = .ok (.pointer (some ⟨w.heap.size, 0, none⟩)) (w.alloc (.cells (ev x).cells t)) := by
          simp [Instr.box, newVar, newRow]
        refine ⟨⟨_, _, _, _, .inl (exec_value hs hr), ?_, post_new hp (Nat.lt_succ_self _) hwf (so := ⟨xv.cells.length, [xv.cells]⟩) rfl ⟨rfl, rfl, rfl⟩ (orows_one hcells h1)⟩, fine_new hwf _⟩
        simp only [VRel]
        exact ⟨w.heap.size, 0, _, upd_same _ _ _, by simp⟩
      · simp at h
    · simp at h
  · -- build
    rename_i t parts hop
    split at h
    · rename_i ps hps
      obtain ⟨h1, rfl, rfl, rfl⟩ := one_some h
      have hpr := envParts_rel (ev := ev) (he.sub (by rw [hop]; simp [Op.operands])) hps
      obtain ⟨y, hy, hr⟩ := build_sound h1 hpr
      refine ⟨opres_quiet hp hwf (exec_value (s := Instr.build t (parts.toList.map fun (i, x) => (i, ev x)).toArray) ?_ hy) hr, fine_same hwf⟩
      unfold execOp; rw [hop]
      have e : ∀ q : Array (Nat × Value), q.toList = parts.toList.map (fun (i, x) => (i, ev x)) → q = (parts.toList.map (fun (i, x) => (i, ev x))).toArray := fun q hq => by apply Array.ext'; simpa using hq
      simp only []
      rw [e (parts.map fun (i, x) => (i, ev x)) (by simp)]
    · simp at h
  · -- buildSlice
    rename_i t len parts hop
    split at h
    · rename_i ps hps
      have hpr := envParts_rel (ev := ev) (he.sub (by rw [hop]; simp [Op.operands])) hps
      refine buildSlice_sound ⟨_, ?_, rfl⟩ h hp hwf hpr
      unfold execOp; rw [hop]
      have e : ∀ q : Array (Nat × Value), q.toList = parts.toList.map (fun (i, x) => (i, ev x)) → q = (parts.toList.map (fun (i, x) => (i, ev x))).toArray := fun q hq => by apply Array.ext'; simpa using hq
      simp only []
      rw [e (parts.map fun (i, x) => (i, ev x)) (by simp)]
    · simp at h
  · -- load
    rename_i t a hop
    split at h
    · rename_i x hx
      split at h
      · rename_i v' R' hl
        simp only [Option.some.injEq, Prod.mk.injEq] at h
        obtain ⟨rfl, rfl, rfl, rfl⟩ := h
        have hxr := he a (by rw [hop]; simp [Op.operands]) _ hx
        have hlive : ∀ i ∈ R', ∃ so, st.get i = some so ∧ ObjRel ρ F w i so := by
          intro i hi
          unfold loadV at hl
          split at hl
          · split at hl
            · rename_i so hso
              split at hl
              · split at hl
                · simp only [Option.some.injEq, Prod.mk.injEq] at hl
                  rw [← hl.2] at hi
                  simp only [List.mem_singleton] at hi
                  subst hi
                  exact ⟨so, hso, hRobj _ (by rw [← hl.2]; simp) so hso⟩
                · simp at hl
              · simp at hl
            · simp at hl
          · split at hl
            · simp only [Option.some.injEq, Prod.mk.injEq] at hl
              rw [← hl.2] at hi
              cases hi
            · simp at hl
          · simp at hl
        obtain ⟨b, y, hb, hy, hr⟩ := load_sound hl hxr hlive
        refine ⟨opres_quiet hp hwf (exec_value (s := Instr.loadAt t (ev a)) ?_ (x := y) ?_) hr, fine_same hwf⟩
        · unfold execOp; rw [hop]
        · simp only [Instr.loadAt, hb, Instr.sureAddr, Sem.run_bind, Sem.run_pure, Result.andThen_ok, hy]
      · simp at h
    · simp at h
  · -- store
    rename_i t a x hop
    split at h
    · rename_i p hpv
      split at h
      · rename_i xv hx
        split at h
        · rename_i st1 W1 hs
          simp only [Option.some.injEq, Prod.mk.injEq] at h
          obtain ⟨rfl, rfl, rfl, rfl⟩ := h
          obtain ⟨w₁, hr, hpost, hfine⟩ := store_sound hs hp hwf (he a (by rw [hop]; simp [Op.operands]) _ hpv) (he x (by rw [hop]; simp [Op.operands]) _ hx)
          refine ⟨⟨undef, w₁, ρ, F, .inr ⟨exec_unit (s := Instr.storeAt t (ev a) (ev x)) ?_ hr, rfl⟩, rel_undef, hpost⟩, hfine⟩
          unfold execOp; rw [hop]
        · simp at h
      · simp at h
    · simp at h
  · -- nilCheck
    rename_i x hop
    split at h
    · rename_i xv hx
      obtain ⟨h1, rfl, rfl, rfl⟩ := one_some h
      have hxr := he x (by rw [hop]; simp [Op.operands]) _ hx
      obtain ⟨hr, rfl⟩ := nilCheck_sound hop h1 hxr
      exact ⟨opres_quiet hp hwf hr hxr, fine_same hwf⟩
    · simp at h
  · -- binOp
    rename_i op t x y yt hop
    split at h
    · exact scal_one h he hp hwf (by rw [hop]; simp)
    · split at h
      · rename_i a ha
        split at h
        · rename_i b hb
          have hs : execOp ev o = (do pure (.value (← (do eqGuard op t x y (ev x) (ev y); binOp op t (ev x) (ev y))))) := by unfold execOp; rw [hop]
          have hxr := he x (by rw [hop]; simp [Op.operands]) _ ha
          have hyr := he y (by rw [hop]; simp [Op.operands]) _ hb
          split at h
          · obtain ⟨h1, rfl, rfl, rfl⟩ := one_some h
            cases hq : eqV P t a b with
            | none => simp [hq] at h1
            | some r =>
              simp only [hq, Option.map_some, Option.some.injEq] at h1
              subst h1
              exact ⟨opres_quiet hp hwf (exec_value hs ((eq_sound hq hxr hyr) x y).1) (by simp [VRel, PRel]), fine_same hwf⟩
          · obtain ⟨h1, rfl, rfl, rfl⟩ := one_some h
            cases hq : eqV P t a b with
            | none => simp [hq] at h1
            | some r =>
              simp only [hq, Option.map_some, Option.some.injEq] at h1
              subst h1
              exact ⟨opres_quiet hp hwf (exec_value hs ((eq_sound hq hxr hyr) x y).2) (by simp [VRel, PRel]), fine_same hwf⟩
          · simp at h
        · simp at h
      · simp at h
  · rename_i hop; exact scal_one h he hp hwf (by rw [hop]; simp)
  · rename_i hop; exact scal_one h he hp hwf (by rw [hop]; simp)
  · -- makeInterface
    rename_i t x hop
    split at h
    · rename_i xv hx
      have hxr := he x (by rw [hop]; simp [Op.operands]) _ hx
      split at h
      · simp at h
      · rename_i d hni hu
        simp only [Option.some.injEq, Prod.mk.injEq] at h
        obtain ⟨rfl, rfl, rfl, rfl⟩ := h
        refine ⟨opres_quiet hp hwf (exec_value (s := Instr.makeInterface t (ev x)) ?_ (x := .iface t (ev x)) ?_) (rel_mkIfc hxr), fine_same hwf⟩
        · unfold execOp; rw [hop]
        · simp only [Instr.makeInterface, Sem.run_bind, run_underlying hu, Result.andThen_ok]
          cases d <;> first
            | rfl
            | exact absurd rfl (hni _)
      · simp at h
    · simp at h
  · -- makeFunc
    rename_i fn first caps hop
    split at h
    · rename_i a ha
      split at h
      · rename_i c hc
        simp only [Option.some.injEq, Prod.mk.injEq] at h
        obtain ⟨rfl, rfl, rfl, rfl⟩ := h
        have r1 := envAll_rel (ev := ev) (he.sub (by rw [hop]; simp [Op.operands]; intro x hx; exact .inl hx)) ha
        have r2 := envAll_rel (ev := ev) (he.sub (by rw [hop]; simp [Op.operands]; intro x hx; exact .inr hx)) hc
        refine ⟨opres_quiet hp hwf (exec_value (s := Instr.makeFunc fn (first.map ev) (caps.map ev)) ?_ (x := .func fn (first.map ev) (caps.map ev)) rfl) ?_, fine_same hwf⟩
        · unfold execOp; rw [hop]
        · simp only [VRel]
          exact ⟨_, _, rfl, by simpa using r1, by simpa using r2⟩
      · simp at h
    · simp at h
  · -- makeSlice
    rename_i t l c hop
    split at h
    · rename_i kl ln hl
      split at h
      · rename_i kc cn hc
        have h1 := he l (by rw [hop]; simp [Op.operands]) _ hl
        have h2 := he c (by rw [hop]; simp [Op.operands]) _ hc
        simp only [VRel, PRel] at h1 h2
        refine makeSlice_sound (kl := kl) (kc := kc) ⟨_, ?_, rfl⟩ h hp hwf
        unfold execOp; rw [hop]; simp only [h1, h2]
      · simp at h
    · simp at h
  · -- slice
    rename_i t x lo hi hop
    split at h
    · rename_i xv hx
      split at h
      · exact scal_one h he hp hwf (by rw [hop]; simp)
      · obtain ⟨h1, rfl, rfl, rfl⟩ := one_some h
        have hxr := he x (by rw [hop]; simp [Op.operands]) _ hx
        obtain ⟨y, hy, hr⟩ := slice_sound (ev := ev) h1 hxr (he.sub (by rw [hop]; simp [Op.operands]; intro x hx; exact .inr (.inl hx))) (he.sub (by rw [hop]; simp [Op.operands]; intro x hx; exact .inr (.inr hx)))
        refine ⟨opres_quiet hp hwf (exec_value (s := Instr.sliceAt t (ev x) (lo.map ev) (hi.map ev) none) ?_ hy) hr, fine_same hwf⟩
        unfold execOp; rw [hop]; rfl
    · simp at h
  · -- fieldAddr
    rename_i s x f hop
    split at h
    · rename_i xv hx
      obtain ⟨h1, rfl, rfl, rfl⟩ := one_some h
      obtain ⟨y, hy, hr⟩ := fieldAddr_sound h1 (he x (by rw [hop]; simp [Op.operands]) _ hx)
      refine ⟨opres_quiet hp hwf (exec_value (s := Instr.fieldAt s (ev x) f) ?_ hy) hr, fine_same hwf⟩
      unfold execOp; rw [hop]
    · simp at h
  · -- field
    rename_i t x f hop
    split at h
    · rename_i xv hx
      obtain ⟨h1, rfl, rfl, rfl⟩ := one_some h
      obtain ⟨y, hy, hr⟩ := field_sound h1 (he x (by rw [hop]; simp [Op.operands]) _ hx)
      refine ⟨opres_quiet hp hwf (exec_value (s := Instr.field t (ev x) f) ?_ hy) hr, fine_same hwf⟩
      unfold execOp; rw [hop]
    · simp at h
  · -- indexAddr
    rename_i t x ix hop
    split at h
    · rename_i xv hx
      split at h
      · rename_i kk k hk
        obtain ⟨h1, rfl, rfl, rfl⟩ := one_some h
        have h2 := he ix (by rw [hop]; simp [Op.operands]) _ hk
        simp only [VRel, PRel] at h2
        obtain ⟨y, hy, hr⟩ := indexAddr_sound (kk := kk) h1 (he x (by rw [hop]; simp [Op.operands]) _ hx)
        refine ⟨opres_quiet hp hwf (exec_value (s := Instr.indexAt t (ev x) (ev ix)) ?_ (by rw [h2]; exact hy)) hr, fine_same hwf⟩
        unfold execOp; rw [hop]
      · simp at h
    · simp at h
  · -- index
    rename_i t x ix hop
    split at h
    · rename_i xv hx
      split at h
      · exact scal_one h he hp hwf (by rw [hop]; simp)
      · split at h
        · rename_i kk k hk
          obtain ⟨h1, rfl, rfl, rfl⟩ := one_some h
          have h2 := he ix (by rw [hop]; simp [Op.operands]) _ hk
          simp only [VRel, PRel] at h2
          obtain ⟨y, hy, hr⟩ := index_sound (kk := kk) h1 (he x (by rw [hop]; simp [Op.operands]) _ hx)
          refine ⟨opres_quiet hp hwf (exec_value (s := Instr.index t (ev x) (ev ix)) ?_ (by rw [h2]; exact hy)) hr, fine_same hwf⟩
          unfold execOp; rw [hop]
        · simp at h
    · simp at h
  · -- typeAssert
    rename_i x xt asserted ok hop
    split at h
    · rename_i xv hx
      split at h
      · rename_i t u hi
        split at h
        · simp at h
        · rename_i d hni hu
          split at h
          · rename_i heq
            subst heq
            simp only [Option.some.injEq, Prod.mk.injEq] at h
            obtain ⟨rfl, rfl, rfl, rfl⟩ := h
            have hxr := he x (by rw [hop]; simp [Op.operands]) _ hx
            obtain ⟨y, hy, hur⟩ := rel_iface hxr hi
            have hrun : (Instr.typeAssert (ev x) xt t ok).run P w = .ok (if ok then .tuple #[y, .bool true] else y) w := by
              simp only [Instr.typeAssert, Sem.run_bind, run_underlying hu, Result.andThen_ok, hy]
              cases d <;> first
                | (simp; done)
                | exact absurd rfl (hni _)
            refine ⟨opres_quiet hp hwf (exec_value (s := Instr.typeAssert (ev x) xt t ok) ?_ hrun) ?_, fine_same hwf⟩
            · unfold execOp; rw [hop]
            · cases ok
              · exact hur
              · simp only [if_true, VRel]
                refine ⟨_, rfl, ?_⟩
                simp only [VList]
                exact ⟨y, [.bool true], rfl, hur, .bool true, [], rfl, by simp [VRel, PRel], rfl⟩
          · simp at h
        · simp at h
      · simp at h
    · simp at h
  · -- extract
    rename_i t k hop
    split at h
    · rename_i cs hc
      obtain ⟨h1, rfl, rfl, rfl⟩ := one_some h
      have hr := he t (by rw [hop]; simp [Op.operands]) _ hc
      simp only [VRel] at hr
      obtain ⟨l, hl, hcs⟩ := hr
      obtain ⟨y, hy, hyr⟩ := hcs.get k v h1
      refine ⟨opres_quiet hp hwf (exec_value (s := Instr.extract (ev t) k) ?_ (x := y) ?_) hyr, fine_same hwf⟩
      · unfold execOp; rw [hop]
      · have : l[k]? = some y := by simpa using hy
        simp [Instr.extract, hl, this]
    · simp at h
  · -- append
    rename_i args argTypes hop
    split at h
    · rename_i s x hargs
      split at h
      · rename_i sv hs
        split at h
        · rename_i xv hx
          have ha : args = #[s, x] := by apply Array.ext'; simpa using hargs
          subst ha
          refine append_sound (R := R) (W := W) (at_ := argTypes) (ty := o.type) ⟨_, ?_, rfl⟩ h hp hwf (he s (by rw [hop]; simp [Op.operands, Call.operands]) _ hs) (he x (by rw [hop]; simp [Op.operands, Call.operands]) _ hx)
          unfold execOp; rw [hop]; simp only [resolve, List.map_toArray, List.map_cons, List.map_nil]; rfl
        · simp at h
      · simp at h
    · simp at h
  · -- len
    rename_i args argTypes hop
    split at h
    · rename_i x hargs
      split at h
      · rename_i xv hx
        split at h
        · exact scal_one h he hp hwf (by rw [hop]; simp)
        · split at h
          · rename_i t ht
            obtain ⟨h1, rfl, rfl, rfl⟩ := one_some h
            have ha : args = #[x] := by apply Array.ext'; simpa using hargs
            subst ha
            cases hq : lenV P t xv with
            | none => simp [hq] at h1
            | some n =>
              simp only [hq, Option.map_some, Option.some.injEq] at h1
              subst h1
              have hxr := he x (by rw [hop]; simp [Op.operands, Call.operands]) _ hx
              have hl := len_sound (ty := o.type) hq hxr
              have e : Builtin.len_ argTypes o.type #[ev x] = Builtin.len_ #[t] o.type #[ev x] := by
                unfold Builtin.len_
                simp only [ht, List.getElem?_toArray, List.getElem?_cons_zero]
              refine ⟨opres_quiet hp hwf (exec_value (s := Builtin.len_ argTypes o.type #[ev x]) ?_ (by rw [e]; exact hl)) (by simp [VRel, PRel]), fine_same hwf⟩
              unfold execOp; rw [hop]; simp only [resolve, List.map_toArray, List.map_cons, List.map_nil]; rfl
          · simp at h
      · simp at h
    · simp at h
  · rename_i hop; exact scal_one h he hp hwf (by rw [hop]; simp)
  · simp at h

end

end Go.Proofs.Ytfieppbehmglbaa.Ve
