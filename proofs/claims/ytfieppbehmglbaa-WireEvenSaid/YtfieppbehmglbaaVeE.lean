import Derived.Test.YtfieppbehmglbaaVeD
/-! Each operation that is no call of a Go function: the model does what the evaluator says. -/
set_option linter.unusedVariables false
set_option linter.unusedSimpArgs false
namespace Go.Proofs.Ytfieppbehmglbaa.Ve
open Go

section
variable {P : Program} {ρ ρ' : Ren} {F F' : Nat → Prop} {w w' : World}

/-- What the model does at an operation. -/
def OpRes (P : Program) (ev : Operand → Value) (o : Oper) (ρ : Ren) (F : Nat → Prop) (w : World) (st : St) (v : V) (st' : St) (W : List Nat) : Prop :=
  ∃ x w' ρ' F', ((execOp ev o).run P w = .ok (.value x) w' ∨ ((execOp ev o).run P w = .ok .skip w' ∧ x = undef)) ∧ VRel ρ' F' w' v x ∧ Post ρ F w st ρ' F' w' st' W

theorem exec_value {ev : Operand → Value} {o : Oper} {s : Sem Value} (hs : execOp ev o = (do pure (.value (← s)))) {x : Value} (h : s.run P w = .ok x w') : (execOp ev o).run P w = .ok (.value x) w' := by
  rw [hs, Sem.run_bind, h]
  rfl

theorem exec_unit {ev : Operand → Value} {o : Oper} {s : Sem Unit} (hs : execOp ev o = (do s; pure .skip)) (h : s.run P w = .ok () w') : (execOp ev o).run P w = .ok .skip w' := by
  rw [hs, Sem.run_bind, h]
  rfl

theorem opres_quiet {ev : Operand → Value} {o : Oper} {st : St} {R W : List Nat} {n : Nat} (hp : Pre ρ F w st R W n) (hwf : st.WF) {v : V} {x : Value} (hr : (execOp ev o).run P w = .ok (.value x) w) (hv : VRel ρ F w v x) :
    OpRes P ev o ρ F w st v st [] := ⟨x, w, ρ, F, .inl hr, hv, post_same hp hwf rfl (Outs.refl w)⟩

theorem new_run {c : Array Value} {e : TypeId} : (newRow e c).run P w = .ok ⟨w.heap.size, 0, none⟩ (w.alloc (.cells c e)) := by
  unfold newRow
  rw [Sem.run_bind]
  rfl

/-- The values of operands. -/
def EnvRel (ρ : Ren) (F : Nat → Prop) (w : World) (env : Operand → Option V) (ev : Operand → Value) (l : List Operand) : Prop := ∀ x ∈ l, ∀ v, env x = some v → VRel ρ F w v (ev x)

theorem envAll_rel {env : Operand → Option V} {ev : Operand → Value} : ∀ {l : List Operand} {vs : List V}, EnvRel ρ F w env ev l → envAll env l = some vs → VList ρ F w vs (l.map ev)
  | [], vs, _, h => by simp only [envAll, Option.some.injEq] at h; subst h; simp [VList]
  | x :: xs, vs, he, h => by
    simp only [envAll] at h
    cases hx : env x with
    | none => simp [hx] at h
    | some v =>
      simp only [hx] at h
      cases hxs : envAll env xs with
      | none => simp [hxs] at h
      | some us =>
        simp only [hxs, Option.some.injEq] at h
        subst h
        simp only [List.map_cons, VList]
        exact ⟨_, _, rfl, he x (by simp) v hx, envAll_rel (fun y hy => he y (by simp [hy])) hxs⟩

/-- Parts with their places. -/
def PartsRel (ρ : Ren) (F : Nat → Prop) (w : World) : List (Nat × V) → List (Nat × Value) → Prop
  | [], l => l = []
  | (i, v) :: ps, l => ∃ x xs, l = (i, x) :: xs ∧ VRel ρ F w v x ∧ PartsRel ρ F w ps xs

theorem envParts_rel {env : Operand → Option V} {ev : Operand → Value} : ∀ {l : List (Nat × Operand)} {vs : List (Nat × V)}, EnvRel ρ F w env ev (l.map (·.2)) → envParts env l = some vs → PartsRel ρ F w vs (l.map fun (i, x) => (i, ev x))
  | [], vs, _, h => by simp only [envParts, Option.some.injEq] at h; subst h; simp [PartsRel]
  | (i, x) :: xs, vs, he, h => by
    simp only [envParts] at h
    cases hx : env x with
    | none => simp [hx] at h
    | some v =>
      simp only [hx] at h
      cases hxs : envParts env xs with
      | none => simp [hxs] at h
      | some us =>
        simp only [hxs, Option.some.injEq] at h
        subst h
        simp only [List.map_cons, PartsRel]
        exact ⟨_, _, rfl, he x (by simp) v hx, envParts_rel (fun y hy => he y (by simp at hy ⊢; exact .inr hy)) hxs⟩

theorem partsRel_norm : ∀ {ps : List (Nat × V)} {l : List (Nat × Value)}, PartsRel ρ F w ps l → PartsRel ρ F w (ps.map fun p => (p.1, p.2.norm)) l
  | [], l, h => by simpa [PartsRel] using h
  | (i, v) :: ps, l, h => by
    simp only [PartsRel] at h
    obtain ⟨x, xs, rfl, hv, h⟩ := h
    simp only [List.map_cons, PartsRel]
    exact ⟨x, xs, rfl, rel_norm v x hv, partsRel_norm h⟩

theorem setZip_get (cs : Array Value) (off : Nat) : ∀ (l : List Value) (n : Nat) (k : Nat), off + n + l.length ≤ cs.size →
    ((l.zipIdx n).foldl (fun cs (c, j) => cs.setIfInBounds (off + j) c) cs)[k]? = if off + n ≤ k ∧ k < off + n + l.length then l[k - (off + n)]? else cs[k]? := by
  intro l
  induction l generalizing cs with
  | nil => intro n k _; simp; omega
  | cons x l ih =>
    intro n k hle
    simp only [List.zipIdx_cons, List.foldl_cons]
    rw [ih (cs.setIfInBounds (off + n) x) (n + 1) k (by simp at hle ⊢; omega)]
    simp at hle
    by_cases h1 : k = off + n
    · subst h1
      rw [if_neg (by omega), if_pos (by simp)]
      have : off + n < cs.size := by omega
      simp [this]
    · rw [Array.getElem?_setIfInBounds_ne (by omega)]
      by_cases h2 : off + n ≤ k ∧ k < off + n + (l.length + 1)
      · rw [if_pos (by omega), if_pos (by simpa using h2)]
        rw [show k - (off + n) = (k - (off + (n + 1))) + 1 by omega]
        simp
      · rw [if_neg (by omega), if_neg (by simpa using h2)]

theorem setZip_size (off : Nat) : ∀ (l : List (Value × Nat)) (cs : Array Value), (l.foldl (fun cs (c, j) => cs.setIfInBounds (off + j) c) cs).size = cs.size
  | [], _ => rfl
  | (x, j) :: l, cs => by simp only [List.foldl_cons]; rw [setZip_size off l]; simp

theorem fill_rel (place place' : Nat → Option (Nat × Nat)) (hpl : ∀ i x, place i = some x → place' i = some x) : ∀ {ps : List (Nat × V)} {cs cs' : List V} {a : Array Value} {l : List (Nat × Value)}, PartsRel ρ F w ps l → VList ρ F w cs a.toList → vfill place cs ps = some cs' →
    ∃ b, Instr.fill place' a l = some b ∧ VList ρ F w cs' b.toList ∧ cs'.length = cs.length
  | [], cs, cs', a, l, hp, hc, h => by
    simp only [PartsRel] at hp
    subst hp
    simp only [vfill, Option.some.injEq] at h
    subst h
    exact ⟨a, rfl, hc, rfl⟩
  | (i, v) :: ps, cs, cs', a, l, hp, hc, h => by
    simp only [PartsRel] at hp
    obtain ⟨x, xs, rfl, hv, hp⟩ := hp
    simp only [vfill] at h
    cases hi : place i with
    | none => simp [hi] at h
    | some z =>
      obtain ⟨off, size⟩ := z
      simp only [hi] at h
      split at h
      · rename_i hcond
        obtain ⟨hc1, hc2⟩ := hcond
        have hcl := rel_cells hv
        have hlen : x.cells.size = v.cells.length := by have := hcl.length; simpa using this
        have hal : a.size = cs.length := by have := hc.length; simpa using this
        let a2 := (x.cells.zipIdx.foldl (fun cs (c, j) => cs.setIfInBounds (off + j) c) a)
        have hga : ∀ k, a2[k]? = if off ≤ k ∧ k < off + v.cells.length then x.cells[k - off]? else a[k]? := by
          intro k
          have e : a2 = (x.cells.toList.zipIdx 0).foldl (fun cs (c, j) => cs.setIfInBounds (off + j) c) a := by
            show x.cells.zipIdx.foldl _ a = _
            rw [← Array.foldl_toList, Array.toList_zipIdx]
          rw [e, setZip_get a off x.cells.toList 0 k (by simp; omega)]
          simp only [Nat.add_zero, Array.length_toList, hlen, Array.getElem?_toList]
        have hsz : a2.size = a.size := by
          show (x.cells.zipIdx.foldl _ a).size = _
          rw [← Array.foldl_toList]
          exact setZip_size off _ a
        have hv2 : VList ρ F w (setAt cs off v.cells) a2.toList := by
          refine VList.intro (by simp [setAt_length hc2, hsz, hal]) fun k y hk => ?_
          rw [setAt_get hc2] at hk
          rw [Array.getElem?_toList, hga]
          split at hk
          · rename_i hh
            rw [if_pos hh]
            have := hcl.get _ y hk
            simpa using this
          · rename_i hh
            rw [if_neg hh]
            have := hc.get _ y hk
            simpa using this
        obtain ⟨b, hb, hb2, hb3⟩ := fill_rel place place' hpl hp hv2 h
        refine ⟨b, ?_, hb2, by rw [hb3, setAt_length hc2]⟩
        simp only [Instr.fill, hpl i _ hi]
        rw [if_neg (by rw [hlen, hc1, hal]; rw [hc1] at hc2; simp; omega)]
        exact hb
      · simp at h

theorem fill_same (place : Nat → Option (Nat × Nat)) {ps : List (Nat × V)} {cs cs' : List V} {a : Array Value} {l : List (Nat × Value)} (hp : PartsRel ρ F w ps l) (hc : VList ρ F w cs a.toList) (h : vfill place cs ps = some cs') :
    ∃ b, Instr.fill place a l = some b ∧ VList ρ F w cs' b.toList ∧ cs'.length = cs.length := fill_rel place place (fun _ _ h => h) hp hc h

theorem build_sound {t : TypeId} {ps : List (Nat × V)} {l : List (Nat × Value)} {v : V} (h : buildV P t ps = some v) (hp : PartsRel ρ F w ps l) :
    ∃ x, (Instr.build t l.toArray).run P w = .ok x w ∧ VRel ρ F w v x := by
  unfold buildV at h
  cases hz : zeroV P t with
  | none => simp [hz] at h
  | some z =>
    simp only [hz] at h
    obtain ⟨i, x0, hi, hiz, rfl, hrun⟩ := run_zeroValue hz
    have hc : VList ρ F w (ofValue x0).cells x0.cells.toList := rel_cells (rel_ofValue x0)
    split at h
    · rename_i fields hu
      unfold placesOf at h
      split at h
      · rename_i places hpl
        split at h
        · rename_i cs hf
          simp only [Option.some.injEq] at h
          subst h
          obtain ⟨b, hb, hb2, -⟩ := fill_same _ hp hc hf
          refine ⟨.agg b, run_build w t _ b ?_, rel_mkAgg hb2⟩
          unfold Program.built
          simp [hi, hu, hiz, hpl, hb]
        · simp at h
      · simp at h
    · rename_i n elem hu
      split at h
      · rename_i size hs
        split at h
        · rename_i cs hf
          simp only [Option.some.injEq] at h
          subst h
          obtain ⟨b, hb, hb2, -⟩ := fill_same _ hp hc hf
          refine ⟨.agg b, run_build w t _ b ?_, rel_mkAgg hb2⟩
          unfold tySize at hs
          cases hie : P.info? elem with
          | none => simp [hie] at hs
          | some ie =>
            simp only [hie, Option.map_some, Option.some.injEq] at hs
            subst hs
            unfold Program.built
            simp [hi, hu, hiz, hie, hb]
        · simp at h
      · simp at h
    · simp at h

end

end Go.Proofs.Ytfieppbehmglbaa.Ve
