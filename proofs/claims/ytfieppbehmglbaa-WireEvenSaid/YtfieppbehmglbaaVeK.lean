import Derived.Test.YtfieppbehmglbaaVeJ
/-! Every operation but a call: the whole. -/
set_option linter.unusedVariables false
set_option linter.unusedSimpArgs false
namespace Go.Proofs.Ytfieppbehmglbaa.Ve
open Go

section
variable {P : Program} {ρ ρ' : Ren} {F F' : Nat → Prop} {w w' : World}

theorem methodV_some {t : TypeId} {name : String} {f : FuncId} {pr : Bool} (h : methodV P t name = some (f, pr)) :
    ∃ info m, P.info? t = some info ∧ info.methods.find? (·.name == name) = some m ∧ m.path.toList = [] ∧ m.func = some (f, pr) := by
  unfold methodV at h
  split at h
  · rename_i info hi
    split at h
    · rename_i m hm
      split at h
      · rename_i hp
        refine ⟨info, m, hi, hm, ?_, h⟩
        simpa using hp
      · simp at h
    · simp at h
  · simp at h

theorem fuel_pos {t : TypeId} {info : TypeInfo} (h : P.info? t = some info) : ∃ n, P.types.size + Made.depth = n + 1 := by
  have : 0 < Made.depth := by decide
  exact ⟨P.types.size + Made.depth - 1, by omega⟩

theorem nilAhead_ok {t : TypeId} {u : V} {name : String} {y : Value} (h : nilOk P t u name = true) (hu : VRel ρ F w u y) (w₁ : World) : (nilAhead (P.types.size + Made.depth) t y name).run P w₁ = .ok (some false) w₁ := by
  unfold nilOk at h
  split at h
  · rename_i f hm
    obtain ⟨info, m, hi, hf, hp, hfn⟩ := methodV_some hm
    obtain ⟨n, hn⟩ := fuel_pos hi
    rw [hn]
    simp only [nilAhead, Sem.run_bind, run_typeInfo hi, Result.andThen_ok, hf, hp, followBlind, Sem.run_pure, hfn]
  · rename_i f hm
    obtain ⟨info, m, hi, hf, hp, hfn⟩ := methodV_some hm
    obtain ⟨n, hn⟩ := fuel_pos hi
    rw [hn]
    unfold ptrElem at h
    cases hut : P.underlying t with
    | none => simp [hut] at h
    | some d =>
      simp only [nilAhead, Sem.run_bind, run_typeInfo hi, Result.andThen_ok, hf, hp, followBlind, Sem.run_pure, hfn, run_underlying hut]
      cases d <;> first
        | rfl
        | (simp only [hut] at h
           split at h
           · simp only [VRel] at hu; obtain ⟨B, o, s, -, rfl⟩ := hu; rfl
           · simp only [VRel] at hu; obtain ⟨B, o, -, rfl, -⟩ := hu; rfl
           · simp at h)
  · simp at h

theorem nilCheck_sound {ev : Operand → Value} {o : Oper} {a : Operand} {x v : V} (ho : o.op = .nilCheck a) (h : nilCheckV P x = some v) (hx : VRel ρ F w x (ev a)) : (execOp ev o).run P w = .ok (.value (ev a)) w ∧ v = x := by
  unfold execOp
  rw [ho]
  simp only []
  unfold nilCheckV at h
  split at h
  · simp only [Option.some.injEq] at h
    simp only [VRel] at hx
    obtain ⟨B, o', s, -, hx⟩ := hx
    rw [hx]
    exact ⟨rfl, h.symm⟩
  · simp only [Option.some.injEq] at h
    simp only [VRel] at hx
    obtain ⟨B, o', -, hx, -⟩ := hx
    rw [hx]
    exact ⟨rfl, h.symm⟩
  · simp only [Option.some.injEq] at h
    simp only [VRel] at hx
    obtain ⟨a', c', hx, -⟩ := hx
    rw [hx]
    exact ⟨rfl, h.symm⟩
  · rename_i name r rest caps
    split at h
    · rename_i t u hi
      split at h
      · rename_i hn
        simp only [Option.some.injEq] at h
        simp only [VRel] at hx
        obtain ⟨a', c', hx, ha, -⟩ := hx
        simp only [VList] at ha
        obtain ⟨y, ys, hay, hr, -⟩ := ha
        obtain ⟨y', rfl, hu⟩ := rel_iface hr hi
        have h0 : a'[0]? = some (.iface t y') := by rw [← Array.getElem?_toList, hay]; rfl
        rw [hx]
        refine ⟨?_, h.symm⟩
        simp only [h0, Sem.run_bind]
        have hp : (program : Sem Program).run P w = .ok P w := rfl
        simp only [hp, Result.andThen_ok, nilAhead_ok hn hu w]
        rfl
      · simp at h
    · simp at h
  · split at h
    · rename_i p hi
      simp only [Option.some.injEq] at h
      obtain ⟨t, u⟩ := p
      obtain ⟨y, hy, -⟩ := rel_iface hx hi
      rw [hy]
      exact ⟨rfl, h.symm⟩
    · simp at h

theorem eq_ptr_nil {t e : TypeId} {A : Addr} (hu : P.underlying t = some (.pointer e)) : (Op.equal t (.pointer (some A)) (.pointer none)).run P w = .ok false w := by
  show (Op.equalIn (9999 + 1) t _ _).run P w = _
  rw [Op.equalIn]
  simp only [Sem.run_bind, run_underlying hu, Result.andThen_ok]
  rfl
theorem eq_nil_ptr {t e : TypeId} {A : Addr} (hu : P.underlying t = some (.pointer e)) : (Op.equal t (.pointer none) (.pointer (some A))).run P w = .ok false w := by
  show (Op.equalIn (9999 + 1) t _ _).run P w = _
  rw [Op.equalIn]
  simp only [Sem.run_bind, run_underlying hu, Result.andThen_ok]
  rfl
theorem eq_ptr_same {t e : TypeId} {A : Addr} {n : Nat} (hu : P.underlying t = some (.pointer e)) (hs : tySize P e = some n) (hn : n ≠ 0) : (Op.equal t (.pointer (some A)) (.pointer (some A))).run P w = .ok true w := by
  show (Op.equalIn (9999 + 1) t _ _).run P w = _
  rw [Op.equalIn]
  simp only [Sem.run_bind, run_underlying hu, Result.andThen_ok, run_sizeOf hs]
  simp [hn, sameAddr]
theorem eq_slice_nil {t e : TypeId} {A : Addr} {n c : Nat} (hu : P.underlying t = some (.slice e)) : (Op.equal t (.slice (some A) n c) (.slice none 0 0)).run P w = .ok false w := by
  show (Op.equalIn (9999 + 1) t _ _).run P w = _
  rw [Op.equalIn]
  simp only [Sem.run_bind, run_underlying hu, Result.andThen_ok]
  rfl
theorem eq_nil_slice {t e : TypeId} {A : Addr} {n c : Nat} (hu : P.underlying t = some (.slice e)) : (Op.equal t (.slice none 0 0) (.slice (some A) n c)).run P w = .ok false w := by
  show (Op.equalIn (9999 + 1) t _ _).run P w = _
  rw [Op.equalIn]
  simp only [Sem.run_bind, run_underlying hu, Result.andThen_ok]
  rfl
theorem eq_ifc_nil {t t' : TypeId} {ms : Array (String × TypeId)} {y : Value} (hu : P.underlying t = some (.interface ms)) : (Op.equal t (.iface t' y) .nilIface).run P w = .ok false w := by
  show (Op.equalIn (9999 + 1) t _ _).run P w = _
  rw [Op.equalIn]
  simp only [Sem.run_bind, run_underlying hu, Result.andThen_ok]
  rfl
theorem eq_fn_nil {t : TypeId} {ps rs : Array TypeId} {b : Bool} {f : Fn} {x y : Array Value} (hu : P.underlying t = some (.func ps rs b)) : (Op.equal t (.func f x y) .nilFunc).run P w = .ok false w := by
  show (Op.equalIn (9999 + 1) t _ _).run P w = _
  rw [Op.equalIn]
  simp only [Sem.run_bind, run_underlying hu, Result.andThen_ok]
  rfl
theorem eq_nil_fn {t : TypeId} {ps rs : Array TypeId} {b : Bool} {f : Fn} {x y : Array Value} (hu : P.underlying t = some (.func ps rs b)) : (Op.equal t .nilFunc (.func f x y)).run P w = .ok false w := by
  show (Op.equalIn (9999 + 1) t _ _).run P w = _
  rw [Op.equalIn]
  simp only [Sem.run_bind, run_underlying hu, Result.andThen_ok]
  rfl

/-- == and != by the one comparison. -/
def EqRuns (P : Program) (t : TypeId) (a b : Value) (r : Bool) (w : World) : Prop :=
  ∀ p q, (do eqGuard .eql t p q a b; binOp .eql t a b : Sem Value).run P w = .ok (.bool r) w ∧ (do eqGuard .neq t p q a b; binOp .neq t a b : Sem Value).run P w = .ok (.bool (!r)) w

theorem eqRuns {t : TypeId} {a b : Value} {r : Bool} (h : (Op.equal t a b).run P w = .ok r w) (hg : ∀ p q, eqGuard .eql t p q a b = pure () ∧ eqGuard .neq t p q a b = pure ())
    (hb : binOp .eql t a b = (do pure (.bool (← Op.equal t a b))) ∧ binOp .neq t a b = (do pure (.bool (!(← Op.equal t a b))))) : EqRuns P t a b r w := by
  intro p q
  rw [hb.1, hb.2, (hg p q).1, (hg p q).2]
  simp only [Sem.run_bind, h, Result.andThen_ok, Sem.run_pure, and_self]

theorem eq_sound {t : TypeId} {x y : V} {a b : Value} {r : Bool} (h : eqV P t x y = some r) (hx : VRel ρ F w x a) (hy : VRel ρ F w y b) : EqRuns P t a b r w := by
  unfold eqV at h
  split at h
  all_goals try (simp at h; done)
  · rename_i hu
    simp only [Option.some.injEq] at h; subst h
    simp only [VRel, PRel] at hx hy
    obtain ⟨B, o, s, -, rfl⟩ := hx
    subst hy
    exact eqRuns (eq_ptr_nil hu) (fun _ _ => ⟨rfl, rfl⟩) ⟨rfl, rfl⟩
  · rename_i hu
    simp only [Option.some.injEq] at h; subst h
    simp only [VRel, PRel] at hx hy
    obtain ⟨B, o, -, rfl, -⟩ := hx
    subst hy
    exact eqRuns (eq_ptr_nil hu) (fun _ _ => ⟨rfl, rfl⟩) ⟨rfl, rfl⟩
  · rename_i hu
    simp only [Option.some.injEq] at h; subst h
    simp only [VRel, PRel] at hx hy
    obtain ⟨B, o, s, -, rfl⟩ := hy
    subst hx
    exact eqRuns (eq_nil_ptr hu) (fun _ _ => ⟨rfl, rfl⟩) ⟨rfl, rfl⟩
  · rename_i hu
    simp only [Option.some.injEq] at h; subst h
    simp only [VRel, PRel] at hx hy
    obtain ⟨B, o, -, rfl, -⟩ := hy
    subst hx
    exact eqRuns (eq_nil_ptr hu) (fun _ _ => ⟨rfl, rfl⟩) ⟨rfl, rfl⟩
  · rename_i e i r o i' r' o' hu
    split at h
    · rename_i hc
      obtain ⟨rfl, rfl, rfl, hsz⟩ := hc
      simp only [Option.some.injEq] at h; subst h
      simp only [VRel] at hx hy
      obtain ⟨B, q, s, hρ, rfl⟩ := hx
      obtain ⟨B', q', s', hρ', rfl⟩ := hy
      rw [hρ] at hρ'
      simp only [Option.some.injEq, Prod.mk.injEq] at hρ'
      obtain ⟨rfl, rfl, rfl⟩ := hρ'
      cases hts : tySize P e with
      | none => simp [hts] at hsz
      | some n =>
        have hn : n ≠ 0 := by simpa [hts] using hsz
        exact eqRuns (eq_ptr_same hu hts hn) (fun _ _ => ⟨rfl, rfl⟩) ⟨rfl, rfl⟩
    · simp at h
  · rename_i hu
    simp only [Option.some.injEq] at h; subst h
    simp only [VRel] at hx hy
    obtain ⟨B, o, a', cap, -, rfl, -⟩ := hx
    subst hy
    exact eqRuns (eq_slice_nil hu) (fun _ _ => ⟨rfl, rfl⟩) ⟨rfl, rfl⟩
  · rename_i hu
    simp only [Option.some.injEq] at h; subst h
    simp only [VRel] at hx hy
    obtain ⟨B, o, a', cap, -, rfl, -⟩ := hy
    subst hx
    exact eqRuns (eq_nil_slice hu) (fun _ _ => ⟨rfl, rfl⟩) ⟨rfl, rfl⟩
  · rename_i hu
    simp only [Option.some.injEq] at h; subst h
    simp only [VRel, PRel] at hx hy
    obtain ⟨a', cap, rfl, -, hR⟩ := hx
    rcases hR with hR | ⟨B, o, s, rfl, -⟩
    · cases hR
    subst hy
    exact eqRuns (eq_slice_nil hu) (fun _ _ => ⟨rfl, rfl⟩) ⟨rfl, rfl⟩
  · rename_i hu
    simp only [Option.some.injEq] at h; subst h
    simp only [VRel, PRel] at hx hy
    obtain ⟨a', cap, rfl, -, hR⟩ := hy
    rcases hR with hR | ⟨B, o, s, rfl, -⟩
    · cases hR
    subst hx
    exact eqRuns (eq_nil_slice hu) (fun _ _ => ⟨rfl, rfl⟩) ⟨rfl, rfl⟩
  · rename_i ms hu
    split at h
    · rename_i p hi
      simp only [Option.some.injEq] at h; subst h
      obtain ⟨t', u⟩ := p
      obtain ⟨y', rfl, -⟩ := rel_iface hx hi
      simp only [VRel, PRel] at hy
      subst hy
      exact eqRuns (eq_ifc_nil hu) (fun _ _ => ⟨rfl, rfl⟩) ⟨rfl, rfl⟩
    · simp at h
  · rename_i hu
    simp only [Option.some.injEq] at h; subst h
    simp only [VRel, PRel] at hx hy
    obtain ⟨a', c', rfl, -⟩ := hx
    subst hy
    exact eqRuns (eq_fn_nil hu) (fun _ _ => ⟨rfl, rfl⟩) ⟨rfl, rfl⟩
  · rename_i hu
    simp only [Option.some.injEq] at h; subst h
    simp only [VRel, PRel] at hx hy
    obtain ⟨a', c', rfl, -⟩ := hy
    subst hx
    exact eqRuns (eq_nil_fn hu) (fun _ _ => ⟨rfl, rfl⟩) ⟨rfl, rfl⟩

end

end Go.Proofs.Ytfieppbehmglbaa.Ve
