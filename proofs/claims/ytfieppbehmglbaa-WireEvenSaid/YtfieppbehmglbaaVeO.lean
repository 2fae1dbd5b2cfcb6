import Derived.Test.YtfieppbehmglbaaVeN
/-! Calls of Go functions. -/
set_option linter.unusedVariables false
set_option linter.unusedSimpArgs false
namespace Go.Proofs.Ytfieppbehmglbaa.Ve
open Go

def exOf : Ex → Exit
  | .norm => .normal
  | .exit id => .exit id
  | .ret => .ret

/-- What a call of the evaluator says of the model. -/
def CallSound (P : Program) (E : Task → Option Out) : Prop :=
  ∀ f args st o, E (.call f args st) = some o → st.WF → Fine st o.st o.W ∧ (Live st o.R o.W ∧ ∀ i ∈ o.W, i < st.next) ∧
    ∀ ρ F w (vals : Array Value), Pre ρ F w st o.R o.W o.st.next → VList ρ F w args vals.toList →
      Calls P f vals w fun e w' => ∃ x v ρ' F', e = .returned x ∧ o.tm = [v] ∧ VRel ρ' F' w' v x ∧ Post ρ F w st ρ' F' w' o.st o.W

/-- And a loop. -/
def LoopSound (P : Program) (E : Task → Option Out) : Prop :=
  ∀ c tm st o, E (.loop c tm st) = some o → codeStat c = true → st.WF → Fine st o.st o.W ∧ Live st o.R o.W ∧
    ∀ ρ F w (a : Act) (Q : Exit → Act → World → Prop), Pre ρ F w st o.R o.W o.st.next → VList ρ F w tm a.tmps.toList → a.defers = [] →
      (∀ a' w' ρ' F', Post ρ F w st ρ' F' w' o.st o.W → VList ρ' F' w' o.tm a'.tmps.toList → a'.defers = [] → Q (exOf o.ex) a' w') → (Code.loop c).wp P Q a w

/-- What is asked of a contract that was proved elsewhere. -/
def OrcSound (P : Program) (C : Cfg) : Prop :=
  ∀ f ps v, C.orc f ps = some v → ∀ (F : Nat → Prop) (w : World) (vals : Array Value), (∀ B, F B → B < w.heap.size) → PList F w ps vals.toList →
    Calls P f vals w fun e w' => ∃ x F', e = .returned x ∧ VRel (fun _ => none) F' w' v x ∧ (∀ B, F B → F' B) ∧ (∀ B, F' B → F B ∨ w.heap.size ≤ B) ∧ (∀ B, F' B → B < w'.heap.size) ∧ w.heap.size ≤ w'.heap.size ∧ Shp w w' ∧ ∀ B, B < w.heap.size → w'.heap[B]? = w.heap[B]?

section
variable {P : Program} {C : Cfg} {E : Task → Option Out} {ρ ρ₁ ρ₂ : Ren} {F F₁ F₂ : Nat → Prop} {w w₁ w₂ : World} {st st₁ st₂ : St}

theorem load_obj {t : TypeId} {x v : V} {R : List Nat} {vx : Value} (h : loadV P st t x = some (v, R)) (hx : VRel ρ F w x vx) (ho : ∀ i ∈ R, ∀ so, st.get i = some so → ObjRel ρ F w i so) :
    ∃ a y, vx = .pointer (some a) ∧ (loadVar t a).run P w = .ok y w ∧ VRel ρ F w v y :=
  load_sound h hx fun i hi => by
    obtain ⟨so, hso⟩ := loadV_live h i hi
    exact ⟨so, hso, ho i hi so hso⟩

theorem callFunc_run {g : FuncId} (hb : hasBody P g = true) (vals : Array Value) (w : World) : (callFunc g vals).run P w = .ok (.enter g vals) w := by
  unfold hasBody at hb
  split at hb
  · rename_i fn hf
    simp only [Bool.and_eq_true] at hb
    obtain ⟨h1, h2⟩ := hb
    have h3 : fn.body.isNone = false := by cases h : fn.body <;> simp_all
    have h4 : (fn.name == "runtime.NumGoroutine") = false := by
      simpa [bne] using h2
    unfold callFunc
    have hp : (program : Sem Program).run P w = .ok P w := rfl
    simp only [Sem.run_bind, hp, Result.andThen_ok, hf, h3, h4, Bool.false_eq_true, if_false]
    rfl
  · simp at hb

theorem recv_sound {t : TypeId} {u x : V} {name : String} {g : FuncId} {R : List Nat} {y : Value} (h : recvV P st t u name = some (g, x, R)) (hu : VRel ρ F w u y) (ho : ∀ i ∈ R, ∀ so, st.get i = some so → ObjRel ρ F w i so) :
    ∃ z, (method (P.types.size + Made.depth) t y name).run P w = .ok (g, z) w ∧ VRel ρ F w x z := by
  unfold recvV at h
  split at h
  · rename_i g' pr hm
    obtain ⟨info, m, hi, hf, hp, hfn⟩ := methodV_some hm
    obtain ⟨n, hn⟩ := fuel_pos hi
    rw [hn]
    have hpe : m.path.isEmpty = true := by
      have : m.path = #[] := by apply Array.ext'; simpa using hp
      rw [this]; rfl
    have base : ∀ z, (receiverAt t (.val y) pr (some ((name.splitOn ".").getLastD name))).run P w = .ok z w → (method (n + 1) t y name).run P w = .ok (g', z) w := by
      intro z hz
      simp only [method, Sem.run_bind, run_typeInfo hi, Result.andThen_ok, hf, hp, follow, Sem.run_pure, hfn, hpe, if_true, hz]
    unfold ptrElem at h
    cases hut : P.underlying t with
    | none => simp [hut] at h
    | some d =>
      simp only [hut] at h
      split at h
      · rename_i hd
        split at h
        · simp at h
        · rename_i hpr
          have hpr : pr = false := by simpa using hpr
          subst hpr
          simp only [Option.some.injEq, Prod.mk.injEq] at h
          obtain ⟨rfl, rfl, rfl⟩ := h
          refine ⟨y, base y ?_, hu⟩
          unfold receiverAt
          simp only [Sem.run_bind, run_underlying hut, Result.andThen_ok]
          cases d <;> first
            | rfl
            | (simp at hd; done)
      · rename_i e hd
        have hde : d = .pointer e := by
          cases d <;> simp at hd
          rw [hd]
        subst hde
        split at h
        · rename_i hpr
          have hpr : pr = true := by simpa using hpr
          subst hpr
          simp only [Option.some.injEq, Prod.mk.injEq] at h
          obtain ⟨rfl, rfl, rfl⟩ := h
          refine ⟨y, base y ?_, hu⟩
          unfold receiverAt
          simp only [Sem.run_bind, run_underlying hut, Result.andThen_ok]
          rfl
        · rename_i hpr
          have hpr : pr = false := by simpa using hpr
          subst hpr
          split at h
          · rename_i x' R' hl
            simp only [Option.some.injEq, Prod.mk.injEq] at h
            obtain ⟨rfl, rfl, rfl⟩ := h
            obtain ⟨a, z, rfl, hz, hzr⟩ := load_obj hl hu ho
            refine ⟨z, base z ?_, hzr⟩
            unfold receiverAt
            have hchk : ∀ q s' m' : ByteArray, Builtin.ssaWrapNilChk_ #[t] t #[.pointer (some a), .string s', .string m'] = pure (.pointer (some a)) := fun _ _ _ => rfl
            simp only [Sem.run_bind, run_underlying hut, Result.andThen_ok, Place.get, Sem.run_pure, strVal, hchk default, asAddr, hz]
          · simp at h
      · simp at h
  · simp at h

theorem target_sound {env : Operand → Option V} {ev : Operand → Value} {c : Call} {ty : TypeId} {g : FuncId} {args : List V} {R : List Nat} (h : targetV P env st c = some (g, args, R)) (he : EnvRel ρ F w env ev c.operands.toList)
    (hb : hasBody P g = true) (ho : ∀ i ∈ R, ∀ so, st.get i = some so → ObjRel ρ F w i so) : ∃ vals : Array Value, (do let d ← resolve ev c ty; invoke d.target d.args).run P w = .ok (.enter g vals) w ∧ VList ρ F w args vals.toList := by
  unfold targetV at h
  split at h
  · rename_i as has
    have hargs := envAll_rel (ev := ev) (he.sub (by intro x hx; simp [Call.operands] at hx ⊢; exact .inr hx)) has
    have hpr : (program : Sem Program).run P w = .ok P w := rfl
    split at h
    · rename_i f hf
      have hfv : ∀ v, env f = some v → VRel ρ F w v (ev f) := fun v hv => he f (by simp [Call.operands, hf]) v hv
      split at h
      · rename_i g' first caps hef
        simp only [Option.some.injEq, Prod.mk.injEq] at h
        obtain ⟨rfl, rfl, rfl⟩ := h
        have := hfv _ hef
        simp only [VRel] at this
        obtain ⟨a', c', hv, ha, hc⟩ := this
        refine ⟨a' ++ c.args.map ev ++ c', ?_, ?_⟩
        · simp only [resolve, hf, hv, Deferred.ofValue, Sem.run_bind, Sem.run_pure, Result.andThen_ok, invoke, callFunc_run hb]
        · simp only [Array.toList_append]
          exact (ha.append (by simpa using hargs)).append hc
      · rename_i name first caps hef
        split at h
        · rename_i r rest hrr
          split at h
          · rename_i t u hi
            split at h
            · rename_i g' x R' hrec
              simp only [Option.some.injEq, Prod.mk.injEq] at h
              obtain ⟨rfl, rfl, rfl⟩ := h
              have := hfv _ hef
              simp only [VRel] at this
              obtain ⟨a', c', hv, ha, hc⟩ := this
              have hall : VList ρ F w (first ++ as) (a' ++ c.args.map ev).toList := by
                simp only [Array.toList_append]
                exact ha.append (by simpa using hargs)
              rw [hrr] at hall
              simp only [VList] at hall
              obtain ⟨y, ys, hys, hry, hrest⟩ := hall
              obtain ⟨y', rfl, hur⟩ := rel_iface hry hi
              obtain ⟨z, hz, hzr⟩ := recv_sound hrec hur ho
              have h0 : (a' ++ c.args.map ev)[0]? = some (.iface t y') := by rw [← Array.getElem?_toList, hys]; rfl
              have hex : (a' ++ c.args.map ev).extract 1 (a' ++ c.args.map ev).size = ys.toArray := by
                apply Array.ext'
                rw [Array.toList_extract, List.extract_eq_take_drop, hys]
                simp
                have : (a' ++ c.args.map ev).size = ys.length + 1 := by rw [← Array.length_toList, hys]; rfl
                simp at this
                rw [List.take_of_length_le (by omega)]
              refine ⟨#[z] ++ ys.toArray, ?_, ?_⟩
              · simp only [resolve, hf, hv, Deferred.ofValue, Sem.run_bind, Sem.run_pure, Result.andThen_ok, invoke, h0, callMethod, hpr, hz, hex, callFunc_run hb]
              · simp only [Array.toList_append, List.cons_append, List.nil_append, VList]
                exact ⟨z, ys, rfl, hzr, hrest⟩
            · simp at h
          · simp at h
        · simp at h
      · simp at h
    · rename_i r name hf
      split at h
      · rename_i rv hrv
        split at h
        · rename_i t u hi
          split at h
          · rename_i g' x R' hrec
            simp only [Option.some.injEq, Prod.mk.injEq] at h
            obtain ⟨rfl, rfl, rfl⟩ := h
            have hry := he r (by simp [Call.operands, hf]) _ hrv
            obtain ⟨y', hy, hur⟩ := rel_iface hry hi
            obtain ⟨z, hz, hzr⟩ := recv_sound hrec hur ho
            have h0 : (#[ev r] ++ c.args.map ev)[0]? = some (.iface t y') := by rw [hy, Array.getElem?_append_left (by simp)]; rfl
            have hex : (#[ev r] ++ c.args.map ev).extract 1 (#[ev r] ++ c.args.map ev).size = c.args.map ev := by
              apply Array.ext'
              simp [Array.toList_extract, List.extract_eq_take_drop]
              rw [List.take_of_length_le (by simp)]
            refine ⟨#[z] ++ c.args.map ev, ?_, ?_⟩
            · simp only [resolve, hf, Sem.run_bind, Sem.run_pure, Result.andThen_ok, invoke, h0, callMethod, hpr, hz, hex, callFunc_run hb]
            · simp only [Array.toList_append, List.cons_append, List.nil_append, VList]
              exact ⟨z, _, rfl, hzr, by simpa using hargs⟩
          · simp at h
        · simp at h
      · simp at h
    · simp at h
  · simp at h

end

end Go.Proofs.Ytfieppbehmglbaa.Ve
