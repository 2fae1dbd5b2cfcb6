import Derived.Test.YtnolgpagdjcjbaaVeO
import Derived.Below
/-! One operation, calls among them. -/
set_option linter.unusedVariables false
set_option linter.unusedSimpArgs false
namespace Go.Proofs.Ytnolgpagdjcjbaa.Ve
open Go

section
variable {P : Program} {C : Cfg} {E : Task → Option Out} {ρ ρ₁ ρ₂ : Ren} {F F₁ F₂ : Nat → Prop} {w w₁ w₂ : World} {st st₁ st₂ : St}

theorem one_fine {st st' : St} {x : Option V} {v : V} {R W : List Nat} (hwf : st.WF) (h : one st x = some (v, st', R, W)) : Fine st st' W := by
  obtain ⟨-, rfl, -, rfl⟩ := one_some h
  exact fine_same hwf

theorem append_fine {st st' : St} {at_ : Array TypeId} {s x v : V} {R W : List Nat} (hwf : st.WF) (h : appendV P st at_ s x = some (v, st', R, W)) : Fine st st' W := by
  unfold appendV at h
  repeat' split at h
  all_goals first
    | (simp at h; done)
    | (simp only [Option.some.injEq, Prod.mk.injEq] at h; obtain ⟨-, rfl, -, rfl⟩ := h; first | exact fine_same hwf | exact fine_new hwf _ | exact (fine_new hwf _).kill _)

theorem vop_fine {env : Operand → Option V} {o : Oper} {st st' : St} {v : V} {R W : List Nat} (hwf : st.WF) (h : vop P env o st = some (v, st', R, W)) : Fine st st' W := by
  unfold vop at h
  split at h
  case h_7 =>
    split at h
    · unfold buildSliceV at h
      repeat' split at h
      all_goals first
        | (simp at h; done)
        | (simp only [Option.some.injEq, Prod.mk.injEq] at h; obtain ⟨-, rfl, -, rfl⟩ := h; exact fine_new hwf _)
    · simp at h
  case h_9 =>
    split at h
    · split at h
      · split at h
        · rename_i hs
          simp only [Option.some.injEq, Prod.mk.injEq] at h
          obtain ⟨-, rfl, -, rfl⟩ := h
          unfold storeV at hs
          split at hs
          · split at hs
            · split at hs
              · simp only [Option.some.injEq, Prod.mk.injEq] at hs
                obtain ⟨rfl, rfl⟩ := hs
                exact fine_same hwf
              · simp at hs
            · split at hs
              · rename_i so hso
                split at hs
                · split at hs
                  · simp only [Option.some.injEq, Prod.mk.injEq] at hs
                    obtain ⟨rfl, rfl⟩ := hs
                    exact fine_set hwf (get_lt hwf hso) _
                  · simp at hs
                · simp at hs
              · simp at hs
          · simp at hs
        · simp at h
      · simp at h
    · simp at h
  case h_16 =>
    split at h
    · split at h
      · unfold makeSliceV at h
        repeat' split at h
        all_goals first
          | (simp at h; done)
          | (simp only [Option.some.injEq, Prod.mk.injEq] at h; obtain ⟨-, rfl, -, rfl⟩ := h; exact fine_new hwf _)
      · simp at h
    · simp at h
  all_goals
    repeat' split at h
    all_goals first
      | (simp at h; done)
      | exact one_fine hwf h
      | exact append_fine hwf h
      | (simp only [Option.some.injEq, Prod.mk.injEq] at h; obtain ⟨-, rfl, -, rfl⟩ := h; first | exact fine_same hwf | exact fine_new hwf _)

theorem VRel.pure {x : V} {v : Value} (hp : x.isPure = true) (h : VRel ρ₁ F w x v) : VRel ρ F w x v := by
  cases x with
  | pv p => simp only [VRel] at h ⊢; exact h
  | tup cs =>
    simp only [VRel] at h ⊢
    obtain ⟨l, hv, hl⟩ := h
    refine ⟨l, hv, ?_⟩
    simp only [V.isPure] at hp
    generalize l.toList = m at hl
    clear hv l
    induction cs generalizing m with
    | nil => simpa [VList] using hl
    | cons y ys ih =>
      simp only [VList] at hl ⊢
      obtain ⟨u, us, rfl, hu, hus⟩ := hl
      cases y with
      | pv p =>
        simp only [V.isPure.pures] at hp
        refine ⟨u, us, rfl, ?_, ih hp us hus⟩
        simp only [VRel] at hu ⊢
        exact hu
      | _ => simp [V.isPure.pures] at hp
  | _ => simp [V.isPure] at hp

/-- What a call that sees no object leaves. -/
def Quietly (F : Nat → Prop) (w : World) (F' : Nat → Prop) (w' : World) : Prop :=
  (∀ B, F B → F' B) ∧ (∀ B, F' B → F B ∨ w.heap.size ≤ B) ∧ (∀ B, F' B → B < w'.heap.size) ∧ w.heap.size ≤ w'.heap.size ∧ Shp w w' ∧ ∀ B, B < w.heap.size → w'.heap[B]? = w.heap[B]?

theorem Quietly.of_post {ρ' : Ren} {st' : St} {W : List Nat} (h : Post (fun _ => none) F w St.empty ρ' F₁ w₁ st' W) : Quietly F w F₁ w₁ := by
  refine ⟨h.fle, fun B hB => ?_, h.fok, h.size, h.shp, fun B hB => h.heap B hB fun i hi => absurd hi (Nat.not_lt_zero _)⟩
  rcases h.fnew B hB with h | h | ⟨i, hi, -⟩
  · exact .inl h
  · exact .inr h
  · exact absurd hi (Nat.not_lt_zero _)

theorem Quietly.post {st : St} (hwf : st.WF) (h : Quietly F w F₁ w₁) : Post ρ F w st ρ F₁ w₁ st [] := by
  obtain ⟨h1, h2, h3, h4, h5, h6⟩ := h
  refine ⟨rle_refl ρ, fun i h => absurd rfl h, h1, fun B hB => (h2 B hB).imp id .inl, h3, h4, h5, fun B hB _ => h6 B hB, fun i so hi hg => ?_, fun i j hi hj gi gj hne => ?_⟩
  · rcases hi with ⟨_, hm⟩ | hi
    · cases hm
    · rw [hwf i hi] at hg; cases hg
  · rcases hi with ⟨_, hm⟩ | hi
    · cases hm
    · rw [hwf i hi] at gi; cases gi

theorem pre_empty {R W R' W' : List Nat} {n n' : Nat} (hp : Pre ρ F w st R W n) : Pre (fun _ => none) F w St.empty R' W' n' :=
  ⟨hp.fok, fun i hi => absurd hi (Nat.not_lt_zero _), fun i j hi => absurd hi (Nat.not_lt_zero _), fun _ _ _ => rfl⟩

theorem empty_wf : St.empty.WF := fun _ _ => rfl

theorem pre_fb {R W : List Nat} {n : Nat} (hp : Pre ρ F w st R W n) (hwf : st.WF) {I : List Nat} (hI : ∀ i ∈ I, i ∈ R ∨ i ∈ W) (hlive : ∀ i ∈ I, ∃ so, st.get i = some so) : ∀ B, FB ρ F I B → B < w.heap.size := fun B h => by
  rcases h with h | ⟨i, hi, hb⟩
  · exact hp.fok B h
  · obtain ⟨so, hso⟩ := hlive i hi
    obtain ⟨so', hg, ho⟩ := hp.obj i (get_lt hwf hso) (hI i hi)
    obtain ⟨B', hB', hlt⟩ := ho.lt
    rw [hb] at hB'
    cases hB'
    exact hlt

/-- A pure callee: its answer, and nothing else that can be seen. -/
def PureCall (P : Program) (g : FuncId) (ps : List PV) (v : V) : Prop :=
  ∀ (F : Nat → Prop) (w : World) (vals : Array Value), (∀ B, F B → B < w.heap.size) → PList F w ps vals.toList →
    Calls P g vals w fun e w' => ∃ x F', e = .returned x ∧ (∀ ρ : Ren, VRel ρ F' w' v x) ∧ Quietly F w F' w'

theorem pureCall_of_call (hE : CallSound P E) {g : FuncId} {ps : List PV} {o : Out} {v : V} (h : E (.call g (ps.map .pv) St.empty) = some o) (hv : o.tm = [v]) (hp : v.isPure = true) : PureCall P g ps v := by
  intro F w vals hF hl
  obtain ⟨-, -, h3⟩ := hE _ _ _ _ h empty_wf
  have hpre : Pre (fun _ => none) F w St.empty o.R o.W o.st.next := ⟨hF, fun i hi => absurd hi (Nat.not_lt_zero _), fun i j hi => absurd hi (Nat.not_lt_zero _), fun _ _ _ => rfl⟩
  refine (h3 _ F w vals hpre (VList.of_PList hl)).mono ?_
  rintro e w' ⟨x, v', ρ', F', rfl, hv', hr, hpost⟩
  rw [hv] at hv'
  simp only [List.cons.injEq, and_true] at hv'
  subst hv'
  exact ⟨x, F', rfl, fun ρ => VRel.pure hp hr, Quietly.of_post hpost⟩

theorem pureCall_of_pcall (hE : CallSound P E) {g : FuncId} {ps : List PV} {v : V} (h : pcall E g ps = some v) : PureCall P g ps v := by
  unfold pcall at h
  split at h
  · rename_i o ho
    split at h
    · rename_i v' hv'
      split at h
      · rename_i hp
        simp only [Option.some.injEq] at h
        subst h
        exact pureCall_of_call hE ho hv' hp
      · simp at h
    · simp at h
  · simp at h

theorem pureCall_of_orc (hO : OrcSound P C) {g : FuncId} {ps : List PV} {v : V} (h : C.orc g ps = some v) : PureCall P g ps v := by
  intro F w vals hF hl
  refine (hO g ps v h F w vals hF hl).mono ?_
  rintro e w' ⟨x, F', rfl, hr, h1, h2, h3, h4, h5, h6⟩
  exact ⟨x, F', rfl, fun ρ => VRel.mono (Ext.refl _ _) (fun _ _ h => by cases h) _ _ hr, h1, h2, h3, h4, h5, h6⟩

theorem plist_fb_nil {ps : List PV} {l : List Value} (h : PList (FB ρ F []) w ps l) : PList F w ps l :=
  PList.mono ⟨fun B hB => hB.elim id (fun ⟨i, hi, _⟩ => absurd hi (by simp)), fun _ _ => rfl, Shp.refl w⟩ _ _ h

theorem docall_sound (hE : CallSound P E) (hO : OrcSound P C) {g : FuncId} {args : List V} {st st' : St} {v : V} {R W : List Nat} (h : docall C E g args st = some (v, st', R, W)) (hwf : st.WF) :
    Fine st st' W ∧ (Live st R W ∧ ∀ i ∈ W, i < st.next) ∧ ∀ ρ F w (vals : Array Value), Pre ρ F w st R W st'.next → VList ρ F w args vals.toList →
      Calls P g vals w fun e w' => ∃ x ρ' F', e = .returned x ∧ VRel ρ' F' w' v x ∧ Post ρ F w st ρ' F' w' st' W := by
  -- a pure callee
  have pure0 : ∀ ps, frzAll st args = some (ps, []) → PureCall P g ps v → ∀ ρ F w (vals : Array Value), Pre ρ F w st [] [] st.next → VList ρ F w args vals.toList →
      Calls P g vals w fun e w' => ∃ x ρ' F', e = .returned x ∧ VRel ρ' F' w' v x ∧ Post ρ F w st ρ' F' w' st [] := by
    intro ps hps hpc ρ F w vals hp hl
    have hpl := plist_fb_nil (frzAll_sound (I := []) (by simp) hps (by simp) hl)
    refine (hpc F w vals hp.fok hpl).mono ?_
    rintro e w' ⟨x, F', rfl, hr, hq⟩
    exact ⟨x, ρ, F', rfl, hr ρ, hq.post hwf⟩
  have pureFlat : ∀ ps ids, frzAll st args = some (ps, ids) → PureCall P g ps v → v.flat = true → ∀ ρ F w (vals : Array Value), Pre ρ F w st ids [] st.next → VList ρ F w args vals.toList →
      Calls P g vals w fun e w' => ∃ x ρ' F', e = .returned x ∧ VRel ρ' F' w' v x ∧ Post ρ F w st ρ' F' w' st [] := by
    intro ps ids hps hpc hflat ρ F w vals hp hl
    have hlive := frzAll_live hps
    have hpl := frzAll_sound (I := ids) (ρ := ρ) (F := F) (w := w) (fun i hi so hso => by
      obtain ⟨so', hg, ho⟩ := hp.obj i (get_lt hwf hso) (.inl hi)
      rw [hso] at hg
      cases hg
      exact ho) hps (fun _ h => h) hl
    refine (hpc (FB ρ F ids) w vals (pre_fb hp hwf (fun i hi => .inl hi) hlive) hpl).mono ?_
    rintro e w' ⟨x, F', rfl, hr, h1, h2, h3, h4, h5, h6⟩
    refine ⟨x, ρ, F, rfl, VRel.flat hflat (hr ρ), Quietly.post hwf ⟨fun _ h => h, fun _ h => .inl h, fun B hB => Nat.lt_of_lt_of_le (hp.fok B hB) h4, h4, h5, h6⟩⟩
  unfold docall at h
  split at h
  · -- pure
    split at h
    · rename_i ps ids hps
      have hlive := frzAll_live hps
      split at h
      · rename_i v' hv'
        have hpc := pureCall_of_pcall hE hv'
        split at h
        · simp only [Option.some.injEq, Prod.mk.injEq] at h
          obtain ⟨rfl, rfl, rfl, rfl⟩ := h
          exact ⟨fine_same hwf, ⟨Live.nil st, by simp⟩, pure0 ps hps hpc⟩
        · split at h
          · rename_i hflat
            simp only [Option.some.injEq, Prod.mk.injEq] at h
            obtain ⟨rfl, rfl, rfl, rfl⟩ := h
            refine ⟨fine_same hwf, ⟨fun i hi _ => ?_, by simp⟩, pureFlat ps _ hps hpc hflat⟩
            rcases hi with hi | hi
            · exact hlive i hi
            · cases hi
          · simp only [Option.some.injEq, Prod.mk.injEq] at h
            obtain ⟨rfl, rfl, rfl, rfl⟩ := h
            rename_i i0 is0 _ _
            refine ⟨fine_kills hwf _, ⟨fun i hi _ => hlive i (hi.elim id id), fun i hi => by obtain ⟨so, hso⟩ := hlive i hi; exact get_lt hwf hso⟩, ?_⟩
            intro ρ F w vals hp hl
            have hpl := frzAll_sound (I := i0 :: is0) (ρ := ρ) (F := F) (w := w) (fun i hi so hso => by
              obtain ⟨so', hg, ho⟩ := hp.obj i (get_lt hwf hso) (.inl hi)
              rw [hso] at hg
              cases hg
              exact ho) hps (fun _ h => h) hl
            have hpf := post_freeze hp hwf (I := i0 :: is0) (fun i hi => hi) hlive
            refine (hpc (FB ρ F (i0 :: is0)) w vals hpf.fok hpl).mono ?_
            rintro e w' ⟨x, F', rfl, hr, hq⟩
            have hwf2 := (fine_kills hwf (i0 :: is0)).wf
            have hpn := Pre.next (R₁ := i0 :: is0) (R₂ := []) (W₂ := []) hp hpf (fine_kills hwf _) (Live.nil _) (fun _ _ h => h) (by simp) (by simp) (fun i hi _ => hlive i (hi.elim id id))
            have := Post.trans (W₂ := []) hp hpf (fine_kills hwf _) hpn (hq.post hwf2) (fine_same hwf2) (fun _ _ h => h) (by simp)
            exact ⟨x, ρ, F', rfl, hr ρ, by simpa using this⟩
      · simp at h
    · simp at h
  · -- orc
    split at h
    · rename_i ps ids hps
      have hlive := frzAll_live hps
      split at h
      · rename_i v' hv'
        split at h
        · simp only [Option.some.injEq, Prod.mk.injEq] at h
          obtain ⟨rfl, rfl, rfl, rfl⟩ := h
          exact ⟨fine_same hwf, ⟨Live.nil st, by simp⟩, pure0 ps hps (pureCall_of_orc hO hv')⟩
        · split at h
          · rename_i hflat
            simp only [Option.some.injEq, Prod.mk.injEq] at h
            obtain ⟨rfl, rfl, rfl, rfl⟩ := h
            refine ⟨fine_same hwf, ⟨fun i hi _ => ?_, by simp⟩, pureFlat ps _ hps (pureCall_of_orc hO hv') hflat⟩
            rcases hi with hi | hi
            · exact hlive i hi
            · cases hi
          · simp at h
      · simp at h
    · simp at h
  · -- std
    cases hfa : frzArgs st args with
    | mk as ids =>
    simp only [hfa] at h
    have hlive : ∀ i ∈ ids, ∃ so, st.get i = some so := fun i hi => frzArgs_live (vs := args) i (by rw [hfa]; exact hi)
    split at h
    · rename_i o ho
      split at h
      · rename_i v' hv'
        simp only [Option.some.injEq, Prod.mk.injEq] at h
        obtain ⟨rfl, rfl, rfl, rfl⟩ := h
        have hfk := fine_kills hwf ids
        obtain ⟨g1, ⟨g2, g2'⟩, g3⟩ := hE _ _ _ _ ho hfk.wf
        refine ⟨hfk.trans g1, ⟨Live.trans hfk (R₁ := ids) (fun i hi _ => hlive i (hi.elim id id)) g2, fun i hi => ?_⟩, ?_⟩
        · rcases List.mem_append.1 hi with hi | hi
          · obtain ⟨so, hso⟩ := hlive i hi; exact get_lt hwf hso
          · have := g2' i hi
            rwa [kills_next] at this
        intro ρ F w vals hp hl
        have hargs := frzArgs_sound (I := ids) (ρ := ρ) (F := F) (w := w) (fun i hi so hso => by
          obtain ⟨so', hg, ho⟩ := hp.obj i (get_lt hwf hso) (.inl (by simp [hi]))
          rw [hso] at hg
          cases hg
          exact ho) (by rw [hfa]; exact fun _ h => h) hl
        rw [hfa] at hargs
        have hpf := post_freeze hp hwf (I := ids) (fun i hi => by simp [hi]) hlive
        have hpn := Pre.next (R₁ := ids) hp hpf hfk g2 (fun i _ h => by simp [h]) (fun i _ h => .inl (by simp [h])) (fun i _ h => by simp [h]) (fun i hi _ => hlive i (hi.elim id id))
        refine (g3 ρ _ w vals hpn hargs).mono ?_
        rintro e w' ⟨x, v'', ρ', F', rfl, hv'', hr, hpost⟩
        rw [hv'] at hv''
        simp only [List.cons.injEq, and_true] at hv''
        subst hv''
        exact ⟨x, ρ', F', rfl, hr, Post.trans hp hpf hfk hpn hpost g1 (fun i _ h => by simp [h]) (fun i _ h => by simp [h])⟩
      · simp at h
    · simp at h
  · -- res
    split at h
    · rename_i o ho
      split at h
      · rename_i v' hv'
        simp only [Option.some.injEq, Prod.mk.injEq] at h
        obtain ⟨rfl, rfl, rfl, rfl⟩ := h
        obtain ⟨g1, g2, g3⟩ := hE _ _ _ _ ho hwf
        refine ⟨g1, g2, fun ρ F w vals hp hl => (g3 ρ F w vals hp hl).mono ?_⟩
        rintro e w' ⟨x, v'', ρ', F', rfl, hv'', hr, hpost⟩
        rw [hv'] at hv''
        simp only [List.cons.injEq, and_true] at hv''
        subst hv''
        exact ⟨x, ρ', F', rfl, hr, hpost⟩
      · simp at h
    · simp at h
  · -- keep
    split at h
    · rename_i o ho
      split at h
      · rename_i v' hv'
        simp only [Option.some.injEq, Prod.mk.injEq] at h
        obtain ⟨rfl, rfl, rfl, rfl⟩ := h
        obtain ⟨g1, g2, g3⟩ := hE _ _ _ _ ho hwf
        refine ⟨g1, g2, fun ρ F w vals hp hl => (g3 ρ F w vals hp hl).mono ?_⟩
        rintro e w' ⟨x, v'', ρ', F', rfl, hv'', hr, hpost⟩
        rw [hv'] at hv''
        simp only [List.cons.injEq, and_true] at hv''
        subst hv''
        exact ⟨x, ρ', F', rfl, hr, hpost⟩
      · simp at h
    · simp at h

theorem opres_wp {o : Oper} {a : Act} {v : V} {st' : St} {W : List Nat} {K : Act → World → Prop} {Q : Exit → Act → World → Prop} (h : OpRes P a.eval o ρ F w st v st' W)
    (hK : ∀ x w' ρ' F', VRel ρ' F' w' v x → Post ρ F w st ρ' F' w' st' W → K (a.put o.dst x) w') : o.wp P a w K Q := by
  obtain ⟨x, w', ρ', F', hrun, hv, hpost⟩ := h
  unfold Oper.wp
  rcases hrun with hrun | ⟨hrun, rfl⟩
  · rw [hrun, Oper.upon_value]
    exact hK _ _ _ _ hv hpost
  · rw [hrun, Oper.upon_skip]
    exact hK _ _ _ _ hv hpost

theorem vexec_sound (hE : CallSound P E) (hO : OrcSound P C) {env : Operand → Option V} {o : Oper} {st st' : St} {v : V} {R W : List Nat} (h : vexec P C E env o st = some (v, st', R, W)) (hwf : st.WF) :
    Fine st st' W ∧ (Live st R W ∧ ∀ i ∈ W, i < st.next) ∧ ∀ ρ F w (a : Act) (K : Act → World → Prop) (Q : Exit → Act → World → Prop), Pre ρ F w st R W st'.next → EnvRel ρ F w env a.eval o.op.operands.toList →
      (∀ x w' ρ' F', VRel ρ' F' w' v x → Post ρ F w st ρ' F' w' st' W → K (a.put o.dst x) w') → o.wp P a w K Q := by
  have plain : vop P env o st = some (v, st', R, W) → Fine st st' W ∧ (Live st R W ∧ ∀ i ∈ W, i < st.next) ∧ ∀ ρ F w (a : Act) (K : Act → World → Prop) (Q : Exit → Act → World → Prop), Pre ρ F w st R W st'.next → EnvRel ρ F w env a.eval o.op.operands.toList →
      (∀ x w' ρ' F', VRel ρ' F' w' v x → Post ρ F w st ρ' F' w' st' W → K (a.put o.dst x) w') → o.wp P a w K Q := fun h =>
    ⟨vop_fine hwf h, ⟨vop_live h, fun i hi => by obtain ⟨so, hso⟩ := vop_liveA h i (.inr hi); exact get_lt hwf hso⟩, fun ρ F w a K Q hp he hK => opres_wp (vop_sound h he hp hwf).1 hK⟩
  unfold vexec at h
  split at h
  · rename_i c hop
    split at h
    · exact plain h
    · split at h
      · rename_i g args R0 ht
        split at h
        · rename_i hb
          split at h
          · rename_i v1 st1 R1 W1 hd
            simp only [Option.some.injEq, Prod.mk.injEq] at h
            obtain ⟨rfl, rfl, rfl, rfl⟩ := h
            obtain ⟨g1, ⟨g2, g2'⟩, g3⟩ := docall_sound hE hO hd hwf
            have hR0 : ∀ i ∈ R0, ∃ so, st.get i = some so := by
              have rl : ∀ (t : TypeId) (u x : V) (name : String) (g : FuncId) (R : List Nat), recvV P st t u name = some (g, x, R) → ∀ i ∈ R, ∃ so, st.get i = some so := by
                intro t u x name g R hr i hi
                unfold recvV at hr
                repeat' split at hr
                all_goals first
                  | (simp at hr; done)
                  | (simp only [Option.some.injEq, Prod.mk.injEq] at hr; obtain ⟨-, -, rfl⟩ := hr; first | exact loadV_live (by assumption) i hi | cases hi)
              intro i hi
              unfold targetV at ht
              repeat' split at ht
              all_goals first
                | (simp at ht; done)
                | (simp only [Option.some.injEq, Prod.mk.injEq] at ht; obtain ⟨-, -, rfl⟩ := ht; first | exact rl _ _ _ _ _ _ (by assumption) i hi | cases hi)
            refine ⟨g1, ⟨fun i hi hlt => ?_, g2'⟩, fun ρ F w a K Q hp he hK => ?_⟩
            · rcases hi with hi | hi
              · rcases List.mem_append.1 hi with hi | hi
                · exact hR0 i hi
                · exact g2 i (.inl hi) hlt
              · exact g2 i (.inr hi) hlt
            · obtain ⟨vals, hrun, hl⟩ := target_sound (ev := a.eval) (ty := o.type) ht (by rw [hop] at he; simpa [Op.operands] using he) hb (fun i hi so hso => by
                obtain ⟨so', hg, ho⟩ := hp.obj i (get_lt hwf hso) (.inl (by simp [hi]))
                rw [hso] at hg
                cases hg
                exact ho)
              have hex : (execOp a.eval o).run P w = .ok (.enter g vals) w := by unfold execOp; rw [hop]; exact hrun
              unfold Oper.wp
              rw [hex, Oper.upon_enter]
              refine (g3 ρ F w vals (hp.mono (fun i _ h => .inl (by simp [h])) (fun _ _ h => h) (Nat.le_refl _)) hl).mono ?_
              rintro e w' ⟨x, ρ', F', rfl, hr, hpost⟩
              exact hK x w' ρ' F' hr hpost
          · simp at h
        · exact plain h
      · simp at h
  · exact plain h

end

end Go.Proofs.Ytnolgpagdjcjbaa.Ve
/-! A region whose order is open: the trace in the order of the text, and what of it has been done. -/
set_option linter.unusedVariables false
set_option linter.unusedSimpArgs false
namespace Go.Proofs.Ytnolgpagdjcjbaa.Ve
open Go

section
open Classical
variable {X : Type}

/-- What stands at a place when the operations of L have been done. -/
noncomputable def cur (val : Nat → X) (touch : Nat → Prop) (L : Nat → Bool) : Nat → X
  | 0 => val 0
  | k + 1 => if L k = true ∧ touch k then val (k + 1) else cur val touch L k

variable {val : Nat → X} {touch : Nat → Prop} {L : Nat → Bool}

theorem cur_up (same : ∀ k, ¬ touch k → val (k + 1) = val k) : ∀ i, (∀ k, k < i → touch k → L k = true) → cur val touch L i = val i
  | 0, _ => rfl
  | i + 1, h => by
    simp only [cur]
    by_cases ht : touch i
    · rw [if_pos ⟨h i (Nat.lt_succ_self i) ht, ht⟩]
    · rw [if_neg (fun x => ht x.2), cur_up same i (fun k hk => h k (Nat.lt_succ_of_lt hk)), same i ht]

theorem cur_keep {i : Nat} : ∀ n, i ≤ n → (∀ k, i ≤ k → k < n → L k = true → ¬ touch k) → cur val touch L n = cur val touch L i
  | 0, hn, _ => by
    have : i = 0 := by omega
    rw [this]
  | n + 1, hn, h => by
    by_cases e : i = n + 1
    · rw [e]
    · simp only [cur]
      rw [if_neg (fun x => h n (by omega) (Nat.lt_succ_self n) x.1 x.2)]
      exact cur_keep n (by omega) (fun k h1 h2 => h k h1 (Nat.lt_succ_of_lt h2))

theorem cur_at (same : ∀ k, ¬ touch k → val (k + 1) = val k) {i n : Nat} (hi : i ≤ n) (h1 : ∀ k, k < i → touch k → L k = true) (h2 : ∀ k, i ≤ k → k < n → L k = true → ¬ touch k) : cur val touch L n = val i :=
  (cur_keep n hi h2).trans (cur_up same i h1)

theorem cur_none (h : ∀ k, L k = false) : ∀ n, cur val touch L n = val 0
  | 0 => rfl
  | n + 1 => by
    simp only [cur]
    rw [if_neg (by simp [h n])]
    exact cur_none h n

theorem cur_congr {L' : Nat → Bool} : ∀ n, (∀ k, k < n → touch k → L k = L' k) → cur val touch L n = cur val touch L' n
  | 0, _ => rfl
  | n + 1, h => by
    simp only [cur]
    rw [cur_congr n (fun k hk => h k (Nat.lt_succ_of_lt hk))]
    by_cases ht : touch n
    · simp only [ht, and_true, h n (Nat.lt_succ_self n) ht]
    · simp [ht]

/-- L with one more. -/
def addL (L : Nat → Bool) (i : Nat) : Nat → Bool := fun k => if k = i then true else L k

theorem cur_add_touch {i n : Nat} (hi : i < n) (ht : touch i) (h : ∀ k, i < k → k < n → L k = true → ¬ touch k) : cur val touch (addL L i) n = val (i + 1) := by
  rw [cur_keep (i := i + 1) n hi (fun k h1 h2 h3 => h k h1 h2 (by simpa [addL, show k ≠ i by omega] using h3))]
  simp only [cur]
  rw [if_pos ⟨by simp [addL], ht⟩]

theorem cur_add_no {i n : Nat} (ht : ¬ touch i) : cur val touch (addL L i) n = cur val touch L n :=
  cur_congr n fun k hk htk => by
    have : k ≠ i := fun e => ht (e ▸ htk)
    simp [addL, this]

end

section
variable {P : Program} {C : Cfg} {E : Task → Option Out}

/-- The trace of a region in the order of the text. -/
structure Trace (P : Program) (C : Cfg) (E : Task → Option Out) (ops : Array Oper) (n : Nat) (S : Nat → St) (T : Nat → List V) (en : Nat → Ent) (op : Nat → Oper) : Prop where
  opk : ∀ k, k < n → ops[k]? = some (op k)
  pre : ∀ k, k < n → (en k).pre = S k
  post : ∀ k, k < n → (en k).post = S (k + 1)
  tm : ∀ k, k < n → T (k + 1) = setTm (T k) (op k).dst (en k).v
  run : ∀ k, k < n → (vwanted ops (T k) (op k) = true ∧ vexec P C E (envOf (T k)) (op k) (S k) = some ((en k).v, S (k + 1), (en k).R, (en k).W)) ∨
    (vwanted ops (T k) (op k) = false ∧ (en k).v = undefV ∧ S (k + 1) = S k ∧ (en k).R = [] ∧ (en k).W = [])

theorem vops_trace {ops : Array Oper} : ∀ {os : List Oper} {tm : List V} {st : St} {tm' : List V} {st' : St} {log : List Ent}, vops P C E ops os tm st = some (tm', st', log) →
    ∃ (S : Nat → St) (T : Nat → List V) (en : Nat → Ent) (op : Nat → Oper), S 0 = st ∧ T 0 = tm ∧ S os.length = st' ∧ T os.length = tm' ∧ log.length = os.length ∧
      ∀ k, k < os.length → os[k]? = some (op k) ∧ log[k]? = some (en k) ∧ (en k).pre = S k ∧ (en k).post = S (k + 1) ∧ T (k + 1) = setTm (T k) (op k).dst (en k).v ∧
        ((vwanted ops (T k) (op k) = true ∧ vexec P C E (envOf (T k)) (op k) (S k) = some ((en k).v, S (k + 1), (en k).R, (en k).W)) ∨
          (vwanted ops (T k) (op k) = false ∧ (en k).v = undefV ∧ S (k + 1) = S k ∧ (en k).R = [] ∧ (en k).W = []))
  | [], tm, st, tm', st', log, h => by
    simp only [vops, Option.some.injEq, Prod.mk.injEq] at h
    obtain ⟨rfl, rfl, rfl⟩ := h
    exact ⟨fun _ => st, fun _ => tm, fun _ => ⟨st, st, [], [], undefV⟩, fun _ => default, rfl, rfl, rfl, rfl, rfl, fun k hk => absurd hk (Nat.not_lt_zero _)⟩
  | o :: os, tm, st, tm', st', log, h => by
    have fin : ∀ (v : V) (st1 : St) (R W : List Nat) (l : List Ent), vops P C E ops os (setTm tm o.dst v) st1 = some (tm', st', l) → log = ⟨st, st1, R, W, v⟩ :: l →
        ((vwanted ops tm o = true ∧ vexec P C E (envOf tm) o st = some (v, st1, R, W)) ∨ (vwanted ops tm o = false ∧ v = undefV ∧ st1 = st ∧ R = [] ∧ W = [])) →
        ∃ (S : Nat → St) (T : Nat → List V) (en : Nat → Ent) (op : Nat → Oper), S 0 = st ∧ T 0 = tm ∧ S (o :: os).length = st' ∧ T (o :: os).length = tm' ∧ log.length = (o :: os).length ∧
          ∀ k, k < (o :: os).length → (o :: os)[k]? = some (op k) ∧ log[k]? = some (en k) ∧ (en k).pre = S k ∧ (en k).post = S (k + 1) ∧ T (k + 1) = setTm (T k) (op k).dst (en k).v ∧
            ((vwanted ops (T k) (op k) = true ∧ vexec P C E (envOf (T k)) (op k) (S k) = some ((en k).v, S (k + 1), (en k).R, (en k).W)) ∨
              (vwanted ops (T k) (op k) = false ∧ (en k).v = undefV ∧ S (k + 1) = S k ∧ (en k).R = [] ∧ (en k).W = [])) := by
      intro v st1 R W l hv hlog hrun
      obtain ⟨S, T, en, op, h1, h2, h3, h4, h5, h6⟩ := vops_trace hv
      subst hlog
      refine ⟨fun | 0 => st | k + 1 => S k, fun | 0 => tm | k + 1 => T k, fun | 0 => ⟨st, st1, R, W, v⟩ | k + 1 => en k, fun | 0 => o | k + 1 => op k, rfl, rfl, h3, h4, by simp [h5], fun k hk => ?_⟩
      cases k with
      | zero =>
        refine ⟨rfl, rfl, rfl, h1.symm, h2, ?_⟩
        show (vwanted ops tm o = true ∧ vexec P C E (envOf tm) o st = some (v, S 0, R, W)) ∨ (vwanted ops tm o = false ∧ v = undefV ∧ S 0 = st ∧ R = [] ∧ W = [])
        rw [h1]
        exact hrun
      | succ k =>
        have := h6 k (by simpa using hk)
        simpa using this
    simp only [vops] at h
    split at h
    · rename_i hw
      split at h
      · rename_i v st1 R W hx
        split at h
        · rename_i tm1 st2 l hv
          simp only [Option.some.injEq, Prod.mk.injEq] at h
          obtain ⟨rfl, rfl, hl⟩ := h
          exact fin v st1 R W l hv hl.symm (.inl ⟨hw, hx⟩)
        · simp at h
      · simp at h
    · rename_i hw
      split at h
      · rename_i tm1 st2 l hv
        simp only [Option.some.injEq, Prod.mk.injEq] at h
        obtain ⟨rfl, rfl, hl⟩ := h
        exact fin undefV st [] [] l hv hl.symm (.inr ⟨hw, rfl, rfl, rfl, rfl⟩)
      · simp at h

/-- Which objects an operation makes, or writes. -/
def touchO (S : Nat → St) (en : Nat → Ent) (i k : Nat) : Prop := i ∈ (en k).W ∨ ((S k).next ≤ i ∧ i < (S (k + 1)).next)
/-- Which temporary it writes. -/
def touchT (n : Nat) (op : Nat → Oper) (t k : Nat) : Prop := k < n ∧ (op k).dst = some t

variable {ops : Array Oper} {n : Nat} {S : Nat → St} {T : Nat → List V} {en : Nat → Ent} {op : Nat → Oper}

theorem Trace.fine (h : Trace P C E ops n S T en op) (hE : CallSound P E) (hO : OrcSound P C) (h0 : (S 0).WF) : ∀ k, k < n → (S k).WF ∧ Fine (S k) (S (k + 1)) (en k).W ∧ Live (S k) (en k).R (en k).W ∧ ∀ i ∈ (en k).W, i < (S k).next := by
  intro k
  induction k with
  | zero =>
    intro hk
    rcases h.run 0 hk with ⟨-, hx⟩ | ⟨-, -, hs, hR, hW⟩
    · obtain ⟨g1, g2, -⟩ := vexec_sound hE hO hx h0
      exact ⟨h0, g1, g2⟩
    · rw [hs, hR, hW]
      exact ⟨h0, fine_same h0, Live.nil _, by simp⟩
  | succ k ih =>
    intro hk
    obtain ⟨-, f, -⟩ := ih (by omega)
    have hwf := f.wf
    rcases h.run (k + 1) hk with ⟨-, hx⟩ | ⟨-, -, hs, hR, hW⟩
    · obtain ⟨g1, g2, -⟩ := vexec_sound hE hO hx hwf
      exact ⟨hwf, g1, g2⟩
    · rw [hs, hR, hW]
      exact ⟨hwf, fine_same hwf, Live.nil _, by simp⟩

theorem Trace.next_le (hf : ∀ k, k < n → (S k).WF ∧ Fine (S k) (S (k + 1)) (en k).W ∧ Live (S k) (en k).R (en k).W ∧ ∀ i ∈ (en k).W, i < (S k).next) {i : Nat} : ∀ k, i ≤ k → k ≤ n → (S i).next ≤ (S k).next := by
  intro k
  induction k with
  | zero => intro h1 h2; have : i = 0 := by omega
            rw [this]; exact Nat.le_refl _
  | succ k ih =>
    intro h1 h2
    by_cases e : i = k + 1
    · rw [e]; exact Nat.le_refl _
    · exact Nat.le_trans (ih (by omega) (by omega)) (hf k (by omega)).2.1.next

end

end Go.Proofs.Ytnolgpagdjcjbaa.Ve
/-! A region whose order is open: one more operation. -/
set_option linter.unusedVariables false
set_option linter.unusedSimpArgs false
namespace Go.Proofs.Ytnolgpagdjcjbaa.Ve
open Go

section
variable {P : Program} {C : Cfg} {E : Task → Option Out} {ops : Array Oper} {n : Nat} {S : Nat → St} {T : Nat → List V} {en : Nat → Ent} {op : Nat → Oper}
variable {ρ₀ : Ren} {F₀ : Nat → Prop} {w₀ : World}

noncomputable def curO (n : Nat) (S : Nat → St) (en : Nat → Ent) (L : Nat → Bool) (i : Nat) : Option SO := cur (fun k => (S k).get i) (touchO S en i) L n
noncomputable def curT (n : Nat) (T : Nat → List V) (op : Nat → Oper) (L : Nat → Bool) (t : Nat) : V := cur (fun k => (T k).getD t undefV) (touchT n op t) L n

/-- What a region's operations read, write or make. -/
def inR (n : Nat) (en : Nat → Ent) (i : Nat) : Prop := ∃ k, k < n ∧ i ∈ (en k).R
def inW (n : Nat) (en : Nat → Ent) (i : Nat) : Prop := ∃ k, k < n ∧ i ∈ (en k).W

/-- The blocks that the region may change. -/
def claim (ρ₀ : Ren) (w₀ : World) (S : Nat → St) (n : Nat) (en : Nat → Ent) (B : Nat) : Prop := w₀.heap.size ≤ B ∨ ∃ j, j < (S 0).next ∧ inW n en j ∧ blk ρ₀ j = some B

structure Inv (n : Nat) (S : Nat → St) (T : Nat → List V) (en : Nat → Ent) (op : Nat → Oper) (ρ₀ : Ren) (F₀ : Nat → Prop) (w₀ : World) (L : Nat → Bool) (ρ : Ren) (F : Nat → Prop) (a : Act) (w : World) : Prop where
  size : a.tmps.size = (T 0).length
  tm : ∀ t, t < a.tmps.size → VRel ρ F w (curT n T op L t) (a.tmps.getD t undef)
  defers : a.defers = []
  rle : RLe ρ₀ ρ
  rnew : ∀ i, ρ i ≠ ρ₀ i → ∃ k, k < n ∧ L k = true ∧ (S k).next ≤ i ∧ i < (S (k + 1)).next
  fle : ∀ B, F₀ B → F B
  fnew : ∀ B, F B → F₀ B ∨ claim ρ₀ w₀ S n en B
  fok : ∀ B, F B → B < w.heap.size
  hsize : w₀.heap.size ≤ w.heap.size
  shp : Shp w₀ w
  heap : ∀ B, B < w₀.heap.size → ¬ claim ρ₀ w₀ S n en B → w.heap[B]? = w₀.heap[B]?
  obj : ∀ i so, (inR n en i ∨ inW n en i ∨ (S 0).next ≤ i) → curO n S en L i = some so → ObjRel ρ F w i so ∧ ((inW n en i ∨ (S 0).next ≤ i) → ∀ B, blk ρ i = some B → claim ρ₀ w₀ S n en B)
  inj : ∀ i j, (inW n en i ∨ (S 0).next ≤ i) → (inR n en j ∨ inW n en j ∨ (S 0).next ≤ j) → (curO n S en L i).isSome → (curO n S en L j).isSome → i ≠ j → blk ρ i ≠ blk ρ j

/-- No order between i and what is done, or to be done, matters. -/
def Cpt (ops : Array Oper) (n : Nat) (en : Nat → Ent) (op : Nat → Oper) (L : Nat → Bool) (i : Nat) : Prop :=
  (∀ k, k < n → k < i → L k = false → (en k).clash (en i) = false ∧ (op k).apart ops (op i) = true) ∧
  (∀ k, k < n → i < k → L k = true → (en i).clash (en k) = false ∧ (op i).apart ops (op k) = true)

theorem clash_false {a b : Ent} (h : a.clash b = false) : (∀ x ∈ a.W, x ∉ b.R ∧ x ∉ b.W) ∧ (∀ x ∈ b.W, x ∉ a.R) ∧ (∀ x, x ∈ b.R ∨ x ∈ b.W → ¬ (a.pre.next ≤ x ∧ x < a.post.next)) := by
  unfold Ent.clash at h
  simp only [Bool.or_eq_false_iff, List.any_eq_false, Bool.and_eq_true, decide_eq_true_eq, List.contains_eq_mem, List.mem_append, Bool.or_eq_true, not_or] at h
  obtain ⟨⟨h1, h2⟩, h3⟩ := h
  exact ⟨fun x hx => by simpa using h1 x hx, fun x hx => by simpa using h2 x hx, fun x hx => h3 x hx⟩

theorem getD_set {tm : List V} {d t : Nat} {v : V} (h : t < tm.length) : (tm.set d v).getD t undefV = if d = t then v else tm.getD t undefV := by
  simp only [List.getD_eq_getElem?_getD, List.getElem?_set]
  by_cases e : d = t
  · subst e
    simp [h]
  · simp [e]

theorem getD_putTm {a : Act} {dst : Option Tmp} {x : Value} {t : Nat} (h : t < a.tmps.size) : (a.put dst x).tmps.getD t undef = if dst = some t then x else a.tmps.getD t undef := by
  cases dst with
  | none => simp [Act.put]
  | some d =>
    simp only [Act.put, Option.some.injEq]
    by_cases e : d = t
    · subst e
      simp [h]
    · simp only [e, if_false]
      simp [Array.getElem?_setIfInBounds_ne e]

theorem put_size {a : Act} {dst : Option Tmp} {x : Value} : (a.put dst x).tmps.size = a.tmps.size := by cases dst <;> simp [Act.put]

theorem yield_rel {ρ : Ren} {F : Nat → Prop} {w : World} {x : V} {v : Value} (h : VRel ρ F w x v) : (∃ b, x = .pv (.sc (.bool b)) ∧ v = .bool b) ∨ ((∀ b, x ≠ .pv (.sc (.bool b))) ∧ ∀ b, v ≠ .bool b) := by
  cases x with
  | pv p =>
    cases p with
    | sc y => simp only [VRel, PRel] at h; subst h; cases v <;> first | exact .inl ⟨_, rfl, rfl⟩ | exact .inr ⟨by simp, by simp⟩
    | fz rows => simp only [VRel, PRel] at h; obtain ⟨a, cap, rfl, -⟩ := h; exact .inr ⟨by simp, by simp⟩
    | agg cs => simp only [VRel, PRel] at h; obtain ⟨l, rfl, -⟩ := h; exact .inr ⟨by simp, by simp⟩
    | ifc t p => simp only [VRel, PRel] at h; obtain ⟨u, rfl, -⟩ := h; exact .inr ⟨by simp, by simp⟩
  | ptr i r off => simp only [VRel] at h; obtain ⟨B, o, s, -, rfl⟩ := h; exact .inr ⟨by simp, by simp⟩
  | fe cs => simp only [VRel] at h; obtain ⟨B, o, -, rfl, -⟩ := h; exact .inr ⟨by simp, by simp⟩
  | ow i s r len => simp only [VRel] at h; obtain ⟨B, o, a, cap, -, rfl, -⟩ := h; exact .inr ⟨by simp, by simp⟩
  | nl => simp only [VRel] at h; subst h; exact .inr ⟨by simp, by simp⟩
  | agg cs => simp only [VRel] at h; obtain ⟨l, rfl, -⟩ := h; exact .inr ⟨by simp, by simp⟩
  | tup cs => simp only [VRel] at h; obtain ⟨l, rfl, -⟩ := h; exact .inr ⟨by simp, by simp⟩
  | ifc t y => simp only [VRel] at h; obtain ⟨u, rfl, -⟩ := h; exact .inr ⟨by simp, by simp⟩
  | fn f a c => simp only [VRel] at h; obtain ⟨a', c', rfl, -⟩ := h; exact .inr ⟨by simp, by simp⟩

theorem yield_no {ops : Array Oper} {tmps : Array Value} {j : Nat} {o : Oper} {d : Tmp} {v : Value} (ho : ops[j]? = some o) (hd : o.dst = some d) (hv : tmps[d]? = some v) (hn : ∀ b, v ≠ .bool b) : yielded ops tmps j = none := by
  unfold yielded
  simp only [ho, hd, Option.bind_some, hv]
  cases v <;> first | rfl | exact absurd rfl (hn _)

theorem yield_noV {ops : Array Oper} {tm : List V} {j : Nat} {o : Oper} {d : Tmp} {x : V} (ho : ops[j]? = some o) (hd : o.dst = some d) (hv : tm[d]? = some x) (hn : ∀ b, x ≠ .pv (.sc (.bool b))) : vyield ops tm j = none := by
  unfold vyield
  simp only [ho, hd, hv]
  split
  · rename_i b heq
    simp only [Option.some.injEq] at heq
    exact absurd heq (hn b)
  · rfl

theorem setTm_length {tm : List V} {d : Option Tmp} {v : V} : (setTm tm d v).length = tm.length := by cases d <;> simp [setTm]

theorem Trace.len (h : Trace P C E ops n S T en op) : ∀ k, k ≤ n → (T k).length = (T 0).length
  | 0, _ => rfl
  | k + 1, hk => by rw [h.tm k (by omega), setTm_length]; exact h.len k (by omega)

theorem sameT (h : Trace P C E ops n S T en op) {t : Nat} (ht : t < (T 0).length) (k : Nat) (hk : k < n) (hn : ¬ touchT n op t k) : (T (k + 1)).getD t undefV = (T k).getD t undefV := by
  rw [h.tm k hk]
  unfold setTm
  cases hd : (op k).dst with
  | none => rfl
  | some d =>
    have hne : d ≠ t := fun e => hn ⟨hk, by rw [hd, e]⟩
    simp only
    rw [getD_set (by rw [h.len k (by omega)]; exact ht), if_neg hne]

theorem curT_at (h : Trace P C E ops n S T en op) {t i : Nat} (ht : t < (T 0).length) (hi : i < n) {L : Nat → Bool} (h1 : ∀ k, k < i → (op k).dst = some t → L k = true) (h2 : ∀ k, i ≤ k → k < n → L k = true → (op k).dst ≠ some t) :
    curT n T op L t = (T i).getD t undefV := by
  unfold curT
  rw [cur_keep (i := i) n (by omega) (fun k a b c d => h2 k a b c d.2)]
  have gen : ∀ j, j ≤ i → cur (fun k => (T k).getD t undefV) (touchT n op t) L j = (T j).getD t undefV := by
    intro j
    induction j with
    | zero => intro _; rfl
    | succ j ih =>
      intro hj
      simp only [cur]
      by_cases htt : touchT n op t j
      · rw [if_pos ⟨h1 j (by omega) htt.2, htt⟩]
      · rw [if_neg (fun x => htt x.2), ih (by omega), sameT h ht j (by omega) htt]
  exact gen i (Nat.le_refl _)

theorem curT_last (h : Trace P C E ops n S T en op) {t : Nat} (ht : t < (T 0).length) {L : Nat → Bool} (hL : ∀ k, k < n → L k = true) : curT n T op L t = (T n).getD t undefV := by
  unfold curT
  have gen : ∀ j, j ≤ n → cur (fun k => (T k).getD t undefV) (touchT n op t) L j = (T j).getD t undefV := by
    intro j
    induction j with
    | zero => intro _; rfl
    | succ j ih =>
      intro hj
      simp only [cur]
      by_cases htt : touchT n op t j
      · rw [if_pos ⟨hL j (by omega), htt⟩]
      · rw [if_neg (fun x => htt x.2), ih (by omega), sameT h ht j (by omega) htt]
  exact gen n (Nat.le_refl _)

theorem sameO (hf : ∀ k, k < n → (S k).WF ∧ Fine (S k) (S (k + 1)) (en k).W ∧ Live (S k) (en k).R (en k).W ∧ ∀ i ∈ (en k).W, i < (S k).next) {i k : Nat} (hk : k < n) (hn : ¬ touchO S en i k) : (S (k + 1)).get i = (S k).get i := by
  obtain ⟨h1, h2, h3⟩ := hf k hk
  unfold touchO at hn
  simp only [not_or, not_and, Nat.not_lt] at hn
  by_cases hlt : i < (S k).next
  · exact h2.same i hlt hn.1
  · rw [h1 i (by omega), h2.wf i (hn.2 (by omega))]

theorem curO_at (hf : ∀ k, k < n → (S k).WF ∧ Fine (S k) (S (k + 1)) (en k).W ∧ Live (S k) (en k).R (en k).W ∧ ∀ i ∈ (en k).W, i < (S k).next) {i j : Nat} (hi : i < n) {L : Nat → Bool} (h1 : ∀ k, k < i → touchO S en j k → L k = true) (h2 : ∀ k, i ≤ k → k < n → L k = true → ¬ touchO S en j k) :
    curO n S en L j = (S i).get j := by
  unfold curO
  rw [cur_keep (i := i) n (by omega) h2]
  have gen : ∀ m, m ≤ i → cur (fun k => (S k).get j) (touchO S en j) L m = (S m).get j := by
    intro m
    induction m with
    | zero => intro _; rfl
    | succ m ih =>
      intro hm
      simp only [cur]
      by_cases htt : touchO S en j m
      · rw [if_pos ⟨h1 m (by omega) htt, htt⟩]
      · rw [if_neg (fun x => htt x.2), ih (by omega), sameO hf (by omega) htt]
  exact gen i (Nat.le_refl _)

theorem curO_last (hf : ∀ k, k < n → (S k).WF ∧ Fine (S k) (S (k + 1)) (en k).W ∧ Live (S k) (en k).R (en k).W ∧ ∀ i ∈ (en k).W, i < (S k).next) {j : Nat} {L : Nat → Bool} (hL : ∀ k, k < n → L k = true) : curO n S en L j = (S n).get j := by
  unfold curO
  have gen : ∀ m, m ≤ n → cur (fun k => (S k).get j) (touchO S en j) L m = (S m).get j := by
    intro m
    induction m with
    | zero => intro _; rfl
    | succ m ih =>
      intro hm
      simp only [cur]
      by_cases htt : touchO S en j m
      · rw [if_pos ⟨hL m (by omega), htt⟩]
      · rw [if_neg (fun x => htt x.2), ih (by omega), sameO hf (by omega) htt]
  exact gen n (Nat.le_refl _)

set_option maxHeartbeats 1600000 in
theorem inv_step (h : Trace P C E ops n S T en op) (hE : CallSound P E) (hO : OrcSound P C) (hf : ∀ k, k < n → (S k).WF ∧ Fine (S k) (S (k + 1)) (en k).W ∧ Live (S k) (en k).R (en k).W ∧ ∀ i ∈ (en k).W, i < (S k).next)
    (hp₀ : ∀ i, i < (S 0).next → inR n en i ∨ inW n en i → ∃ so, (S 0).get i = some so ∧ ObjRel ρ₀ F₀ w₀ i so) (hfr : ∀ i, (S 0).next ≤ i → i < (S n).next → ρ₀ i = none)
    {L : Nat → Bool} {i : Nat} (hi : i < n) (hLi : L i = false) (hc : Cpt ops n en op L i) {ρ : Ren} {F : Nat → Prop} {a : Act} {w : World} (hI : Inv n S T en op ρ₀ F₀ w₀ L ρ F a w)
    {K : Act → World → Prop} {Q : Exit → Act → World → Prop} (hK : ∀ ρ' F' a' w', Inv n S T en op ρ₀ F₀ w₀ (addL L i) ρ' F' a' w' → K a' w') : wpOp P ops Q i K a w := by
  have hle : ∀ {i k : Nat}, i ≤ k → k ≤ n → (S i).next ≤ (S k).next := fun h1 h2 => Trace.next_le hf _ h1 h2
  -- the temporaries that it looks at
  have tmAt : ∀ t, t < a.tmps.size → t ∈ (op i).looksAt ops → curT n T op L t = (T i).getD t undefV := by
    intro t ht hl
    refine curT_at h (by rw [← hI.size]; exact ht) hi (fun k hk hd => ?_) (fun k hk hkn hLk hd => ?_)
    · cases hL : L k with
      | true => rfl
      | false =>
        obtain ⟨-, hap⟩ := hc.1 k (by omega) hk hL
        obtain ⟨h1, -, -⟩ := Oper.apart_spec hap
        exact absurd hl (h1 t hd)
    · by_cases e : k = i
      · subst e; rw [hLi] at hLk; cases hLk
      · obtain ⟨-, hap⟩ := hc.2 k hkn (by omega) hLk
        obtain ⟨-, -, h3⟩ := Oper.apart_spec hap
        exact absurd hl (h3 t hd)
  have tmOut : ∀ t, ¬ t < a.tmps.size → (T i).getD t undefV = undefV ∧ a.tmps.getD t undef = undef := by
    intro t ht
    have h1 : (T i).length ≤ t := by rw [h.len i (by omega), ← hI.size]; omega
    exact ⟨by simp [List.getD_eq_getElem?_getD, List.getElem?_eq_none h1], by simp [Array.getElem?_eq_none (Nat.le_of_not_lt ht)]⟩
  have tmRel : ∀ t, t ∈ (op i).looksAt ops → VRel ρ F w ((T i).getD t undefV) (a.tmps.getD t undef) := by
    intro t hl
    by_cases ht : t < a.tmps.size
    · rw [← tmAt t ht hl]
      exact hI.tm t ht
    · obtain ⟨e1, e2⟩ := tmOut t ht
      rw [e1, e2]
      exact rel_undef
  -- is it wanted?
  have hwant : Region.wanted (op i) (yielded ops a.tmps) = vwanted ops (T i) (op i) := by
    unfold Region.wanted vwanted
    cases hg : (op i).guard with
    | none => rfl
    | some gw =>
      obtain ⟨g, want⟩ := gw
      simp only
      cases hog : ops[g]? with
      | none => unfold yielded vyield; simp [hog]
      | some og =>
        cases hdg : og.dst with
        | none => unfold yielded vyield; simp [hog, hdg]
        | some d =>
          have hl : d ∈ (op i).looksAt ops := by
            unfold Oper.looksAt
            simp [hg, hog, hdg]
          have hr := tmRel d hl
          by_cases hd : d < a.tmps.size
          · have h1 : a.tmps[d]? = some (a.tmps.getD d undef) := by simp [hd]
            have h2 : (T i)[d]? = some ((T i).getD d undefV) := by
              have : d < (T i).length := by rw [h.len i (by omega), ← hI.size]; exact hd
              simp [List.getD_eq_getElem?_getD, this]
            rcases yield_rel hr with ⟨b, e1, e2⟩ | ⟨n1, n2⟩
            · unfold yielded vyield
              simp only [hog, hdg, Option.bind_some, h1, h2, e1, e2]
              cases b <;> cases want <;> rfl
            · rw [yield_no hog hdg h1 n2, yield_noV hog hdg h2 n1]
              rfl
          · have h1 : a.tmps[d]? = none := Array.getElem?_eq_none (Nat.le_of_not_lt hd)
            have h2 : (T i)[d]? = none := List.getElem?_eq_none (by rw [h.len i (by omega), ← hI.size]; exact Nat.le_of_not_lt hd)
            unfold yielded vyield
            simp [hog, hdg, h1, h2]
  -- the temporaries behind it
  have tmNext : ∀ (ρ' : Ren) (F' : Nat → Prop) (w' : World) (x : Value), RLe ρ ρ' → Ext F w F' w' → VRel ρ' F' w' (en i).v x → ∀ t, t < a.tmps.size → VRel ρ' F' w' (curT n T op (addL L i) t) ((a.put (op i).dst x).tmps.getD t undef) := by
    intro ρ' F' w' x hr he hx t ht
    rw [getD_putTm ht]
    by_cases hd : (op i).dst = some t
    · rw [if_pos hd]
      have : curT n T op (addL L i) t = (T (i + 1)).getD t undefV := by
        unfold curT
        exact cur_add_touch hi ⟨hi, hd⟩ (fun k hk hkn hLk hn => by
          obtain ⟨-, hap⟩ := hc.2 k hkn hk hLk
          obtain ⟨-, h2, -⟩ := Oper.apart_spec hap
          exact h2 t hd hn.2)
      rw [this, h.tm i hi]
      unfold setTm
      rw [hd]
      simp only
      rw [getD_set (by rw [h.len i (by omega), ← hI.size]; exact ht), if_pos rfl]
      exact hx
    · rw [if_neg hd]
      have : curT n T op (addL L i) t = curT n T op L t := by
        unfold curT
        exact cur_add_no fun hn => hd hn.2
      rw [this]
      exact VRel.mono he hr _ _ (hI.tm t ht)
  unfold wpOp
  rw [h.opk i hi]
  simp only [hwant]
  rcases h.run i hi with ⟨hw, hx⟩ | ⟨hw, hv, hS, hR, hW⟩
  · -- it is done
    rw [hw]
    simp only [if_true]
    refine .inl ?_
    obtain ⟨-, -, hrun⟩ := vexec_sound hE hO hx (hf i hi).1
    have hlive := (hf i hi).2.2.1
    have hwlt := (hf i hi).2.2.2
    have hwfi := (hf i hi).1
    -- the objects that it looks at stand as in the text's order
    have objAt : ∀ j, j < (S i).next → (j ∈ (en i).R ∨ j ∈ (en i).W) → curO n S en L j = (S i).get j := by
      intro j hj hm
      refine curO_at hf hi (fun k hk ht => ?_) (fun k hk hkn hLk ht => ?_)
      · cases hL : L k with
        | true => rfl
        | false =>
          obtain ⟨hcl, -⟩ := hc.1 k (by omega) hk hL
          obtain ⟨c1, c2, c3⟩ := clash_false hcl
          rcases ht with ht | ht
          · obtain ⟨d1, d2⟩ := c1 j ht
            exact absurd hm (by simp [d1, d2])
          · have := c3 j hm
            rw [h.pre k (by omega), h.post k (by omega)] at this
            exact absurd ht this
      · by_cases e : k = i
        · subst e; rw [hLi] at hLk; cases hLk
        · obtain ⟨hcl, -⟩ := hc.2 k hkn (by omega) hLk
          obtain ⟨c1, c2, c3⟩ := clash_false hcl
          rcases ht with ht | ht
          · rcases hm with hm | hm
            · exact c2 j ht hm
            · exact (c1 j hm).2 ht
          · have := hle (i := i) (k := k) (by omega) (by omega)
            omega
    have inAll : ∀ j, (j ∈ (en i).R ∨ j ∈ (en i).W) → inR n en j ∨ inW n en j ∨ (S 0).next ≤ j := fun j hm => hm.elim (fun h => .inl ⟨i, hi, h⟩) (fun h => .inr (.inl ⟨i, hi, h⟩))
    have hpre : Pre ρ F w (S i) (en i).R (en i).W (S (i + 1)).next := by
      refine ⟨hI.fok, fun j hj hm => ?_, fun j k hj hk hjm hkm hne => ?_, fun j h1 h2 => ?_⟩
      · obtain ⟨so, hso⟩ := hlive j hm hj
        exact ⟨so, hso, (hI.obj j so (inAll j hm) (by rw [objAt j hj hm]; exact hso)).1⟩
      · obtain ⟨so, hso⟩ := hlive j (.inr hjm) hj
        obtain ⟨so', hso'⟩ := hlive k hkm hk
        exact hI.inj j k (.inl ⟨i, hi, hjm⟩) (inAll k hkm) (by rw [objAt j hj (.inr hjm), hso]; rfl) (by rw [objAt k hk hkm, hso']; rfl) hne
      · cases hq : ρ j with
        | none => rfl
        | some x =>
          have h0 : ρ₀ j = none := hfr j (Nat.le_trans (hle (Nat.zero_le i) (by omega)) h1) (Nat.lt_of_lt_of_le h2 (hle (i := i + 1) (by omega) (Nat.le_refl n)))
          obtain ⟨k, hk, hLk, hk1, hk2⟩ := hI.rnew j (by rw [hq, h0]; simp)
          have hki : k = i := by
            rcases Nat.lt_trichotomy k i with hlt | heq | hgt
            · have := hle (i := k + 1) (k := i) (by omega) (by omega)
              omega
            · exact heq
            · have := hle (i := i + 1) (k := k) (by omega) (by omega)
              omega
          subst hki
          rw [hLi] at hLk
          cases hLk
    have henv : EnvRel ρ F w (envOf (T i)) a.eval (op i).op.operands.toList := by
      intro x hx v hv
      cases x with
      | tmp t =>
        simp only [envOf, Option.some.injEq] at hv
        subst hv
        refine tmRel t ?_
        unfold Oper.looksAt
        refine List.mem_append_left _ (List.mem_filterMap.2 ⟨.tmp t, by simpa using hx, rfl⟩)
      | const c =>
        simp only [envOf, Option.some.injEq] at hv
        subst hv
        exact rel_ofValue c
      | global g => simp [envOf] at hv
      | func f =>
        simp only [envOf, Option.some.injEq] at hv
        subst hv
        simp only [VRel, Act.eval]
        exact ⟨#[], #[], rfl, by simp [VList], by simp [VList]⟩
    refine hrun ρ F w a K Q hpre henv fun x w' ρ' F' hxr hpost => ?_
    have hWW : ∀ j, j < (S i).next → j ∈ (en i).W → j ∈ (en i).W := fun _ _ h => h
    have hext := hpost.ext hpre hWW
    -- the blocks that the operation changes
    have blk0 : ∀ j B, j < (S 0).next → (inR n en j ∨ inW n en j) → blk ρ j = some B → blk ρ₀ j = some B := by
      intro j B hj hm hb
      obtain ⟨so, -, ho⟩ := hp₀ j hj hm
      obtain ⟨B', hB', -⟩ := ho.lt
      exact blk_back hI.rle hb ⟨B', hB'⟩
    have wclaim : ∀ j B, j < (S i).next → j ∈ (en i).W → blk ρ j = some B → claim ρ₀ w₀ S n en B := by
      intro j B hj hm hb
      obtain ⟨so, hso⟩ := hlive j (.inr hm) hj
      exact (hI.obj j so (inAll j (.inr hm)) (by rw [objAt j hj (.inr hm)]; exact hso)).2 (.inl ⟨i, hi, hm⟩) B hb
    have hheap : ∀ B, B < w₀.heap.size → ¬ claim ρ₀ w₀ S n en B → w'.heap[B]? = w₀.heap[B]? := by
      intro B hB hn
      rw [hpost.heap B (Nat.lt_of_lt_of_le hB hI.hsize) (fun j hj hm hb => hn (wclaim j B hj hm hb))]
      exact hI.heap B hB hn
    have bclaim : ∀ B, (w.heap.size ≤ B ∨ ∃ j, j < (S i).next ∧ j ∈ (en i).W ∧ blk ρ j = some B) → claim ρ₀ w₀ S n en B := by
      intro B hB
      rcases hB with hge | ⟨j, hj, hm, hb⟩
      · exact .inl (Nat.le_trans hI.hsize hge)
      · exact wclaim j B hj hm hb
    -- an object that the operation leaves alone
    have alone : ∀ j so, ¬ touchO S en j i → (inR n en j ∨ inW n en j ∨ (S 0).next ≤ j) → curO n S en L j = some so → ∃ B, blk ρ j = some B ∧ B < w.heap.size ∧ ∀ k, k < (S i).next → k ∈ (en i).W → blk ρ k ≠ some B := by
      intro j so hn hA hso
      obtain ⟨ho, -⟩ := hI.obj j so hA hso
      obtain ⟨B, hB, hlt⟩ := ho.lt
      refine ⟨B, hB, hlt, fun k hk hm e => ?_⟩
      have hne : k ≠ j := fun e => hn (.inl (e ▸ hm))
      obtain ⟨so', hso'⟩ := hlive k (.inr hm) hk
      exact hI.inj k j (.inl ⟨i, hi, hm⟩) hA (by rw [objAt k hk (.inr hm), hso']; rfl) (by rw [hso]; rfl) hne (e.trans hB.symm)
    have curTouch : ∀ j, touchO S en j i → curO n S en (addL L i) j = (S (i + 1)).get j := by
      intro j ht
      unfold curO
      refine cur_add_touch hi ht fun k hk hkn hLk hn => ?_
      obtain ⟨hcl, -⟩ := hc.2 k hkn hk hLk
      obtain ⟨c1, c2, c3⟩ := clash_false hcl
      have hik := hle (i := i + 1) (k := k) (by omega) (by omega)
      have hii := (hf i hi).2.1.next
      rcases ht with ht | ht
      · rcases hn with hn | hn
        · exact (c1 j ht).2 hn
        · have hlt : j < (S i).next := hwlt j ht
          omega
      · rcases hn with hn | hn
        · have := c3 j (.inr hn)
          rw [h.pre i hi, h.post i hi] at this
          exact this ht
        · omega
    have curNo : ∀ j, ¬ touchO S en j i → curO n S en (addL L i) j = curO n S en L j := fun j hn => by
      unfold curO
      exact cur_add_no hn
    refine hK ρ' F' _ w' ⟨?_, ?_, ?_, fun j y hj => hpost.rle j y (hI.rle j y hj), fun j hj => ?_, fun B hB => hpost.fle B (hI.fle B hB), fun B hB => ?_, hpost.fok, Nat.le_trans hI.hsize hpost.size, hI.shp.trans hpost.shp, hheap, fun j so hA hg => ?_, fun j k hj hk gj gk hne => ?_⟩
    · rw [put_size]; exact hI.size
    · intro t ht
      rw [put_size] at ht
      exact tmNext ρ' F' w' x hpost.rle hext hxr t ht
    · cases hd : (op i).dst <;> exact hI.defers
    · by_cases e : ρ' j = ρ j
      · rw [e] at hj
        obtain ⟨k, hk, hLk, h1, h2⟩ := hI.rnew j hj
        exact ⟨k, hk, by simp [addL, hLk], h1, h2⟩
      · have := hpost.rnew j e
        exact ⟨i, hi, by simp [addL], this.1, this.2⟩
    · rcases hpost.fnew B hB with h1 | h1 | h1
      · exact hI.fnew B h1
      · exact .inr (bclaim B (.inl h1))
      · exact .inr (bclaim B (.inr h1))
    · by_cases ht : touchO S en j i
      · rw [curTouch j ht] at hg
        have hm : j < (S i).next ∧ j ∈ (en i).W ∨ (S i).next ≤ j := by
          rcases ht with ht | ht
          · by_cases hlt : j < (S i).next
            · exact .inl ⟨hlt, ht⟩
            · exact .inr (by omega)
          · exact .inr ht.1
        obtain ⟨ho, hcl⟩ := hpost.obj j so hm hg
        exact ⟨ho, fun _ B hB => bclaim B (hcl B hB)⟩
      · rw [curNo j ht] at hg
        obtain ⟨ho, hcl⟩ := hI.obj j so hA hg
        obtain ⟨B, hB, hBlt, hno⟩ := alone j so ht hA hg
        refine ⟨ho.keep hext hpost.rle fun B' hB' => ?_, fun hw B' hB' => hcl hw B' (blk_back hpost.rle hB' ⟨B, hB⟩)⟩
        rw [hB] at hB'
        cases hB'
        refine ⟨hpost.heap B hBlt hno, fun hF => ?_⟩
        rcases hpost.fnew B hF with hF | hge | ⟨k, hk, hkm, hkb⟩
        · obtain ⟨B'', o, c, e, hρ, hnF, -⟩ := ho
          rw [blk_of hρ] at hB
          simp only [Option.some.injEq] at hB
          exact hnF (hB ▸ hF)
        · omega
        · exact hno k hk hkm hkb
    · have cls : ∀ j, touchO S en j i → (j < (S i).next ∧ j ∈ (en i).W ∨ (S i).next ≤ j) := fun j ht => by
        rcases ht with ht | ht
        · by_cases hlt : j < (S i).next
          · exact .inl ⟨hlt, ht⟩
          · exact .inr (by omega)
        · exact .inr ht.1
      have mixed : ∀ j k, touchO S en j i → ¬ touchO S en k i → (inR n en k ∨ inW n en k ∨ (S 0).next ≤ k) → (curO n S en (addL L i) j).isSome → (curO n S en (addL L i) k).isSome → blk ρ' j ≠ blk ρ' k := by
        intro j k hj hk hA gj gk e
        rw [curTouch j hj] at gj
        rw [curNo k hk] at gk
        cases hg : curO n S en L k with
        | none => rw [hg] at gk; cases gk
        | some so =>
          cases hg2 : (S (i + 1)).get j with
          | none => rw [hg2] at gj; cases gj
          | some so2 =>
            obtain ⟨B, hB, hBlt, hno⟩ := alone k so hk hA hg
            have hB' := blk_le hpost.rle hB
            obtain ⟨-, hcl⟩ := hpost.obj j so2 (cls j hj) hg2
            rcases hcl B (e.trans hB') with hge | ⟨m, hm1, hm2, hm3⟩
            · omega
            · exact hno m hm1 hm2 hm3
      have hjA : inR n en j ∨ inW n en j ∨ (S 0).next ≤ j := .inr hj
      by_cases htj : touchO S en j i <;> by_cases htk : touchO S en k i
      · rw [curTouch j htj] at gj
        rw [curTouch k htk] at gk
        exact hpost.inj j k (cls j htj) (cls k htk) gj gk hne
      · exact mixed j k htj htk hk gj gk
      · exact fun e => mixed k j htk htj hjA gk gj e.symm
      · rw [curNo j htj] at gj
        rw [curNo k htk] at gk
        have hne2 := hI.inj j k hj hk gj gk hne
        cases hg : curO n S en L j with
        | none => rw [hg] at gj; cases gj
        | some so =>
          cases hg2 : curO n S en L k with
          | none => rw [hg2] at gk; cases gk
          | some so2 =>
            obtain ⟨B, hB, -⟩ := alone j so htj hjA hg
            obtain ⟨B', hB', -⟩ := alone k so2 htk hk hg2
            intro e
            rw [blk_le hpost.rle hB, blk_le hpost.rle hB'] at e
            exact hne2 (hB.trans (e.trans hB'.symm))
  · -- it is passed by
    rw [hw]
    simp only [Bool.false_eq_true, if_false]
    have nt : ∀ j, ¬ touchO S en j i := by
      intro j ht
      rcases ht with ht | ht
      · rw [hW] at ht; cases ht
      · rw [hS] at ht; omega
    have hcO : ∀ j, curO n S en (addL L i) j = curO n S en L j := fun j => by
      unfold curO
      exact cur_add_no (nt j)
    refine hK ρ F _ w ⟨?_, ?_, ?_, hI.rle, fun j hj => ?_, hI.fle, hI.fnew, hI.fok, hI.hsize, hI.shp, hI.heap, fun j so hA hg => ?_, fun j k hj hk gj gk hne => ?_⟩
    · rw [put_size]; exact hI.size
    · intro t ht
      rw [put_size] at ht
      exact tmNext ρ F w undef (rle_refl ρ) (Ext.refl F w) (by rw [hv]; exact rel_undef) t ht
    · cases hd : (op i).dst <;> exact hI.defers
    · obtain ⟨k, hk, hLk, h1, h2⟩ := hI.rnew j hj
      exact ⟨k, hk, by simp [addL, hLk], h1, h2⟩
    · rw [hcO] at hg
      exact hI.obj j so hA hg
    · rw [hcO] at gj gk
      exact hI.inj j k hj hk gj gk hne

end

end Go.Proofs.Ytnolgpagdjcjbaa.Ve
/-! A region, whole. -/
set_option linter.unusedVariables false
set_option linter.unusedSimpArgs false
namespace Go.Proofs.Ytnolgpagdjcjbaa.Ve
open Go

/-- i must be done ahead of j. -/
inductive Reach (ops : Array Oper) : Nat → Nat → Prop where
  | direct {j : Nat} {o : Oper} {e : Edge} (ho : ops[j]? = some o) (he : e ∈ o.after) (hb : Region.binds .any e = true) : Reach ops e.on j
  | step {i j : Nat} {o : Oper} {e : Edge} (ho : ops[j]? = some o) (he : e ∈ o.after) (hb : Region.binds .any e = true) (h : Reach ops i e.on) : Reach ops i j

theorem testBit_fold (acc : Array Nat) (i : Nat) : ∀ (l : List Edge) (s : Nat), (l.foldl (fun s e => if Region.binds .any e then s ||| 2 ^ e.on ||| acc.getD e.on 0 else s) s).testBit i = true → s.testBit i = true ∨ ∃ e ∈ l, Region.binds .any e = true ∧ (e.on = i ∨ (acc.getD e.on 0).testBit i = true)
  | [], s, h => .inl h
  | e :: l, s, h => by
    simp only [List.foldl_cons] at h
    rcases testBit_fold acc i l _ h with h | ⟨e', he', hb, h⟩
    · by_cases hb : Region.binds .any e = true
      · rw [if_pos hb] at h
        simp only [Nat.testBit_or, Bool.or_eq_true, Nat.testBit_two_pow] at h
        rcases h with (h | h) | h
        · exact .inl h
        · exact .inr ⟨e, by simp, hb, .inl (by simpa using h)⟩
        · exact .inr ⟨e, by simp, hb, .inr h⟩
      · rw [if_neg hb] at h
        exact .inl h
    · exact .inr ⟨e', by simp [he'], hb, h⟩

theorem before_reach (ops : Array Oper) : ∀ (l : List Oper) (acc : Array Nat), (∀ k o, l[k]? = some o → ops[acc.size + k]? = some o) → (∀ j i, (acc.getD j 0).testBit i = true → Reach ops i j) →
    ∀ j i, ((l.foldl (fun acc o => acc.push (o.after.foldl (fun s e => if Region.binds .any e then s ||| 2 ^ e.on ||| acc.getD e.on 0 else s) 0)) acc).getD j 0).testBit i = true → Reach ops i j
  | [], acc, _, ha, j, i, h => ha j i h
  | o :: l, acc, hl, ha, j, i, h => by
    simp only [List.foldl_cons] at h
    refine before_reach ops l _ (fun k o' hk => ?_) (fun j' i' hb => ?_) j i h
    · have := hl (k + 1) o' (by simpa using hk)
      rw [Array.size_push, show acc.size + 1 + k = acc.size + (k + 1) by omega]
      exact this
    · by_cases hj : j' < acc.size
      · refine ha j' i' ?_
        rw [Array.getD_eq_getD_getElem?, Array.getElem?_push, if_neg (by omega)] at hb
        rw [Array.getD_eq_getD_getElem?]
        exact hb
      · by_cases hj2 : j' = acc.size
        · subst hj2
          rw [Array.getD_eq_getD_getElem?, Array.getElem?_push, if_pos rfl, Option.getD_some] at hb
          rw [← Array.foldl_toList] at hb
          have ho : ops[acc.size]? = some o := by simpa using hl 0 o rfl
          rcases testBit_fold acc i' _ 0 hb with hb | ⟨e, he, hbb, hb⟩
          · simp at hb
          · rcases hb with hb | hb
            · rw [← hb]
              exact .direct ho (by simpa using he) hbb
            · exact .step ho (by simpa using he) hbb (ha _ _ hb)
        · rw [Array.getD_eq_getD_getElem?, Array.getElem?_push, if_neg hj2, Array.getElem?_eq_none (by omega)] at hb
          simp at hb

theorem ord_reach {ops : Array Oper} {i j : Nat} (h : ord ops i j = true) : Reach ops i j := by
  unfold ord Region.before at h
  rw [← Array.foldl_toList] at h
  refine before_reach ops ops.toList #[] (fun k o hk => by simpa using hk) (fun j i h => by simp at h) j i ?_
  exact h

/-- What is done has all done that must stand ahead of it. -/
def Closed (ops : Array Oper) (L : Nat → Bool) : Prop := ∀ j o, ops[j]? = some o → L j = true → ∀ e ∈ o.after, Region.binds .any e = true → L e.on = true

theorem Closed.reach {ops : Array Oper} {L : Nat → Bool} (hc : Closed ops L) {i j : Nat} (h : Reach ops i j) : (∀ o, ops[j]? = some o → ∀ e ∈ o.after, Region.binds .any e = true → L e.on = true) → L i = true := by
  induction h with
  | direct ho he hb => exact fun hj => hj _ ho _ he hb
  | step ho he hb _ ih => exact fun hj => ih (fun o' ho' e' he' hb' => hc _ o' ho' (hj _ ho _ he hb) e' he' hb')

/-- How many are done. -/
def cnt (L : Nat → Bool) : Nat → Nat
  | 0 => 0
  | k + 1 => cnt L k + if L k then 1 else 0

theorem cnt_le (L : Nat → Bool) : ∀ n, cnt L n ≤ n
  | 0 => Nat.le_refl _
  | n + 1 => by have := cnt_le L n; simp only [cnt]; split <;> omega

theorem cnt_all {L : Nat → Bool} : ∀ n, n ≤ cnt L n → ∀ k, k < n → L k = true
  | 0, _, k, hk => absurd hk (Nat.not_lt_zero _)
  | n + 1, h, k, hk => by
    have := cnt_le L n
    simp only [cnt] at h
    by_cases hn : L n = true
    · rw [if_pos hn] at h
      by_cases e : k = n
      · rw [e]; exact hn
      · exact cnt_all n (by omega) k (by omega)
    · rw [if_neg hn] at h
      omega

theorem cnt_congr {L L' : Nat → Bool} : ∀ n, (∀ k, k < n → L k = L' k) → cnt L n = cnt L' n
  | 0, _ => rfl
  | n + 1, h => by
    simp only [cnt]
    rw [cnt_congr n (fun k hk => h k (Nat.lt_succ_of_lt hk)), h n (Nat.lt_succ_self n)]

theorem cnt_add {L : Nat → Bool} {i : Nat} (hL : L i = false) : ∀ n, i < n → cnt (addL L i) n = cnt L n + 1
  | 0, h => absurd h (Nat.not_lt_zero _)
  | n + 1, h => by
    simp only [cnt]
    by_cases e : i = n
    · subst e
      rw [cnt_congr (L := addL L i) (L' := L) i (fun k hk => by simp [addL, show k ≠ i by omega])]
      simp [addL, hL]
    · rw [cnt_add hL n (by omega)]
      have : addL L i n = L n := by simp [addL, show n ≠ i by omega]
      rw [this]
      omega

section
variable {P : Program} {C : Cfg} {E : Task → Option Out} {ops : Array Oper} {n : Nat} {S : Nat → St} {T : Nat → List V} {en : Nat → Ent} {op : Nat → Oper}
variable {ρ₀ : Ren} {F₀ : Nat → Prop} {w₀ : World}

theorem inv_init {R W : List Nat} (hwf : (S 0).WF) (hp : Pre ρ₀ F₀ w₀ (S 0) R W (S n).next) (hR : ∀ i, inR n en i → i ∈ R) (hW : ∀ i, inW n en i → i ∈ W) {a : Act} (ht : VList ρ₀ F₀ w₀ (T 0) a.tmps.toList) (hd : a.defers = []) {w₁ : World} (hh : w₁.heap = w₀.heap) (hout : Outs w₀ w₁)
    {L : Nat → Bool} (hL : ∀ k, L k = false) : Inv n S T en op ρ₀ F₀ w₀ L ρ₀ F₀ a w₁ := by
  have hsz : a.tmps.size = (T 0).length := by have := ht.length; simpa using this
  have hO : ∀ i, curO n S en L i = (S 0).get i := fun i => by unfold curO; exact cur_none hL n
  have hext : Ext F₀ w₀ F₀ w₁ := ext_same hh hout
  refine ⟨hsz, fun t htt => ?_, hd, rle_refl _, fun i h => absurd rfl h, fun _ h => h, fun _ h => .inl h, fun B hB => by rw [hh]; exact hp.fok B hB, by rw [hh]; exact Nat.le_refl _, shp_same hh hout, fun B _ _ => by rw [hh], fun i so hA hg => ?_, fun i j hi hj gi gj hne => ?_⟩
  · have : curT n T op L t = (T 0).getD t undefV := by unfold curT; exact cur_none hL n
    rw [this]
    have hlt : t < (T 0).length := by omega
    obtain ⟨v, hv, hr⟩ := ht.get t ((T 0).getD t undefV) (by simp [List.getD_eq_getElem?_getD, hlt])
    have : a.tmps.getD t undef = v := by
      have : a.tmps[t]? = some v := by simpa using hv
      simp [this]
    rw [this]
    exact VRel.mono hext (rle_refl _) _ _ hr
  · rw [hO] at hg
    have hlt := get_lt hwf hg
    have hm : i ∈ R ∨ i ∈ W := by
      rcases hA with h | h | h
      · exact .inl (hR i h)
      · exact .inr (hW i h)
      · omega
    obtain ⟨so', hg', ho⟩ := hp.obj i hlt hm
    rw [hg] at hg'
    cases hg'
    refine ⟨ho.keep hext (rle_refl _) (fun B hB => ⟨by rw [hh], fun hF => ?_⟩), fun hw B hB => ?_⟩
    · obtain ⟨B', o, c, e, hρ, hnF, -⟩ := ho
      rw [blk_of hρ] at hB
      simp only [Option.some.injEq] at hB
      exact hnF (hB ▸ hF)
    · rcases hw with hw | hw
      · exact .inr ⟨i, hlt, hw, hB⟩
      · omega
  · rw [hO] at gi gj
    cases hgi : (S 0).get i with
    | none => rw [hgi] at gi; cases gi
    | some so =>
      cases hgj : (S 0).get j with
      | none => rw [hgj] at gj; cases gj
      | some so' =>
        have hi' := get_lt hwf hgi
        have hj' := get_lt hwf hgj
        refine hp.inj i j hi' hj' ?_ ?_ hne
        · rcases hi with h | h
          · exact hW i h
          · omega
        · rcases hj with h | h | h
          · exact .inl (hR j h)
          · exact .inr (hW j h)
          · omega

theorem inv_last (h : Trace P C E ops n S T en op) (hf : ∀ k, k < n → (S k).WF ∧ Fine (S k) (S (k + 1)) (en k).W ∧ Live (S k) (en k).R (en k).W ∧ ∀ i ∈ (en k).W, i < (S k).next) {W : List Nat} (hW : ∀ i, inW n en i ↔ i ∈ W)
    {L : Nat → Bool} (hL : ∀ k, k < n → L k = true) {ρ : Ren} {F : Nat → Prop} {a : Act} {w : World} (hI : Inv n S T en op ρ₀ F₀ w₀ L ρ F a w) :
    Post ρ₀ F₀ w₀ (S 0) ρ F w (S n) W ∧ VList ρ F w (T n) a.tmps.toList ∧ a.defers = [] := by
  have hcl : ∀ B, claim ρ₀ w₀ S n en B ↔ (w₀.heap.size ≤ B ∨ ∃ i, i < (S 0).next ∧ i ∈ W ∧ blk ρ₀ i = some B) := fun B => by
    unfold claim
    constructor
    · exact fun h => h.imp id fun ⟨j, h1, h2, h3⟩ => ⟨j, h1, (hW j).1 h2, h3⟩
    · exact fun h => h.imp id fun ⟨j, h1, h2, h3⟩ => ⟨j, h1, (hW j).2 h2, h3⟩
  have hle : ∀ {i k : Nat}, i ≤ k → k ≤ n → (S i).next ≤ (S k).next := fun h1 h2 => Trace.next_le (fun k hk => ⟨(hf k hk).1, (hf k hk).2.1, (hf k hk).2.2⟩) _ h1 h2
  refine ⟨⟨hI.rle, fun i hi => ?_, hI.fle, fun B hB => (hI.fnew B hB).imp id (hcl B).1, hI.fok, hI.hsize, hI.shp, fun B hB hn => hI.heap B hB (fun hc => ?_), fun i so hi hg => ?_, fun i j hi hj gi gj hne => ?_⟩, ?_, hI.defers⟩
  · obtain ⟨k, hk, -, h1, h2⟩ := hI.rnew i hi
    exact ⟨Nat.le_trans (hle (Nat.zero_le k) (by omega)) h1, Nat.lt_of_lt_of_le h2 (hle (i := k + 1) (by omega) (Nat.le_refl n))⟩
  · rcases (hcl B).1 hc with h | ⟨i, h1, h2, h3⟩
    · omega
    · exact hn i h1 h2 h3
  · have hA : inW n en i ∨ (S 0).next ≤ i := hi.imp (fun h => (hW i).2 h.2) id
    obtain ⟨ho, hc⟩ := hI.obj i so (.inr hA) (by rw [curO_last hf hL]; exact hg)
    exact ⟨ho, fun B hB => (hcl B).1 (hc hA B hB)⟩
  · exact hI.inj i j (hi.imp (fun h => (hW i).2 h.2) id) (.inr (hj.imp (fun h => (hW j).2 h.2) id)) (by rw [curO_last hf hL]; exact gi) (by rw [curO_last hf hL]; exact gj) hne
  · refine VList.intro (by rw [h.len n (Nat.le_refl n), ← hI.size]; simp) fun t x hx => ?_
    have hlt : t < (T n).length := (List.getElem?_eq_some_iff.1 hx).1
    have hlt' : t < a.tmps.size := by rw [hI.size, ← h.len n (Nat.le_refl n)]; exact hlt
    have := hI.tm t hlt'
    rw [curT_last h (by rw [← hI.size]; exact hlt') hL] at this
    have e1 : (T n).getD t undefV = x := by simp [List.getD_eq_getElem?_getD, hx]
    rw [e1] at this
    exact ⟨_, by simp [hlt'], this⟩

theorem statFrom_get {ops : Array Oper} {o : Oper} {i : Nat} : ∀ {l : List Oper} {j : Nat}, statFrom ops o i l j = true → ∀ k o', l[k]? = some o' → ord ops i (j + k) = true ∨ o.apart ops o' = true
  | [], j, _, k, o', hk => by simp at hk
  | x :: l, j, h, k, o', hk => by
    simp only [statFrom, Bool.and_eq_true, Bool.or_eq_true] at h
    cases k with
    | zero => simp at hk; subst hk; exact h.1
    | succ k =>
      rw [show j + (k + 1) = j + 1 + k by omega]
      exact statFrom_get h.2 k o' (by simpa using hk)

theorem statOk_get {ops : Array Oper} : ∀ {l : List Oper} {i : Nat}, statOk ops l i = true → (∀ j k o o', l[j]? = some o → l[k]? = some o' → j < k → ord ops (i + j) (i + k) = true ∨ o.apart ops o' = true) ∧ ∀ j o, l[j]? = some o → ∀ e ∈ o.after, Region.binds .any e = true → e.on < i + j
  | [], i, _ => ⟨fun j k o o' hj => by simp at hj, fun j o hj => by simp at hj⟩
  | x :: l, i, h => by
    simp only [statOk, Bool.and_eq_true] at h
    obtain ⟨⟨h0, h1⟩, h2⟩ := h
    obtain ⟨g1, g2⟩ := statOk_get h2
    constructor
    · intro j k o o' hj hk hjk
      cases k with
      | zero => omega
      | succ k =>
        cases j with
        | zero =>
          simp at hj
          subst hj
          have := statFrom_get h1 k o' (by simpa using hk)
          rw [show i + (k + 1) = i + 1 + k by omega]
          exact this
        | succ j =>
          have := g1 j k o o' (by simpa using hj) (by simpa using hk) (by omega)
          rw [show i + (k + 1) = i + 1 + k by omega, show i + (j + 1) = i + 1 + j by omega]
          exact this
    · intro j o hj e he hb
      cases j with
      | zero =>
        simp at hj
        subst hj
        have := List.all_eq_true.1 h0 e (by simpa using he)
        simp only [hb, Bool.not_true, Bool.false_or, decide_eq_true_eq] at this
        simpa using this
      | succ j =>
        have := g2 j o (by simpa using hj) e he hb
        omega

theorem dynFrom_get {ops : Array Oper} {e : Ent} {i : Nat} : ∀ {l : List Ent} {j : Nat}, dynFrom ops e i l j = true → ∀ k e', l[k]? = some e' → ord ops i (j + k) = true ∨ e.clash e' = false
  | [], j, _, k, o', hk => by simp at hk
  | x :: l, j, h, k, e', hk => by
    simp only [dynFrom, Bool.and_eq_true, Bool.or_eq_true, Bool.not_eq_true'] at h
    cases k with
    | zero =>
      simp at hk
      subst hk
      rcases h.1 with (⟨h1, h2⟩ | h1) | h1
      · right
        simp only [Ent.wr, Bool.or_eq_false_iff, Bool.not_eq_false', List.isEmpty_iff, decide_eq_false_iff_not, ne_eq, Decidable.not_not] at h1 h2
        unfold Ent.clash
        rw [h1.1, h2.1]
        simp only [List.any_nil, Bool.false_or, List.append_nil, List.any_eq_false, Bool.and_eq_true, decide_eq_true_eq]
        intro x _ hx
        omega
      · exact .inl h1
      · exact .inr h1
    | succ k =>
      rw [show j + (k + 1) = j + 1 + k by omega]
      exact dynFrom_get h.2 k e' (by simpa using hk)

theorem dynOk_get {ops : Array Oper} : ∀ {l : List Ent} {i : Nat}, dynOk ops l i = true → ∀ j k e e', l[j]? = some e → l[k]? = some e' → j < k → ord ops (i + j) (i + k) = true ∨ e.clash e' = false
  | [], i, _, j, k, o, o', hj, _, _ => by simp at hj
  | x :: l, i, h, j, k, e, e', hj, hk, hjk => by
    simp only [dynOk, Bool.and_eq_true] at h
    cases k with
    | zero => omega
    | succ k =>
      cases j with
      | zero =>
        simp at hj
        subst hj
        have := dynFrom_get h.1 k e' (by simpa using hk)
        rw [show i + (k + 1) = i + 1 + k by omega]
        exact this
      | succ j =>
        have := dynOk_get h.2 j k e e' (by simpa using hj) (by simpa using hk) (by omega)
        rw [show i + (k + 1) = i + 1 + k by omega, show i + (j + 1) = i + 1 + j by omega]
        exact this

theorem region_sound (hE : CallSound P E) (hO : OrcSound P C) (hmix : P.follows .mixedOrders = true) {id : Nat} {draw : Bool} {tm tm' : List V} {st st' : St} {log : List Ent}
    (h : vops P C E ops ops.toList tm st = some (tm', st', log)) (hstat : draw = true → statOk ops ops.toList 0 = true) (hcond : (!draw || dynOk ops log 0) = true) (hwf : st.WF) :
    Fine st st' (entW log) ∧ Live st (entR log) (entW log) ∧ ∀ ρ F w (a : Act) (Q : Exit → Act → World → Prop), Pre ρ F w st (entR log) (entW log) st'.next → VList ρ F w tm a.tmps.toList → a.defers = [] →
      (∀ a' w' ρ' F', Post ρ F w st ρ' F' w' st' (entW log) → VList ρ' F' w' tm' a'.tmps.toList → a'.defers = [] → Q .normal a' w') → (Code.region id ops draw).wp P Q a w := by
  obtain ⟨S, T, en, op, rfl, rfl, rfl, rfl, hlen, hall⟩ := vops_trace h
  have hn : ops.toList.length = ops.size := by simp
  rw [hn] at hall hlen h ⊢
  have htr : Trace P C E ops ops.size S T en op := ⟨fun k hk => by simpa using (hall k hk).1, fun k hk => (hall k hk).2.2.1, fun k hk => (hall k hk).2.2.2.1, fun k hk => (hall k hk).2.2.2.2.1, fun k hk => (hall k hk).2.2.2.2.2⟩
  have hf0 := Trace.fine htr hE hO hwf
  have hf : ∀ k, k < ops.size → (S k).WF ∧ Fine (S k) (S (k + 1)) (en k).W ∧ Live (S k) (en k).R (en k).W ∧ ∀ i ∈ (en k).W, i < (S k).next := hf0
  have mlog : ∀ e, e ∈ log ↔ ∃ k, k < ops.size ∧ en k = e := fun e => by
    rw [List.mem_iff_getElem?]
    constructor
    · rintro ⟨k, hk⟩
      have hlt : k < ops.size := by have := (List.getElem?_eq_some_iff.1 hk).1; omega
      exact ⟨k, hlt, by have := (hall k hlt).2.1; rw [hk] at this; simpa using this.symm⟩
    · rintro ⟨k, hk, rfl⟩
      exact ⟨k, (hall k hk).2.1⟩
  have hR : ∀ i, inR ops.size en i ↔ i ∈ entR log := fun i => by
    unfold inR entR
    simp only [List.mem_flatMap, mlog]
    constructor
    · rintro ⟨k, hk, hi⟩; exact ⟨_, ⟨k, hk, rfl⟩, hi⟩
    · rintro ⟨e, ⟨k, hk, rfl⟩, hi⟩; exact ⟨k, hk, hi⟩
  have hW : ∀ i, inW ops.size en i ↔ i ∈ entW log := fun i => by
    unfold inW entW
    simp only [List.mem_flatMap, mlog]
    constructor
    · rintro ⟨k, hk, hi⟩; exact ⟨_, ⟨k, hk, rfl⟩, hi⟩
    · rintro ⟨e, ⟨k, hk, rfl⟩, hi⟩; exact ⟨k, hk, hi⟩
  have hwfn : ∀ k, k ≤ ops.size → (S k).WF := fun k hk => by
    cases k with
    | zero => exact hwf
    | succ k => exact (hf k (by omega)).2.1.wf
  have hle : ∀ {i k : Nat}, i ≤ k → k ≤ ops.size → (S i).next ≤ (S k).next := fun h1 h2 => Trace.next_le hf _ h1 h2
  have hsame : ∀ i, i < (S 0).next → ¬ inW ops.size en i → ∀ k, k ≤ ops.size → (S k).get i = (S 0).get i := by
    intro i hi hn k
    induction k with
    | zero => intro _; rfl
    | succ k ih =>
      intro hk
      rw [(hf k (by omega)).2.1.same i (Nat.lt_of_lt_of_le hi (hle (Nat.zero_le k) (by omega))) (fun hm => hn ⟨k, by omega, hm⟩), ih (by omega)]
  have hlive : Live (S 0) (entR log) (entW log) := by
    intro i hi hlt
    -- the first operation that touches it
    have key : ∀ k, k < ops.size → (i ∈ (en k).R ∨ i ∈ (en k).W) → ∃ so, (S 0).get i = some so := by
      intro k
      induction k using Nat.strongRecOn with
      | _ k ih =>
        intro hk hm
        obtain ⟨so, hso⟩ := (hf k hk).2.2.1 i hm (Nat.lt_of_lt_of_le hlt (hle (Nat.zero_le k) (by omega)))
        by_cases hex : ∃ k', k' < k ∧ i ∈ (en k').W
        · obtain ⟨k', hk', hm'⟩ := hex
          exact ih k' hk' (by omega) (.inr hm')
        · have : ∀ m, m ≤ k → (S m).get i = (S 0).get i := by
            intro m
            induction m with
            | zero => intro _; rfl
            | succ m ihm =>
              intro hmk
              rw [(hf m (by omega)).2.1.same i (Nat.lt_of_lt_of_le hlt (hle (Nat.zero_le m) (by omega))) (fun hx => hex ⟨m, by omega, hx⟩), ihm (by omega)]
          rw [this k (Nat.le_refl k)] at hso
          exact ⟨so, hso⟩
    rcases hi with hi | hi
    · obtain ⟨k, hk, hm⟩ := (hR i).2 hi
      exact key k hk (.inl hm)
    · obtain ⟨k, hk, hm⟩ := (hW i).2 hi
      exact key k hk (.inr hm)
  refine ⟨⟨hle (Nat.zero_le _) (Nat.le_refl _), fun i hi hm => hsame i hi (fun h => hm ((hW i).1 h)) _ (Nat.le_refl _), hwfn _ (Nat.le_refl _)⟩, hlive, ?_⟩
  intro ρ F w a Q hp ht hd hQ
  have hp₀ : ∀ i, i < (S 0).next → inR ops.size en i ∨ inW ops.size en i → ∃ so, (S 0).get i = some so ∧ ObjRel ρ F w i so := fun i hi hm => hp.obj i hi (hm.imp (hR i).1 (hW i).1)
  have hfr : ∀ i, (S 0).next ≤ i → i < (S ops.size).next → ρ i = none := hp.fresh
  have hfin : ∀ (L : Nat → Bool), (∀ k, k < ops.size → L k = true) → ∀ ρ' F' a' w', Inv ops.size S T en op ρ F w L ρ' F' a' w' → Q .normal a' w' := by
    intro L hL ρ' F' a' w' hI
    obtain ⟨h1, h2, h3⟩ := inv_last htr hf hW hL hI
    exact hQ a' w' ρ' F' h1 h2 h3
  cases draw with
  | false =>
    refine wp_region ?_
    have gen : ∀ (m k : Nat), k + m = ops.size → ∀ ρ' F' a' w', Inv ops.size S T en op ρ F w (fun j => decide (j < k)) ρ' F' a' w' → wpOps P ops Q (List.range' k m) a' w' := by
      intro m
      induction m with
      | zero =>
        intro k hk ρ' F' a' w' hI
        simp only [List.range'_zero, wpOps]
        exact hfin _ (fun j hj => by simp; omega) ρ' F' a' w' hI
      | succ m ih =>
        intro k hk ρ' F' a' w' hI
        rw [List.range'_succ, wpOps_cons]
        refine inv_step htr hE hO hf hp₀ hfr (i := k) (by omega) (by simp) ⟨fun j hj hjk hL => ?_, fun j hj hkj hL => ?_⟩ hI fun ρ'' F'' a'' w'' hI' => ?_
        · simp only [decide_eq_false_iff_not] at hL; omega
        · simp only [decide_eq_true_eq] at hL; omega
        · refine ih (k + 1) (by omega) ρ'' F'' a'' w'' ?_
          have e : addL (fun j => decide (j < k)) k = fun j => decide (j < k + 1) := by
            funext j
            simp only [addL]
            by_cases hjk : j = k
            · simp [hjk]
            · simp only [hjk, if_false]
              by_cases h1 : j < k
              · simp [h1, show j < k + 1 by omega]
              · simp [h1, show ¬ j < k + 1 by omega]
          rw [← e]
          exact hI'
    rw [List.range_eq_range']
    exact gen ops.size 0 (by omega) ρ F a w (inv_init hwf hp (fun i h => (hR i).1 h) (fun i h => (hW i).1 h) ht hd rfl (Outs.refl w) (fun k => by simp))
  | true =>
    simp only [Bool.not_true, Bool.false_or] at hcond
    obtain ⟨hs1, hs2⟩ := statOk_get (hstat rfl)
    have hd1 := dynOk_get hcond
    simp only [Nat.zero_add] at hs1 hs2 hd1
    refine wp_region_any hmix ?_
    have gen : ∀ (f : Nat) (listed : Array Bool) ρ' F' a' w', listed.size = ops.size → Closed ops (fun k => listed.getD k false) → ops.size ≤ cnt (fun k => listed.getD k false) ops.size + f →
        Inv ops.size S T en op ρ F w (fun k => listed.getD k false) ρ' F' a' w' → wpAny P .any ops Q f listed a' w' := by
      intro f
      induction f with
      | zero =>
        intro listed ρ' F' a' w' hsz hcl hc hI
        have hL := cnt_all (L := fun k => listed.getD k false) ops.size (by simpa using hc)
        refine ⟨?_, hfin _ hL ρ' F' a' w' hI⟩
        rw [List.eq_nil_iff_forall_not_mem]
        intro j hj
        obtain ⟨h1, o, ho, -⟩ := mem_ready.1 hj
        have hlt : j < ops.size := (Array.getElem?_eq_some_iff.1 ho).1
        have := hL j hlt
        simp only [Array.getD_eq_getD_getElem?] at h1 this
        rw [Array.getElem?_eq_getElem (by omega)] at h1 this
        simp at h1 this
        rw [h1] at this
        cases this
      | succ f ih =>
        intro listed ρ' F' a' w' hsz hcl hc hI
        refine ⟨fun hnil => ?_, fun i hi => ?_⟩
        · refine hfin _ (fun k => ?_) ρ' F' a' w' hI
          induction k using Nat.strongRecOn with
          | _ k ihk =>
            intro hk
            cases hl : listed.getD k false with
            | true => rfl
            | false =>
              exfalso
              have hmem : k ∈ Region.ready .any ops listed := by
                rw [mem_ready]
                refine ⟨?_, op k, htr.opk k hk, fun e he hb => ?_⟩
                · simp only [Array.getD_eq_getD_getElem?] at hl ⊢
                  rw [Array.getElem?_eq_getElem (by omega)] at hl ⊢
                  simpa using hl
                · have hon := hs2 k (op k) (by simpa using htr.opk k hk) e he hb
                  exact ihk e.on hon (by omega)
              rw [hnil] at hmem
              cases hmem
        · obtain ⟨h1, o, ho, hpre⟩ := mem_ready.1 hi
          have hilt : i < ops.size := (Array.getElem?_eq_some_iff.1 ho).1
          have hLi : listed.getD i false = false := by
            simp only [Array.getD_eq_getD_getElem?] at h1 ⊢
            rw [Array.getElem?_eq_getElem (by omega)] at h1 ⊢
            simpa using h1
          have hready : ∀ o', ops[i]? = some o' → ∀ e ∈ o'.after, Region.binds .any e = true → listed.getD e.on false = true := fun o' ho' e he hb => by
            rw [ho] at ho'
            cases ho'
            exact hpre e he hb
          have hcpt : Cpt ops ops.size en op (fun k => listed.getD k false) i := by
            constructor
            · intro k hk hki hLk
              have hno : ord ops k i ≠ true := fun hord => by
                have : listed.getD k false = true := hcl.reach (ord_reach hord) hready
                have hLk' : listed.getD k false = false := hLk
                rw [hLk'] at this
                cases this
              exact ⟨(hd1 k i (en k) (en i) (hall k hk).2.1 (hall i hilt).2.1 hki).resolve_left hno, (hs1 k i (op k) (op i) (by simpa using htr.opk k hk) (by simpa using htr.opk i hilt) hki).resolve_left hno⟩
            · intro k hk hik hLk
              have hno : ord ops i k ≠ true := fun hord => by
                have : listed.getD i false = true := hcl.reach (ord_reach hord) (fun o' ho' e he hb => hcl k o' ho' hLk e he hb)
                rw [hLi] at this
                cases this
              exact ⟨(hd1 i k (en i) (en k) (hall i hilt).2.1 (hall k hk).2.1 hik).resolve_left hno, (hs1 i k (op i) (op k) (by simpa using htr.opk i hilt) (by simpa using htr.opk k hk) hik).resolve_left hno⟩
          refine inv_step htr hE hO hf hp₀ hfr hilt hLi hcpt hI fun ρ'' F'' a'' w'' hI' => ?_
          have e : (fun k => (listed.setIfInBounds i true).getD k false) = addL (fun k => listed.getD k false) i := by
            funext k
            simp only [addL]
            by_cases hki : k = i
            · subst hki
              rw [if_pos rfl]
              simp [show k < listed.size by omega]
            · rw [if_neg hki]
              exact getD_set_ne false (Ne.symm hki)
          refine ih _ ρ'' F'' a'' w'' (by simp [hsz]) ?_ ?_ (by rw [e]; exact hI')
          · rw [e]
            intro j o' ho' hj e' he' hb'
            simp only [addL] at hj ⊢
            split
            · rfl
            · split at hj
              · rename_i hji
                subst hji
                exact hready o' ho' e' he' hb'
              · exact hcl j o' ho' hj e' he' hb'
          · rw [e, cnt_add hLi ops.size hilt]
            omega
    have hL0 : ∀ k, (Array.replicate ops.size false).getD k false = false := fun k => by
      simp only [Array.getD_eq_getD_getElem?, Array.getElem?_replicate]
      split <;> rfl
    refine gen ops.size _ ρ F a _ (by simp) (fun j o ho hj => by have hj' : (Array.replicate ops.size false).getD j false = true := hj; rw [hL0] at hj'; cases hj') (by omega) (inv_init (w₁ := { w with drawn := w.drawn + 1 }) hwf hp (fun i h => (hR i).1 h) (fun i h => (hW i).1 h) ht hd rfl ⟨rfl, rfl, rfl⟩ hL0)

end

end Go.Proofs.Ytnolgpagdjcjbaa.Ve
/-! Code, calls, loops: the evaluator is sound. -/
set_option linter.unusedVariables false
set_option linter.unusedSimpArgs false
namespace Go.Proofs.Ytnolgpagdjcjbaa.Ve
open Go

section
variable {P : Program} {C : Cfg} {E : Task → Option Out}

/-- What the evaluator says of a piece of code. -/
def CodeSays (P : Program) (c : Code) (tm : List V) (st : St) (o : Out) : Prop :=
  Fine st o.st o.W ∧ Live st o.R o.W ∧ ∀ ρ F w (a : Act) (Q : Exit → Act → World → Prop), Pre ρ F w st o.R o.W o.st.next → VList ρ F w tm a.tmps.toList → a.defers = [] →
    (∀ a' w' ρ' F', Post ρ F w st ρ' F' w' o.st o.W → VList ρ' F' w' o.tm a'.tmps.toList → a'.defers = [] → Q (exOf o.ex) a' w') → c.wp P Q a w

theorem says_here {c : Code} {tm : List V} {st : St} {ex : Ex} (hwf : st.WF) (h : ∀ (a : Act) (w : World) (Q : Exit → Act → World → Prop), Q (exOf ex) a w → c.wp P Q a w) : CodeSays P c tm st ⟨ex, tm, st, [], []⟩ :=
  ⟨fine_same hwf, Live.nil st, fun ρ F w a Q hp ht hd hQ => h a w Q (hQ a w ρ F (post_same hp hwf rfl (Outs.refl w)) ht hd)⟩

theorem vcode_sound (hE : CallSound P E) (hL : LoopSound P E) (hO : OrcSound P C) (hmix : P.follows .mixedOrders = true) : ∀ (c : Code) (tm : List V) (st : St) (o : Out), vcode P C E c tm st = some o → codeStat c = true → st.WF → CodeSays P c tm st o := by
  intro c
  induction c with
  | skip =>
    intro tm st o h hst hwf
    simp only [vcode, Option.some.injEq] at h
    subst h
    exact says_here hwf fun a w Q hQ => wp_skip hQ
  | label l =>
    intro tm st o h hst hwf
    simp only [vcode, Option.some.injEq] at h
    subst h
    exact says_here hwf fun a w Q hQ => wp_label hQ
  | exit id =>
    intro tm st o h hst hwf
    simp only [vcode, Option.some.injEq] at h
    subst h
    exact says_here hwf fun a w Q hQ => wp_exit hQ
  | ret =>
    intro tm st o h hst hwf
    simp only [vcode, Option.some.injEq] at h
    subst h
    exact says_here hwf fun a w Q hQ => wp_ret hQ
  | region id ops draw =>
    intro tm st o h hst hwf
    simp only [vcode] at h
    split at h
    · rename_i tm' st' l hv
      split at h
      · rename_i hc
        simp only [Option.some.injEq] at h
        subst h
        exact region_sound hE hO hmix hv (fun e => by subst e; exact hst) hc hwf
      · simp at h
    · simp at h
  | seq x y ihx ihy =>
    intro tm st o h hst hwf
    simp only [codeStat, Bool.and_eq_true] at hst
    simp only [vcode] at h
    split at h
    · rename_i o1 h1
      obtain ⟨f1, l1, s1⟩ := ihx tm st o1 h1 hst.1 hwf
      split at h
      · rename_i hex
        split at h
        · rename_i o2 h2
          simp only [Option.some.injEq] at h
          subst h
          obtain ⟨f2, l2, s2⟩ := ihy o1.tm o1.st o2 h2 hst.2 f1.wf
          refine ⟨f1.trans f2, Live.trans f1 l1 l2, fun ρ F w a Q hp ht hd hQ => wp_seq ?_⟩
          have hp1 : Pre ρ F w st o1.R o1.W o1.st.next := hp.mono (fun i _ h => .inl (by simp [h])) (fun i _ h => by simp [h]) f2.next
          refine s1 ρ F w a _ hp1 ht hd fun a' w' ρ' F' hpost ht' hd' => ?_
          rw [hex]
          show y.wp P Q a' w'
          have hp2 : Pre ρ' F' w' o1.st o2.R o2.W o2.st.next := Pre.next (R₁ := o1.R) hp hpost f1 l2 (fun i _ h => by simp [h]) (fun i _ h => .inl (by simp [h])) (fun i _ h => by simp [h]) l1
          refine s2 ρ' F' w' a' Q hp2 ht' hd' fun a'' w'' ρ'' F'' hpost2 ht'' hd'' => ?_
          exact hQ a'' w'' ρ'' F'' (Post.trans hp hpost f1 hp2 hpost2 f2 (fun i _ h => by simp [h]) (fun i _ h => by simp [h])) ht'' hd''
        · simp at h
      · rename_i hex
        simp only [Option.some.injEq] at h
        subst h
        refine ⟨f1, l1, fun ρ F w a Q hp ht hd hQ => wp_seq (s1 ρ F w a _ hp ht hd fun a' w' ρ' F' hpost ht' hd' => ?_)⟩
        have := hQ a' w' ρ' F' hpost ht' hd'
        cases hx : o1.ex with
        | norm => exact absurd hx hex
        | exit id => rw [hx] at this; exact this
        | ret => rw [hx] at this; exact this
    · simp at h
  | cond c x y ihx ihy =>
    intro tm st o h hst hwf
    simp only [vcode] at h
    split at h
    · rename_i t hc
      have hev : ∀ ρ F w (a : Act), VList ρ F w tm a.tmps.toList → a.eval c = .bool t := by
        intro ρ F w a ht
        cases c with
        | tmp k =>
          simp only [envOf, Option.some.injEq] at hc
          have hlen := ht.length
          by_cases hk : k < tm.length
          · obtain ⟨v, hv, hr⟩ := ht.get k (tm.getD k undefV) (by simp [List.getD_eq_getElem?_getD, hk])
            rw [hc] at hr
            simp only [VRel, PRel] at hr
            have : a.tmps[k]? = some v := by simpa using hv
            simp [Act.eval, this, hr]
          · have : tm.getD k undefV = undefV := by simp [List.getD_eq_getElem?_getD, List.getElem?_eq_none (Nat.le_of_not_lt hk)]
            rw [this] at hc
            simp [undefV, undef] at hc
        | const v =>
          simp only [envOf, Option.some.injEq] at hc
          have hr := rel_ofValue (ρ := ρ) (F := F) (w := w) v
          rw [hc] at hr
          simp only [VRel, PRel] at hr
          exact hr
        | global g => simp [envOf] at hc
        | func f => simp [envOf] at hc
      split at h
      · simp only [codeStat, Bool.and_eq_true] at hst
        obtain ⟨f1, l1, s1⟩ := ihx tm st o h hst.1 hwf
        exact ⟨f1, l1, fun ρ F w a Q hp ht hd hQ => wp_cond_true (hev ρ F w a ht) (s1 ρ F w a Q hp ht hd hQ)⟩
      · simp only [codeStat, Bool.and_eq_true] at hst
        obtain ⟨f1, l1, s1⟩ := ihy tm st o h hst.2 hwf
        exact ⟨f1, l1, fun ρ F w a Q hp ht hd hQ => wp_cond_false (hev ρ F w a ht) (s1 ρ F w a Q hp ht hd hQ)⟩
    · simp at h
  | block id c ih =>
    intro tm st o h hst hwf
    simp only [vcode] at h
    split at h
    · rename_i o1 h1
      simp only [Option.some.injEq] at h
      subst h
      obtain ⟨f1, l1, s1⟩ := ih tm st o1 h1 hst hwf
      refine ⟨f1, l1, fun ρ F w a Q hp ht hd hQ => wp_block (s1 ρ F w a _ hp ht hd fun a' w' ρ' F' hpost ht' hd' => ?_)⟩
      have := hQ a' w' ρ' F' hpost ht' hd'
      cases hx : o1.ex with
      | norm => simp only [hx] at this; exact this
      | exit id' =>
        simp only [hx, Ex.exit.injEq] at this
        show (if id' = id then Q .normal a' w' else Q (.exit id') a' w')
        by_cases e : id' = id
        · rw [if_pos e] at this ⊢; exact this
        · rw [if_neg e] at this ⊢; exact this
      | ret => simp only [hx] at this; exact this
    · simp at h
  | scope c ih =>
    intro tm st o h hst hwf
    simp only [vcode] at h
    obtain ⟨f1, l1, s1⟩ := ih tm st o h hst hwf
    refine ⟨f1, l1, fun ρ F w a Q hp ht hd hQ => wp_scope_straight (s1 ρ F w a _ hp ht hd fun a' w' ρ' F' hpost ht' hd' => ?_)⟩
    have := hQ a' w' ρ' F' hpost ht' hd'
    cases hx : o.ex <;> (rw [hx] at this; exact this)
  | loop c ih =>
    intro tm st o h hst hwf
    simp only [vcode] at h
    exact hL c tm st o h hst hwf
  | rangeFunc f ps as body _ _ => intro tm st o h; simp [vcode] at h
  | goto l => intro tm st o h; simp [vcode] at h
  | refuse w => intro tm st o h; simp [vcode] at h

theorem resV_get {st : St} {tm : List V} : ∀ {rs : List ResultVar} {vs : List V} {R : List Nat}, resV P st tm rs = some (vs, R) → (∀ i ∈ R, ∃ so, st.get i = some so) ∧
    ∀ ρ F w (tmps : Array Value), VList ρ F w tm tmps.toList → (∀ i ∈ R, ∀ so, st.get i = some so → ObjRel ρ F w i so) →
      ∃ l : List Value, (rs.mapM fun
        | .tmp t => pure (tmps.getD t undef)
        | .cell a t => do loadVar t (← asAddr (tmps.getD a undef)) : Sem (List Value)).run P w = .ok l w ∧ VList ρ F w vs l
  | [], vs, R, h => by
    simp only [resV, Option.some.injEq, Prod.mk.injEq] at h
    obtain ⟨rfl, rfl⟩ := h
    exact ⟨by simp, fun ρ F w tmps _ _ => ⟨[], rfl, by simp [VList]⟩⟩
  | .tmp t :: rs, vs, R, h => by
    simp only [resV] at h
    split at h
    · rename_i us R1 hr
      simp only [Option.some.injEq, Prod.mk.injEq] at h
      obtain ⟨rfl, rfl⟩ := h
      obtain ⟨g1, g2⟩ := resV_get hr
      refine ⟨g1, fun ρ F w tmps ht ho => ?_⟩
      obtain ⟨l, hl, hv⟩ := g2 ρ F w tmps ht ho
      refine ⟨tmps.getD t undef :: l, ?_, ?_⟩
      · rw [List.mapM_cons]
        simp only [Sem.run_bind, Sem.run_pure, Result.andThen_ok, hl]
      · simp only [VList]
        refine ⟨_, l, rfl, ?_, hv⟩
        by_cases hk : t < tm.length
        · obtain ⟨v, hv, hr⟩ := ht.get t (tm.getD t undefV) (by simp [List.getD_eq_getElem?_getD, hk])
          have : tmps[t]? = some v := by simpa using hv
          simpa [this] using hr
        · have e1 : tm.getD t undefV = undefV := by simp [List.getD_eq_getElem?_getD, List.getElem?_eq_none (Nat.le_of_not_lt hk)]
          have hlen := ht.length
          have e2 : tmps.getD t undef = undef := by
            have : tmps[t]? = none := Array.getElem?_eq_none (by simp at hlen; rw [hlen]; exact Nat.le_of_not_lt hk)
            simp [this]
          rw [e1, e2]
          exact rel_undef
    · simp at h
  | .cell a t :: rs, vs, R, h => by
    simp only [resV] at h
    split at h
    · rename_i x R0 hl
      split at h
      · rename_i us R1 hr
        simp only [Option.some.injEq, Prod.mk.injEq] at h
        obtain ⟨rfl, rfl⟩ := h
        obtain ⟨g1, g2⟩ := resV_get hr
        refine ⟨fun i hi => ?_, fun ρ F w tmps ht ho => ?_⟩
        · rcases List.mem_append.1 hi with hi | hi
          · exact loadV_live hl i hi
          · exact g1 i hi
        · obtain ⟨l, hl2, hv⟩ := g2 ρ F w tmps ht (fun i hi => ho i (by simp [hi]))
          have hrel : VRel ρ F w (tm.getD a undefV) (tmps.getD a undef) := by
            by_cases hk : a < tm.length
            · obtain ⟨v, hv, hr⟩ := ht.get a (tm.getD a undefV) (by simp [List.getD_eq_getElem?_getD, hk])
              have : tmps[a]? = some v := by simpa using hv
              simpa [this] using hr
            · have e1 : tm.getD a undefV = undefV := by simp [List.getD_eq_getElem?_getD, List.getElem?_eq_none (Nat.le_of_not_lt hk)]
              have hlen := ht.length
              have e2 : tmps.getD a undef = undef := by
                have : tmps[a]? = none := Array.getElem?_eq_none (by simp at hlen; rw [hlen]; exact Nat.le_of_not_lt hk)
                simp [this]
              rw [e1, e2]
              exact rel_undef
          obtain ⟨b, y, hb, hy, hyr⟩ := load_obj hl hrel (fun i hi => ho i (by simp [hi]))
          refine ⟨y :: l, ?_, ?_⟩
          · have ha : (asAddr (tmps.getD a undef)).run P w = .ok b w := by rw [hb]; rfl
            rw [List.mapM_cons]
            simp only [Sem.run_bind, ha, Sem.run_pure, Result.andThen_ok, hy, hl2]
          · simp only [VList]
            exact ⟨y, l, rfl, hyr, hv⟩
      · simp at h
    · simp at h

def resOneC : List Value → Value
  | [v] => v
  | l => .tuple l.toArray

theorem results_run {fn : Func} {tmps : Array Value} {l : List Value} {w : World} (h : (fn.results.toList.mapM fun
        | .tmp t => pure (tmps.getD t undef)
        | .cell a t => do loadVar t (← asAddr (tmps.getD a undef)) : Sem (List Value)).run P w = .ok l w) :
    (results fn tmps).run P w = .ok (resOneC l) w := by
  unfold results
  rw [Sem.run_bind, Array.mapM_eq_mapM_toList, ← bind_pure_comp, Sem.run_bind]
  refine Eq.trans (congrArg (fun r => (Result.andThen (Result.andThen r fun a w' => Sem.run P (pure a.toArray) w') fun a w' => Sem.run P (pure (if h : a.size = 1 then a[0] else Value.tuple a)) w')) (show _ = Result.ok l w from h)) ?_
  simp only [Result.andThen_ok, Sem.run_pure]
  congr 1
  match l with
  | [v] => rfl
  | [] => rfl
  | _ :: _ :: _ => rfl

theorem frzRes_sound {st : St} {v v' : V} {ids : List Nat} (h : frzRes st v = some (v', ids)) : (∀ i ∈ ids, ∃ so, st.get i = some so) ∧
    ∀ ρ F w x, (∀ i ∈ ids, ∀ so, st.get i = some so → ObjRel ρ F w i so) → VRel ρ F w v x → VRel ρ (FB ρ F ids) w v' x := by
  unfold frzRes at h
  split at h
  · rename_i vs
    split at h
    · rename_i ps id1 hf
      simp only [Option.some.injEq, Prod.mk.injEq] at h
      obtain ⟨rfl, rfl⟩ := h
      refine ⟨frzAll_live hf, fun ρ F w x ho hx => ?_⟩
      simp only [VRel] at hx ⊢
      obtain ⟨l, hl, hv⟩ := hx
      exact ⟨l, hl, VList.of_PList (frzAll_sound ho hf (fun _ h => h) hv)⟩
    · simp at h
  · split at h
    · rename_i p id1 hf
      simp only [Option.some.injEq, Prod.mk.injEq] at h
      obtain ⟨rfl, rfl⟩ := h
      refine ⟨frz_live _ _ _ _ hf, fun ρ F w x ho hx => ?_⟩
      simp only [VRel]
      exact frz_sound ho _ _ _ _ _ hf (fun _ h => h) hx
    · simp at h

theorem replicate_undef {ρ : Ren} {F : Nat → Prop} {w : World} : ∀ k : Nat, VList ρ F w (List.replicate k undefV) (List.replicate k undef)
  | 0 => by simp [VList]
  | k + 1 => by simp only [List.replicate_succ, VList]; exact ⟨undef, _, rfl, rel_undef, replicate_undef k⟩

theorem progStat_at (h : progStat P = true) {f : FuncId} {fn : Func} {c : Code} (hf : P.funcs[f]? = some fn) (hb : fn.body = some c) : codeStat c = true := by
  unfold progStat at h
  have := List.all_eq_true.1 h fn (by simpa using Array.mem_of_getElem? hf)
  rw [hb] at this
  exact this

theorem call1_sound (hE : CallSound P E) (hL : LoopSound P E) (hO : OrcSound P C) (hmix : P.follows .mixedOrders = true) (hps : progStat P = true) {f : FuncId} {args : List V} {st : St} {o : Out} (h : call1 P C E f args st = some o) (hwf : st.WF) :
    Fine st o.st o.W ∧ (Live st o.R o.W ∧ ∀ i ∈ o.W, i < st.next) ∧
      ∀ ρ F w (vals : Array Value), Pre ρ F w st o.R o.W o.st.next → VList ρ F w args vals.toList →
        Calls P f vals w fun e w' => ∃ x v ρ' F', e = .returned x ∧ o.tm = [v] ∧ VRel ρ' F' w' v x ∧ Post ρ F w st ρ' F' w' o.st o.W := by
  unfold call1 at h
  split at h
  · rename_i fn hfn
    split at h
    · rename_i c hb
      split at h
      · rename_i o1 h1
        have hcode := vcode_sound hE hL hO hmix c _ st o1 h1 (progStat_at hps hfn hb) hwf
        obtain ⟨f1, l1, s1⟩ := hcode
        have memf : ∀ (X : List Nat) i, i ∈ X.filter (· < st.next) ↔ i ∈ X ∧ i < st.next := fun X i => by simp [List.mem_filter]
        -- the end
        have fin : ∀ (vs : List V) (R2 ids : List Nat) (v' : V) (st2 : St), (∀ i ∈ R2, ∃ so, o1.st.get i = some so) → (∀ i ∈ ids, ∃ so, o1.st.get i = some so) → st2 = o1.st.kills ids →
            (∀ ρ F w (tmps : Array Value), VList ρ F w o1.tm tmps.toList → (∀ i, i ∈ R2 ∨ i ∈ ids → ∀ so, o1.st.get i = some so → ObjRel ρ F w i so) →
              ∃ x, (results fn tmps).run P w = .ok x w ∧ VRel ρ (FB ρ F ids) w v' x) →
            o1.ex ≠ .norm ∧ o1.ex ≠ .ret → False ∨ True := fun _ _ _ _ _ _ _ _ _ _ => .inr trivial
        have main : ∀ (R2 ids : List Nat) (v' : V), (∀ i ∈ R2, ∃ so, o1.st.get i = some so) → (∀ i ∈ ids, ∃ so, o1.st.get i = some so) → (∀ id, o1.ex ≠ .exit id) →
            (∀ ρ F w (tmps : Array Value), VList ρ F w o1.tm tmps.toList → (∀ i, i ∈ R2 ∨ i ∈ ids → ∀ so, o1.st.get i = some so → ObjRel ρ F w i so) →
              ∃ x, (results fn tmps).run P w = .ok x w ∧ VRel ρ (FB ρ F ids) w v' x) →
            ∀ (o : Out), o = ⟨.ret, [v'], o1.st.kills ids, ((o1.R ++ R2) ++ ids).filter (· < st.next), (o1.W ++ ids).filter (· < st.next)⟩ →
            Fine st o.st o.W ∧ (Live st o.R o.W ∧ ∀ i ∈ o.W, i < st.next) ∧
              ∀ ρ F w (vals : Array Value), Pre ρ F w st o.R o.W o.st.next → VList ρ F w args vals.toList →
                Calls P f vals w fun e w' => ∃ x v ρ' F', e = .returned x ∧ o.tm = [v] ∧ VRel ρ' F' w' v x ∧ Post ρ F w st ρ' F' w' o.st o.W := by
          intro R2 ids v' hR2 hids hex hres o ho
          subst ho
          have fk := fine_kills f1.wf ids
          have fall := f1.trans fk
          have hl2 : Live o1.st R2 ids := fun i hi _ => hi.elim (hR2 i) (hids i)
          have lall : Live st (o1.R ++ R2) (o1.W ++ ids) := Live.trans f1 l1 hl2
          refine ⟨⟨fall.next, fun i hi hm => fall.same i hi (fun hx => hm ((memf _ i).2 ⟨hx, hi⟩)), fall.wf⟩, ⟨fun i hi hlt => ?_, fun i hi => ((memf _ i).1 hi).2⟩, ?_⟩
          · rcases hi with hi | hi
            · have := ((memf _ i).1 hi).1
              rcases List.mem_append.1 this with h | h
              · exact lall i (.inl h) hlt
              · exact lall i (.inr (by simp [h])) hlt
            · exact lall i (.inr ((memf _ i).1 hi).1) hlt
          · intro ρ F w vals hp hl
            have hpw : Pre ρ F w st (o1.R ++ R2) (o1.W ++ ids) o1.st.next := by
              refine ⟨hp.fok, fun i hi hm => hp.obj i hi ?_, fun i j hi hj him hjm hne => hp.inj i j hi hj ((memf _ i).2 ⟨him, hi⟩) ?_ hne, fun i h1 h2 => hp.fresh i h1 (by simpa [kills_next] using h2)⟩
              · rcases hm with h | h
                · exact .inl ((memf _ i).2 ⟨by simp at h ⊢; rcases h with h | h <;> simp [h], hi⟩)
                · exact .inr ((memf _ i).2 ⟨h, hi⟩)
              · rcases hjm with h | h
                · exact .inl ((memf _ j).2 ⟨by simp at h ⊢; rcases h with h | h <;> simp [h], hj⟩)
                · exact .inr ((memf _ j).2 ⟨h, hj⟩)
            refine calls_of_wp hfn hb ?_
            have htm : VList ρ F w (args ++ List.replicate (fn.ntmps - args.length) undefV) (vals ++ Array.replicate (fn.ntmps - vals.size) undef).toList := by
              have hlen : vals.size = args.length := by have := hl.length; simpa using this
              rw [Array.toList_append, Array.toList_replicate, hlen]
              exact hl.append (replicate_undef _)
            refine s1 ρ F w { tmps := vals ++ Array.replicate (fn.ntmps - vals.size) undef, defers := [] } _ (hpw.mono (fun i _ h => .inl (by simp [h])) (fun i _ h => by simp [h]) (Nat.le_refl _)) htm rfl fun a' w' ρ' F' hpost ht' hd' => ?_
            have hp2 : Pre ρ' F' w' o1.st R2 ids o1.st.next := Pre.next (R₁ := o1.R) hpw hpost f1 hl2 (fun i _ h => by simp [h]) (fun i _ h => .inl (by simp [h])) (fun i _ h => by simp [h]) l1
            obtain ⟨x, hx, hxr⟩ := hres ρ' F' w' a'.tmps ht' (fun i hi so hso => by
              obtain ⟨so', hg, ho⟩ := hp2.obj i (get_lt f1.wf hso) hi
              rw [hso] at hg
              cases hg
              exact ho)
            have hpf := post_freeze hp2 f1.wf (I := ids) (fun i h => h) hids
            have hpost2 : Post ρ F w st ρ' (FB ρ' F' ids) w' (o1.st.kills ids) (o1.W ++ ids) := Post.trans hpw hpost f1 hp2 hpf fk (fun i _ h => by simp [h]) (fun i _ h => by simp [h])
            have hpost3 := hpost2.mono (W' := (o1.W ++ ids).filter (· < st.next)) (fun i hi => by rw [memf]; exact ⟨fun h => ⟨h, hi⟩, fun h => h.1⟩)
            have hgo : a'.defers = [] ∧ ∃ v, (results fn a'.tmps).run P w' = .ok v w' ∧ ∃ x v_1 ρ' F', Ending.returned v = .returned x ∧ ([v'] : List V) = [v_1] ∧ VRel ρ' F' w' v_1 x ∧ Post ρ F w st ρ' F' w' (o1.st.kills ids) ((o1.W ++ ids).filter (· < st.next)) :=
              ⟨hd', x, hx, x, v', ρ', FB ρ' F' ids, rfl, rfl, hxr, hpost3⟩
            cases hxx : o1.ex with
            | norm => exact hgo
            | ret => exact hgo
            | exit id => exact absurd hxx (hex id)
        clear fin
        split at h
        · simp at h
        · rename_i hne
          have hex : ∀ id, o1.ex ≠ .exit id := fun id e => hne id e
          split at h
          · rename_i vs R2 hres
            obtain ⟨g1, g2⟩ := resV_get hres
            -- the result before it is frozen
            have hrv : ∀ ρ F w (tmps : Array Value), VList ρ F w o1.tm tmps.toList → (∀ i ∈ R2, ∀ so, o1.st.get i = some so → ObjRel ρ F w i so) →
                ∃ x, (results fn tmps).run P w = .ok x w ∧ VRel ρ F w (resOne vs) x := by
              intro ρ F w tmps ht ho
              obtain ⟨l, hl, hv⟩ := g2 ρ F w tmps ht ho
              refine ⟨_, results_run hl, ?_⟩
              have hlen := hv.length
              clear hl hres g2
              match vs, l, hv, hlen with
              | [v], [x], hv, _ =>
                simp only [VList] at hv
                obtain ⟨y, ys, he, hr, hys⟩ := hv
                simp only [List.cons.injEq] at he
                show VRel ρ F w v x
                rw [he.1]
                exact hr
              | [], [], hv, _ => show VRel ρ F w (.tup []) (.tuple #[]); simp only [VRel]; exact ⟨_, rfl, by simp [VList]⟩
              | a :: b :: vs, c :: d :: l, hv, _ => show VRel ρ F w (.tup (a :: b :: vs)) (.tuple (c :: d :: l).toArray); simp only [VRel]; exact ⟨_, rfl, by simpa using hv⟩
            generalize resOne vs = v at hrv h
            unfold finish at h
            have noids : ∀ v' : V, (∀ ρ F w x, VRel ρ F w v x → VRel ρ F w v' x) → ∀ ρ F w (tmps : Array Value), VList ρ F w o1.tm tmps.toList → (∀ i, i ∈ R2 ∨ i ∈ ([] : List Nat) → ∀ so, o1.st.get i = some so → ObjRel ρ F w i so) →
                ∃ x, (results fn tmps).run P w = .ok x w ∧ VRel ρ (FB ρ F []) w v' x := by
              intro v' hv' ρ F w tmps ht ho
              obtain ⟨x, hx, hr⟩ := hrv ρ F w tmps ht (fun i hi => ho i (.inl hi))
              exact ⟨x, hx, VRel.mono (ext_fb []) (rle_refl ρ) _ _ (hv' ρ F w x hr)⟩
            split at h
            · simp only [Option.some.injEq] at h
              exact main R2 [] v g1 (by simp) hex (noids v fun _ _ _ _ h => h) o (by rw [← h]; simp [St.kills])
            · split at h
              · rename_i v' ids hf
                simp only [Option.some.injEq] at h
                obtain ⟨k1, k2⟩ := frzRes_sound hf
                refine main R2 ids v' g1 k1 hex (fun ρ F w tmps ht ho => ?_) o h.symm
                obtain ⟨x, hx, hr⟩ := hrv ρ F w tmps ht (fun i hi => ho i (.inl hi))
                exact ⟨x, hx, k2 ρ F w x (fun i hi => ho i (.inr hi)) hr⟩
              · split at h
                all_goals first
                  | (simp at h; done)
                  | (simp only [Option.some.injEq] at h; exact main R2 [] v.norm g1 (by simp) hex (noids v.norm fun _ _ _ x h => rel_norm v x h) o (by rw [← h]; simp [St.kills]))
          · simp at h
      · simp at h
    · simp at h
  · simp at h

theorem evN_sound (hO : OrcSound P C) (hmix : P.follows .mixedOrders = true) (hps : progStat P = true) : ∀ n, CallSound P (evN P C n) ∧ LoopSound P (evN P C n) := by
  intro n
  induction n using Nat.strongRecOn with
  | _ n ih =>
    have hcodeAt : ∀ m, m < n → ∀ (c : Code) (tm : List V) (st : St) (o : Out), vcode P C (evN P C m) c tm st = some o → codeStat c = true → st.WF → CodeSays P c tm st o := fun m hm => vcode_sound (ih m hm).1 (ih m hm).2 hO hmix
    cases n with
    | zero => exact ⟨fun f args st o h => by simp [evN] at h, fun c tm st o h => by simp [evN] at h⟩
    | succ n =>
      have hn := ih n (Nat.lt_succ_self n)
      refine ⟨fun f args st o h hwf => ?_, fun c tm st o h hst hwf => ?_⟩
      · simp only [evN, stepE] at h
        exact call1_sound hn.1 hn.2 hO hmix hps h hwf
      · have flive : Fine st o.st o.W ∧ Live st o.R o.W := by
          simp only [evN, stepE] at h
          split at h
          · rename_i o1 h1
            obtain ⟨f1, l1, -⟩ := hcodeAt n (Nat.lt_succ_self n) c tm st o1 h1 hst hwf
            split at h
            · split at h
              · rename_i o2 h2
                simp only [Option.some.injEq] at h
                subst h
                obtain ⟨f2, l2, -⟩ := hn.2 c o1.tm o1.st o2 h2 hst f1.wf
                exact ⟨f1.trans f2, Live.trans f1 l1 l2⟩
              · simp at h
            · simp only [Option.some.injEq] at h
              subst h
              exact ⟨f1, l1⟩
          · simp at h
        refine ⟨flive.1, flive.2, fun ρ F w a Q hp ht hd hQ => ?_⟩
        refine wp_loop_ghost (fun k a' w' => k ≤ n + 1 ∧ ∃ tm' st' o' ρ' F', evN P C k (.loop c tm' st') = some o' ∧ st'.WF ∧ Pre ρ' F' w' st' o'.R o'.W o'.st.next ∧ VList ρ' F' w' tm' a'.tmps.toList ∧ a'.defers = [] ∧
          ∀ a'' w'' ρ'' F'', Post ρ' F' w' st' ρ'' F'' w'' o'.st o'.W → VList ρ'' F'' w'' o'.tm a''.tmps.toList → a''.defers = [] → Q (exOf o'.ex) a'' w'') (n + 1)
          ⟨Nat.le_refl _, tm, st, o, ρ, F, h, hwf, hp, ht, hd, hQ⟩ ?_
        rintro k a' w' ⟨hk, tm', st', o', ρ', F', hev, hwf', hp', ht', hd', hQ'⟩
        cases k with
        | zero => simp [evN] at hev
        | succ k =>
          simp only [evN, stepE] at hev
          split at hev
          · rename_i o1 h1
            obtain ⟨f1, l1, s1⟩ := hcodeAt k (by omega) c tm' st' o1 h1 hst hwf'
            split at hev
            · rename_i hex
              split at hev
              · rename_i o2 h2
                simp only [Option.some.injEq] at hev
                subst hev
                obtain ⟨f2, l2, -⟩ := (ih k (by omega)).2 c o1.tm o1.st o2 h2 hst f1.wf
                refine s1 ρ' F' w' a' _ (hp'.mono (fun i _ h => .inl (by simp [h])) (fun i _ h => by simp [h]) f2.next) ht' hd' fun a'' w'' ρ'' F'' hpost ht'' hd'' => ?_
                rw [hex]
                have hp2 : Pre ρ'' F'' w'' o1.st o2.R o2.W o2.st.next := Pre.next (R₁ := o1.R) hp' hpost f1 l2 (fun i _ h => by simp [h]) (fun i _ h => .inl (by simp [h])) (fun i _ h => by simp [h]) l1
                refine ⟨k, Nat.lt_succ_self k, by omega, o1.tm, o1.st, o2, ρ'', F'', h2, f1.wf, hp2, ht'', hd'', fun a3 w3 ρ3 F3 hpost3 ht3 hd3 => ?_⟩
                exact hQ' a3 w3 ρ3 F3 (Post.trans hp' hpost f1 hp2 hpost3 f2 (fun i _ h => by simp [h]) (fun i _ h => by simp [h])) ht3 hd3
              · simp at hev
            · rename_i hex
              simp only [Option.some.injEq] at hev
              subst hev
              refine s1 ρ' F' w' a' _ hp' ht' hd' fun a'' w'' ρ'' F'' hpost ht'' hd'' => ?_
              have := hQ' a'' w'' ρ'' F'' hpost ht'' hd''
              cases hx : o1.ex with
              | norm => exact absurd hx hex
              | exit id => rw [hx] at this; exact this
              | ret => rw [hx] at this; exact this
          · simp at hev

end

end Go.Proofs.Ytnolgpagdjcjbaa.Ve
/-! The evaluator without a bound. -/
set_option linter.unusedVariables false
set_option linter.unusedSimpArgs false
namespace Go.Proofs.Ytnolgpagdjcjbaa.Ve
open Go

section
variable {P : Program} {C : Cfg} {Es : Nat → Task → Option Out} {E : Task → Option Out}

/-- E says no more than the Es say in the end. -/
def Ap (Es : Nat → Task → Option Out) (E : Task → Option Out) : Prop := ∀ t o, E t = some o → ∃ n, ∀ m, n ≤ m → Es m t = some o

theorem pcall_ap (H : Ap Es E) {g : FuncId} {ps : List PV} {v : V} (h : pcall E g ps = some v) : ∃ n, ∀ m, n ≤ m → pcall (Es m) g ps = some v := by
  unfold pcall at h
  split at h
  · rename_i o ho
    obtain ⟨n, hn⟩ := H _ _ ho
    refine ⟨n, fun m hm => ?_⟩
    unfold pcall
    rw [hn m hm]
    exact h
  · simp at h

theorem docall_ap (H : Ap Es E) {g : FuncId} {args : List V} {st : St} {r : RV} (h : docall C E g args st = some r) : ∃ n, ∀ m, n ≤ m → docall C (Es m) g args st = some r := by
  unfold docall at h
  split at h
  · rename_i hp
    split at h
    · rename_i ps ids hf
      split at h
      · rename_i v hv
        obtain ⟨n, hn⟩ := pcall_ap H hv
        refine ⟨n, fun m hm => ?_⟩
        unfold docall
        rw [hp]
        simp only [hf, hn m hm]
        exact h
      · simp at h
    · simp at h
  · rename_i hp
    refine ⟨0, fun m _ => ?_⟩
    unfold docall
    rw [hp]
    exact h
  · rename_i hp
    cases hf : frzArgs st args with
    | mk as ids =>
    simp only [hf] at h
    split at h
    · rename_i o ho
      obtain ⟨n, hn⟩ := H _ _ ho
      refine ⟨n, fun m hm => ?_⟩
      unfold docall
      rw [hp]
      simp only [hf, hn m hm]
      exact h
    · simp at h
  · rename_i hp
    split at h
    · rename_i o ho
      obtain ⟨n, hn⟩ := H _ _ ho
      refine ⟨n, fun m hm => ?_⟩
      unfold docall
      rw [hp]
      simp only [hn m hm]
      exact h
    · simp at h
  · rename_i hp
    split at h
    · rename_i o ho
      obtain ⟨n, hn⟩ := H _ _ ho
      refine ⟨n, fun m hm => ?_⟩
      unfold docall
      rw [hp]
      simp only [hn m hm]
      exact h
    · simp at h

theorem vexec_ap (H : Ap Es E) {env : Operand → Option V} {o : Oper} {st : St} {r : RV} (h : vexec P C E env o st = some r) : ∃ n, ∀ m, n ≤ m → vexec P C (Es m) env o st = some r := by
  unfold vexec at h
  split at h
  · rename_i c hop
    split at h
    · rename_i b hc
      refine ⟨0, fun m _ => ?_⟩
      unfold vexec
      rw [hop]
      simp only [hc]
      exact h
    · rename_i hc
      split at h
      · rename_i g args R0 ht
        split at h
        · rename_i hb
          split at h
          · rename_i v st' R W hd
            obtain ⟨n, hn⟩ := docall_ap H hd
            refine ⟨n, fun m hm => ?_⟩
            unfold vexec
            rw [hop]
            simp only [ht, hb, if_true, hn m hm]
            exact h
          · simp at h
        · rename_i hb
          refine ⟨0, fun m _ => ?_⟩
          unfold vexec
          rw [hop]
          simp only [ht, hb, Bool.false_eq_true, if_false]
          exact h
      · simp at h
  · rename_i hop
    refine ⟨0, fun m _ => ?_⟩
    unfold vexec
    split
    · rename_i c hc
      exact absurd hc (hop c)
    · exact h

theorem vops_ap (H : Ap Es E) {ops : Array Oper} : ∀ {os : List Oper} {tm : List V} {st : St} {r : List V × St × List Ent}, vops P C E ops os tm st = some r → ∃ n, ∀ m, n ≤ m → vops P C (Es m) ops os tm st = some r
  | [], tm, st, r, h => ⟨0, fun m _ => h⟩
  | o :: os, tm, st, r, h => by
    simp only [vops] at h
    split at h
    · rename_i hw
      split at h
      · rename_i v st' R W hx
        split at h
        · rename_i tm' st'' l hv
          obtain ⟨n1, h1⟩ := vexec_ap H hx
          obtain ⟨n2, h2⟩ := vops_ap H hv
          refine ⟨max n1 n2, fun m hm => ?_⟩
          simp only [vops, hw, h1 m (by omega), h2 m (by omega)]
          exact h
        · simp at h
      · simp at h
    · rename_i hw
      split at h
      · rename_i tm' st'' l hv
        obtain ⟨n2, h2⟩ := vops_ap H hv
        refine ⟨n2, fun m hm => ?_⟩
        simp only [vops, hw, h2 m hm]
        exact h
      · simp at h

theorem vcode_ap (H : Ap Es E) : ∀ (c : Code) (tm : List V) (st : St) (o : Out), vcode P C E c tm st = some o → ∃ n, ∀ m, n ≤ m → vcode P C (Es m) c tm st = some o := by
  intro c
  induction c with
  | seq x y ihx ihy =>
    intro tm st o h
    simp only [vcode] at h
    split at h
    · rename_i o1 h1
      obtain ⟨n1, k1⟩ := ihx tm st o1 h1
      split at h
      · rename_i hex
        split at h
        · rename_i o2 h2
          obtain ⟨n2, k2⟩ := ihy _ _ _ h2
          refine ⟨max n1 n2, fun m hm => ?_⟩
          simp only [vcode, k1 m (by omega), hex, k2 m (by omega)]
          exact h
        · simp at h
      · rename_i hex
        refine ⟨n1, fun m hm => ?_⟩
        simp only [vcode, k1 m hm]
        exact h
    · simp at h
  | cond c x y ihx ihy =>
    intro tm st o h
    simp only [vcode] at h
    split at h
    · rename_i t hc
      cases t with
      | true =>
        obtain ⟨n, k⟩ := ihx tm st o h
        exact ⟨n, fun m hm => by simp only [vcode, hc]; exact k m hm⟩
      | false =>
        obtain ⟨n, k⟩ := ihy tm st o h
        exact ⟨n, fun m hm => by simp only [vcode, hc]; exact k m hm⟩
    · simp at h
  | block id c ih =>
    intro tm st o h
    simp only [vcode] at h
    split at h
    · rename_i o1 h1
      obtain ⟨n, k⟩ := ih tm st o1 h1
      exact ⟨n, fun m hm => by simp only [vcode, k m hm]; exact h⟩
    · simp at h
  | scope c ih =>
    intro tm st o h
    simp only [vcode] at h
    obtain ⟨n, k⟩ := ih tm st o h
    exact ⟨n, fun m hm => by simp only [vcode]; exact k m hm⟩
  | loop c ih =>
    intro tm st o h
    simp only [vcode] at h
    obtain ⟨n, k⟩ := H _ _ h
    exact ⟨n, fun m hm => by simp only [vcode]; exact k m hm⟩
  | region id ops draw =>
    intro tm st o h
    simp only [vcode] at h
    split at h
    · rename_i tm' st' l hv
      obtain ⟨n, k⟩ := vops_ap H hv
      exact ⟨n, fun m hm => by simp only [vcode, k m hm]; exact h⟩
    · simp at h
  | skip => intro tm st o h; exact ⟨0, fun m _ => h⟩
  | label l => intro tm st o h; exact ⟨0, fun m _ => h⟩
  | exit id => intro tm st o h; exact ⟨0, fun m _ => h⟩
  | ret => intro tm st o h; exact ⟨0, fun m _ => h⟩
  | rangeFunc f ps as body _ _ => intro tm st o h; simp [vcode] at h
  | goto l => intro tm st o h; simp [vcode] at h
  | refuse w => intro tm st o h; simp [vcode] at h

theorem stepE_ap (H : Ap Es E) {t : Task} {o : Out} (h : stepE P C E t = some o) : ∃ n, ∀ m, n ≤ m → stepE P C (Es m) t = some o := by
  cases t with
  | call f args st =>
    simp only [stepE] at h
    unfold call1 at h
    split at h
    · rename_i fn hf
      split at h
      · rename_i c hc
        split at h
        · rename_i o1 h1
          obtain ⟨n, k⟩ := vcode_ap H _ _ _ _ h1
          refine ⟨n, fun m hm => ?_⟩
          simp only [stepE]
          unfold call1
          simp only [hf, hc, k m hm]
          exact h
        · simp at h
      · simp at h
    · simp at h
  | loop c tm st =>
    simp only [stepE] at h
    split at h
    · rename_i o1 h1
      obtain ⟨n1, k1⟩ := vcode_ap H _ _ _ _ h1
      split at h
      · rename_i hex
        split at h
        · rename_i o2 h2
          obtain ⟨n2, k2⟩ := H _ _ h2
          refine ⟨max n1 n2, fun m hm => ?_⟩
          simp only [stepE, k1 m (by omega), hex, k2 m (by omega)]
          exact h
        · simp at h
      · rename_i hex
        refine ⟨n1, fun m hm => ?_⟩
        simp only [stepE, k1 m hm]
        exact h
    · simp at h

theorem stepE_mono {E' : Task → Option Out} (H : ∀ t o, E t = some o → E' t = some o) {t : Task} {o : Out} (h : stepE P C E t = some o) : stepE P C E' t = some o := by
  obtain ⟨n, hn⟩ := stepE_ap (Es := fun _ => E') (fun t o h => ⟨0, fun _ _ => H t o h⟩) h
  exact hn n (Nat.le_refl n)

theorem evN_succ : ∀ (n : Nat) (t : Task) (o : Out), evN P C n t = some o → evN P C (n + 1) t = some o
  | 0, t, o, h => by simp [evN] at h
  | n + 1, t, o, h => by
    simp only [evN] at h ⊢
    exact stepE_mono (evN_succ n) h

theorem evN_le {n m : Nat} (hm : n ≤ m) {t : Task} {o : Out} (h : evN P C n t = some o) : evN P C m t = some o := by
  induction m with
  | zero => have : n = 0 := by omega
            rw [this] at h; exact h
  | succ m ih =>
    by_cases e : n = m + 1
    · rw [← e]; exact h
    · exact evN_succ m t o (ih (by omega))

open Classical in
/-- What the evaluator says, with as many rounds as it takes. -/
noncomputable def Ew (P : Program) (C : Cfg) (t : Task) : Option Out := if h : ∃ n o, evN P C n t = some o then evN P C (Classical.choose h) t else none

theorem ew_of {n : Nat} {t : Task} {o : Out} (h : evN P C n t = some o) : Ew P C t = some o := by
  unfold Ew
  have hx : ∃ n o, evN P C n t = some o := ⟨n, o, h⟩
  rw [dif_pos hx]
  obtain ⟨o', ho'⟩ := Classical.choose_spec hx
  rcases Nat.le_total n (Classical.choose hx) with hle | hle
  · exact evN_le hle h
  · have := evN_le hle ho'
    rw [h] at this
    rw [ho', this]

theorem ew_back {t : Task} {o : Out} (h : Ew P C t = some o) : ∃ n, ∀ m, n ≤ m → evN P C m t = some o := by
  unfold Ew at h
  split at h
  · exact ⟨_, fun m hm => evN_le hm h⟩
  · simp at h

theorem ew_eq (t : Task) : Ew P C t = stepE P C (Ew P C) t := by
  have h1 : ∀ o, Ew P C t = some o → stepE P C (Ew P C) t = some o := by
    intro o h
    obtain ⟨n, hn⟩ := ew_back h
    have := hn (n + 1) (by omega)
    simp only [evN] at this
    exact stepE_mono (fun t o h => ew_of h) this
  have h2 : ∀ o, stepE P C (Ew P C) t = some o → Ew P C t = some o := by
    intro o h
    obtain ⟨n, hn⟩ := stepE_ap (Es := evN P C) (fun t o h => ew_back h) h
    exact ew_of (n := n + 1) (by simp only [evN]; exact hn n (Nat.le_refl n))
  cases hx : Ew P C t with
  | some o => exact (h1 o hx).symm
  | none =>
    cases hy : stepE P C (Ew P C) t with
    | none => rfl
    | some o => rw [h2 o hy] at hx; cases hx

theorem ew_sound (hO : OrcSound P C) (hmix : P.follows .mixedOrders = true) (hps : progStat P = true) : CallSound P (Ew P C) := fun f args st o h hwf => by
  obtain ⟨n, hn⟩ := ew_back h
  exact (evN_sound hO hmix hps n).1 f args st o (hn n (Nat.le_refl n)) hwf

/-- The end: what is evaluated is what the program does. -/
theorem ew_calls (hO : OrcSound P C) (hmix : P.follows .mixedOrders = true) (hps : progStat P = true) {f : FuncId} {ps : List PV} {x : Value} (h : pcall (Ew P C) f ps = some (.pv (.sc x))) {w : World} {vals : Array Value} (hl : PList (fun B => B < w.heap.size) w ps vals.toList) :
    Calls P f vals w fun e w' => e = .returned x ∧ RowKit.Below w.heap.size w w' := by
  refine (pureCall_of_pcall (ew_sound hO hmix hps) h (fun B => B < w.heap.size) w vals (fun _ h => h) hl).mono ?_
  rintro e w' ⟨y, F', rfl, hr, h1, h2, h3, h4, ⟨⟨o1, o2, o3⟩, -⟩, h6⟩
  have := hr (fun _ => none)
  simp only [VRel, PRel] at this
  subst this
  exact ⟨rfl, o1, o2, o3, h4, h6⟩

theorem orc_none {pol : FuncId → Pol} : OrcSound P ⟨pol, fun _ _ => none⟩ := fun f ps v h => by cases h

end

end Go.Proofs.Ytnolgpagdjcjbaa.Ve
