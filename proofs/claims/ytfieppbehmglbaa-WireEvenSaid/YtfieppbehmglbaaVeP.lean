import Derived.Test.YtfieppbehmglbaaVeO
/-! One operation, calls among them. -/
set_option linter.unusedVariables false
set_option linter.unusedSimpArgs false
namespace Go.Proofs.Ytfieppbehmglbaa.Ve
open Go

section
variable {P : Program} {C : Cfg} {E : Task → Option Out} {ρ ρ₁ ρ₂ : Ren} {F F₁ F₂ : Nat → Prop} {w w₁ w₂ : World} {st st₁ st₂ : St}

theorem one_fine {st st' : St} {x : Option V} {v : V} {R W : List Nat} (hwf : st.WF) (h : one st x = some (v, st', R, W)) : Fine st st' W := by
  obtain ⟨-, rfl, -, rfl⟩ := one_some h
  exact fine_same hwf

theorem append_fine {st st' : St} {at_ : Array TypeId} {s x v : V} {R W : List Nat} (hwf : st.WF) (h : appendV P st at_ s x = some (v, st', R, W)) : Fine st st' W := by
  unfold appendV at h
  repeat' split at h
  all_goals first
    | (simp at h; done)
    | (simp only [Option.some.injEq, Prod.mk.injEq] at h; obtain ⟨-, rfl, -, rfl⟩ := h; first | exact fine_same hwf | exact fine_new hwf _ | exact (fine_new hwf _).kill _)

theorem vop_fine {env : Operand → Option V} {o : Oper} {st st' : St} {v : V} {R W : List Nat} (hwf : st.WF) (h : vop P env o st = some (v, st', R, W)) : Fine st st' W := by
  unfold vop at h
  split at h
  case h_7 =>
    split at h
    · unfold buildSliceV at h
      repeat' split at h
      all_goals first
        | (simp at h; done)
        | (simp only [Option.some.injEq, Prod.mk.injEq] at h; obtain ⟨-, rfl, -, rfl⟩ := h; exact fine_new hwf _)
    · simp at h
  case h_9 =>
    split at h
    · split at h
      · split at h
        · rename_i hs
          simp only [Option.some.injEq, Prod.mk.injEq] at h
          obtain ⟨-, rfl, -, rfl⟩ := h
          unfold storeV at hs
          split at hs
          · split at hs
            · split at hs
              · simp only [Option.some.injEq, Prod.mk.injEq] at hs
                obtain ⟨rfl, rfl⟩ := hs
                exact fine_same hwf
              · simp at hs
            · split at hs
              · rename_i so hso
                split at hs
                · split at hs
                  · simp only [Option.some.injEq, Prod.mk.injEq] at hs
                    obtain ⟨rfl, rfl⟩ := hs
                    exact fine_set hwf (get_lt hwf hso) _
                  · simp at hs
                · simp at hs
              · simp at hs
          · simp at hs
        · simp at h
      · simp at h
    · simp at h
  case h_16 =>
    split at h
    · split at h
      · unfold makeSliceV at h
        repeat' split at h
        all_goals first
          | (simp at h; done)
          | (simp only [Option.some.injEq, Prod.mk.injEq] at h; obtain ⟨-, rfl, -, rfl⟩ := h; exact fine_new hwf _)
      · simp at h
    · simp at h
  all_goals
    repeat' split at h
    all_goals first
      | (simp at h; done)
      | exact one_fine hwf h
      | exact append_fine hwf h
      | (simp only [Option.some.injEq, Prod.mk.injEq] at h; obtain ⟨-, rfl, -, rfl⟩ := h; first | exact fine_same hwf | exact fine_new hwf _)

theorem VRel.pure {x : V} {v : Value} (hp : x.isPure = true) (h : VRel ρ₁ F w x v) : VRel ρ F w x v := by
  cases x with
  | pv p => simp only [VRel] at h ⊢; exact h
  | tup cs =>
    simp only [VRel] at h ⊢
    obtain ⟨l, hv, hl⟩ := h
    refine ⟨l, hv, ?_⟩
    simp only [V.isPure] at hp
    generalize l.toList = m at hl
    clear hv l
    induction cs generalizing m with
    | nil => simpa [VList] using hl
    | cons y ys ih =>
      simp only [VList] at hl ⊢
      obtain ⟨u, us, rfl, hu, hus⟩ := hl
      cases y with
      | pv p =>
        simp only [V.isPure.pures] at hp
        refine ⟨u, us, rfl, ?_, ih hp us hus⟩
        simp only [VRel] at hu ⊢
        exact hu
      | _ => simp [V.isPure.pures] at hp
  | _ => simp [V.isPure] at hp

/-- What a call that sees no object leaves. -/
def Quietly (F : Nat → Prop) (w : World) (F' : Nat → Prop) (w' : World) : Prop :=
  (∀ B, F B → F' B) ∧ (∀ B, F' B → F B ∨ w.heap.size ≤ B) ∧ (∀ B, F' B → B < w'.heap.size) ∧ w.heap.size ≤ w'.heap.size ∧ Shp w w' ∧ ∀ B, B < w.heap.size → w'.heap[B]? = w.heap[B]?

theorem Quietly.of_post {ρ' : Ren} {st' : St} {W : List Nat} (h : Post (fun _ => none) F w St.empty ρ' F₁ w₁ st' W) : Quietly F w F₁ w₁ := by
  refine ⟨h.fle, fun B hB => ?_, h.fok, h.size, h.shp, fun B hB => h.heap B hB fun i hi => absurd hi (Nat.not_lt_zero _)⟩
  rcases h.fnew B hB with h | h | ⟨i, hi, -⟩
  · exact .inl h
  · exact .inr h
  · exact absurd hi (Nat.not_lt_zero _)

theorem Quietly.post {st : St} (hwf : st.WF) (h : Quietly F w F₁ w₁) : Post ρ F w st ρ F₁ w₁ st [] := by
  obtain ⟨h1, h2, h3, h4, h5, h6⟩ := h
  refine ⟨rle_refl ρ, fun i h => absurd rfl h, h1, fun B hB => (h2 B hB).imp id .inl, h3, h4, h5, fun B hB _ => h6 B hB, fun i so hi hg => ?_, fun i j hi hj gi gj hne => ?_⟩
  · rcases hi with ⟨_, hm⟩ | hi
    · cases hm
    · rw [hwf i hi] at hg; cases hg
  · rcases hi with ⟨_, hm⟩ | hi
    · cases hm
    · rw [hwf i hi] at gi; cases gi

theorem pre_empty {R W R' W' : List Nat} {n n' : Nat} (hp : Pre ρ F w st R W n) : Pre (fun _ => none) F w St.empty R' W' n' :=
  ⟨hp.fok, fun i hi => absurd hi (Nat.not_lt_zero _), fun i j hi => absurd hi (Nat.not_lt_zero _), fun _ _ _ => rfl⟩

theorem empty_wf : St.empty.WF := fun _ _ => rfl

theorem pre_fb {R W : List Nat} {n : Nat} (hp : Pre ρ F w st R W n) (hwf : st.WF) {I : List Nat} (hI : ∀ i ∈ I, i ∈ R ∨ i ∈ W) (hlive : ∀ i ∈ I, ∃ so, st.get i = some so) : ∀ B, FB ρ F I B → B < w.heap.size := fun B h => by
  rcases h with h | ⟨i, hi, hb⟩
  · exact hp.fok B h
  · obtain ⟨so, hso⟩ := hlive i hi
    obtain ⟨so', hg, ho⟩ := hp.obj i (get_lt hwf hso) (hI i hi)
    obtain ⟨B', hB', hlt⟩ := ho.lt
    rw [hb] at hB'
    cases hB'
    exact hlt

/-- A pure callee: its answer, and nothing else that can be seen. -/
def PureCall (P : Program) (g : FuncId) (ps : List PV) (v : V) : Prop :=
  ∀ (F : Nat → Prop) (w : World) (vals : Array Value), (∀ B, F B → B < w.heap.size) → PList F w ps vals.toList →
    Calls P g vals w fun e w' => ∃ x F', e = .returned x ∧ (∀ ρ : Ren, VRel ρ F' w' v x) ∧ Quietly F w F' w'

theorem pureCall_of_call (hE : CallSound P E) {g : FuncId} {ps : List PV} {o : Out} {v : V} (h : E (.call g (ps.map .pv) St.empty) = some o) (hv : o.tm = [v]) (hp : v.isPure = true) : PureCall P g ps v := by
  intro F w vals hF hl
  obtain ⟨-, -, h3⟩ := hE _ _ _ _ h empty_wf
  have hpre : Pre (fun _ => none) F w St.empty o.R o.W o.st.next := ⟨hF, fun i hi => absurd hi (Nat.not_lt_zero _), fun i j hi => absurd hi (Nat.not_lt_zero _), fun _ _ _ => rfl⟩
  refine (h3 _ F w vals hpre (VList.of_PList hl)).mono ?_
  rintro e w' ⟨x, v', ρ', F', rfl, hv', hr, hpost⟩
  rw [hv] at hv'
  simp only [List.cons.injEq, and_true] at hv'
  subst hv'
  exact ⟨x, F', rfl, fun ρ => VRel.pure hp hr, Quietly.of_post hpost⟩

theorem pureCall_of_pcall (hE : CallSound P E) {g : FuncId} {ps : List PV} {v : V} (h : pcall E g ps = some v) : PureCall P g ps v := by
  unfold pcall at h
  split at h
  · rename_i o ho
    split at h
    · rename_i v' hv'
      split at h
      · rename_i hp
        simp only [Option.some.injEq] at h
        subst h
        exact pureCall_of_call hE ho hv' hp
      · simp at h
    · simp at h
  · simp at h

theorem pureCall_of_orc (hO : OrcSound P C) {g : FuncId} {ps : List PV} {v : V} (h : C.orc g ps = some v) : PureCall P g ps v := by
  intro F w vals hF hl
  refine (hO g ps v h F w vals hF hl).mono ?_
  rintro e w' ⟨x, F', rfl, hr, h1, h2, h3, h4, h5, h6⟩
  exact ⟨x, F', rfl, fun ρ => VRel.mono (Ext.refl _ _) (fun _ _ h => by cases h) _ _ hr, h1, h2, h3, h4, h5, h6⟩

theorem plist_fb_nil {ps : List PV} {l : List Value} (h : PList (FB ρ F []) w ps l) : PList F w ps l :=
  PList.mono ⟨fun B hB => hB.elim id (fun ⟨i, hi, _⟩ => absurd hi (by simp)), fun _ _ => rfl, Shp.refl w⟩ _ _ h

theorem docall_sound (hE : CallSound P E) (hO : OrcSound P C) {g : FuncId} {args : List V} {st st' : St} {v : V} {R W : List Nat} (h : docall C E g args st = some (v, st', R, W)) (hwf : st.WF) :
    Fine st st' W ∧ (Live st R W ∧ ∀ i ∈ W, i < st.next) ∧ ∀ ρ F w (vals : Array Value), Pre ρ F w st R W st'.next → VList ρ F w args vals.toList →
      Calls P g vals w fun e w' => ∃ x ρ' F', e = .returned x ∧ VRel ρ' F' w' v x ∧ Post ρ F w st ρ' F' w' st' W := by
  -- a pure callee
  have pure0 : ∀ ps, frzAll st args = some (ps, []) → PureCall P g ps v → ∀ ρ F w (vals : Array Value), Pre ρ F w st [] [] st.next → VList ρ F w args vals.toList →
      Calls P g vals w fun e w' => ∃ x ρ' F', e = .returned x ∧ VRel ρ' F' w' v x ∧ Post ρ F w st ρ' F' w' st [] := by
    intro ps hps hpc ρ F w vals hp hl
    have hpl := plist_fb_nil (frzAll_sound (I := []) (by simp) hps (by simp) hl)
    refine (hpc F w vals hp.fok hpl).mono ?_
    rintro e w' ⟨x, F', rfl, hr, hq⟩
    exact ⟨x, ρ, F', rfl, hr ρ, hq.post hwf⟩
  have pureFlat : ∀ ps ids, frzAll st args = some (ps, ids) → PureCall P g ps v → v.flat = true → ∀ ρ F w (vals : Array Value), Pre ρ F w st ids [] st.next → VList ρ F w args vals.toList →
      Calls P g vals w fun e w' => ∃ x ρ' F', e = .returned x ∧ VRel ρ' F' w' v x ∧ Post ρ F w st ρ' F' w' st [] := by
    intro ps ids hps hpc hflat ρ F w vals hp hl
    have hlive := frzAll_live hps
    have hpl := frzAll_sound (I := ids) (ρ := ρ) (F := F) (w := w) (fun i hi so hso => by
      obtain ⟨so', hg, ho⟩ := hp.obj i (get_lt hwf hso) (.inl hi)
      rw [hso] at hg
      cases hg
      exact ho) hps (fun _ h => h) hl
    refine (hpc (FB ρ F ids) w vals (pre_fb hp hwf (fun i hi => .inl hi) hlive) hpl).mono ?_
    rintro e w' ⟨x, F', rfl, hr, h1, h2, h3, h4, h5, h6⟩
    refine ⟨x, ρ, F, rfl, VRel.flat hflat (hr ρ), Quietly.post hwf ⟨fun _ h => h, fun _ h => .inl h, fun B hB => Nat.lt_of_lt_of_le (hp.fok B hB) h4, h4, h5, h6⟩⟩
  unfold docall at h
  split at h
  · -- pure
    split at h
    · rename_i ps ids hps
      have hlive := frzAll_live hps
      split at h
      · rename_i v' hv'
        have hpc := pureCall_of_pcall hE hv'
        split at h
        · simp only [Option.some.injEq, Prod.mk.injEq] at h
          obtain ⟨rfl, rfl, rfl, rfl⟩ := h
          exact ⟨fine_same hwf, ⟨Live.nil st, by simp⟩, pure0 ps hps hpc⟩
        · split at h
          · rename_i hflat
            simp only [Option.some.injEq, Prod.mk.injEq] at h
            obtain ⟨rfl, rfl, rfl, rfl⟩ := h
            refine ⟨fine_same hwf, ⟨fun i hi _ => ?_, by simp⟩, pureFlat ps _ hps hpc hflat⟩
            rcases hi with hi | hi
            · exact hlive i hi
            · cases hi
          · simp only [Option.some.injEq, Prod.mk.injEq] at h
            obtain ⟨rfl, rfl, rfl, rfl⟩ := h
            rename_i i0 is0 _ _
            refine ⟨fine_kills hwf _, ⟨fun i hi _ => hlive i (hi.elim id id), fun i hi => by obtain ⟨so, hso⟩ := hlive i hi; exact get_lt hwf hso⟩, ?_⟩
            intro ρ F w vals hp hl
            have hpl := frzAll_sound (I := i0 :: is0) (ρ := ρ) (F := F) (w := w) (fun i hi so hso => by
              obtain ⟨so', hg, ho⟩ := hp.obj i (get_lt hwf hso) (.inl hi)
              rw [hso] at hg
              cases hg
              exact ho) hps (fun _ h => h) hl
            have hpf := post_freeze hp hwf (I := i0 :: is0) (fun i hi => hi) hlive
            refine (hpc (FB ρ F (i0 :: is0)) w vals hpf.fok hpl).mono ?_
            rintro e w' ⟨x, F', rfl, hr, hq⟩
            have hwf2 := (fine_kills hwf (i0 :: is0)).wf
            have hpn := Pre.next (R₁ := i0 :: is0) (R₂ := []) (W₂ := []) hp hpf (fine_kills hwf _) (Live.nil _) (fun _ _ h => h) (by simp) (by simp) (fun i hi _ => hlive i (hi.elim id id))
            have := Post.trans (W₂ := []) hp hpf (fine_kills hwf _) hpn (hq.post hwf2) (fine_same hwf2) (fun _ _ h => h) (by simp)
            exact ⟨x, ρ, F', rfl, hr ρ, by simpa using this⟩
      · simp at h
    · simp at h
  · -- orc
    split at h
    · rename_i ps ids hps
      have hlive := frzAll_live hps
      split at h
      · rename_i v' hv'
        split at h
        · simp only [Option.some.injEq, Prod.mk.injEq] at h
          obtain ⟨rfl, rfl, rfl, rfl⟩ := h
          exact ⟨fine_same hwf, ⟨Live.nil st, by simp⟩, pure0 ps hps (pureCall_of_orc hO hv')⟩
        · split at h
          · rename_i hflat
            simp only [Option.some.injEq, Prod.mk.injEq] at h
            obtain ⟨rfl, rfl, rfl, rfl⟩ := h
            refine ⟨fine_same hwf, ⟨fun i hi _ => ?_, by simp⟩, pureFlat ps _ hps (pureCall_of_orc hO hv') hflat⟩
            rcases hi with hi | hi
            · exact hlive i hi
            · cases hi
          · simp at h
      · simp at h
    · simp at h
  · -- std
    cases hfa : frzArgs st args with
    | mk as ids =>
    simp only [hfa] at h
    have hlive : ∀ i ∈ ids, ∃ so, st.get i = some so := fun i hi => frzArgs_live (vs := args) i (by rw [hfa]; exact hi)
    split at h
    · rename_i o ho
      split at h
      · rename_i v' hv'
        simp only [Option.some.injEq, Prod.mk.injEq] at h
        obtain ⟨rfl, rfl, rfl, rfl⟩ := h
        have hfk := fine_kills hwf ids
        obtain ⟨g1, ⟨g2, g2'⟩, g3⟩ := hE _ _ _ _ ho hfk.wf
        refine ⟨hfk.trans g1, ⟨Live.trans hfk (R₁ := ids) (fun i hi _ => hlive i (hi.elim id id)) g2, fun i hi => ?_⟩, ?_⟩
        · rcases List.mem_append.1 hi with hi | hi
          · obtain ⟨so, hso⟩ := hlive i hi; exact get_lt hwf hso
          · have := g2' i hi
            rwa [kills_next] at this
        intro ρ F w vals hp hl
        have hargs := frzArgs_sound (I := ids) (ρ := ρ) (F := F) (w := w) (fun i hi so hso => by
          obtain ⟨so', hg, ho⟩ := hp.obj i (get_lt hwf hso) (.inl (by simp [hi]))
          rw [hso] at hg
          cases hg
          exact ho) (by rw [hfa]; exact fun _ h => h) hl
        rw [hfa] at hargs
        have hpf := post_freeze hp hwf (I := ids) (fun i hi => by simp [hi]) hlive
        have hpn := Pre.next (R₁ := ids) hp hpf hfk g2 (fun i _ h => by simp [h]) (fun i _ h => .inl (by simp [h])) (fun i _ h => by simp [h]) (fun i hi _ => hlive i (hi.elim id id))
        refine (g3 ρ _ w vals hpn hargs).mono ?_
        rintro e w' ⟨x, v'', ρ', F', rfl, hv'', hr, hpost⟩
        rw [hv'] at hv''
        simp only [List.cons.injEq, and_true] at hv''
        subst hv''
        exact ⟨x, ρ', F', rfl, hr, Post.trans hp hpf hfk hpn hpost g1 (fun i _ h => by simp [h]) (fun i _ h => by simp [h])⟩
      · simp at h
    · simp at h
  · -- res
    split at h
    · rename_i o ho
      split at h
      · rename_i v' hv'
        simp only [Option.some.injEq, Prod.mk.injEq] at h
        obtain ⟨rfl, rfl, rfl, rfl⟩ := h
        obtain ⟨g1, g2, g3⟩ := hE _ _ _ _ ho hwf
        refine ⟨g1, g2, fun ρ F w vals hp hl => (g3 ρ F w vals hp hl).mono ?_⟩
        rintro e w' ⟨x, v'', ρ', F', rfl, hv'', hr, hpost⟩
        rw [hv'] at hv''
        simp only [List.cons.injEq, and_true] at hv''
        subst hv''
        exact ⟨x, ρ', F', rfl, hr, hpost⟩
      · simp at h
    · simp at h
  · -- keep
    split at h
    · rename_i o ho
      split at h
      · rename_i v' hv'
        simp only [Option.some.injEq, Prod.mk.injEq] at h
        obtain ⟨rfl, rfl, rfl, rfl⟩ := h
        obtain ⟨g1, g2, g3⟩ := hE _ _ _ _ ho hwf
        refine ⟨g1, g2, fun ρ F w vals hp hl => (g3 ρ F w vals hp hl).mono ?_⟩
        rintro e w' ⟨x, v'', ρ', F', rfl, hv'', hr, hpost⟩
        rw [hv'] at hv''
        simp only [List.cons.injEq, and_true] at hv''
        subst hv''
        exact ⟨x, ρ', F', rfl, hr, hpost⟩
      · simp at h
    · simp at h

theorem opres_wp {o : Oper} {a : Act} {v : V} {st' : St} {W : List Nat} {K : Act → World → Prop} {Q : Exit → Act → World → Prop} (h : OpRes P a.eval o ρ F w st v st' W)
    (hK : ∀ x w' ρ' F', VRel ρ' F' w' v x → Post ρ F w st ρ' F' w' st' W → K (a.put o.dst x) w') : o.wp P a w K Q := by
  obtain ⟨x, w', ρ', F', hrun, hv, hpost⟩ := h
  unfold Oper.wp
  rcases hrun with hrun | ⟨hrun, rfl⟩
  · rw [hrun, Oper.upon_value]
    exact hK _ _ _ _ hv hpost
  · rw [hrun, Oper.upon_skip]
    exact hK _ _ _ _ hv hpost

theorem vexec_sound (hE : CallSound P E) (hO : OrcSound P C) {env : Operand → Option V} {o : Oper} {st st' : St} {v : V} {R W : List Nat} (h : vexec P C E env o st = some (v, st', R, W)) (hwf : st.WF) :
    Fine st st' W ∧ (Live st R W ∧ ∀ i ∈ W, i < st.next) ∧ ∀ ρ F w (a : Act) (K : Act → World → Prop) (Q : Exit → Act → World → Prop), Pre ρ F w st R W st'.next → EnvRel ρ F w env a.eval o.op.operands.toList →
      (∀ x w' ρ' F', VRel ρ' F' w' v x → Post ρ F w st ρ' F' w' st' W → K (a.put o.dst x) w') → o.wp P a w K Q := by
  have plain : vop P env o st = some (v, st', R, W) → Fine st st' W ∧ (Live st R W ∧ ∀ i ∈ W, i < st.next) ∧ ∀ ρ F w (a : Act) (K : Act → World → Prop) (Q : Exit → Act → World → Prop), Pre ρ F w st R W st'.next → EnvRel ρ F w env a.eval o.op.operands.toList →
      (∀ x w' ρ' F', VRel ρ' F' w' v x → Post ρ F w st ρ' F' w' st' W → K (a.put o.dst x) w') → o.wp P a w K Q := fun h =>
    ⟨vop_fine hwf h, ⟨vop_live h, fun i hi => by obtain ⟨so, hso⟩ := vop_liveA h i (.inr hi); exact get_lt hwf hso⟩, fun ρ F w a K Q hp he hK => opres_wp (vop_sound h he hp hwf).1 hK⟩
  unfold vexec at h
  split at h
  · rename_i c hop
    split at h
    · exact plain h
    · split at h
      · rename_i g args R0 ht
        split at h
        · rename_i hb
          split at h
          · rename_i v1 st1 R1 W1 hd
            simp only [Option.some.injEq, Prod.mk.injEq] at h
            obtain ⟨rfl, rfl, rfl, rfl⟩ := h
            obtain ⟨g1, ⟨g2, g2'⟩, g3⟩ := docall_sound hE hO hd hwf
            have hR0 : ∀ i ∈ R0, ∃ so, st.get i = some so := by
              have rl : ∀ (t : TypeId) (u x : V) (name : String) (g : FuncId) (R : List Nat), recvV P st t u name = some (g, x, R) → ∀ i ∈ R, ∃ so, st.get i = some so := by
                intro t u x name g R hr i hi
                unfold recvV at hr
                repeat' split at hr
                all_goals first
                  | (simp at hr; done)
                  | (simp only [Option.some.injEq, Prod.mk.injEq] at hr; obtain ⟨-, -, rfl⟩ := hr; first | exact loadV_live (by assumption) i hi | cases hi)
              intro i hi
              unfold targetV at ht
              repeat' split at ht
              all_goals first
                | (simp at ht; done)
                | (simp only [Option.some.injEq, Prod.mk.injEq] at ht; obtain ⟨-, -, rfl⟩ := ht; first | exact rl _ _ _ _ _ _ (by assumption) i hi | cases hi)
            refine ⟨g1, ⟨fun i hi hlt => ?_, g2'⟩, fun ρ F w a K Q hp he hK => ?_⟩
            · rcases hi with hi | hi
              · rcases List.mem_append.1 hi with hi | hi
                · exact hR0 i hi
                · exact g2 i (.inl hi) hlt
              · exact g2 i (.inr hi) hlt
            · obtain ⟨vals, hrun, hl⟩ := target_sound (ev := a.eval) (ty := o.type) ht (by rw [hop] at he; simpa [Op.operands] using he) hb (fun i hi so hso => by
                obtain ⟨so', hg, ho⟩ := hp.obj i (get_lt hwf hso) (.inl (by simp [hi]))
                rw [hso] at hg
                cases hg
                exact ho)
              have hex : (execOp a.eval o).run P w = .ok (.enter g vals) w := by unfold execOp; rw [hop]; exact hrun
              unfold Oper.wp
              rw [hex, Oper.upon_enter]
              refine (g3 ρ F w vals (hp.mono (fun i _ h => .inl (by simp [h])) (fun _ _ h => h) (Nat.le_refl _)) hl).mono ?_
              rintro e w' ⟨x, ρ', F', rfl, hr, hpost⟩
              exact hK x w' ρ' F' hr hpost
          · simp at h
        · exact plain h
      · simp at h
  · exact plain h

end

end Go.Proofs.Ytfieppbehmglbaa.Ve
