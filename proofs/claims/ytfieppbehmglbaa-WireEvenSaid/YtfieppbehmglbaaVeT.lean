import Derived.Test.YtfieppbehmglbaaVeS
/-! Code, calls, loops: the evaluator is sound. -/
set_option linter.unusedVariables false
set_option linter.unusedSimpArgs false
namespace Go.Proofs.Ytfieppbehmglbaa.Ve
open Go

section
variable {P : Program} {C : Cfg} {E : Task → Option Out}

/-- What the evaluator says of a piece of code. -/
def CodeSays (P : Program) (c : Code) (tm : List V) (st : St) (o : Out) : Prop :=
  Fine st o.st o.W ∧ Live st o.R o.W ∧ ∀ ρ F w (a : Act) (Q : Exit → Act → World → Prop), Pre ρ F w st o.R o.W o.st.next → VList ρ F w tm a.tmps.toList → a.defers = [] →
    (∀ a' w' ρ' F', Post ρ F w st ρ' F' w' o.st o.W → VList ρ' F' w' o.tm a'.tmps.toList → a'.defers = [] → Q (exOf o.ex) a' w') → c.wp P Q a w

theorem says_here {c : Code} {tm : List V} {st : St} {ex : Ex} (hwf : st.WF) (h : ∀ (a : Act) (w : World) (Q : Exit → Act → World → Prop), Q (exOf ex) a w → c.wp P Q a w) : CodeSays P c tm st ⟨ex, tm, st, [], []⟩ :=
  ⟨fine_same hwf, Live.nil st, fun ρ F w a Q hp ht hd hQ => h a w Q (hQ a w ρ F (post_same hp hwf rfl (Outs.refl w)) ht hd)⟩

theorem vcode_sound (hE : CallSound P E) (hL : LoopSound P E) (hO : OrcSound P C) (hmix : P.follows .mixedOrders = true) : ∀ (c : Code) (tm : List V) (st : St) (o : Out), vcode P C E c tm st = some o → codeStat c = true → st.WF → CodeSays P c tm st o := by
  intro c
  induction c with
  | skip =>
    intro tm st o h hst hwf
    simp only [vcode, Option.some.injEq] at h
    subst h
    exact says_here hwf fun a w Q hQ => wp_skip hQ
  | label l =>
    intro tm st o h hst hwf
    simp only [vcode, Option.some.injEq] at h
    subst h
    exact says_here hwf fun a w Q hQ => wp_label hQ
  | exit id =>
    intro tm st o h hst hwf
    simp only [vcode, Option.some.injEq] at h
    subst h
    exact says_here hwf fun a w Q hQ => wp_exit hQ
  | ret =>
    intro tm st o h hst hwf
    simp only [vcode, Option.some.injEq] at h
    subst h
    exact says_here hwf fun a w Q hQ => wp_ret hQ
  | region id ops draw =>
    intro tm st o h hst hwf
    simp only [vcode] at h
    split at h
    · rename_i tm' st' l hv
      split at h
      · rename_i hc
        simp only [Option.some.injEq] at h
        subst h
        exact region_sound hE hO hmix hv (fun e => by subst e; exact hst) hc hwf
      · simp at h
    · simp at h
  | seq x y ihx ihy =>
    intro tm st o h hst hwf
    simp only [codeStat, Bool.and_eq_true] at hst
    simp only [vcode] at h
    split at h
    · rename_i o1 h1
      obtain ⟨f1, l1, s1⟩ := ihx tm st o1 h1 hst.1 hwf
      split at h
      · rename_i hex
        split at h
        · rename_i o2 h2
          simp only [Option.some.injEq] at h
          subst h
          obtain ⟨f2, l2, s2⟩ := ihy o1.tm o1.st o2 h2 hst.2 f1.wf
          refine ⟨f1.trans f2, Live.trans f1 l1 l2, fun ρ F w a Q hp ht hd hQ => wp_seq ?_⟩
          have hp1 : Pre ρ F w st o1.R o1.W o1.st.next := hp.mono (fun i _ h => .inl (by simp [h])) (fun i _ h => by simp [h]) f2.next
          refine s1 ρ F w a _ hp1 ht hd fun a' w' ρ' F' hpost ht' hd' => ?_
          rw [hex]
          show y.wp P Q a' w'
          have hp2 : Pre ρ' F' w' o1.st o2.R o2.W o2.st.next := Pre.next (R₁ := o1.R) hp hpost f1 l2 (fun i _ h => by simp [h]) (fun i _ h => .inl (by simp [h])) (fun i _ h => by simp [h]) l1
          refine s2 ρ' F' w' a' Q hp2 ht' hd' fun a'' w'' ρ'' F'' hpost2 ht'' hd'' => ?_
          exact hQ a'' w'' ρ'' F'' (Post.trans hp hpost f1 hp2 hpost2 f2 (fun i _ h => by simp [h]) (fun i _ h => by simp [h])) ht'' hd''
        · simp at h
      · rename_i hex
        simp only [Option.some.injEq] at h
        subst h
        refine ⟨f1, l1, fun ρ F w a Q hp ht hd hQ => wp_seq (s1 ρ F w a _ hp ht hd fun a' w' ρ' F' hpost ht' hd' => ?_)⟩
        have := hQ a' w' ρ' F' hpost ht' hd'
        cases hx : o1.ex with
        | norm => exact absurd hx hex
        | exit id => rw [hx] at this; exact this
        | ret => rw [hx] at this; exact this
    · simp at h
  | cond c x y ihx ihy =>
    intro tm st o h hst hwf
    simp only [vcode] at h
    split at h
    · rename_i t hc
      have hev : ∀ ρ F w (a : Act), VList ρ F w tm a.tmps.toList → a.eval c = .bool t := by
        intro ρ F w a ht
        cases c with
        | tmp k =>
          simp only [envOf, Option.some.injEq] at hc
          have hlen := ht.length
          by_cases hk : k < tm.length
          · obtain ⟨v, hv, hr⟩ := ht.get k (tm.getD k undefV) (by simp [List.getD_eq_getElem?_getD, hk])
            rw [hc] at hr
            simp only [VRel, PRel] at hr
            have : a.tmps[k]? = some v := by simpa using hv
            simp [Act.eval, this, hr]
          · have : tm.getD k undefV = undefV := by simp [List.getD_eq_getElem?_getD, List.getElem?_eq_none (Nat.le_of_not_lt hk)]
            rw [this] at hc
            simp [undefV, undef] at hc
        | const v =>
          simp only [envOf, Option.some.injEq] at hc
          have hr := rel_ofValue (ρ := ρ) (F := F) (w := w) v
          rw [hc] at hr
          simp only [VRel, PRel] at hr
          exact hr
        | global g => simp [envOf] at hc
        | func f => simp [envOf] at hc
      split at h
      · simp only [codeStat, Bool.and_eq_true] at hst
        obtain ⟨f1, l1, s1⟩ := ihx tm st o h hst.1 hwf
        exact ⟨f1, l1, fun ρ F w a Q hp ht hd hQ => wp_cond_true (hev ρ F w a ht) (s1 ρ F w a Q hp ht hd hQ)⟩
      · simp only [codeStat, Bool.and_eq_true] at hst
        obtain ⟨f1, l1, s1⟩ := ihy tm st o h hst.2 hwf
        exact ⟨f1, l1, fun ρ F w a Q hp ht hd hQ => wp_cond_false (hev ρ F w a ht) (s1 ρ F w a Q hp ht hd hQ)⟩
    · simp at h
  | block id c ih =>
    intro tm st o h hst hwf
    simp only [vcode] at h
    split at h
    · rename_i o1 h1
      simp only [Option.some.injEq] at h
      subst h
      obtain ⟨f1, l1, s1⟩ := ih tm st o1 h1 hst hwf
      refine ⟨f1, l1, fun ρ F w a Q hp ht hd hQ => wp_block (s1 ρ F w a _ hp ht hd fun a' w' ρ' F' hpost ht' hd' => ?_)⟩
      have := hQ a' w' ρ' F' hpost ht' hd'
      cases hx : o1.ex with
      | norm => simp only [hx] at this; exact this
      | exit id' =>
        simp only [hx, Ex.exit.injEq] at this
        show (if id' = id then Q .normal a' w' else Q (.exit id') a' w')
        by_cases e : id' = id
        · rw [if_pos e] at this ⊢; exact this
        · rw [if_neg e] at this ⊢; exact this
      | ret => simp only [hx] at this; exact this
    · simp at h
  | scope c ih =>
    intro tm st o h hst hwf
    simp only [vcode] at h
    obtain ⟨f1, l1, s1⟩ := ih tm st o h hst hwf
    refine ⟨f1, l1, fun ρ F w a Q hp ht hd hQ => wp_scope_straight (s1 ρ F w a _ hp ht hd fun a' w' ρ' F' hpost ht' hd' => ?_)⟩
    have := hQ a' w' ρ' F' hpost ht' hd'
    cases hx : o.ex <;> (rw [hx] at this; exact this)
  | loop c ih =>
    intro tm st o h hst hwf
    simp only [vcode] at h
    exact hL c tm st o h hst hwf
  | rangeFunc f ps as body _ _ => intro tm st o h; simp [vcode] at h
  | goto l => intro tm st o h; simp [vcode] at h
  | refuse w => intro tm st o h; simp [vcode] at h

theorem resV_get {st : St} {tm : List V} : ∀ {rs : List ResultVar} {vs : List V} {R : List Nat}, resV P st tm rs = some (vs, R) → (∀ i ∈ R, ∃ so, st.get i = some so) ∧
    ∀ ρ F w (tmps : Array Value), VList ρ F w tm tmps.toList → (∀ i ∈ R, ∀ so, st.get i = some so → ObjRel ρ F w i so) →
      ∃ l : List Value, (rs.mapM fun
        | .tmp t => pure (tmps.getD t undef)
        | .cell a t => do loadVar t (← asAddr (tmps.getD a undef)) : Sem (List Value)).run P w = .ok l w ∧ VList ρ F w vs l
  | [], vs, R, h => by
    simp only [resV, Option.some.injEq, Prod.mk.injEq] at h
    obtain ⟨rfl, rfl⟩ := h
    exact ⟨by simp, fun ρ F w tmps _ _ => ⟨[], rfl, by simp [VList]⟩⟩
  | .tmp t :: rs, vs, R, h => by
    simp only [resV] at h
    split at h
    · rename_i us R1 hr
      simp only [Option.some.injEq, Prod.mk.injEq] at h
      obtain ⟨rfl, rfl⟩ := h
      obtain ⟨g1, g2⟩ := resV_get hr
      refine ⟨g1, fun ρ F w tmps ht ho => ?_⟩
      obtain ⟨l, hl, hv⟩ := g2 ρ F w tmps ht ho
      refine ⟨tmps.getD t undef :: l, ?_, ?_⟩
      · rw [List.mapM_cons]
        simp only [Sem.run_bind, Sem.run_pure, Result.andThen_ok, hl]
      · simp only [VList]
        refine ⟨_, l, rfl, ?_, hv⟩
        by_cases hk : t < tm.length
        · obtain ⟨v, hv, hr⟩ := ht.get t (tm.getD t undefV) (by simp [List.getD_eq_getElem?_getD, hk])
          have : tmps[t]? = some v := by simpa using hv
          simpa [this] using hr
        · have e1 : tm.getD t undefV = undefV := by simp [List.getD_eq_getElem?_getD, List.getElem?_eq_none (Nat.le_of_not_lt hk)]
          have hlen := ht.length
          have e2 : tmps.getD t undef = undef := by
            have : tmps[t]? = none := Array.getElem?_eq_none (by simp at hlen; rw [hlen]; exact Nat.le_of_not_lt hk)
            simp [this]
          rw [e1, e2]
          exact rel_undef
    · simp at h
  | .cell a t :: rs, vs, R, h => by
    simp only [resV] at h
    split at h
    · rename_i x R0 hl
      split at h
      · rename_i us R1 hr
        simp only [Option.some.injEq, Prod.mk.injEq] at h
        obtain ⟨rfl, rfl⟩ := h
        obtain ⟨g1, g2⟩ := resV_get hr
        refine ⟨fun i hi => ?_, fun ρ F w tmps ht ho => ?_⟩
        · rcases List.mem_append.1 hi with hi | hi
          · exact loadV_live hl i hi
          · exact g1 i hi
        · obtain ⟨l, hl2, hv⟩ := g2 ρ F w tmps ht (fun i hi => ho i (by simp [hi]))
          have hrel : VRel ρ F w (tm.getD a undefV) (tmps.getD a undef) := by
            by_cases hk : a < tm.length
            · obtain ⟨v, hv, hr⟩ := ht.get a (tm.getD a undefV) (by simp [List.getD_eq_getElem?_getD, hk])
              have : tmps[a]? = some v := by simpa using hv
              simpa [this] using hr
            · have e1 : tm.getD a undefV = undefV := by simp [List.getD_eq_getElem?_getD, List.getElem?_eq_none (Nat.le_of_not_lt hk)]
              have hlen := ht.length
              have e2 : tmps.getD a undef = undef := by
                have : tmps[a]? = none := Array.getElem?_eq_none (by simp at hlen; rw [hlen]; exact Nat.le_of_not_lt hk)
                simp [this]
              rw [e1, e2]
              exact rel_undef
          obtain ⟨b, y, hb, hy, hyr⟩ := load_obj hl hrel (fun i hi => ho i (by simp [hi]))
          refine ⟨y :: l, ?_, ?_⟩
          · have ha : (asAddr (tmps.getD a undef)).run P w = .ok b w := by rw [hb]; rfl
            rw [List.mapM_cons]
            simp only [Sem.run_bind, ha, Sem.run_pure, Result.andThen_ok, hy, hl2]
          · simp only [VList]
            exact ⟨y, l, rfl, hyr, hv⟩
      · simp at h
    · simp at h

def resOneC : List Value → Value
  | [v] => v
  | l => .tuple l.toArray

theorem results_run {fn : Func} {tmps : Array Value} {l : List Value} {w : World} (h : (fn.results.toList.mapM fun
        | .tmp t => pure (tmps.getD t undef)
        | .cell a t => do loadVar t (← asAddr (tmps.getD a undef)) : Sem (List Value)).run P w = .ok l w) :
    (results fn tmps).run P w = .ok (resOneC l) w := by
  unfold results
  rw [Sem.run_bind, Array.mapM_eq_mapM_toList, ← bind_pure_comp, Sem.run_bind]
  refine Eq.trans (congrArg (fun r => (Result.andThen (Result.andThen r fun a w' => Sem.run P (pure a.toArray) w') fun a w' => Sem.run P (pure (if h : a.size = 1 then a[0] else Value.tuple a)) w')) (show _ = Result.ok l w from h)) ?_
  simp only [Result.andThen_ok, Sem.run_pure]
  congr 1
  match l with
  | [v] => rfl
  | [] => rfl
  | _ :: _ :: _ => rfl

theorem frzRes_sound {st : St} {v v' : V} {ids : List Nat} (h : frzRes st v = some (v', ids)) : (∀ i ∈ ids, ∃ so, st.get i = some so) ∧
    ∀ ρ F w x, (∀ i ∈ ids, ∀ so, st.get i = some so → ObjRel ρ F w i so) → VRel ρ F w v x → VRel ρ (FB ρ F ids) w v' x := by
  unfold frzRes at h
  split at h
  · rename_i vs
    split at h
    · rename_i ps id1 hf
      simp only [Option.some.injEq, Prod.mk.injEq] at h
      obtain ⟨rfl, rfl⟩ := h
      refine ⟨frzAll_live hf, fun ρ F w x ho hx => ?_⟩
      simp only [VRel] at hx ⊢
      obtain ⟨l, hl, hv⟩ := hx
      exact ⟨l, hl, VList.of_PList (frzAll_sound ho hf (fun _ h => h) hv)⟩
    · simp at h
  · split at h
    · rename_i p id1 hf
      simp only [Option.some.injEq, Prod.mk.injEq] at h
      obtain ⟨rfl, rfl⟩ := h
      refine ⟨frz_live _ _ _ _ hf, fun ρ F w x ho hx => ?_⟩
      simp only [VRel]
      exact frz_sound ho _ _ _ _ _ hf (fun _ h => h) hx
    · simp at h

theorem replicate_undef {ρ : Ren} {F : Nat → Prop} {w : World} : ∀ k : Nat, VList ρ F w (List.replicate k undefV) (List.replicate k undef)
  | 0 => by simp [VList]
  | k + 1 => by simp only [List.replicate_succ, VList]; exact ⟨undef, _, rfl, rel_undef, replicate_undef k⟩

theorem progStat_at (h : progStat P = true) {f : FuncId} {fn : Func} {c : Code} (hf : P.funcs[f]? = some fn) (hb : fn.body = some c) : codeStat c = true := by
  unfold progStat at h
  have := List.all_eq_true.1 h fn (by simpa using Array.mem_of_getElem? hf)
  rw [hb] at this
  exact this

theorem call1_sound (hE : CallSound P E) (hL : LoopSound P E) (hO : OrcSound P C) (hmix : P.follows .mixedOrders = true) (hps : progStat P = true) {f : FuncId} {args : List V} {st : St} {o : Out} (h : call1 P C E f args st = some o) (hwf : st.WF) :
    Fine st o.st o.W ∧ (Live st o.R o.W ∧ ∀ i ∈ o.W, i < st.next) ∧
      ∀ ρ F w (vals : Array Value), Pre ρ F w st o.R o.W o.st.next → VList ρ F w args vals.toList →
        Calls P f vals w fun e w' => ∃ x v ρ' F', e = .returned x ∧ o.tm = [v] ∧ VRel ρ' F' w' v x ∧ Post ρ F w st ρ' F' w' o.st o.W := by
  unfold call1 at h
  split at h
  · rename_i fn hfn
    split at h
    · rename_i c hb
      split at h
      · rename_i o1 h1
        have hcode := vcode_sound hE hL hO hmix c _ st o1 h1 (progStat_at hps hfn hb) hwf
        obtain ⟨f1, l1, s1⟩ := hcode
        have memf : ∀ (X : List Nat) i, i ∈ X.filter (· < st.next) ↔ i ∈ X ∧ i < st.next := fun X i => by simp [List.mem_filter]
        -- the end
        have fin : ∀ (vs : List V) (R2 ids : List Nat) (v' : V) (st2 : St), (∀ i ∈ R2, ∃ so, o1.st.get i = some so) → (∀ i ∈ ids, ∃ so, o1.st.get i = some so) → st2 = o1.st.kills ids →
            (∀ ρ F w (tmps : Array Value), VList ρ F w o1.tm tmps.toList → (∀ i, i ∈ R2 ∨ i ∈ ids → ∀ so, o1.st.get i = some so → ObjRel ρ F w i so) →
              ∃ x, (results fn tmps).run P w = .ok x w ∧ VRel ρ (FB ρ F ids) w v' x) →
            o1.ex ≠ .norm ∧ o1.ex ≠ .ret → False ∨ True := fun _ _ _ _ _ _ _ _ _ _ => .inr trivial
        have main : ∀ (R2 ids : List Nat) (v' : V), (∀ i ∈ R2, ∃ so, o1.st.get i = some so) → (∀ i ∈ ids, ∃ so, o1.st.get i = some so) → (∀ id, o1.ex ≠ .exit id) →
            (∀ ρ F w (tmps : Array Value), VList ρ F w o1.tm tmps.toList → (∀ i, i ∈ R2 ∨ i ∈ ids → ∀ so, o1.st.get i = some so → ObjRel ρ F w i so) →
              ∃ x, (results fn tmps).run P w = .ok x w ∧ VRel ρ (FB ρ F ids) w v' x) →
            ∀ (o : Out), o = ⟨.ret, [v'], o1.st.kills ids, ((o1.R ++ R2) ++ ids).filter (· < st.next), (o1.W ++ ids).filter (· < st.next)⟩ →
            Fine st o.st o.W ∧ (Live st o.R o.W ∧ ∀ i ∈ o.W, i < st.next) ∧
              ∀ ρ F w (vals : Array Value), Pre ρ F w st o.R o.W o.st.next → VList ρ F w args vals.toList →
                Calls P f vals w fun e w' => ∃ x v ρ' F', e = .returned x ∧ o.tm = [v] ∧ VRel ρ' F' w' v x ∧ Post ρ F w st ρ' F' w' o.st o.W := by
          intro R2 ids v' hR2 hids hex hres o ho
          subst ho
          have fk := fine_kills f1.wf ids
          have fall := f1.trans fk
          have hl2 : Live o1.st R2 ids := fun i hi _ => hi.elim (hR2 i) (hids i)
          have lall : Live st (o1.R ++ R2) (o1.W ++ ids) := Live.trans f1 l1 hl2
          refine ⟨⟨fall.next, fun i hi hm => fall.same i hi (fun hx => hm ((memf _ i).2 ⟨hx, hi⟩)), fall.wf⟩, ⟨fun i hi hlt => ?_, fun i hi => ((memf _ i).1 hi).2⟩, ?_⟩
          · rcases hi with hi | hi
            · have := ((memf _ i).1 hi).1
              rcases List.mem_append.1 this with h | h
              · exact lall i (.inl h) hlt
              · exact lall i (.inr (by simp [h])) hlt
            · exact lall i (.inr ((memf _ i).1 hi).1) hlt
          · intro ρ F w vals hp hl
            have hpw : Pre ρ F w st (o1.R ++ R2) (o1.W ++ ids) o1.st.next := by
              refine ⟨hp.fok, fun i hi hm => hp.obj i hi ?_, fun i j hi hj him hjm hne => hp.inj i j hi hj ((memf _ i).2 ⟨him, hi⟩) ?_ hne, fun i h1 h2 => hp.fresh i h1 (by simpa [kills_next] using h2)⟩
              · rcases hm with h | h
                · exact .inl ((memf _ i).2 ⟨by simp at h ⊢; rcases h with h | h <;> simp [h], hi⟩)
                · exact .inr ((memf _ i).2 ⟨h, hi⟩)
              · rcases hjm with h | h
                · exact .inl ((memf _ j).2 ⟨by simp at h ⊢; rcases h with h | h <;> simp [h], hj⟩)
                · exact .inr ((memf _ j).2 ⟨h, hj⟩)
            refine calls_of_wp hfn hb ?_
            have htm : VList ρ F w (args ++ List.replicate (fn.ntmps - args.length) undefV) (vals ++ Array.replicate (fn.ntmps - vals.size) undef).toList := by
              have hlen : vals.size = args.length := by have := hl.length; simpa using this
              rw [Array.toList_append, Array.toList_replicate, hlen]
              exact hl.append (replicate_undef _)
            refine s1 ρ F w { tmps := vals ++ Array.replicate (fn.ntmps - vals.size) undef, defers := [] } _ (hpw.mono (fun i _ h => .inl (by simp [h])) (fun i _ h => by simp [h]) (Nat.le_refl _)) htm rfl fun a' w' ρ' F' hpost ht' hd' => ?_
            have hp2 : Pre ρ' F' w' o1.st R2 ids o1.st.next := Pre.next (R₁ := o1.R) hpw hpost f1 hl2 (fun i _ h => by simp [h]) (fun i _ h => .inl (by simp [h])) (fun i _ h => by simp [h]) l1
            obtain ⟨x, hx, hxr⟩ := hres ρ' F' w' a'.tmps ht' (fun i hi so hso => by
              obtain ⟨so', hg, ho⟩ := hp2.obj i (get_lt f1.wf hso) hi
              rw [hso] at hg
              cases hg
              exact ho)
            have hpf := post_freeze hp2 f1.wf (I := ids) (fun i h => h) hids
            have hpost2 : Post ρ F w st ρ' (FB ρ' F' ids) w' (o1.st.kills ids) (o1.W ++ ids) := Post.trans hpw hpost f1 hp2 hpf fk (fun i _ h => by simp [h]) (fun i _ h => by simp [h])
            have hpost3 := hpost2.mono (W' := (o1.W ++ ids).filter (· < st.next)) (fun i hi => by rw [memf]; exact ⟨fun h => ⟨h, hi⟩, fun h => h.1⟩)
            have hgo : a'.defers = [] ∧ ∃ v, (results fn a'.tmps).run P w' = .ok v w' ∧ ∃ x v_1 ρ' F', Ending.returned v = .returned x ∧ ([v'] : List V) = [v_1] ∧ VRel ρ' F' w' v_1 x ∧ Post ρ F w st ρ' F' w' (o1.st.kills ids) ((o1.W ++ ids).filter (· < st.next)) :=
              ⟨hd', x, hx, x, v', ρ', FB ρ' F' ids, rfl, rfl, hxr, hpost3⟩
            cases hxx : o1.ex with
            | norm => exact hgo
            | ret => exact hgo
            | exit id => exact absurd hxx (hex id)
        clear fin
        split at h
        · simp at h
        · rename_i hne
          have hex : ∀ id, o1.ex ≠ .exit id := fun id e => hne id e
          split at h
          · rename_i vs R2 hres
            obtain ⟨g1, g2⟩ := resV_get hres
            -- the result before it is frozen
            have hrv : ∀ ρ F w (tmps : Array Value), VList ρ F w o1.tm tmps.toList → (∀ i ∈ R2, ∀ so, o1.st.get i = some so → ObjRel ρ F w i so) →
                ∃ x, (results fn tmps).run P w = .ok x w ∧ VRel ρ F w (resOne vs) x := by
              intro ρ F w tmps ht ho
              obtain ⟨l, hl, hv⟩ := g2 ρ F w tmps ht ho
              refine ⟨_, results_run hl, ?_⟩
              have hlen := hv.length
              clear hl hres g2
              match vs, l, hv, hlen with
              | [v], [x], hv, _ =>
                simp only [VList] at hv
                obtain ⟨y, ys, he, hr, hys⟩ := hv
                simp only [List.cons.injEq] at he
                show VRel ρ F w v x
                rw [he.1]
                exact hr
              | [], [], hv, _ => show VRel ρ F w (.tup []) (.tuple #[]); simp only [VRel]; exact ⟨_, rfl, by simp [VList]⟩
              | a :: b :: vs, c :: d :: l, hv, _ => show VRel ρ F w (.tup (a :: b :: vs)) (.tuple (c :: d :: l).toArray); simp only [VRel]; exact ⟨_, rfl, by simpa using hv⟩
            generalize resOne vs = v at hrv h
            unfold finish at h
            have noids : ∀ v' : V, (∀ ρ F w x, VRel ρ F w v x → VRel ρ F w v' x) → ∀ ρ F w (tmps : Array Value), VList ρ F w o1.tm tmps.toList → (∀ i, i ∈ R2 ∨ i ∈ ([] : List Nat) → ∀ so, o1.st.get i = some so → ObjRel ρ F w i so) →
                ∃ x, (results fn tmps).run P w = .ok x w ∧ VRel ρ (FB ρ F []) w v' x := by
              intro v' hv' ρ F w tmps ht ho
              obtain ⟨x, hx, hr⟩ := hrv ρ F w tmps ht (fun i hi => ho i (.inl hi))
              exact ⟨x, hx, VRel.mono (ext_fb []) (rle_refl ρ) _ _ (hv' ρ F w x hr)⟩
            split at h
            · simp only [Option.some.injEq] at h
              exact main R2 [] v g1 (by simp) hex (noids v fun _ _ _ _ h => h) o (by rw [← h]; simp [St.kills])
            · split at h
              · rename_i v' ids hf
                simp only [Option.some.injEq] at h
                obtain ⟨k1, k2⟩ := frzRes_sound hf
                refine main R2 ids v' g1 k1 hex (fun ρ F w tmps ht ho => ?_) o h.symm
                obtain ⟨x, hx, hr⟩ := hrv ρ F w tmps ht (fun i hi => ho i (.inl hi))
                exact ⟨x, hx, k2 ρ F w x (fun i hi => ho i (.inr hi)) hr⟩
              · split at h
                all_goals first
                  | (simp at h; done)
                  | (simp only [Option.some.injEq] at h; exact main R2 [] v.norm g1 (by simp) hex (noids v.norm fun _ _ _ x h => rel_norm v x h) o (by rw [← h]; simp [St.kills]))
          · simp at h
      · simp at h
    · simp at h
  · simp at h

theorem evN_sound (hO : OrcSound P C) (hmix : P.follows .mixedOrders = true) (hps : progStat P = true) : ∀ n, CallSound P (evN P C n) ∧ LoopSound P (evN P C n) := by
  intro n
  induction n using Nat.strongRecOn with
  | _ n ih =>
    have hcodeAt : ∀ m, m < n → ∀ (c : Code) (tm : List V) (st : St) (o : Out), vcode P C (evN P C m) c tm st = some o → codeStat c = true → st.WF → CodeSays P c tm st o := fun m hm => vcode_sound (ih m hm).1 (ih m hm).2 hO hmix
    cases n with
    | zero => exact ⟨fun f args st o h => by simp [evN] at h, fun c tm st o h => by simp [evN] at h⟩
    | succ n =>
      have hn := ih n (Nat.lt_succ_self n)
      refine ⟨fun f args st o h hwf => ?_, fun c tm st o h hst hwf => ?_⟩
      · simp only [evN, stepE] at h
        exact call1_sound hn.1 hn.2 hO hmix hps h hwf
      · have flive : Fine st o.st o.W ∧ Live st o.R o.W := by
          simp only [evN, stepE] at h
          split at h
          · rename_i o1 h1
            obtain ⟨f1, l1, -⟩ := hcodeAt n (Nat.lt_succ_self n) c tm st o1 h1 hst hwf
            split at h
            · split at h
              · rename_i o2 h2
                simp only [Option.some.injEq] at h
                subst h
                obtain ⟨f2, l2, -⟩ := hn.2 c o1.tm o1.st o2 h2 hst f1.wf
                exact ⟨f1.trans f2, Live.trans f1 l1 l2⟩
              · simp at h
            · simp only [Option.some.injEq] at h
              subst h
              exact ⟨f1, l1⟩
          · simp at h
        refine ⟨flive.1, flive.2, fun ρ F w a Q hp ht hd hQ => ?_⟩
        refine wp_loop_ghost (fun k a' w' => k ≤ n + 1 ∧ ∃ tm' st' o' ρ' F', evN P C k (.loop c tm' st') = some o' ∧ st'.WF ∧ Pre ρ' F' w' st' o'.R o'.W o'.st.next ∧ VList ρ' F' w' tm' a'.tmps.toList ∧ a'.defers = [] ∧
          ∀ a'' w'' ρ'' F'', Post ρ' F' w' st' ρ'' F'' w'' o'.st o'.W → VList ρ'' F'' w'' o'.tm a''.tmps.toList → a''.defers = [] → Q (exOf o'.ex) a'' w'') (n + 1)
          ⟨Nat.le_refl _, tm, st, o, ρ, F, h, hwf, hp, ht, hd, hQ⟩ ?_
        rintro k a' w' ⟨hk, tm', st', o', ρ', F', hev, hwf', hp', ht', hd', hQ'⟩
        cases k with
        | zero => simp [evN] at hev
        | succ k =>
          simp only [evN, stepE] at hev
          split at hev
          · rename_i o1 h1
            obtain ⟨f1, l1, s1⟩ := hcodeAt k (by omega) c tm' st' o1 h1 hst hwf'
            split at hev
            · rename_i hex
              split at hev
              · rename_i o2 h2
                simp only [Option.some.injEq] at hev
                subst hev
                obtain ⟨f2, l2, -⟩ := (ih k (by omega)).2 c o1.tm o1.st o2 h2 hst f1.wf
                refine s1 ρ' F' w' a' _ (hp'.mono (fun i _ h => .inl (by simp [h])) (fun i _ h => by simp [h]) f2.next) ht' hd' fun a'' w'' ρ'' F'' hpost ht'' hd'' => ?_
                rw [hex]
                have hp2 : Pre ρ'' F'' w'' o1.st o2.R o2.W o2.st.next := Pre.next (R₁ := o1.R) hp' hpost f1 l2 (fun i _ h => by simp [h]) (fun i _ h => .inl (by simp [h])) (fun i _ h => by simp [h]) l1
                refine ⟨k, Nat.lt_succ_self k, by omega, o1.tm, o1.st, o2, ρ'', F'', h2, f1.wf, hp2, ht'', hd'', fun a3 w3 ρ3 F3 hpost3 ht3 hd3 => ?_⟩
                exact hQ' a3 w3 ρ3 F3 (Post.trans hp' hpost f1 hp2 hpost3 f2 (fun i _ h => by simp [h]) (fun i _ h => by simp [h])) ht3 hd3
              · simp at hev
            · rename_i hex
              simp only [Option.some.injEq] at hev
              subst hev
              refine s1 ρ' F' w' a' _ hp' ht' hd' fun a'' w'' ρ'' F'' hpost ht'' hd'' => ?_
              have := hQ' a'' w'' ρ'' F'' hpost ht'' hd''
              cases hx : o1.ex with
              | norm => exact absurd hx hex
              | exit id => rw [hx] at this; exact this
              | ret => rw [hx] at this; exact this
          · simp at hev

end

end Go.Proofs.Ytfieppbehmglbaa.Ve
