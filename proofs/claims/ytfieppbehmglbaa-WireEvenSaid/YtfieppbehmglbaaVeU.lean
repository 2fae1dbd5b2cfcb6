import Derived.Test.YtfieppbehmglbaaVeT
import Derived.Below
/-! The evaluator without a bound. -/
set_option linter.unusedVariables false
set_option linter.unusedSimpArgs false
namespace Go.Proofs.Ytfieppbehmglbaa.Ve
open Go

section
variable {P : Program} {C : Cfg} {Es : Nat → Task → Option Out} {E : Task → Option Out}

/-- E says no more than the Es say in the end. -/
def Ap (Es : Nat → Task → Option Out) (E : Task → Option Out) : Prop := ∀ t o, E t = some o → ∃ n, ∀ m, n ≤ m → Es m t = some o

theorem pcall_ap (H : Ap Es E) {g : FuncId} {ps : List PV} {v : V} (h : pcall E g ps = some v) : ∃ n, ∀ m, n ≤ m → pcall (Es m) g ps = some v := by
  unfold pcall at h
  split at h
  · rename_i o ho
    obtain ⟨n, hn⟩ := H _ _ ho
    refine ⟨n, fun m hm => ?_⟩
    unfold pcall
    rw [hn m hm]
    exact h
  · simp at h

theorem docall_ap (H : Ap Es E) {g : FuncId} {args : List V} {st : St} {r : RV} (h : docall C E g args st = some r) : ∃ n, ∀ m, n ≤ m → docall C (Es m) g args st = some r := by
  unfold docall at h
  split at h
  · rename_i hp
    split at h
    · rename_i ps ids hf
      split at h
      · rename_i v hv
        obtain ⟨n, hn⟩ := pcall_ap H hv
        refine ⟨n, fun m hm => ?_⟩
        unfold docall
        rw [hp]
        simp only [hf, hn m hm]
        exact h
      · simp at h
    · simp at h
  · rename_i hp
    refine ⟨0, fun m _ => ?_⟩
    unfold docall
    rw [hp]
    exact h
  · rename_i hp
    cases hf : frzArgs st args with
    | mk as ids =>
    simp only [hf] at h
    split at h
    · rename_i o ho
      obtain ⟨n, hn⟩ := H _ _ ho
      refine ⟨n, fun m hm => ?_⟩
      unfold docall
      rw [hp]
      simp only [hf, hn m hm]
      exact h
    · simp at h
  · rename_i hp
    split at h
    · rename_i o ho
      obtain ⟨n, hn⟩ := H _ _ ho
      refine ⟨n, fun m hm => ?_⟩
      unfold docall
      rw [hp]
      simp only [hn m hm]
      exact h
    · simp at h
  · rename_i hp
    split at h
    · rename_i o ho
      obtain ⟨n, hn⟩ := H _ _ ho
      refine ⟨n, fun m hm => ?_⟩
      unfold docall
      rw [hp]
      simp only [hn m hm]
      exact h
    · simp at h

theorem vexec_ap (H : Ap Es E) {env : Operand → Option V} {o : Oper} {st : St} {r : RV} (h : vexec P C E env o st = some r) : ∃ n, ∀ m, n ≤ m → vexec P C (Es m) env o st = some r := by
  unfold vexec at h
  split at h
  · rename_i c hop
    split at h
    · rename_i b hc
      refine ⟨0, fun m _ => ?_⟩
      unfold vexec
      rw [hop]
      simp only [hc]
      exact h
    · rename_i hc
      split at h
      · rename_i g args R0 ht
        split at h
        · rename_i hb
          split at h
          · rename_i v st' R W hd
            obtain ⟨n, hn⟩ := docall_ap H hd
            refine ⟨n, fun m hm => ?_⟩
            unfold vexec
            rw [hop]
            simp only [ht, hb, if_true, hn m hm]
            exact h
          · simp at h
        · rename_i hb
          refine ⟨0, fun m _ => ?_⟩
          unfold vexec
          rw [hop]
          simp only [ht, hb, Bool.false_eq_true, if_false]
          exact h
      · simp at h
  · rename_i hop
    refine ⟨0, fun m _ => ?_⟩
    unfold vexec
    split
    · rename_i c hc
      exact absurd hc (hop c)
    · exact h

theorem vops_ap (H : Ap Es E) {ops : Array Oper} : ∀ {os : List Oper} {tm : List V} {st : St} {r : List V × St × List Ent}, vops P C E ops os tm st = some r → ∃ n, ∀ m, n ≤ m → vops P C (Es m) ops os tm st = some r
  | [], tm, st, r, h => ⟨0, fun m _ => h⟩
  | o :: os, tm, st, r, h => by
    simp only [vops] at h
    split at h
    · rename_i hw
      split at h
      · rename_i v st' R W hx
        split at h
        · rename_i tm' st'' l hv
          obtain ⟨n1, h1⟩ := vexec_ap H hx
          obtain ⟨n2, h2⟩ := vops_ap H hv
          refine ⟨max n1 n2, fun m hm => ?_⟩
          simp only [vops, hw, h1 m (by omega), h2 m (by omega)]
          exact h
        · simp at h
      · simp at h
    · rename_i hw
      split at h
      · rename_i tm' st'' l hv
        obtain ⟨n2, h2⟩ := vops_ap H hv
        refine ⟨n2, fun m hm => ?_⟩
        simp only [vops, hw, h2 m hm]
        exact h
      · simp at h

theorem vcode_ap (H : Ap Es E) : ∀ (c : Code) (tm : List V) (st : St) (o : Out), vcode P C E c tm st = some o → ∃ n, ∀ m, n ≤ m → vcode P C (Es m) c tm st = some o := by
  intro c
  induction c with
  | seq x y ihx ihy =>
    intro tm st o h
    simp only [vcode] at h
    split at h
    · rename_i o1 h1
      obtain ⟨n1, k1⟩ := ihx tm st o1 h1
      split at h
      · rename_i hex
        split at h
        · rename_i o2 h2
          obtain ⟨n2, k2⟩ := ihy _ _ _ h2
          refine ⟨max n1 n2, fun m hm => ?_⟩
          simp only [vcode, k1 m (by omega), hex, k2 m (by omega)]
          exact h
        · simp at h
      · rename_i hex
        refine ⟨n1, fun m hm => ?_⟩
        simp only [vcode, k1 m hm]
        exact h
    · simp at h
  | cond c x y ihx ihy =>
    intro tm st o h
    simp only [vcode] at h
    split at h
    · rename_i t hc
      cases t with
      | true =>
        obtain ⟨n, k⟩ := ihx tm st o h
        exact ⟨n, fun m hm => by simp only [vcode, hc]; exact k m hm⟩
      | false =>
        obtain ⟨n, k⟩ := ihy tm st o h
        exact ⟨n, fun m hm => by simp only [vcode, hc]; exact k m hm⟩
    · simp at h
  | block id c ih =>
    intro tm st o h
    simp only [vcode] at h
    split at h
    · rename_i o1 h1
      obtain ⟨n, k⟩ := ih tm st o1 h1
      exact ⟨n, fun m hm => by simp only [vcode, k m hm]; exact h⟩
    · simp at h
  | scope c ih =>
    intro tm st o h
    simp only [vcode] at h
    obtain ⟨n, k⟩ := ih tm st o h
    exact ⟨n, fun m hm => by simp only [vcode]; exact k m hm⟩
  | loop c ih =>
    intro tm st o h
    simp only [vcode] at h
    obtain ⟨n, k⟩ := H _ _ h
    exact ⟨n, fun m hm => by simp only [vcode]; exact k m hm⟩
  | region id ops draw =>
    intro tm st o h
    simp only [vcode] at h
    split at h
    · rename_i tm' st' l hv
      obtain ⟨n, k⟩ := vops_ap H hv
      exact ⟨n, fun m hm => by simp only [vcode, k m hm]; exact h⟩
    · simp at h
  | skip => intro tm st o h; exact ⟨0, fun m _ => h⟩
  | label l => intro tm st o h; exact ⟨0, fun m _ => h⟩
  | exit id => intro tm st o h; exact ⟨0, fun m _ => h⟩
  | ret => intro tm st o h; exact ⟨0, fun m _ => h⟩
  | rangeFunc f ps as body _ _ => intro tm st o h; simp [vcode] at h
  | goto l => intro tm st o h; simp [vcode] at h
  | refuse w => intro tm st o h; simp [vcode] at h

theorem stepE_ap (H : Ap Es E) {t : Task} {o : Out} (h : stepE P C E t = some o) : ∃ n, ∀ m, n ≤ m → stepE P C (Es m) t = some o := by
  cases t with
  | call f args st =>
    simp only [stepE] at h
    unfold call1 at h
    split at h
    · rename_i fn hf
      split at h
      · rename_i c hc
        split at h
        · rename_i o1 h1
          obtain ⟨n, k⟩ := vcode_ap H _ _ _ _ h1
          refine ⟨n, fun m hm => ?_⟩
          simp only [stepE]
          unfold call1
          simp only [hf, hc, k m hm]
          exact h
        · simp at h
      · simp at h
    · simp at h
  | loop c tm st =>
    simp only [stepE] at h
    split at h
    · rename_i o1 h1
      obtain ⟨n1, k1⟩ := vcode_ap H _ _ _ _ h1
      split at h
      · rename_i hex
        split at h
        · rename_i o2 h2
          obtain ⟨n2, k2⟩ := H _ _ h2
          refine ⟨max n1 n2, fun m hm => ?_⟩
          simp only [stepE, k1 m (by omega), hex, k2 m (by omega)]
          exact h
        · simp at h
      · rename_i hex
        refine ⟨n1, fun m hm => ?_⟩
        simp only [stepE, k1 m hm]
        exact h
    · simp at h

theorem stepE_mono {E' : Task → Option Out} (H : ∀ t o, E t = some o → E' t = some o) {t : Task} {o : Out} (h : stepE P C E t = some o) : stepE P C E' t = some o := by
  obtain ⟨n, hn⟩ := stepE_ap (Es := fun _ => E') (fun t o h => ⟨0, fun _ _ => H t o h⟩) h
  exact hn n (Nat.le_refl n)

theorem evN_succ : ∀ (n : Nat) (t : Task) (o : Out), evN P C n t = some o → evN P C (n + 1) t = some o
  | 0, t, o, h => by simp [evN] at h
  | n + 1, t, o, h => by
    simp only [evN] at h ⊢
    exact stepE_mono (evN_succ n) h

theorem evN_le {n m : Nat} (hm : n ≤ m) {t : Task} {o : Out} (h : evN P C n t = some o) : evN P C m t = some o := by
  induction m with
  | zero => have : n = 0 := by omega
            rw [this] at h; exact h
  | succ m ih =>
    by_cases e : n = m + 1
    · rw [← e]; exact h
    · exact evN_succ m t o (ih (by omega))

open Classical in
/-- What the evaluator says, with as many rounds as it takes. -/
noncomputable def Ew (P : Program) (C : Cfg) (t : Task) : Option Out := if h : ∃ n o, evN P C n t = some o then evN P C (Classical.choose h) t else none

theorem ew_of {n : Nat} {t : Task} {o : Out} (h : evN P C n t = some o) : Ew P C t = some o := by
  unfold Ew
  have hx : ∃ n o, evN P C n t = some o := ⟨n, o, h⟩
  rw [dif_pos hx]
  obtain ⟨o', ho'⟩ := Classical.choose_spec hx
  rcases Nat.le_total n (Classical.choose hx) with hle | hle
  · exact evN_le hle h
  · have := evN_le hle ho'
    rw [h] at this
    rw [ho', this]

theorem ew_back {t : Task} {o : Out} (h : Ew P C t = some o) : ∃ n, ∀ m, n ≤ m → evN P C m t = some o := by
  unfold Ew at h
  split at h
  · exact ⟨_, fun m hm => evN_le hm h⟩
  · simp at h

theorem ew_eq (t : Task) : Ew P C t = stepE P C (Ew P C) t := by
  have h1 : ∀ o, Ew P C t = some o → stepE P C (Ew P C) t = some o := by
    intro o h
    obtain ⟨n, hn⟩ := ew_back h
    have := hn (n + 1) (by omega)
    simp only [evN] at this
    exact stepE_mono (fun t o h => ew_of h) this
  have h2 : ∀ o, stepE P C (Ew P C) t = some o → Ew P C t = some o := by
    intro o h
    obtain ⟨n, hn⟩ := stepE_ap (Es := evN P C) (fun t o h => ew_back h) h
    exact ew_of (n := n + 1) (by simp only [evN]; exact hn n (Nat.le_refl n))
  cases hx : Ew P C t with
  | some o => exact (h1 o hx).symm
  | none =>
    cases hy : stepE P C (Ew P C) t with
    | none => rfl
    | some o => rw [h2 o hy] at hx; cases hx

theorem ew_sound (hO : OrcSound P C) (hmix : P.follows .mixedOrders = true) (hps : progStat P = true) : CallSound P (Ew P C) := fun f args st o h hwf => by
  obtain ⟨n, hn⟩ := ew_back h
  exact (evN_sound hO hmix hps n).1 f args st o (hn n (Nat.le_refl n)) hwf

/-- The end: what is evaluated is what the program does. -/
theorem ew_calls (hO : OrcSound P C) (hmix : P.follows .mixedOrders = true) (hps : progStat P = true) {f : FuncId} {ps : List PV} {x : Value} (h : pcall (Ew P C) f ps = some (.pv (.sc x))) {w : World} {vals : Array Value} (hl : PList (fun B => B < w.heap.size) w ps vals.toList) :
    Calls P f vals w fun e w' => e = .returned x ∧ RowKit.Below w.heap.size w w' := by
  refine (pureCall_of_pcall (ew_sound hO hmix hps) h (fun B => B < w.heap.size) w vals (fun _ h => h) hl).mono ?_
  rintro e w' ⟨y, F', rfl, hr, h1, h2, h3, h4, ⟨⟨o1, o2, o3⟩, -⟩, h6⟩
  have := hr (fun _ => none)
  simp only [VRel, PRel] at this
  subst this
  exact ⟨rfl, o1, o2, o3, h4, h6⟩

theorem orc_none {pol : FuncId → Pol} : OrcSound P ⟨pol, fun _ _ => none⟩ := fun f ps v h => by cases h

end

end Go.Proofs.Ytfieppbehmglbaa.Ve
