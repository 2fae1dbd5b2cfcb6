import Derived.Test.YtfieppbehmglbaaVeP
/-! A region whose order is open: the trace in the order of the text, and what of it has been done. -/
set_option linter.unusedVariables false
set_option linter.unusedSimpArgs false
namespace Go.Proofs.Ytfieppbehmglbaa.Ve
open Go

section
open Classical
variable {X : Type}

/-- What stands at a place when the operations of L have been done. -/
noncomputable def cur (val : Nat → X) (touch : Nat → Prop) (L : Nat → Bool) : Nat → X
  | 0 => val 0
  | k + 1 => if L k = true ∧ touch k then val (k + 1) else cur val touch L k

variable {val : Nat → X} {touch : Nat → Prop} {L : Nat → Bool}

theorem cur_up (same : ∀ k, ¬ touch k → val (k + 1) = val k) : ∀ i, (∀ k, k < i → touch k → L k = true) → cur val touch L i = val i
  | 0, _ => rfl
  | i + 1, h => by
    simp only [cur]
    by_cases ht : touch i
    · rw [if_pos ⟨h i (Nat.lt_succ_self i) ht, ht⟩]
    · rw [if_neg (fun x => ht x.2), cur_up same i (fun k hk => h k (Nat.lt_succ_of_lt hk)), same i ht]

theorem cur_keep {i : Nat} : ∀ n, i ≤ n → (∀ k, i ≤ k → k < n → L k = true → ¬ touch k) → cur val touch L n = cur val touch L i
  | 0, hn, _ => by
    have : i = 0 := by omega
    rw [this]
  | n + 1, hn, h => by
    by_cases e : i = n + 1
    · rw [e]
    · simp only [cur]
      rw [if_neg (fun x => h n (by omega) (Nat.lt_succ_self n) x.1 x.2)]
      exact cur_keep n (by omega) (fun k h1 h2 => h k h1 (Nat.lt_succ_of_lt h2))

theorem cur_at (same : ∀ k, ¬ touch k → val (k + 1) = val k) {i n : Nat} (hi : i ≤ n) (h1 : ∀ k, k < i → touch k → L k = true) (h2 : ∀ k, i ≤ k → k < n → L k = true → ¬ touch k) : cur val touch L n = val i :=
  (cur_keep n hi h2).trans (cur_up same i h1)

theorem cur_none (h : ∀ k, L k = false) : ∀ n, cur val touch L n = val 0
  | 0 => rfl
  | n + 1 => by
    simp only [cur]
    rw [if_neg (by simp [h n])]
    exact cur_none h n

theorem cur_congr {L' : Nat → Bool} : ∀ n, (∀ k, k < n → touch k → L k = L' k) → cur val touch L n = cur val touch L' n
  | 0, _ => rfl
  | n + 1, h => by
    simp only [cur]
    rw [cur_congr n (fun k hk => h k (Nat.lt_succ_of_lt hk))]
    by_cases ht : touch n
    · simp only [ht, and_true, h n (Nat.lt_succ_self n) ht]
    · simp [ht]

/-- L with one more. -/
def addL (L : Nat → Bool) (i : Nat) : Nat → Bool := fun k => if k = i then true else L k

theorem cur_add_touch {i n : Nat} (hi : i < n) (ht : touch i) (h : ∀ k, i < k → k < n → L k = true → ¬ touch k) : cur val touch (addL L i) n = val (i + 1) := by
  rw [cur_keep (i := i + 1) n hi (fun k h1 h2 h3 => h k h1 h2 (by simpa [addL, show k ≠ i by omega] using h3))]
  simp only [cur]
  rw [if_pos ⟨by simp [addL], ht⟩]

theorem cur_add_no {i n : Nat} (ht : ¬ touch i) : cur val touch (addL L i) n = cur val touch L n :=
  cur_congr n fun k hk htk => by
    have : k ≠ i := fun e => ht (e ▸ htk)
    simp [addL, this]

end

section
variable {P : Program} {C : Cfg} {E : Task → Option Out}

/-- The trace of a region in the order of the text. -/
structure Trace (P : Program) (C : Cfg) (E : Task → Option Out) (ops : Array Oper) (n : Nat) (S : Nat → St) (T : Nat → List V) (en : Nat → Ent) (op : Nat → Oper) : Prop where
  opk : ∀ k, k < n → ops[k]? = some (op k)
  pre : ∀ k, k < n → (en k).pre = S k
  post : ∀ k, k < n → (en k).post = S (k + 1)
  tm : ∀ k, k < n → T (k + 1) = setTm (T k) (op k).dst (en k).v
  run : ∀ k, k < n → (vwanted ops (T k) (op k) = true ∧ vexec P C E (envOf (T k)) (op k) (S k) = some ((en k).v, S (k + 1), (en k).R, (en k).W)) ∨
    (vwanted ops (T k) (op k) = false ∧ (en k).v = undefV ∧ S (k + 1) = S k ∧ (en k).R = [] ∧ (en k).W = [])

theorem vops_trace {ops : Array Oper} : ∀ {os : List Oper} {tm : List V} {st : St} {tm' : List V} {st' : St} {log : List Ent}, vops P C E ops os tm st = some (tm', st', log) →
    ∃ (S : Nat → St) (T : Nat → List V) (en : Nat → Ent) (op : Nat → Oper), S 0 = st ∧ T 0 = tm ∧ S os.length = st' ∧ T os.length = tm' ∧ log.length = os.length ∧
      ∀ k, k < os.length → os[k]? = some (op k) ∧ log[k]? = some (en k) ∧ (en k).pre = S k ∧ (en k).post = S (k + 1) ∧ T (k + 1) = setTm (T k) (op k).dst (en k).v ∧
        ((vwanted ops (T k) (op k) = true ∧ vexec P C E (envOf (T k)) (op k) (S k) = some ((en k).v, S (k + 1), (en k).R, (en k).W)) ∨
          (vwanted ops (T k) (op k) = false ∧ (en k).v = undefV ∧ S (k + 1) = S k ∧ (en k).R = [] ∧ (en k).W = []))
  | [], tm, st, tm', st', log, h => by
    simp only [vops, Option.some.injEq, Prod.mk.injEq] at h
    obtain ⟨rfl, rfl, rfl⟩ := h
    exact ⟨fun _ => st, fun _ => tm, fun _ => ⟨st, st, [], [], undefV⟩, fun _ => default, rfl, rfl, rfl, rfl, rfl, fun k hk => absurd hk (Nat.not_lt_zero _)⟩
  | o :: os, tm, st, tm', st', log, h => by
    have fin : ∀ (v : V) (st1 : St) (R W : List Nat) (l : List Ent), vops P C E ops os (setTm tm o.dst v) st1 = some (tm', st', l) → log = ⟨st, st1, R, W, v⟩ :: l →
        ((vwanted ops tm o = true ∧ vexec P C E (envOf tm) o st = some (v, st1, R, W)) ∨ (vwanted ops tm o = false ∧ v = undefV ∧ st1 = st ∧ R = [] ∧ W = [])) →
        ∃ (S : Nat → St) (T : Nat → List V) (en : Nat → Ent) (op : Nat → Oper), S 0 = st ∧ T 0 = tm ∧ S (o :: os).length = st' ∧ T (o :: os).length = tm' ∧ log.length = (o :: os).length ∧
          ∀ k, k < (o :: os).length → (o :: os)[k]? = some (op k) ∧ log[k]? = some (en k) ∧ (en k).pre = S k ∧ (en k).post = S (k + 1) ∧ T (k + 1) = setTm (T k) (op k).dst (en k).v ∧
            ((vwanted ops (T k) (op k) = true ∧ vexec P C E (envOf (T k)) (op k) (S k) = some ((en k).v, S (k + 1), (en k).R, (en k).W)) ∨
              (vwanted ops (T k) (op k) = false ∧ (en k).v = undefV ∧ S (k + 1) = S k ∧ (en k).R = [] ∧ (en k).W = [])) := by
      intro v st1 R W l hv hlog hrun
      obtain ⟨S, T, en, op, h1, h2, h3, h4, h5, h6⟩ := vops_trace hv
      subst hlog
      refine ⟨fun | 0 => st | k + 1 => S k, fun | 0 => tm | k + 1 => T k, fun | 0 => ⟨st, st1, R, W, v⟩ | k + 1 => en k, fun | 0 => o | k + 1 => op k, rfl, rfl, h3, h4, by simp [h5], fun k hk => ?_⟩
      cases k with
      | zero =>
        refine ⟨rfl, rfl, rfl, h1.symm, h2, ?_⟩
        show (vwanted ops tm o = true ∧ vexec P C E (envOf tm) o st = some (v, S 0, R, W)) ∨ (vwanted ops tm o = false ∧ v = undefV ∧ S 0 = st ∧ R = [] ∧ W = [])
        rw [h1]
        exact hrun
      | succ k =>
        have := h6 k (by simpa using hk)
        simpa using this
    simp only [vops] at h
    split at h
    · rename_i hw
      split at h
      · rename_i v st1 R W hx
        split at h
        · rename_i tm1 st2 l hv
          simp only [Option.some.injEq, Prod.mk.injEq] at h
          obtain ⟨rfl, rfl, hl⟩ := h
          exact fin v st1 R W l hv hl.symm (.inl ⟨hw, hx⟩)
        · simp at h
      · simp at h
    · rename_i hw
      split at h
      · rename_i tm1 st2 l hv
        simp only [Option.some.injEq, Prod.mk.injEq] at h
        obtain ⟨rfl, rfl, hl⟩ := h
        exact fin undefV st [] [] l hv hl.symm (.inr ⟨hw, rfl, rfl, rfl, rfl⟩)
      · simp at h

/-- Which objects an operation makes, or writes. -/
def touchO (S : Nat → St) (en : Nat → Ent) (i k : Nat) : Prop := i ∈ (en k).W ∨ ((S k).next ≤ i ∧ i < (S (k + 1)).next)
/-- Which temporary it writes. -/
def touchT (n : Nat) (op : Nat → Oper) (t k : Nat) : Prop := k < n ∧ (op k).dst = some t

variable {ops : Array Oper} {n : Nat} {S : Nat → St} {T : Nat → List V} {en : Nat → Ent} {op : Nat → Oper}

theorem Trace.fine (h : Trace P C E ops n S T en op) (hE : CallSound P E) (hO : OrcSound P C) (h0 : (S 0).WF) : ∀ k, k < n → (S k).WF ∧ Fine (S k) (S (k + 1)) (en k).W ∧ Live (S k) (en k).R (en k).W ∧ ∀ i ∈ (en k).W, i < (S k).next := by
  intro k
  induction k with
  | zero =>
    intro hk
    rcases h.run 0 hk with ⟨-, hx⟩ | ⟨-, -, hs, hR, hW⟩
    · obtain ⟨g1, g2, -⟩ := vexec_sound hE hO hx h0
      exact ⟨h0, g1, g2⟩
    · rw [hs, hR, hW]
      exact ⟨h0, fine_same h0, Live.nil _, by simp⟩
  | succ k ih =>
    intro hk
    obtain ⟨-, f, -⟩ := ih (by omega)
    have hwf := f.wf
    rcases h.run (k + 1) hk with ⟨-, hx⟩ | ⟨-, -, hs, hR, hW⟩
    · obtain ⟨g1, g2, -⟩ := vexec_sound hE hO hx hwf
      exact ⟨hwf, g1, g2⟩
    · rw [hs, hR, hW]
      exact ⟨hwf, fine_same hwf, Live.nil _, by simp⟩

theorem Trace.next_le (hf : ∀ k, k < n → (S k).WF ∧ Fine (S k) (S (k + 1)) (en k).W ∧ Live (S k) (en k).R (en k).W ∧ ∀ i ∈ (en k).W, i < (S k).next) {i : Nat} : ∀ k, i ≤ k → k ≤ n → (S i).next ≤ (S k).next := by
  intro k
  induction k with
  | zero => intro h1 h2; have : i = 0 := by omega
            rw [this]; exact Nat.le_refl _
  | succ k ih =>
    intro h1 h2
    by_cases e : i = k + 1
    · rw [e]; exact Nat.le_refl _
    · exact Nat.le_trans (ih (by omega) (by omega)) (hf k (by omega)).2.1.next

end

end Go.Proofs.Ytfieppbehmglbaa.Ve
