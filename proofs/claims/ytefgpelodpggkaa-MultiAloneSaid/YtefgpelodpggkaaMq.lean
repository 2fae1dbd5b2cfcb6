import Derived.Test.YtefgpelodpggkaaMp
set_option linter.unusedVariables false
set_option linter.unusedSimpArgs false
namespace Go.Proofs.Ytefgpelodpggkaa.Ve
open Go XFlt
set_option maxRecDepth 4000
theorem al_go {rs : StepR} {N : Nat} {ps : Pts} {f : RF} (h : (rs ps f).2.2.2 = false) : aloneR rs (N + 1) ps f = aloneR rs N (rs ps f).1 (rs ps f).2.1 := by
  simp only [aloneR, h, Bool.false_eq_true, if_false]
theorem al_end {rs : StepR} {N : Nat} {ps : Pts} {f : RF} (h : (rs ps f).2.2.2 = true) : aloneR rs (N + 1) ps f = ((rs ps f).1, (rs ps f).2.2.1, true) := by
  simp only [aloneR, h, if_true]
theorem okRun_m {n : Int} (hn : 1 ≤ n ∧ n ≤ 16) : ∀ (N : Nat) (ps : Pts) (f : RF), ps.length + N < 2 ^ 20 → MMem ps.length ps → MFr f → okRun (multiR n) (MOk n) N ps f
  | 0, _, _, _, _, _ => trivial
  | N + 1, ps, f, hl, hm, hf => by
    obtain ⟨h1, h2⟩ := multiR_inv n _ ps f hm hf
    have h3 := h1.len
    exact ⟨⟨hn, by omega, hm.gl, hf⟩, fun hd => okRun_m hn N _ _ (by omega) ⟨h1.gl, Nat.le_refl _⟩ (h2 hd)⟩
theorem may_now {n : Int} (hn : 1 ≤ n ∧ n ≤ 16) (ps : Pts) (d : Int) : may ps (into d n) ((rd ps (into d n)).1 : Nat) := by
  have := into_range d n (by omega)
  exact ⟨this.1, by omega, rfl⟩
/-- An Insert that nobody disturbs. -/
theorem alone_ins {n : Int} (hn : 1 ≤ n ∧ n ≤ 16) {ps : Pts} {f : RF} (hk : f.k = 1) (hp : f.pc = 0) (hl : (rd ps (into f.d0 n)).2.l.length ≤ 61) (N : Nat) :
    aloneR (multiR n) (N + 2) ps f = (ps ++ [⟨into f.d0 n, ⟨0, withI (rd ps (into f.d0 n)).2.l f.it⟩⟩], ⟨true, f.it, 0⟩, true) := by
  have e1 : multiR n ps f = (ps, { f with pc := 1, v0 := (rd ps (into f.d0 n)).1, c0 := (rd ps (into f.d0 n)).2 }, an00, false) := by
    unfold multiR insR
    rw [if_pos hk, if_pos hp, decide_eq_false (by omega)]
  obtain ⟨g, hg⟩ : ∃ g : RF, g = { f with pc := 1, v0 := (rd ps (into f.d0 n)).1, c0 := (rd ps (into f.d0 n)).2 } := ⟨_, rfl⟩
  have e2 : multiR n ps g = (ps ++ [⟨into f.d0 n, ⟨0, withI (rd ps (into f.d0 n)).2.l f.it⟩⟩], { g with pc := 0 }, ⟨true, f.it, 0⟩, true) := by
    subst hg
    unfold multiR insR wrR
    rw [if_pos hk, if_neg (show ¬ (1 : Int) = 0 by decide)]
    exact if_pos (may_now hn ps f.d0)
  rw [al_go (by rw [e1]), e1, ← hg, al_end (by rw [e2]), e2]
theorem alone_insF {n : Int} {ps : Pts} {f : RF} (hk : f.k = 1) (hp : f.pc = 0) (hl : 61 < (rd ps (into f.d0 n)).2.l.length) (N : Nat) : aloneR (multiR n) (N + 1) ps f = (ps, an00, true) := by
  have e1 : multiR n ps f = (ps, { f with pc := 1, v0 := (rd ps (into f.d0 n)).1, c0 := (rd ps (into f.d0 n)).2 }, an00, true) := by
    unfold multiR insR
    rw [if_pos hk, if_pos hp, decide_eq_true hl]
  rw [al_end (by rw [e1]), e1]
/-- A Delete that nobody disturbs. -/
theorem alone_del {n : Int} (hn : 1 ≤ n ∧ n ≤ 16) {ps : Pts} {f : RF} (hk : f.k = 2) (hp : f.pc = 0) :
    aloneR (multiR n) 3 ps f = if (rd ps (into f.d0 n)).2.l.length + (rd ps (into f.d1 n)).2.l.length = 0 then (ps, an00, true)
      else if secB (rd ps (into f.d0 n)).2.l (rd ps (into f.d1 n)).2.l = true then (ps ++ [⟨into f.d1 n, ⟨0, (rd ps (into f.d1 n)).2.l.tail⟩⟩], ⟨true, hdI (rd ps (into f.d1 n)).2.l, 0⟩, true)
      else (ps ++ [⟨into f.d0 n, ⟨0, (rd ps (into f.d0 n)).2.l.tail⟩⟩], ⟨true, hdI (rd ps (into f.d0 n)).2.l, 0⟩, true) := by
  have hk1 : ¬ f.k = 1 := by omega
  have e1 : multiR n ps f = (ps, { f with pc := 1, v0 := (rd ps (into f.d0 n)).1, c0 := (rd ps (into f.d0 n)).2 }, an00, false) := by
    unfold multiR delR
    rw [if_neg hk1, if_pos hp]
  obtain ⟨g, hg⟩ : ∃ g : RF, g = { f with pc := 1, v0 := (rd ps (into f.d0 n)).1, c0 := (rd ps (into f.d0 n)).2 } := ⟨_, rfl⟩
  obtain ⟨h, hh⟩ : ∃ h : RF, h = { g with pc := 2, v1 := (rd ps (into f.d1 n)).1, c1 := (rd ps (into f.d1 n)).2 } := ⟨_, rfl⟩
  have e2 : multiR n ps g = (ps, h, an00, decide ((rd ps (into f.d0 n)).2.l.length + (rd ps (into f.d1 n)).2.l.length = 0)) := by
    subst hh
    subst hg
    unfold multiR delR
    rw [if_neg hk1, if_neg (show ¬ (1 : Int) = 0 by decide), if_pos (show (1 : Int) = 1 by decide)]
  rw [show (3 : Nat) = 2 + 1 from rfl, al_go (by rw [e1]), e1, ← hg]
  by_cases h0 : (rd ps (into f.d0 n)).2.l.length + (rd ps (into f.d1 n)).2.l.length = 0
  · rw [if_pos h0, show (2 : Nat) = 1 + 1 from rfl, al_end (by rw [e2]; exact decide_eq_true h0), e2]
  · rw [if_neg h0, show (2 : Nat) = 1 + 1 from rfl, al_go (by rw [e2]; exact decide_eq_false h0), e2]
    by_cases hs : secB (rd ps (into f.d0 n)).2.l (rd ps (into f.d1 n)).2.l = true
    · have e3 : multiR n ps h = (ps ++ [⟨into f.d1 n, ⟨0, (rd ps (into f.d1 n)).2.l.tail⟩⟩], { h with pc := 0 }, ⟨true, hdI (rd ps (into f.d1 n)).2.l, 0⟩, true) := by
        subst hh
        subst hg
        unfold multiR delR wrR
        rw [if_neg hk1, if_neg (show ¬ (2 : Int) = 0 by decide), if_neg (show ¬ (2 : Int) = 1 by decide), if_pos hs]
        exact if_pos (may_now hn ps f.d1)
      rw [if_pos hs]
      show aloneR (multiR n) (0 + 1) ps h = _
      rw [al_end (by rw [e3]), e3]
    · have e3 : multiR n ps h = (ps ++ [⟨into f.d0 n, ⟨0, (rd ps (into f.d0 n)).2.l.tail⟩⟩], { h with pc := 0 }, ⟨true, hdI (rd ps (into f.d0 n)).2.l, 0⟩, true) := by
        subst hh
        subst hg
        unfold multiR delR wrR
        rw [if_neg hk1, if_neg (show ¬ (2 : Int) = 0 by decide), if_neg (show ¬ (2 : Int) = 1 by decide), if_neg hs]
        exact if_pos (may_now hn ps f.d0)
      rw [if_neg hs]
      show aloneR (multiR n) (0 + 1) ps h = _
      rw [al_end (by rw [e3]), e3]
end Go.Proofs.Ytefgpelodpggkaa.Ve
