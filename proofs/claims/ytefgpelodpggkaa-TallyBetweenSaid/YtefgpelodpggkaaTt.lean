import Derived.Test.YtefgpelodpggkaaDs
import Derived.Test.YtefgpelodpggkaaTl
set_option linter.unusedVariables false
set_option linter.unusedSimpArgs false
namespace Go.Proofs.Ytefgpelodpggkaa.Ve
open Go
set_option maxRecDepth 4000
set_option maxHeartbeats 8000000
/-- An operation under way at a counter. -/
structure TFr (n : Int) (ps : Pts) (f : RF) : Prop where
  c0 : 0 ≤ f.c0.n ∧ f.c0.n ≤ ps.length * 2 ^ 32
  val : f.k ≠ 6 → 0 ≤ f.it.val ∧ f.it.val < 2 ^ 32
  d0 : i64 f.d0
  at_ : 0 ≤ f.at_ ∧ f.at_ < n
  tot : 0 ≤ f.tot ∧ f.tot ≤ f.at_ * 2 ^ 52
structure TInv (n : Int) (D : DS) : Prop where
  mem : TMem n D.ps
  len : D.ps.length ≤ D.n
  fr : ∀ (k : Nat) (t : TH), D.T[k]? = some t → t.on = true → TFr n D.ps t.f
theorem TFr.ok {n : Int} {ps : Pts} {f : RF} (hn : 1 ≤ n ∧ n ≤ 16) (hm : TMem n ps) (h : TFr n ps f) : TOk n ps f := by
  have h1 := hm.len
  have h2 := h.c0
  exact ⟨hn, by omega, hm.cell', ⟨h2.1, by omega⟩, h.val, h.d0, h.at_, h.tot⟩
theorem TFr.mono {n : Int} {ps ps' : Pts} {f : RF} (h : TFr n ps f) (hl : ps.length ≤ ps'.length) : TFr n ps' f := by
  have h2 := h.c0
  exact ⟨⟨h2.1, by omega⟩, h.val, h.d0, h.at_, h.tot⟩
theorem tally_step_inv {n : Int} (hn : 1 ≤ n ∧ n ≤ 16) {ps : Pts} {f : RF} (hm : TMem n ps) (hl : ps.length + 1 < 2 ^ 10) (h : TFr n ps f) :
    TMem n (tallyR n ps f).1 ∧ (tallyR n ps f).1.length ≤ ps.length + 1 ∧ ps.length ≤ (tallyR n ps f).1.length ∧ ((tallyR n ps f).2.2.2 = false → TFr n (tallyR n ps f).1 (tallyR n ps f).2.1) := by
  have hin := into_range f.d0 n (by omega)
  by_cases hk : f.k = 6
  · simp only [tallyR, if_pos hk]
    refine ⟨hm, by omega, Nat.le_refl _, fun hd => ?_⟩
    have hlt : f.at_ + 1 < n := by simpa using hd
    have h1 := h.at_
    have h2 := h.tot
    have h3 := hm.cell' f.at_
    refine ⟨h.c0, h.val, h.d0, ⟨?_, hlt⟩, ?_⟩
    · show 0 ≤ f.at_ + 1
      omega
    · show 0 ≤ f.tot + (rd ps f.at_).2.n ∧ f.tot + (rd ps f.at_).2.n ≤ (f.at_ + 1) * 2 ^ 52
      omega
  · by_cases hpc : f.pc = 0
    · simp only [tallyR, if_neg hk, if_pos hpc]
      exact ⟨hm, by omega, Nat.le_refl _, fun _ => ⟨hm.cell _, h.val, h.d0, h.at_, h.tot⟩⟩
    · simp only [tallyR, if_neg hk, if_neg hpc]
      by_cases hmay : may ps (into f.d0 n) f.v0
      · have e : wr' ps (into f.d0 n) f.v0 ⟨f.c0.n + f.it.val, []⟩ = ps ++ [⟨into f.d0 n, ⟨f.c0.n + f.it.val, []⟩⟩] := by
          unfold wr'
          rw [if_pos hmay]
        rw [e, decide_eq_true hmay]
        refine ⟨hm.snoc hl hin f.c0 h.c0 (h.val hk), by simp, by simp, fun h => by cases h⟩
      · have e : wr' ps (into f.d0 n) f.v0 ⟨f.c0.n + f.it.val, []⟩ = ps := by
          unfold wr'
          rw [if_neg hmay]
        rw [e, decide_eq_false hmay]
        exact ⟨hm, by omega, Nat.le_refl _, fun _ => ⟨h.c0, h.val, h.d0, h.at_, h.tot⟩⟩
theorem tally_dbeg {n : Int} (hn : 1 ≤ n ∧ n ≤ 16) {ops : List (List Rw)} (hops : ∀ l ∈ ops, ∀ x ∈ l, RwOk x) {D D' : DS} {k : Nat} (hI : TInv n D) (h : dbeg (ownOp 5 6) ops D k = some D') : TInv n D' ∧ D'.n = D.n ∧ ∃ t, D'.T[k]? = some t ∧ t.on = true := by
  unfold dbeg at h
  split at h
  · rename_i t l hT hl
    split at h
    · rename_i hon
      cases h
      exact ⟨hI, rfl, t, hT, hon⟩
    · split at h
      · split at h
        · rename_i x hx
          cases h
          have hkl := (List.getElem?_eq_some_iff.1 hT).1
          refine ⟨⟨hI.mem, hI.len, fun j u hj hu => ?_⟩, rfl, _, List.getElem?_set_self hkl, rfl⟩
          by_cases e : k = j
          · subst e
            have hj : (D.T.set k _)[k]? = some u := hj
            rw [List.getElem?_set_self hkl] at hj
            cases hj
            have hx' := hops l (List.mem_of_getElem? hl) x (List.mem_of_getElem? hx)
            have hi := into_range x.k 2 (by omega)
            refine ⟨⟨Int.le_refl 0, ?_⟩, fun h6 => ?_, hx'.d0, ⟨Int.le_refl 0, ?_⟩, Int.le_refl 0, ?_⟩
            · show (0 : Int) ≤ _
              omega
            · have h5 : (5 : Int) + into x.k (6 - 5 + 1) = 5 := by
                have : ¬ (5 : Int) + into x.k (6 - 5 + 1) = 6 := h6
                have e2 : (6 : Int) - 5 + 1 = 2 := by decide
                rw [e2] at this ⊢
                omega
              show 0 ≤ (if (5 : Int) + into x.k (6 - 5 + 1) = 5 then x.val % 4294967296 else x.val) ∧ (if (5 : Int) + into x.k (6 - 5 + 1) = 5 then x.val % 4294967296 else x.val) < 2 ^ 32
              rw [if_pos h5]
              omega
            · show (0 : Int) < n
              omega
            · show (0 : Int) ≤ 0 * 2 ^ 52
              decide
          · have hj : (D.T.set k _)[j]? = some u := hj
            rw [List.getElem?_set_ne e] at hj
            exact hI.fr j u hj hu
        · cases h
      · cases h
  · cases h
theorem tally_dmov {n : Int} (hn : 1 ≤ n ∧ n ≤ 16) {D : DS} {k : Nat} {t : TH} (hI : TInv n D) (hDn : D.n < 200) (hT : D.T[k]? = some t) (hon : t.on = true) : TInv n (dmov (tallyR n) D k) := by
  have hkl := (List.getElem?_eq_some_iff.1 hT).1
  have hl := hI.len
  obtain ⟨h1, h2, h3, h4⟩ := tally_step_inv hn hI.mem (by omega) (hI.fr k t hT hon)
  unfold dmov
  rw [hT]
  simp only
  split
  · rename_i hd
    refine ⟨h1, by show (tallyR n D.ps t.f).1.length ≤ D.n + 1; omega, fun j u hj hu => ?_⟩
    by_cases e : k = j
    · subst e
      have hj : (D.T.set k _)[k]? = some u := hj
      rw [List.getElem?_set_self hkl] at hj
      cases hj
      cases hu
    · have hj : (D.T.set k _)[j]? = some u := hj
      rw [List.getElem?_set_ne e] at hj
      exact (hI.fr j u hj hu).mono h3
  · rename_i hd
    refine ⟨h1, by show (tallyR n D.ps t.f).1.length ≤ D.n + 1; omega, fun j u hj hu => ?_⟩
    by_cases e : k = j
    · subst e
      have hj : (D.T.set k _)[k]? = some u := hj
      rw [List.getElem?_set_self hkl] at hj
      cases hj
      exact h4 (by simpa using hd)
    · have hj : (D.T.set k _)[j]? = some u := hj
      rw [List.getElem?_set_ne e] at hj
      exact (hI.fr j u hj hu).mono h3
theorem tinv0 (n : Int) (hn : 1 ≤ n) (q : Nat) : TInv n (ds0 q) where
  mem := ⟨by show (0 : Nat) < 2 ^ 10; decide, by simp [ds0], fun i => ⟨Int.le_refl 0, (by decide : (0 : Int) ≤ ((0 : Nat) : Int) * 2 ^ 32)⟩⟩
  len := Nat.le_refl 0
  fr := fun k t h hon => by
    have h : (List.replicate q th0)[k]? = some t := h
    rw [List.getElem?_replicate] at h
    split at h
    · cases h
      cases hon
    · cases h
end Go.Proofs.Ytefgpelodpggkaa.Ve
