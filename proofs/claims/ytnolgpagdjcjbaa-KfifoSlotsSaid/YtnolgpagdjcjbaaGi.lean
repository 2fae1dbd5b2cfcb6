import Derived.Test.YtnolgpagdjcjbaaDs
set_option linter.unusedVariables false
set_option linter.unusedSimpArgs false
namespace Go.Proofs.Ytnolgpagdjcjbaa.Ve
open Go
set_option maxRecDepth 4000
theorem rep_th0 {q k : Nat} {t : TH} (h : (ds0 q).T[k]? = some t) (hon : t.on = true) : False := by
  have h : (List.replicate q th0)[k]? = some t := h
  rw [List.getElem?_replicate] at h
  split at h
  · cases h
    cases hon
  · cases h
/-- What a pick begins. -/
theorem dbeg_cases {own : Rw → Opd} {ops : List (List Rw)} (hops : ∀ l ∈ ops, ∀ x ∈ l, RwOk x) {D D' : DS} {k : Nat} (h : dbeg own ops D k = some D') :
    (D' = D ∧ ∃ t, D.T[k]? = some t ∧ t.on = true) ∨ ∃ t x, RwOk x ∧ D.T[k]? = some t ∧ t.on = false ∧ k < D.T.length ∧ D' = { D with T := D.T.set k ⟨t.at_ + 1, true, toldF (own x), D.C.length⟩, C := D.C ++ [⟨k, own x, D.n, -1, an00⟩] } := by
  unfold dbeg at h
  split at h
  · rename_i t l hT hl
    split at h
    · rename_i hon
      cases h
      exact .inl ⟨rfl, t, hT, hon⟩
    · rename_i hon
      split at h
      · split at h
        · rename_i x hx
          cases h
          exact .inr ⟨t, x, hops l (List.mem_of_getElem? hl) x (List.mem_of_getElem? hx), hT, by simpa using hon, (List.getElem?_eq_some_iff.1 hT).1, rfl⟩
        · cases h
      · cases h
  · cases h
theorem set_cases {α : Type} {l : List α} {k j : Nat} {a b : α} (h : (l.set k a)[j]? = some b) : (k = j ∧ b = a) ∨ (k ≠ j ∧ l[j]? = some b) := by
  by_cases e : k = j
  · subst e
    have hk : k < (l.set k a).length := (List.getElem?_eq_some_iff.1 h).1
    rw [List.length_set] at hk
    rw [List.getElem?_set_self hk] at h
    cases h
    exact .inl ⟨rfl, rfl⟩
  · rw [List.getElem?_set_ne e] at h
    exact .inr ⟨e, h⟩
/-- What stays, whatever threads do: of the memory, of each operation under way. -/
structure GInv (MP : Nat → Pts → Prop) (FP : Nat → Pts → RF → Prop) (D : DS) : Prop where
  mem : MP D.n D.ps
  fr : ∀ (k : Nat) (t : TH), D.T[k]? = some t → t.on = true → FP D.n D.ps t.f
theorem ginv0 {MP : Nat → Pts → Prop} {FP : Nat → Pts → RF → Prop} (h : MP 0 []) (q : Nat) : GInv MP FP (ds0 q) where
  mem := h
  fr := fun k t h hon => (rep_th0 h hon).elim
theorem g_dbeg {MP : Nat → Pts → Prop} {FP : Nat → Pts → RF → Prop} {own : Rw → Opd} (hnew : ∀ N ps x, MP N ps → RwOk x → FP N ps (toldF (own x))) {ops : List (List Rw)} (hops : ∀ l ∈ ops, ∀ x ∈ l, RwOk x) {D D' : DS} {k : Nat} (hI : GInv MP FP D) (h : dbeg own ops D k = some D') : GInv MP FP D' ∧ D'.n = D.n ∧ D'.ps = D.ps ∧ ∃ t, D'.T[k]? = some t ∧ t.on = true := by
  rcases dbeg_cases hops h with ⟨rfl, t, hT, hon⟩ | ⟨t, x, hx, hT, hon, hkl, rfl⟩
  · exact ⟨hI, rfl, rfl, t, hT, hon⟩
  · refine ⟨⟨hI.mem, fun j u hj hu => ?_⟩, rfl, rfl, _, List.getElem?_set_self hkl, rfl⟩
    rcases set_cases hj with ⟨e, rfl⟩ | ⟨e, hj⟩
    · exact hnew _ _ _ hI.mem hx
    · exact hI.fr j u hj hu
structure GStep (MP : Nat → Pts → Prop) (FP : Nat → Pts → RF → Prop) (rs : StepR) : Prop where
  st : ∀ N ps f, MP N ps → FP N ps f → MP (N + 1) (rs ps f).1 ∧ ((rs ps f).2.2.2 = false → FP (N + 1) (rs ps f).1 (rs ps f).2.1)
  up : ∀ N ps f g, MP N ps → FP N ps f → FP N ps g → FP (N + 1) (rs ps f).1 g
theorem g_dmov {MP : Nat → Pts → Prop} {FP : Nat → Pts → RF → Prop} {rs : StepR} (hS : GStep MP FP rs) {D : DS} {k : Nat} {t : TH} (hI : GInv MP FP D) (hT : D.T[k]? = some t) (hon : t.on = true) : GInv MP FP (dmov rs D k) := by
  have hf := hI.fr k t hT hon
  obtain ⟨h1, h2⟩ := hS.st D.n D.ps t.f hI.mem hf
  unfold dmov
  rw [hT]
  simp only
  split
  · refine ⟨h1, fun j u hj hu => ?_⟩
    rcases set_cases hj with ⟨e, rfl⟩ | ⟨e, hj⟩
    · cases hu
    · exact hS.up _ _ _ _ hI.mem hf (hI.fr j u hj hu)
  · rename_i hd
    refine ⟨h1, fun j u hj hu => ?_⟩
    rcases set_cases hj with ⟨e, rfl⟩ | ⟨e, hj⟩
    · exact h2 (by simpa using hd)
    · exact hS.up _ _ _ _ hI.mem hf (hI.fr j u hj hu)
theorem ginv_step {MP : Nat → Pts → Prop} {FP : Nat → Pts → RF → Prop} {own : Rw → Opd} {rs : StepR} (hnew : ∀ N ps x, MP N ps → RwOk x → FP N ps (toldF (own x))) (hS : GStep MP FP rs) {ops : List (List Rw)} (hops : ∀ l ∈ ops, ∀ x ∈ l, RwOk x) {D D' : DS} {k : Nat} (hI : GInv MP FP D) (hb : dbeg own ops D k = some D') : GInv MP FP (dmov rs D' k) := by
  obtain ⟨h1, h2, h2', t0, h3, h4⟩ := g_dbeg hnew hops hI hb
  exact g_dmov hS h1 h3 h4
-- calls --------------------------------------------------------------------------------
/-- The calls of a run: those under way, those that are done. -/
structure CInv (KP : Opd → RF → Prop) (AP : Opd → An → Prop) (D : DS) : Prop where
  fr : ∀ (k : Nat) (t : TH), D.T[k]? = some t → t.on = true → ∃ c, D.C[t.call]? = some c ∧ c.th = k ∧ c.en = -1 ∧ KP c.o t.f
  done : ∀ c ∈ D.C, c.en = -1 ∨ 0 ≤ c.en ∧ c.en < D.n ∧ AP c.o c.an
  cl : D.C.length ≤ D.n
  n200 : D.n ≤ 200
theorem cinv0 {KP : Opd → RF → Prop} {AP : Opd → An → Prop} (q : Nat) : CInv KP AP (ds0 q) where
  fr := fun k t h hon => (rep_th0 h hon).elim
  done := fun c hc => by cases hc
  cl := Nat.le_refl 0
  n200 := Nat.zero_le 200
/-- A pick, told by calls: which call goes on, whether it is done. -/
structure CStep (rs : StepR) (D D' D2 : DS) (k : Nat) (t : TH) (c : CL) : Prop where
  tk : D'.T[k]? = some t
  on : t.on = true
  call : D'.C[t.call]? = some c
  th : c.th = k
  en : c.en = -1
  n' : D'.n = D.n
  n2 : D2.n = D.n + 1
  ps' : D'.ps = D.ps
  ps2 : D2.ps = (rs D.ps t.f).1
  other : ∀ (j : Nat) c', j ≠ t.call → D'.C[j]? = some c' → c'.en ≠ D.n
  C2 : D2.C = if (rs D.ps t.f).2.2.2 = true then D'.C.set t.call { c with en := D.n, an := (rs D.ps t.f).2.2.1 } else D'.C
  len : D2.C.length ≤ D.n + 1
theorem c_step {KP : Opd → RF → Prop} {AP : Opd → An → Prop} {own : Rw → Opd} {rs : StepR} (hK0 : ∀ x, RwOk x → KP (own x) (toldF (own x))) (hK : ∀ o ps f, KP o f → KP o (rs ps f).2.1) {ops : List (List Rw)} (hops : ∀ l ∈ ops, ∀ x ∈ l, RwOk x) {D D' : DS} {k : Nat} (hD : D.n < 200) (hI : CInv KP AP D) (hb : dbeg own ops D k = some D')
    (hA : ∀ t c, D'.T[k]? = some t → t.on = true → D'.C[t.call]? = some c → KP c.o t.f → (rs D.ps t.f).2.2.2 = true → AP c.o (rs D.ps t.f).2.2.1) : CInv KP AP (dmov rs D' k) ∧ ∃ t c, CStep rs D D' (dmov rs D' k) k t c ∧ KP c.o t.f := by
  -- ahead of the step
  have h0 : (∀ (k : Nat) (t : TH), D'.T[k]? = some t → t.on = true → ∃ c, D'.C[t.call]? = some c ∧ c.th = k ∧ c.en = -1 ∧ KP c.o t.f) ∧ (∀ c ∈ D'.C, c.en = -1 ∨ 0 ≤ c.en ∧ c.en < D.n ∧ AP c.o c.an) ∧ D'.C.length ≤ D.n + 1 ∧ D'.n = D.n ∧ D'.ps = D.ps ∧ ∃ t, D'.T[k]? = some t ∧ t.on = true := by
    have hcl := hI.cl
    rcases dbeg_cases hops hb with ⟨rfl, t, hT, hon⟩ | ⟨t, x, hx, hT, hon, hkl, rfl⟩
    · exact ⟨hI.fr, hI.done, by omega, rfl, rfl, t, hT, hon⟩
    · refine ⟨fun j u hj hu => ?_, fun c hc => ?_, by simp; omega, rfl, rfl, _, List.getElem?_set_self hkl, rfl⟩
      · rcases set_cases hj with ⟨rfl, rfl⟩ | ⟨e, hj⟩
        · exact ⟨_, List.getElem?_concat_length, rfl, rfl, hK0 x hx⟩
        · obtain ⟨c, h2, h3⟩ := hI.fr j u hj hu
          refine ⟨c, ?_, h3⟩
          rw [List.getElem?_append_left (List.getElem?_eq_some_iff.1 h2).1]
          exact h2
      · rcases List.mem_append.1 hc with h | h
        · exact hI.done c h
        · simp only [List.mem_singleton] at h
          subst h
          exact .inl rfl
  obtain ⟨f0, d0, l0, n0, p0, t, hT, hon⟩ := h0
  obtain ⟨c, hc, hth, hen, hkp⟩ := f0 k t hT hon
  have hcl := (List.getElem?_eq_some_iff.1 hc).1
  have hend : ∀ a : An, endC D'.C t.call D'.n a = D'.C.set t.call { c with en := D.n, an := a } := fun a => by
    unfold endC
    rw [hc, n0]
  have hst : CStep rs D D' (dmov rs D' k) k t c := by
    refine ⟨hT, hon, hc, hth, hen, n0, ?_, p0, ?_, fun j c' _ hj => ?_, ?_, ?_⟩
    · unfold dmov
      rw [hT]
      simp only
      split <;> simp [n0]
    · unfold dmov
      rw [hT]
      simp only
      split <;> simp [p0]
    · rcases d0 c' (List.mem_of_getElem? hj) with h | h <;> omega
    · unfold dmov
      rw [hT, p0]
      simp only
      split
      · exact hend _
      · rfl
    · unfold dmov
      rw [hT, p0]
      simp only
      split
      · show (endC _ _ _ _).length ≤ _
        rw [hend, List.length_set]
        exact l0
      · exact l0
  refine ⟨⟨fun j u hj hu => ?_, fun c2 hc2 => ?_, by rw [hst.n2]; exact hst.len, by rw [hst.n2]; omega⟩, t, c, hst, hkp⟩
  · -- frames
    unfold dmov at hj ⊢
    rw [hT, p0] at hj ⊢
    simp only at hj ⊢
    by_cases hd : (rs D.ps t.f).2.2.2 = true
    · rw [if_pos hd] at hj ⊢
      rcases set_cases hj with ⟨rfl, rfl⟩ | ⟨e, hj⟩
      · cases hu
      · obtain ⟨c', h2, h3, h4, h5⟩ := f0 j u hj hu
        refine ⟨c', ?_, h3, h4, h5⟩
        show (endC _ _ _ _)[u.call]? = _
        rw [hend, List.getElem?_set_ne]
        · exact h2
        · rintro e2
          rw [← e2, hc] at h2
          cases h2
          omega
    · rw [if_neg hd] at hj ⊢
      rcases set_cases hj with ⟨rfl, rfl⟩ | ⟨e, hj⟩
      · exact ⟨c, hc, hth, hen, hK _ _ _ hkp⟩
      · exact f0 j u hj hu
  · rw [hst.C2] at hc2
    rw [hst.n2]
    by_cases hd : (rs D.ps t.f).2.2.2 = true
    · rw [if_pos hd] at hc2
      rcases List.mem_or_eq_of_mem_set hc2 with h | h
      · rcases d0 c2 h with h | ⟨h1, h2, h3⟩
        · exact .inl h
        · exact .inr ⟨h1, by omega, h3⟩
      · subst h
        exact .inr ⟨by show (0 : Int) ≤ D.n; omega, by show (D.n : Int) < ((D.n + 1 : Nat) : Int); omega, hA t c hT hon hc hkp hd⟩
    · rw [if_neg hd] at hc2
      rcases d0 c2 hc2 with h | ⟨h1, h2, h3⟩
      · exact .inl h
      · exact .inr ⟨h1, by omega, h3⟩
end Go.Proofs.Ytnolgpagdjcjbaa.Ve
