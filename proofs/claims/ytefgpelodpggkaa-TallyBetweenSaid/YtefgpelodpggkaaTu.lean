import Derived.Test.YtefgpelodpggkaaTt
set_option linter.unusedVariables false
set_option linter.unusedSimpArgs false
namespace Go.Proofs.Ytefgpelodpggkaa.Ve
open Go
set_option maxRecDepth 4000
/-- What a call has added, if it is done. -/
def gAdd (c : CL) : Int := if c.o.k = 5 ∧ 0 ≤ c.en then c.o.it.val else 0
def cSum : List CL → Int
  | [] => 0
  | c :: l => gAdd c + cSum l
theorem cSum_snoc (c : CL) : ∀ l : List CL, cSum (l ++ [c]) = cSum l + gAdd c
  | [] => by simp [cSum]
  | a :: l => by
    simp only [List.cons_append, cSum, cSum_snoc c l]
    omega
theorem cSum_set {c c' : CL} : ∀ {l : List CL} {i : Nat}, l[i]? = some c → cSum (l.set i c') = cSum l - gAdd c + gAdd c'
  | [], _, h => by simp at h
  | a :: l, 0, h => by
    simp at h
    subst h
    simp only [List.set_cons_zero, cSum]
    omega
  | a :: l, i + 1, h => by
    simp at h
    simp only [List.set_cons_succ, cSum, cSum_set h]
    omega
structure AFr (n : Int) (D : DS) (k : Nat) (t : TH) : Prop where
  kk : t.f.k = 5 ∨ t.f.k = 6
  call : ∃ c, D.C[t.call]? = some c ∧ c.th = k ∧ c.en < 0 ∧ c.o.k = t.f.k ∧ c.o.it.val = t.f.it.val
  ver : t.f.k ≠ 6 → t.f.pc ≠ 0 → t.f.v0 ≤ D.ps.length ∧ ((rd D.ps (into t.f.d0 n)).1 = t.f.v0 → (rd D.ps (into t.f.d0 n)).2 = t.f.c0)
structure AInv (n : Int) (D : DS) : Prop where
  t : TInv n D
  fr : ∀ (k : Nat) (t : TH), D.T[k]? = some t → t.on = true → AFr n D k t
  done : ∀ c ∈ D.C, 0 ≤ c.en → c.an.ok = true
  sum : sumTo D.ps n.toNat = cSum D.C
  val : ∀ c ∈ D.C, c.o.k = 5 → 0 ≤ c.o.it.val ∧ c.o.it.val < 2 ^ 32
theorem own_val (x : Rw) (h : (ownOp 5 6 x).k = 5) : 0 ≤ (ownOp 5 6 x).it.val ∧ (ownOp 5 6 x).it.val < 2 ^ 32 := by
  have h5 : (5 : Int) + into x.k (6 - 5 + 1) = 5 := h
  show 0 ≤ (if (5 : Int) + into x.k (6 - 5 + 1) = 5 then x.val % 4294967296 else x.val) ∧ (if (5 : Int) + into x.k (6 - 5 + 1) = 5 then x.val % 4294967296 else x.val) < 2 ^ 32
  rw [if_pos h5]
  omega
theorem rd_le (ps : Pts) (i : Int) : (rd ps i).1 ≤ ps.length := by
  revert ps
  refine snoc_ind ?_ fun l a ih => ?_
  · exact Nat.le_refl 0
  · rw [rd_snoc]
    split
    · simp
    · simp
      omega
theorem adds_dbeg {n : Int} (hn : 1 ≤ n ∧ n ≤ 16) {ops : List (List Rw)} (hops : ∀ l ∈ ops, ∀ x ∈ l, RwOk x) {D D' : DS} {k : Nat} (hI : AInv n D) (h : dbeg (ownOp 5 6) ops D k = some D') : AInv n D' := by
  have hT' := (tally_dbeg hn hops hI.t h).1
  unfold dbeg at h
  split at h
  · rename_i t l hT hl
    split at h
    · cases h
      exact hI
    · split at h
      · split at h
        · rename_i x hx
          cases h
          have hkl := (List.getElem?_eq_some_iff.1 hT).1
          refine ⟨hT', fun j u hj hu => ?_, fun c hc h0 => ?_, ?_, fun c hc h5 => ?_⟩
          · by_cases e : k = j
            · subst e
              have hj : (D.T.set k _)[k]? = some u := hj
              rw [List.getElem?_set_self hkl] at hj
              cases hj
              have hi := into_range x.k 2 (by omega)
              refine ⟨?_, ⟨_, List.getElem?_concat_length, rfl, ?_, rfl, rfl⟩, fun _ h => absurd rfl h⟩
              · have e2 : (6 : Int) - 5 + 1 = 2 := by decide
                show (5 : Int) + into x.k (6 - 5 + 1) = 5 ∨ (5 : Int) + into x.k (6 - 5 + 1) = 6
                rw [e2]
                omega
              · show (-1 : Int) < 0
                decide
            · have hj : (D.T.set k _)[j]? = some u := hj
              rw [List.getElem?_set_ne e] at hj
              obtain ⟨h1, ⟨c, h2, h3⟩, h4⟩ := hI.fr j u hj hu
              refine ⟨h1, ⟨c, ?_, h3⟩, h4⟩
              rw [List.getElem?_append_left (List.getElem?_eq_some_iff.1 h2).1]
              exact h2
          · rcases List.mem_append.1 hc with h | h
            · exact hI.done c h h0
            · simp only [List.mem_singleton] at h
              subst h
              exact absurd h0 (show ¬ (0 : Int) ≤ -1 by decide)
          · show sumTo D.ps n.toNat = cSum (D.C ++ [_])
            rw [cSum_snoc, hI.sum]
            simp [gAdd]
          · rcases List.mem_append.1 hc with h | h
            · exact hI.val c h h5
            · simp only [List.mem_singleton] at h
              subst h
              exact own_val x h5
        · cases h
      · cases h
  · cases h
theorem adds_dmov {n : Int} (hn : 1 ≤ n ∧ n ≤ 16) {D : DS} {k : Nat} {t : TH} (hI : AInv n D) (hDn : D.n < 200) (hT : D.T[k]? = some t) (hon : t.on = true) : AInv n (dmov (tallyR n) D k) := by
  have hT' := tally_dmov hn hI.t hDn hT hon
  have hkl := (List.getElem?_eq_some_iff.1 hT).1
  obtain ⟨hk5, ⟨c, hc, hth, hen, hok, hov⟩, hver⟩ := hI.fr k t hT hon
  have hfr := hI.t.fr k t hT hon
  have hin := into_range t.f.d0 n (by omega)
  have hcl := (List.getElem?_eq_some_iff.1 hc).1
  -- what a step of a thread leaves of the others' calls and of versions
  have hother : ∀ (C' : List CL), (∀ i, i ≠ t.call → C'[i]? = D.C[i]?) → ∀ (ps' : Pts), (ps' = D.ps ∨ ∃ p, ps' = D.ps ++ [p]) → ∀ (j : Nat) (u : TH), k ≠ j → D.T[j]? = some u → u.on = true → (∃ c, C'[u.call]? = some c ∧ c.th = j ∧ c.en < 0 ∧ c.o.k = u.f.k ∧ c.o.it.val = u.f.it.val) ∧ (u.f.k ≠ 6 → u.f.pc ≠ 0 → u.f.v0 ≤ ps'.length ∧ ((rd ps' (into u.f.d0 n)).1 = u.f.v0 → (rd ps' (into u.f.d0 n)).2 = u.f.c0)) := by
    intro C' hC' ps' hps j u hj hu huo
    obtain ⟨_, ⟨c2, h2, h3, h4⟩, h5⟩ := hI.fr j u hu huo
    refine ⟨⟨c2, ?_, h3, h4⟩, fun h6 h7 => ?_⟩
    · rw [hC' _ fun e => ?_]
      · exact h2
      · rw [e, hc] at h2
        cases h2
        exact hj (hth.symm.trans h3)
    · obtain ⟨h8, h9⟩ := h5 h6 h7
      rcases hps with rfl | ⟨p, rfl⟩
      · exact ⟨h8, h9⟩
      · refine ⟨by simp; omega, fun h => ?_⟩
        rw [rd_snoc] at h ⊢
        split at h
        · simp at h
          omega
        · rename_i hne
          rw [if_neg hne]
          exact h9 h
  have hend : ∀ a : An, endC D.C t.call D.n a = D.C.set t.call { c with en := D.n, an := a } := fun a => by
    unfold endC
    rw [hc]
  have hset : ∀ c' : CL, ∀ i, i ≠ t.call → (D.C.set t.call c')[i]? = D.C[i]? := fun c' i hi => List.getElem?_set_ne (Ne.symm hi)
  have hg0 : gAdd c = 0 := by
    unfold gAdd
    rw [if_neg (by omega)]
  have hdone : ∀ a : An, a.ok = true → ∀ c2 ∈ D.C.set t.call { c with en := D.n, an := a }, 0 ≤ c2.en → c2.an.ok = true := fun a ha c2 h2 h0 => by
    rcases List.mem_or_eq_of_mem_set h2 with h | h
    · exact hI.done c2 h h0
    · rw [h]
      exact ha
  have hval : ∀ a : An, ∀ c2 ∈ D.C.set t.call { c with en := D.n, an := a }, c2.o.k = 5 → 0 ≤ c2.o.it.val ∧ c2.o.it.val < 2 ^ 32 := fun a c2 h2 h5 => by
    rcases List.mem_or_eq_of_mem_set h2 with h | h
    · exact hI.val c2 h h5
    · rw [h] at h5 ⊢
      exact hI.val c (List.mem_of_getElem? hc) h5
  by_cases hk : t.f.k = 6
  · by_cases hlast : t.f.at_ + 1 < n
    · have hd : dmov (tallyR n) D k = ⟨D.ps, D.T.set k { t with f := { t.f with tot := t.f.tot + (rd D.ps t.f.at_).2.n, at_ := t.f.at_ + 1 } }, D.C, D.n + 1⟩ := by
        unfold dmov
        rw [hT]
        simp [tallyR, hk, hlast]
      rw [hd] at hT' ⊢
      refine ⟨hT', fun j u hj hu => ?_, hI.done, hI.sum, hI.val⟩
      by_cases e : k = j
      · subst e
        have hj : (D.T.set k _)[k]? = some u := hj
        rw [List.getElem?_set_self hkl] at hj
        cases hj
        exact ⟨hk5, ⟨c, hc, hth, hen, hok, hov⟩, fun h => absurd hk h⟩
      · have hj : (D.T.set k _)[j]? = some u := hj
        rw [List.getElem?_set_ne e] at hj
        obtain ⟨h1, h2⟩ := hother D.C (fun _ _ => rfl) D.ps (.inl rfl) j u e hj hu
        exact ⟨(hI.fr j u hj hu).kk, h1, h2⟩
    · have hd : dmov (tallyR n) D k = ⟨D.ps, D.T.set k { t with on := false }, endC D.C t.call D.n ⟨true, ⟨0, 0⟩, t.f.tot + (rd D.ps t.f.at_).2.n⟩, D.n + 1⟩ := by
        unfold dmov
        rw [hT]
        simp [tallyR, hk, hlast]
      rw [hend] at hd
      rw [hd] at hT' ⊢
      refine ⟨hT', fun j u hj hu => ?_, hdone _ rfl, ?_, hval _⟩
      · by_cases e : k = j
        · subst e
          have hj : (D.T.set k _)[k]? = some u := hj
          rw [List.getElem?_set_self hkl] at hj
          cases hj
          cases hu
        · have hj : (D.T.set k _)[j]? = some u := hj
          rw [List.getElem?_set_ne e] at hj
          obtain ⟨h1, h2⟩ := hother _ (hset _) D.ps (.inl rfl) j u e hj hu
          exact ⟨(hI.fr j u hj hu).kk, h1, h2⟩
      · show sumTo D.ps n.toNat = cSum (D.C.set t.call _)
        rw [cSum_set hc, hg0, hI.sum]
        have : gAdd { c with en := (D.n : Int), an := ⟨true, ⟨0, 0⟩, t.f.tot + (rd D.ps t.f.at_).2.n⟩ } = 0 := by
          unfold gAdd
          rw [if_neg]
          rintro ⟨h, -⟩
          have h : c.o.k = 5 := h
          omega
        rw [this]
        omega
  · have hk5' : t.f.k = 5 := hk5.resolve_right hk
    by_cases hpc : t.f.pc = 0
    · have hd : dmov (tallyR n) D k = ⟨D.ps, D.T.set k { t with f := { t.f with pc := 1, v0 := (rd D.ps (into t.f.d0 n)).1, c0 := (rd D.ps (into t.f.d0 n)).2 } }, D.C, D.n + 1⟩ := by
        unfold dmov
        rw [hT]
        simp [tallyR, hk, hpc]
      rw [hd] at hT' ⊢
      refine ⟨hT', fun j u hj hu => ?_, hI.done, hI.sum, hI.val⟩
      by_cases e : k = j
      · subst e
        have hj : (D.T.set k _)[k]? = some u := hj
        rw [List.getElem?_set_self hkl] at hj
        cases hj
        exact ⟨hk5, ⟨c, hc, hth, hen, hok, hov⟩, fun _ _ => ⟨rd_le _ _, fun _ => rfl⟩⟩
      · have hj : (D.T.set k _)[j]? = some u := hj
        rw [List.getElem?_set_ne e] at hj
        obtain ⟨h1, h2⟩ := hother D.C (fun _ _ => rfl) D.ps (.inl rfl) j u e hj hu
        exact ⟨(hI.fr j u hj hu).kk, h1, h2⟩
    · by_cases hmay : may D.ps (into t.f.d0 n) t.f.v0
      · have hd : dmov (tallyR n) D k = ⟨D.ps ++ [⟨into t.f.d0 n, ⟨t.f.c0.n + t.f.it.val, []⟩⟩], D.T.set k { t with on := false }, endC D.C t.call D.n ⟨true, ⟨0, 0⟩, 0⟩, D.n + 1⟩ := by
          unfold dmov
          rw [hT]
          simp [tallyR, hk, hpc, hmay, wr']
        rw [hend] at hd
        rw [hd] at hT' ⊢
        refine ⟨hT', fun j u hj hu => ?_, hdone _ rfl, ?_, hval _⟩
        · by_cases e : k = j
          · subst e
            have hj : (D.T.set k _)[k]? = some u := hj
            rw [List.getElem?_set_self hkl] at hj
            cases hj
            cases hu
          · have hj : (D.T.set k _)[j]? = some u := hj
            rw [List.getElem?_set_ne e] at hj
            obtain ⟨h1, h2⟩ := hother _ (hset _) _ (.inr ⟨_, rfl⟩) j u e hj hu
            exact ⟨(hI.fr j u hj hu).kk, h1, h2⟩
        · show sumTo (D.ps ++ [_]) n.toNat = cSum (D.C.set t.call _)
          rw [cSum_set hc, hg0, sumTo_snoc, hI.sum]
          have hv := (hver hk hpc).2 (by have := hmay.2.2; omega)
          have : gAdd { c with en := (D.n : Int), an := ⟨true, ⟨0, 0⟩, 0⟩ } = t.f.it.val := by
            unfold gAdd
            rw [if_pos]
            · exact hov
            · exact ⟨by show c.o.k = 5; omega, by show (0 : Int) ≤ D.n; omega⟩
          rw [this, hv, if_pos (by omega)]
          show _ + (t.f.c0.n + t.f.it.val - t.f.c0.n) = _
          omega
      · have hd : dmov (tallyR n) D k = ⟨D.ps, D.T.set k { t with f := { t.f with pc := 0 } }, D.C, D.n + 1⟩ := by
          unfold dmov
          rw [hT]
          simp [tallyR, hk, hpc, hmay, wr']
        rw [hd] at hT' ⊢
        refine ⟨hT', fun j u hj hu => ?_, hI.done, hI.sum, hI.val⟩
        by_cases e : k = j
        · subst e
          have hj : (D.T.set k _)[k]? = some u := hj
          rw [List.getElem?_set_self hkl] at hj
          cases hj
          exact ⟨hk5, ⟨c, hc, hth, hen, hok, hov⟩, fun _ h => absurd rfl h⟩
        · have hj : (D.T.set k _)[j]? = some u := hj
          rw [List.getElem?_set_ne e] at hj
          obtain ⟨h1, h2⟩ := hother D.C (fun _ _ => rfl) D.ps (.inl rfl) j u e hj hu
          exact ⟨(hI.fr j u hj hu).kk, h1, h2⟩
/-- A counter's run, with what was added. -/
structure BInv (n : Int) (D : DS) : Prop where
  a : AInv n D
  cl : D.C.length ≤ D.n
  n200 : D.n ≤ 200
theorem dbeg_len {own : Rw → Opd} {ops : List (List Rw)} {D D' : DS} {k : Nat} (h : dbeg own ops D k = some D') : D'.C.length ≤ D.C.length + 1 := by
  unfold dbeg at h
  split at h
  · split at h
    · cases h
      omega
    · split at h
      · split at h
        · cases h
          simp
        · cases h
      · cases h
  · cases h
theorem dmov_len {rs : StepR} {D : DS} {k : Nat} {t : TH} (hkT : D.T[k]? = some t) : (dmov rs D k).C.length = D.C.length ∧ (dmov rs D k).n = D.n + 1 := by
  unfold dmov
  rw [hkT]
  simp only
  split
  · refine ⟨?_, rfl⟩
    show (endC _ _ _ _).length = _
    unfold endC
    split <;> simp
  · exact ⟨rfl, rfl⟩
theorem adds_inv {n : Int} (hn : 1 ≤ n ∧ n ≤ 16) {ops : List (List Rw)} (hops : ∀ l ∈ ops, ∀ x ∈ l, RwOk x) : ∀ D k D', D.n < 200 → BInv n D → dbeg (ownOp 5 6) ops D k = some D' → BInv n (dmov (tallyR n) D' k) := fun D k D' hD hI hb => by
  obtain ⟨h1, h2, t0, h3, h4⟩ := tally_dbeg hn hops hI.a.t hb
  have h5 := adds_dbeg hn hops hI.a hb
  have h6 := dbeg_len hb
  obtain ⟨h7, h8⟩ := dmov_len (rs := tallyR n) h3
  have h9 := hI.cl
  exact ⟨adds_dmov hn h5 (by omega) h3 h4, by omega, by omega⟩
theorem sumTo_nil : ∀ j : Nat, sumTo [] j = 0
  | 0 => rfl
  | j + 1 => by
    simp only [sumTo, sumTo_nil j]
    rfl
theorem binv0 (n : Int) (hn : 1 ≤ n) (q : Nat) : BInv n (ds0 q) where
  a := {
    t := tinv0 n hn q
    fr := fun k t h hon => by
      have h : (List.replicate q th0)[k]? = some t := h
      rw [List.getElem?_replicate] at h
      split at h
      · cases h
        cases hon
      · cases h
    done := fun c hc => by cases hc
    sum := sumTo_nil _
    val := fun c hc => by cases hc }
  cl := Nat.le_refl 0
  n200 := Nat.zero_le 200
end Go.Proofs.Ytefgpelodpggkaa.Ve
