import Derived.Test.YtefgpelodpggkaaTu
set_option linter.unusedVariables false
set_option linter.unusedSimpArgs false
namespace Go.Proofs.Ytefgpelodpggkaa.Ve
open Go
set_option maxRecDepth 4000
theorem sumTo_mono {x y : Pts} (h : ∀ c, (rd x c).2.n ≤ (rd y c).2.n) : ∀ k, sumTo x k ≤ sumTo y k
  | 0 => Int.le_refl _
  | k + 1 => by
    have h1 := sumTo_mono h k
    have h2 := h k
    simp only [sumTo]
    omega
/-- A counter's run, with all that its memory was: `H[i]` behind `i` steps. -/
structure HInv (n : Int) (D : DS) (H : List Pts) : Prop where
  len : H.length = D.n + 1
  last : H[D.n]? = some D.ps
  grow : ∀ (i j : Nat) (x y : Pts), i ≤ j → H[i]? = some x → H[j]? = some y → ∀ c, (rd x c).2.n ≤ (rd y c).2.n
  fr : ∀ (k : Nat) (t : TH), D.T[k]? = some t → t.on = true → t.f.k = 6 → ∃ c h, D.C[t.call]? = some c ∧ H[c.beg]? = some h ∧ sumTo h t.f.at_.toNat ≤ t.f.tot ∧ t.f.tot ≤ sumTo D.ps t.f.at_.toNat
  done : ∀ c ∈ D.C, c.o.k = 6 → 0 ≤ c.en → ∃ h h', H[c.beg]? = some h ∧ H[c.en.toNat]? = some h' ∧ sumTo h n.toNat ≤ c.an.n ∧ c.an.n ≤ sumTo h' n.toNat
theorem getElem?_snoc {α : Type} {l : List α} {a x : α} {i : Nat} (h : (l ++ [a])[i]? = some x) : (i < l.length ∧ l[i]? = some x) ∨ (i = l.length ∧ x = a) := by
  by_cases e : i < l.length
  · rw [List.getElem?_append_left e] at h
    exact .inl ⟨e, h⟩
  · rw [List.getElem?_append_right (by omega)] at h
    obtain ⟨h1, h2⟩ := List.getElem?_eq_some_iff.1 h
    have : i = l.length := by simp at h1; omega
    subst this
    simp at h2
    exact .inr ⟨rfl, h2.symm⟩
theorem HInv.next {n : Int} {D D2 : DS} {H : List Pts} (hI : HInv n D H) (hn : D2.n = D.n + 1) (hg : ∀ c, (rd D.ps c).2.n ≤ (rd D2.ps c).2.n)
    (hC : ∀ (i : Nat) c, D.C[i]? = some c → ∃ c', D2.C[i]? = some c' ∧ c'.beg = c.beg)
    (hT : ∀ (j : Nat) u, D2.T[j]? = some u → u.on = true → u.f.k = 6 → ∃ u0, D.T[j]? = some u0 ∧ u0.on = true ∧ u0.f.k = 6 ∧ u.call = u0.call ∧ ((u.f.at_ = u0.f.at_ ∧ u.f.tot = u0.f.tot) ∨ (0 ≤ u0.f.at_ ∧ u.f.at_ = u0.f.at_ + 1 ∧ u.f.tot = u0.f.tot + (rd D.ps u0.f.at_).2.n)))
    (hd : ∀ c ∈ D2.C, c.o.k = 6 → 0 ≤ c.en → c ∈ D.C ∨ (c.en = D.n ∧ ∃ h, H[c.beg]? = some h ∧ sumTo h n.toNat ≤ c.an.n ∧ c.an.n ≤ sumTo D.ps n.toNat)) : HInv n D2 (H ++ [D2.ps]) := by
  have hl := hI.len
  have hup : ∀ {i : Nat} {x : Pts}, H[i]? = some x → (H ++ [D2.ps])[i]? = some x := fun {i x} h => by
    rw [List.getElem?_append_left (List.getElem?_eq_some_iff.1 h).1]
    exact h
  refine ⟨by simp [hl, hn], ?_, fun i j x y hij hi hj c => ?_, fun k t ht ho h6 => ?_, fun c hc h6 h0 => ?_⟩
  · rw [hn, ← hl, List.getElem?_append_right (Nat.le_refl _)]
    simp
  · rcases getElem?_snoc hi with ⟨a1, a2⟩ | ⟨a1, rfl⟩
    · rcases getElem?_snoc hj with ⟨b1, b2⟩ | ⟨b1, rfl⟩
      · exact hI.grow i j x y hij a2 b2 c
      · have := hI.grow i D.n x _ (by omega) a2 hI.last c
        exact Int.le_trans this (hg c)
    · rcases getElem?_snoc hj with ⟨b1, b2⟩ | ⟨b1, rfl⟩
      · omega
      · exact Int.le_refl _
  · obtain ⟨u0, h1, h2, h3, h4, h5⟩ := hT k t ht ho h6
    obtain ⟨c, h, g1, g2, g3, g4⟩ := hI.fr k u0 h1 h2 h3
    obtain ⟨c', e1, e2⟩ := hC _ _ g1
    refine ⟨c', h, by rw [h4]; exact e1, by rw [e2]; exact hup g2, ?_⟩
    rcases h5 with ⟨h5, h7⟩ | ⟨h0, h5, h7⟩
    · rw [h5, h7]
      exact ⟨g3, Int.le_trans g4 (sumTo_mono hg _)⟩
    · have e : (u0.f.at_ + 1).toNat = u0.f.at_.toNat + 1 := by omega
      have e3 : ((u0.f.at_.toNat : Nat) : Int) = u0.f.at_ := by omega
      have hb := (List.getElem?_eq_some_iff.1 g2).1
      have hgr := hI.grow c.beg D.n h _ (by omega) g2 hI.last u0.f.at_
      have hgr2 := hg u0.f.at_
      have hm := sumTo_mono hg u0.f.at_.toNat
      rw [h5, h7, e]
      simp only [sumTo, e3]
      omega
  · rcases hd c hc h6 h0 with h | ⟨h1, h, h2, h3, h4⟩
    · obtain ⟨h, h', g1, g2, g3⟩ := hI.done c h h6 h0
      exact ⟨h, h', hup g1, hup g2, g3⟩
    · refine ⟨h, D.ps, hup h2, hup ?_, h3, h4⟩
      rw [h1]
      exact hI.last
theorem hinv_dbeg {n : Int} {ops : List (List Rw)} {D D' : DS} {H : List Pts} {k : Nat} (hI : HInv n D H) (h : dbeg (ownOp 5 6) ops D k = some D') : HInv n D' H := by
  unfold dbeg at h
  split at h
  · rename_i t l hT hl
    split at h
    · cases h
      exact hI
    · split at h
      · split at h
        · rename_i x hx
          cases h
          have hkl := (List.getElem?_eq_some_iff.1 hT).1
          refine ⟨hI.len, hI.last, hI.grow, fun j u hj hu h6 => ?_, fun c hc h6 h0 => ?_⟩
          · by_cases e : k = j
            · subst e
              have hj : (D.T.set k _)[k]? = some u := hj
              rw [List.getElem?_set_self hkl] at hj
              cases hj
              exact ⟨_, _, List.getElem?_concat_length, hI.last, Int.le_refl 0, Int.le_refl 0⟩
            · have hj : (D.T.set k _)[j]? = some u := hj
              rw [List.getElem?_set_ne e] at hj
              obtain ⟨c, h, h1, h2⟩ := hI.fr j u hj hu h6
              refine ⟨c, h, ?_, h2⟩
              rw [List.getElem?_append_left (List.getElem?_eq_some_iff.1 h1).1]
              exact h1
          · rcases List.mem_append.1 hc with h | h
            · exact hI.done c h h6 h0
            · simp only [List.mem_singleton] at h
              subst h
              exact absurd h0 (show ¬ (0 : Int) ≤ -1 by decide)
        · cases h
      · cases h
  · cases h
theorem hinv_dmov {n : Int} (hn : 1 ≤ n ∧ n ≤ 16) {D : DS} {H : List Pts} {k : Nat} {t : TH} (hA : AInv n D) (hI : HInv n D H) (hT : D.T[k]? = some t) (hon : t.on = true) : HInv n (dmov (tallyR n) D k) (H ++ [(dmov (tallyR n) D k).ps]) := by
  have hkl := (List.getElem?_eq_some_iff.1 hT).1
  obtain ⟨hk5, ⟨c, hc, hth, hen, hok, hov⟩, hver⟩ := hA.fr k t hT hon
  have hfr := hA.t.fr k t hT hon
  have hin := into_range t.f.d0 n (by omega)
  have hcl := (List.getElem?_eq_some_iff.1 hc).1
  have hend : ∀ a : An, endC D.C t.call D.n a = D.C.set t.call { c with en := D.n, an := a } := fun a => by
    unfold endC
    rw [hc]
  have hCs : ∀ a : An, ∀ (i : Nat) c1, D.C[i]? = some c1 → ∃ c', (D.C.set t.call { c with en := (D.n : Int), an := a })[i]? = some c' ∧ c'.beg = c1.beg := fun a i c1 h1 => by
    by_cases e : t.call = i
    · subst e
      rw [hc] at h1
      cases h1
      exact ⟨_, List.getElem?_set_self hcl, rfl⟩
    · exact ⟨c1, by rw [List.getElem?_set_ne e]; exact h1, rfl⟩
  have hoff : ∀ (j : Nat) u, (D.T.set k { t with on := false })[j]? = some u → u.on = true → u.f.k = 6 → ∃ u0, D.T[j]? = some u0 ∧ u0.on = true ∧ u0.f.k = 6 ∧ u.call = u0.call ∧ ((u.f.at_ = u0.f.at_ ∧ u.f.tot = u0.f.tot) ∨ (0 ≤ u0.f.at_ ∧ u.f.at_ = u0.f.at_ + 1 ∧ u.f.tot = u0.f.tot + (rd D.ps u0.f.at_).2.n)) := fun j u hj hu h6 => by
    by_cases e : k = j
    · subst e
      rw [List.getElem?_set_self hkl] at hj
      cases hj
      cases hu
    · rw [List.getElem?_set_ne e] at hj
      exact ⟨u, hj, hu, h6, rfl, .inl ⟨rfl, rfl⟩⟩
  have hfs : ∀ f' : RF, (f'.k = 6 → t.f.k = 6 ∧ ((f'.at_ = t.f.at_ ∧ f'.tot = t.f.tot) ∨ (0 ≤ t.f.at_ ∧ f'.at_ = t.f.at_ + 1 ∧ f'.tot = t.f.tot + (rd D.ps t.f.at_).2.n))) → ∀ (j : Nat) u, (D.T.set k { t with f := f' })[j]? = some u → u.on = true → u.f.k = 6 → ∃ u0, D.T[j]? = some u0 ∧ u0.on = true ∧ u0.f.k = 6 ∧ u.call = u0.call ∧ ((u.f.at_ = u0.f.at_ ∧ u.f.tot = u0.f.tot) ∨ (0 ≤ u0.f.at_ ∧ u.f.at_ = u0.f.at_ + 1 ∧ u.f.tot = u0.f.tot + (rd D.ps u0.f.at_).2.n)) := fun f' hf j u hj hu h6 => by
    by_cases e : k = j
    · subst e
      rw [List.getElem?_set_self hkl] at hj
      cases hj
      obtain ⟨h1, h2⟩ := hf h6
      exact ⟨t, hT, hon, h1, rfl, h2⟩
    · rw [List.getElem?_set_ne e] at hj
      exact ⟨u, hj, hu, h6, rfl, .inl ⟨rfl, rfl⟩⟩
  have hsame : ∀ (i : Nat) c1, D.C[i]? = some c1 → ∃ c', D.C[i]? = some c' ∧ c'.beg = c1.beg := fun i c1 h => ⟨c1, h, rfl⟩
  by_cases hk : t.f.k = 6
  · have ha := hfr.at_
    by_cases hlast : t.f.at_ + 1 < n
    · have hd : dmov (tallyR n) D k = ⟨D.ps, D.T.set k { t with f := { t.f with tot := t.f.tot + (rd D.ps t.f.at_).2.n, at_ := t.f.at_ + 1 } }, D.C, D.n + 1⟩ := by
        unfold dmov
        rw [hT]
        simp [tallyR, hk, hlast]
      rw [hd]
      exact hI.next (D2 := ⟨_, _, _, _⟩) rfl (fun _ => Int.le_refl _) hsame (hfs _ fun _ => ⟨hk, .inr ⟨ha.1, rfl, rfl⟩⟩) fun c h _ _ => .inl h
    · have hd : dmov (tallyR n) D k = ⟨D.ps, D.T.set k { t with on := false }, endC D.C t.call D.n ⟨true, ⟨0, 0⟩, t.f.tot + (rd D.ps t.f.at_).2.n⟩, D.n + 1⟩ := by
        unfold dmov
        rw [hT]
        simp [tallyR, hk, hlast]
      rw [hend] at hd
      rw [hd]
      refine hI.next (D2 := ⟨_, _, _, _⟩) rfl (fun _ => Int.le_refl _) (hCs _) hoff fun c2 h2 h6 h0 => ?_
      rcases List.mem_or_eq_of_mem_set h2 with h | h
      · exact .inl h
      · right
        obtain ⟨c3, hh, g1, g2, g3, g4⟩ := hI.fr k t hT hon hk
        rw [hc] at g1
        cases g1
        subst h
        refine ⟨rfl, hh, g2, ?_⟩
        have e : n.toNat = t.f.at_.toNat + 1 := by omega
        have e3 : ((t.f.at_.toNat : Nat) : Int) = t.f.at_ := by omega
        have hb := (List.getElem?_eq_some_iff.1 g2).1
        have hl := hI.len
        have hgr := hI.grow c.beg D.n hh _ (by omega) g2 hI.last t.f.at_
        rw [e]
        simp only [sumTo, e3]
        omega
  · have hk5' : t.f.k = 5 := hk5.resolve_right hk
    by_cases hpc : t.f.pc = 0
    · have hd : dmov (tallyR n) D k = ⟨D.ps, D.T.set k { t with f := { t.f with pc := 1, v0 := (rd D.ps (into t.f.d0 n)).1, c0 := (rd D.ps (into t.f.d0 n)).2 } }, D.C, D.n + 1⟩ := by
        unfold dmov
        rw [hT]
        simp [tallyR, hk, hpc]
      rw [hd]
      exact hI.next (D2 := ⟨_, _, _, _⟩) rfl (fun _ => Int.le_refl _) hsame (hfs _ fun h => absurd h hk) fun c h _ _ => .inl h
    · by_cases hmay : may D.ps (into t.f.d0 n) t.f.v0
      · have hd : dmov (tallyR n) D k = ⟨D.ps ++ [⟨into t.f.d0 n, ⟨t.f.c0.n + t.f.it.val, []⟩⟩], D.T.set k { t with on := false }, endC D.C t.call D.n ⟨true, ⟨0, 0⟩, 0⟩, D.n + 1⟩ := by
          unfold dmov
          rw [hT]
          simp [tallyR, hk, hpc, hmay, wr']
        rw [hend] at hd
        rw [hd]
        have hv := (hver hk hpc).2 (by have := hmay.2.2; omega)
        have hval := hfr.val hk
        refine hI.next (D2 := ⟨_, _, _, _⟩) rfl (fun x => ?_) (hCs _) hoff fun c2 h2 h6 h0 => ?_
        · show _ ≤ (rd (D.ps ++ [_]) x).2.n
          rw [rd_snoc]
          split
          · rename_i e
            subst e
            rw [hv]
            show t.f.c0.n ≤ t.f.c0.n + t.f.it.val
            omega
          · exact Int.le_refl _
        · rcases List.mem_or_eq_of_mem_set h2 with h | h
          · exact .inl h
          · subst h
            have h6 : c.o.k = 6 := h6
            omega
      · have hd : dmov (tallyR n) D k = ⟨D.ps, D.T.set k { t with f := { t.f with pc := 0 } }, D.C, D.n + 1⟩ := by
          unfold dmov
          rw [hT]
          simp [tallyR, hk, hpc, hmay, wr']
        rw [hd]
        exact hI.next (D2 := ⟨_, _, _, _⟩) rfl (fun _ => Int.le_refl _) hsame (hfs _ fun h => absurd h hk) fun c h _ _ => .inl h
theorem hinv0 (n : Int) (q : Nat) : HInv n (ds0 q) [[]] where
  len := rfl
  last := rfl
  grow := fun i j x y hij hi hj c => by
    obtain ⟨h1, h2⟩ := List.getElem?_eq_some_iff.1 hi
    obtain ⟨h3, h4⟩ := List.getElem?_eq_some_iff.1 hj
    simp only [List.length_singleton] at h1 h3
    have : i = 0 := by omega
    have : j = 0 := by omega
    subst i
    subst j
    simp only [List.getElem_cons_zero] at h2 h4
    rw [← h2, ← h4]
    exact Int.le_refl _
  fr := fun k t h hon => by
    have h : (List.replicate q th0)[k]? = some t := h
    rw [List.getElem?_replicate] at h
    split at h
    · cases h
      cases hon
    · cases h
  done := fun c hc => by cases hc
/-- A step of the run, with what was. -/
theorem hinv_step {n : Int} (hn : 1 ≤ n ∧ n ≤ 16) {ops : List (List Rw)} (hops : ∀ l ∈ ops, ∀ x ∈ l, RwOk x) {D D' : DS} {H : List Pts} {k : Nat} (hA : AInv n D) (hI : HInv n D H) (hb : dbeg (ownOp 5 6) ops D k = some D') : HInv n (dmov (tallyR n) D' k) (H ++ [(dmov (tallyR n) D' k).ps]) := by
  obtain ⟨h1, h2, t0, h3, h4⟩ := tally_dbeg hn hops hA.t hb
  exact hinv_dmov hn (adds_dbeg hn hops hA hb) (hinv_dbeg hI hb) h3 h4
end Go.Proofs.Ytefgpelodpggkaa.Ve
