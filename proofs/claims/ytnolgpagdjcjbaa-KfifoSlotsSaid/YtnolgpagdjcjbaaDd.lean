import Derived.Test.YtnolgpagdjcjbaaDc
set_option linter.unusedVariables false
set_option linter.unusedSimpArgs false
namespace Go.Proofs.Ytnolgpagdjcjbaa.Ve
open Go
set_option maxRecDepth 4000
set_option maxHeartbeats 8000000
theorem step_end {kind : Int} {own : Rw → Opd} {rv : V} {g : FuncId} {z : V} {rs : StepR} {FR : List V → RF → Prop} {Ok : Pts → RF → Prop} {ops : List (List Rw)} {gN : FuncId} {cN : List V} {KN : List Nat} {JN : St → Prop} {gS : FuncId} {cS : List V} {J : St → List Nat → DS → Prop} {Inv : DS → Prop}
    (A : Around kind own rv g z rs FR Ok ops gN cN KN JN gS cS J Inv) {n : Nat}
    {nx N m : Nat} {st0 : St} {K0 : List Nat} {s : St} {D E : DS} {I Jc K : List Nat} {xv cv : V} {fr : Nat → Nat} {rA rO rT rC : List (List V)}
    (hI : DrI n nx N m st0 K0 FR JN (fun s K _ => J s K D) (fun _ => Inv D) s E I Jc K xv cv fr rA rO rT rC) (hnx : st0.next = nx) (hNx : nx < N) (hmN : nx < m ∧ m < N) (hKN : ∀ y ∈ KN, y < nx) (hKK : ∀ y ∈ K0, y ∉ KN)
    {k : Nat} {t : TH} (hkT : E.T[k]? = some t) (hon : t.on = true)
    {s6 s7 : St} {rO' : List (List V)} {I2 K' : List Nat}
    (hF6 : Frm s s6 (fr k :: m :: N :: (N + 1 + 1) :: (N + 1 + 1 + 1) :: (I ++ Jc)))
    (g6N : s6.get N = some ⟨4, [[.ptr m 0 0, .pv (.fz ((rs E.ps t.f).1.map rPt)), cv, .pv (.sc (.int .i64 ((E.n + 1 : Nat) : Int)))]]⟩)
    (g6O : s6.get (N + 1 + 1) = some ⟨1, rO'⟩) (hO : rO' = if (rs E.ps t.f).2.2.2 = true then rO.set k [nilP] else rO)
    (g6T : s6.get (N + 1 + 1 + 1) = some ⟨17, rT.set k ((rRF (rs E.ps t.f).2.1).map .pv)⟩)
    (g6F : (rs E.ps t.f).2.2.2 = false → ∃ row, s6.get (fr k) = some ⟨17, [row]⟩ ∧ FR row (rs E.ps t.f).2.1)
    (hM6 : MemAt s6 m I2 (rs E.ps t.f).1) (hI2 : ∀ y ∈ I2, y ∈ I ∨ s.next ≤ y)
    (hC6 : SlE s6 12 cv ((dmov rs E k).C.map cRow) Jc)
    (hF7 : Frm s6 s7 K) (hJ7 : J s7 K' (dmov rs E k)) (hK7 : ∀ y ∈ K', y ∈ K ∨ s6.next ≤ y) (hInv : Inv (dmov rs E k)) :
    DrI n nx N m st0 K0 FR JN J Inv s7 (dmov rs E k) I2 Jc K' (.pv (.fz ((rs E.ps t.f).1.map rPt))) cv fr rA rO' (rT.set k ((rRF (rs E.ps t.f).2.1).map .pv)) rC ∧ (dmov rs E k).C.length ≤ (dmov rs E k).n := by
  obtain ⟨i1, i2, i3, i4, i5, i6, i7, i8, i9, i10, i11, i12, i13, i14, i15, i16, i17, i18, i19, i20, i21, i22, i23, i24, i25, i26, i27, i28⟩ := hI
  have hkl := (List.getElem?_eq_some_iff.1 hkT).1
  obtain ⟨row0, f1, f2, f3, f4, f5, f6, f7⟩ := i17 k t hkT hon
  have hn6 := hF6.next
  have hn7 := hF7.next
  have hps : (dmov rs E k).ps = (rs E.ps t.f).1 := by
    unfold dmov
    rw [hkT]
    simp only
    split <;> rfl
  have hn : (dmov rs E k).n = E.n + 1 := by
    unfold dmov
    rw [hkT]
    simp only
    split <;> rfl
  have hCl : (dmov rs E k).C.length = E.C.length := by
    unfold dmov
    rw [hkT]
    simp only
    split
    · unfold endC
      split <;> simp
    · rfl
  obtain ⟨t', hT, ht'at, ht'call, ht'on, ht'f⟩ : ∃ t', (dmov rs E k).T = E.T.set k t' ∧ t'.at_ = t.at_ ∧ t'.call = t.call ∧ t'.on = !(rs E.ps t.f).2.2.2 ∧ ((rs E.ps t.f).2.2.2 = false → t'.f = (rs E.ps t.f).2.1) := by
    unfold dmov
    rw [hkT]
    simp only
    split
    · rename_i h
      exact ⟨_, rfl, rfl, rfl, by simp [h], fun h' => by rw [h] at h'; cases h'⟩
    · rename_i h
      exact ⟨_, rfl, rfl, rfl, by simp [hon, h], fun _ => rfl⟩
  have hIS : ∀ y ∈ I, y < s.next := i8.ltI
  have hJS : ∀ y ∈ Jc, y < s.next := i9.lt
  have hKS : ∀ y ∈ K, y < s.next := A.ltS _ _ _ i23
  have hap : ∀ y, y ≠ fr k → y ≠ m → y ≠ N → y ≠ N + 1 + 1 → y ≠ N + 1 + 1 + 1 → y ∉ I → y ∉ Jc → y ∉ (fr k :: m :: N :: (N + 1 + 1) :: (N + 1 + 1 + 1) :: (I ++ Jc)) := by
    intro y h1 h2 h3 h4 h5 h6 h7
    simp only [List.mem_cons, List.mem_append, not_or]
    exact ⟨h1, h2, h3, h4, h5, h6, h7⟩
  have hlow : ∀ y, y ≤ N + 4 → nx ≤ y → y ∉ K := fun y hy hy' h => by
    have := (i21 y h).1
    omega
  have hI4 : ∀ y, y ≤ N + 4 → y ∉ I := fun y hy h => by have := i19 y h; omega
  have hJ4 : ∀ y, y ≤ N + 4 → y ∉ Jc := fun y hy h => by have := (i20 y h).1; omega
  have hget : ∀ y o, y < s.next → y ≠ fr k → y ≠ m → y ≠ N → y ≠ N + 1 + 1 → y ≠ N + 1 + 1 + 1 → y ∉ I → y ∉ Jc → y ∉ K → s.get y = o → s7.get y = o := by
    intro y o h0 h1 h2 h3 h4 h5 h6 h7 h8 h9
    exact hF7.getq (by omega) h8 (hF6.getq h0 (hap y h1 h2 h3 h4 h5 h6 h7) h9)
  have hg7 : ∀ y o, y ≤ N + 4 → nx ≤ y → s6.get y = o → s7.get y = o := fun y o h1 h2 h3 => hF7.getq (by omega) (hlow y h1 h2) h3
  have hI2S : ∀ y ∈ I2, y < s6.next := hM6.ltI
  have hI2K : ∀ y ∈ I2, y ∉ K := fun y hy hk => by
    rcases hI2 y hy with h | h
    · exact (i21 y hk).2.1 h
    · have := hKS y hk
      omega
  refine ⟨⟨?_, ?_, ?_, ?_, ?_, ?_, ?_, ?_, ?_, ?_, ?_, ?_, ?_, ?_, ?_, ?_, ?_, ?_, ?_, ?_, ?_, ?_, hJ7, ?_, hInv, ?_, ?_, ?_⟩, ?_⟩
  · rw [hn]
    exact hg7 _ _ (by omega) (by omega) g6N
  · exact hget _ _ (by omega) (by omega) (by omega) (by omega) (by omega) (by omega) (hI4 _ (by omega)) (hJ4 _ (by omega)) (hlow _ (by omega) (by omega)) i2
  · exact hget _ _ (by omega) (by omega) (by omega) (by omega) (by omega) (by omega) (hI4 _ (by omega)) (hJ4 _ (by omega)) (hlow _ (by omega) (by omega)) i3
  · exact hg7 _ _ (by omega) (by omega) g6O
  · exact hg7 _ _ (by omega) (by omega) g6T
  · exact hget _ _ (by omega) (by omega) (by omega) (by omega) (by omega) (by omega) (hI4 _ (by omega)) (hJ4 _ (by omega)) (hlow _ (by omega) (by omega)) i6
  · rw [hps]
    exact .inl rfl
  · rw [hps]
    exact hM6.move hF7 (hlow _ (by omega) (by omega)) hI2K
  · exact hC6.frm hF7 fun y hy hk => (i21 y hk).2.2 hy
  · rw [hT, List.length_set]
    exact i10
  · rw [hT]
    exact RowsAre.keep i11 fun u r hu hr => by
      rw [hkT] at hu
      cases hu
      rw [hr, ht'at]
  · rw [hT, hO]
    split
    · rename_i h
      refine RowsAre.set i12 ?_
      simp [ht'on, h]
    · rename_i h
      refine RowsAre.keep i12 fun u r hu hr => ?_
      rw [hkT] at hu
      cases hu
      have h' : t'.on = true := by rw [ht'on]; simpa using h
      rw [hr, hon, h']
  · rw [hT]
    refine RowsAre.set i13 ⟨rfl, fun h => ?_⟩
    rw [ht'on] at h
    rw [ht'f (by simpa using h)]
  · rw [hT]
    refine RowsAre.keep i14 fun u r hu hr => ?_
    rw [hkT] at hu
    cases hu
    obtain ⟨j, h1, h2⟩ := hr
    exact ⟨j, h1, fun _ => by rw [ht'call]; exact h2 hon⟩
  · intro j u hj hu
    rw [hCl]
    rw [hT] at hj
    by_cases e : k = j
    · subst e
      rw [List.getElem?_set_self hkl] at hj
      cases hj
      rw [ht'call]
      exact i15 k t hkT hon
    · rw [List.getElem?_set_ne e] at hj
      exact i15 j u hj hu
  · intro j u hj
    rw [hT] at hj
    by_cases e : k = j
    · subst e
      rw [List.getElem?_set_self hkl] at hj
      cases hj
      rw [ht'at]
      exact i16 k t hkT
    · rw [List.getElem?_set_ne e] at hj
      exact i16 j u hj
  · intro j u hj hu
    rw [hT] at hj
    by_cases e : k = j
    · subst e
      rw [List.getElem?_set_self hkl] at hj
      cases hj
      rw [ht'on] at hu
      have hd : (rs E.ps t.f).2.2.2 = false := by simpa using hu
      obtain ⟨row, r1, r2⟩ := g6F hd
      rw [ht'f hd]
      refine ⟨row, hF7.getq (by omega) f7 r1, r2, f3, by omega, fun h => ?_, f6, fun h => ?_⟩
      · rcases hI2 _ h with h | h
        · exact f5 h
        · omega
      · rcases hK7 _ h with h | h
        · exact f7 h
        · omega
    · rw [List.getElem?_set_ne e] at hj
      obtain ⟨row, r1, r2, r3, r4, r5, r6, r7⟩ := i17 j u hj hu
      have hne : fr j ≠ fr k := fun h => e (i18 k j t u hkT hj hon hu h.symm)
      refine ⟨row, hget _ _ r4 hne (by omega) (by omega) (by omega) (by omega) r5 r6 r7 r1, r2, r3, by omega, fun h => ?_, r6, fun h => ?_⟩
      · rcases hI2 _ h with h | h
        · exact r5 h
        · omega
      · rcases hK7 _ h with h | h
        · exact r7 h
        · omega
  · intro j j' u u' hj hj' hu hu' he
    rw [hT] at hj hj'
    by_cases e : k = j
    · by_cases e' : k = j'
      · rw [← e, ← e']
      · subst e
        rw [List.getElem?_set_ne e'] at hj'
        exact i18 k j' t u' hkT hj' hon hu' he
    · rw [List.getElem?_set_ne e] at hj
      by_cases e' : k = j'
      · subst e'
        exact i18 j k u t hj hkT hu hon he
      · rw [List.getElem?_set_ne e'] at hj'
        exact i18 j j' u u' hj hj' hu hu' he
  · intro y hy
    rcases hI2 y hy with h | h
    · exact i19 y h
    · omega
  · intro y hy
    refine ⟨(i20 y hy).1, fun h => ?_⟩
    rcases hI2 y h with h | h
    · exact (i20 y hy).2 h
    · have := hJS y hy
      omega
  · intro y hy
    rcases hK7 y hy with h | h
    · exact ⟨(i21 y h).1, fun h' => hI2K y h' h, (i21 y h).2.2⟩
    · exact ⟨.inr (by omega), fun h' => by have := hI2S y h'; omega, fun h' => by have := hJS y h'; omega⟩
  · intro y hy
    rcases hK7 y hy with h | h
    · exact i22 y h
    · exact .inr (by omega)
  · refine A.keepN _ _ _ (A.keepN _ _ _ i24 hF6 fun y hy => ?_) hF7 fun y hy hk => ?_
    · have := hKN y hy
      exact hap y (by omega) (by omega) (by omega) (by omega) (by omega) (hI4 _ (by omega)) (hJ4 _ (by omega))
    · rcases i22 y hk with h | h
      · exact hKK y h hy
      · have := hKN y hy
        omega
  · refine (i26.trans hF6 fun y hy hy0 => ?_).trans hF7 fun y hy hy0 => ?_
    · exact absurd hy (hap y (by omega) (by omega) (by omega) (by omega) (by omega) (hI4 _ (by omega)) (hJ4 _ (by omega)))
    · rcases i22 y hy with h | h
      · exact h
      · omega
  · omega
  · rw [hCl, hn]
    omega
  · rw [hCl, hn]
    omega
end Go.Proofs.Ytnolgpagdjcjbaa.Ve
