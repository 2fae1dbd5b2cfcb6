import Derived.Test.YtnolgpagdjcjbaaDq
set_option linter.unusedVariables false
set_option linter.unusedSimpArgs false
namespace Go.Proofs.Ytnolgpagdjcjbaa.Ve
open Go
set_option maxRecDepth 4000
set_option maxHeartbeats 8000000
theorem begin_end {kind : Int} {own : Rw → Opd} {rv : V} {g : FuncId} {z : V} {rs : StepR} {FR : List V → RF → Prop} {Ok : Pts → RF → Prop} {ops : List (List Rw)} {gN : FuncId} {cN : List V} {KN : List Nat} {JN : St → Prop} {gS : FuncId} {cS : List V} {J : St → List Nat → DS → Prop} {Inv : DS → Prop}
    (A : Around kind own rv g z rs FR Ok ops gN cN KN JN gS cS J Inv) {n : Nat}
    {nx N m : Nat} {st0 : St} {K0 : List Nat} {s : St} {D : DS} {I Jc K : List Nat} {xv cv : V} {fr : Nat → Nat} {rA rO rT rC : List (List V)}
    (hI : DrI n nx N m st0 K0 FR JN J Inv s D I Jc K xv cv fr rA rO rT rC) (hnx : st0.next = nx) (hNx : nx < N) (hmN : m < N) (hKN : ∀ y ∈ KN, y < nx) (hcl : D.C.length ≤ D.n)
    {k : Nat} {t : TH} {l : List Rw} {x : Rw} (hkT : D.T[k]? = some t) (hkO : ops[k]? = some l) (hoff : t.on = false) (h8 : t.at_ < 8) (hx : l[t.at_]? = some x)
    {s4 s5 : St} {o : SO} {ci S : Nat} (hS : s.next = S) (hF4 : Frm s s4 [N + 1, N + 1 + 1, N + 1 + 1 + 1, N + 1 + 1 + 1 + 1]) (hS4 : S + 3 ≤ s4.next) (hF5 : Frm s4 s5 Jc) (hci1 : s4.next ≤ ci) (hci2 : ci < s5.next) (hci3 : s5.get ci = some ⟨12, D.C.map cRow ++ [cRow ⟨k, own x, D.n, -1, an00⟩]⟩)
    (ho : o = ⟨4, [[.ptr m 0 0, xv, .ow ci 12 0 (D.C.map cRow ++ [cRow ⟨k, own x, D.n, -1, an00⟩]).length, .pv (.sc (.int .i64 D.n))]]⟩)
    (gA : s5.get (N + 1) = some ⟨1, rA.set (0 + ((k : Nat) : Int).toNat) [.pv (.sc (.int .i64 ((t.at_ : Int) + 1)))]⟩)
    (gO : s5.get (N + 1 + 1) = some ⟨1, rO.set (0 + ((k : Nat) : Int).toNat) [.ptr (S + 1) 0 0]⟩)
    (gT : s5.get (N + 1 + 1 + 1) = some ⟨17, rT.set (0 + ((k : Nat) : Int).toNat) ((rRF (toldF (own x))).map .pv)⟩)
    (gC : s5.get (N + 1 + 1 + 1 + 1) = some ⟨1, rC.set (0 + ((k : Nat) : Int).toNat) [.pv (.sc (.int .i64 ((D.C.map cRow).length : Nat)))]⟩)
    (gF : s5.get (S + 1) = some ⟨17, [pRow (own x).it.pri (toldF (own x)) .nl .nl]⟩) :
    ∃ D' Jc' c' fr' rA' rO' rT' rC', dbeg own ops D k = some D' ∧ DrI n nx N m st0 K0 FR JN (fun s K _ => J s K D) (fun _ => Inv D) (s5.set N o) D' I Jc' K xv c' fr' rA' rO' rT' rC' ∧ ∃ t', D'.T[k]? = some t' ∧ t'.on = true := by
  obtain ⟨i1, i2, i3, i4, i5, i6, i7, i8, i9, i10, i11, i12, i13, i14, i15, i16, i17, i18, i19, i20, i21, i22, i23, i24, i25, i26, i27, i28⟩ := hI
  have e0 : 0 + ((k : Nat) : Int).toNat = k := by omega
  rw [e0] at gA gO gT gC
  have hkl := (List.getElem?_eq_some_iff.1 hkT).1
  have hn5 := hF5.next
  have hF : Frm s (s5.set N o) (N :: (N + 1) :: (N + 1 + 1) :: (N + 1 + 1 + 1) :: (N + 1 + 1 + 1 + 1) :: Jc) := by
    refine ⟨by have := hF4.next; simp only [St.set]; omega, fun y hy hn => ?_⟩
    simp only [List.mem_cons, not_or] at hn
    obtain ⟨n0, n1, n2, n3, n4, n5⟩ := hn
    refine get_set_miss n0 ?_
    rw [hF5.get y (by omega) n5]
    refine hF4.get y hy ?_
    simp only [List.mem_cons, List.not_mem_nil, or_false, not_or]
    exact ⟨n1, n2, n3, n4⟩
  have hap : ∀ y, y < N ∨ N + 4 < y ∧ y ∉ Jc → y ∉ (N :: (N + 1) :: (N + 1 + 1) :: (N + 1 + 1 + 1) :: (N + 1 + 1 + 1 + 1) :: Jc) := fun y hy => by
    simp only [List.mem_cons, not_or]
    rcases hy with h | ⟨h, h'⟩
    · exact ⟨by omega, by omega, by omega, by omega, by omega, fun hj => by have := (i20 _ hj).1; omega⟩
    · exact ⟨by omega, by omega, by omega, by omega, by omega, h'⟩
  have hIS : ∀ y ∈ I, y < S := fun y hy => by have := i8.ltI y hy; omega
  have hJS : ∀ y ∈ Jc, y < S := fun y hy => by have := i9.lt y hy; omega
  have hKS : ∀ y ∈ K, y < S := fun y hy => by have := A.ltS _ _ _ i23 y hy; omega
  refine ⟨⟨D.ps, D.T.set k ⟨t.at_ + 1, true, toldF (own x), D.C.length⟩, D.C ++ [⟨k, own x, D.n, -1, an00⟩], D.n⟩, [ci], .ow ci 12 0 (D.C.map cRow ++ [cRow ⟨k, own x, D.n, -1, an00⟩]).length, fun j => if j = k then S + 1 else fr j, rA.set k [.pv (.sc (.int .i64 ((t.at_ : Int) + 1)))], rO.set k [.ptr (S + 1) 0 0], rT.set k ((rRF (toldF (own x))).map .pv), rC.set k [.pv (.sc (.int .i64 ((D.C.map cRow).length : Nat)))], ?_, ⟨?_, ?_, ?_, ?_, ?_, ?_, i7, ?_, ?_, ?_, ?_, ?_, ?_, ?_, ?_, ?_, ?_, ?_, i19, ?_, ?_, i22, ?_, ?_, i25, ?_, ?_, ?_⟩, ⟨t.at_ + 1, true, toldF (own x), D.C.length⟩, ?_, rfl⟩
  · unfold dbeg
    simp [hkT, hkO, hoff, h8, hx]
  · rw [ho]
    exact get_set_hit
  · exact hF.getq (by omega) (hap _ (.inl hNx)) i2
  · exact get_set_miss (by omega) gA
  · exact get_set_miss (by omega) gO
  · exact get_set_miss (by omega) gT
  · exact get_set_miss (by omega) gC
  · exact i8.move hF (hap _ (.inl hmN)) fun y hy => hap _ (.inr ⟨i19 y hy, fun hj => (i20 y hj).2 hy⟩)
  · rw [List.map_append]
    refine .inr ⟨ci, rfl, by simp only [St.set]; omega, get_set_miss (by omega) hci3, rfl⟩
  · simpa using i10
  · refine RowsAre.set i11 ?_
    simp
  · refine RowsAre.set (i12.mono fun j u r hj hr => ?_) ?_
    · by_cases hjk : j = k
      · subst hjk
        rw [hkT] at hj
        cases hj
        rw [hr, hoff]
        rfl
      · simp only [if_neg hjk]
        exact hr
    · simp
  · refine RowsAre.set i13 ⟨rfl, fun _ => rfl⟩
  · refine RowsAre.set i14 ⟨_, rfl, fun _ => ?_⟩
    simp
  · intro j u hj hu
    simp only [List.length_append, List.length_cons, List.length_nil]
    by_cases hjk : k = j
    · subst hjk
      rw [List.getElem?_set_self hkl] at hj
      cases hj
      show D.C.length < _
      omega
    · rw [List.getElem?_set_ne hjk] at hj
      have := i15 j u hj hu
      omega
  · intro j u hj
    by_cases hjk : k = j
    · subst hjk
      rw [List.getElem?_set_self hkl] at hj
      cases hj
      exact h8
    · rw [List.getElem?_set_ne hjk] at hj
      exact i16 j u hj
  · intro j u hj hu
    by_cases hjk : k = j
    · subst hjk
      rw [List.getElem?_set_self hkl] at hj
      cases hj
      simp only [if_true]
      refine ⟨_, get_set_miss (by omega) gF, A.fr0 _, by omega, by simp only [St.set]; omega, fun h => by have := hIS _ h; omega, by simp; omega, fun h => by have := hKS _ h; omega⟩
    · rw [List.getElem?_set_ne hjk] at hj
      simp only [if_neg (Ne.symm hjk)]
      obtain ⟨row, r1, r2, r3, r4, r5, r6, r7⟩ := i17 j u hj hu
      refine ⟨row, hF.getq r4 (hap _ (.inr ⟨r3, r6⟩)) r1, r2, r3, by simp only [St.set]; omega, r5, by simp; omega, r7⟩
  · intro j j' u u' hj hj' hu hu' he
    by_cases hjk : k = j
    · by_cases hjk' : k = j'
      · rw [← hjk, ← hjk']
      · rw [List.getElem?_set_ne hjk'] at hj'
        simp only [if_pos hjk.symm, if_neg (Ne.symm hjk')] at he
        obtain ⟨row, r1, r2, r3, r4, r5, r6, r7⟩ := i17 j' u' hj' hu'
        omega
    · rw [List.getElem?_set_ne hjk] at hj
      by_cases hjk' : k = j'
      · simp only [if_pos hjk'.symm, if_neg (Ne.symm hjk)] at he
        obtain ⟨row, r1, r2, r3, r4, r5, r6, r7⟩ := i17 j u hj hu
        omega
      · rw [List.getElem?_set_ne hjk'] at hj'
        simp only [if_neg (Ne.symm hjk), if_neg (Ne.symm hjk')] at he
        exact i18 j j' u u' hj hj' hu hu' he
  · intro y hy
    rw [List.mem_singleton.1 hy]
    exact ⟨by omega, fun h => by have := hIS _ h; omega⟩
  · intro y hy
    obtain ⟨a, b, c⟩ := i21 y hy
    exact ⟨a, b, by have := hKS y hy; simp; omega⟩
  · refine A.keepS _ _ _ _ _ i23 hF fun y hy => hap _ ?_
    obtain ⟨a, b, c⟩ := i21 y hy
    rcases a with a | a
    · exact .inl (by omega)
    · exact .inr ⟨a, c⟩
  · exact A.keepN _ _ _ i24 hF fun y hy => hap _ (.inl (by have := hKN y hy; omega))
  · refine i26.trans hF fun y hy hy0 => ?_
    exact absurd hy (hap y (.inl (by omega)))
  · simp only [St.set]
    omega
  · simp only [List.length_append, List.length_cons, List.length_nil]
    omega
  · exact List.getElem?_set_self hkl
end Go.Proofs.Ytnolgpagdjcjbaa.Ve
