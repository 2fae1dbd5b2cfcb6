import Derived.Test.YtnolgpagdjcjbaaKh
set_option linter.unusedVariables false
set_option linter.unusedSimpArgs false
namespace Go.Proofs.Ytnolgpagdjcjbaa.Ve
open Go
set_option maxRecDepth 4000
/-- Steps that do not end an operation. -/
def Goes (rs : StepR) (k : Nat) (ps : Pts) (f : RF) (ps' : Pts) (f' : RF) : Prop := ∀ N, aloneR rs (k + N) ps f = aloneR rs N ps' f'
theorem Goes.refl {rs : StepR} {ps : Pts} {f : RF} : Goes rs 0 ps f ps f := fun N => by rw [Nat.zero_add]
theorem Goes.trans {rs : StepR} {a b : Nat} {ps ps1 ps2 : Pts} {f f1 f2 : RF} (h1 : Goes rs a ps f ps1 f1) (h2 : Goes rs b ps1 f1 ps2 f2) : Goes rs (a + b) ps f ps2 f2 := fun N => by
  rw [Nat.add_assoc]
  exact (h1 _).trans (h2 _)
theorem Goes.one {rs : StepR} {ps ps' : Pts} {f f' : RF} {a : An} (h : rs ps f = (ps', f', a, false)) : Goes rs 1 ps f ps' f' := fun N => by
  rw [Nat.add_comm, alone_go (by rw [h]), h]
theorem ends_up {rs : StepR} : ∀ (N d : Nat) (ps : Pts) (f : RF) (p : Pts) (a : An), aloneR rs N ps f = (p, a, true) → aloneR rs (N + d) ps f = (p, a, true)
  | 0, d, ps, f, p, a, h => by
    have h2 := congrArg (fun x => x.2.2) h
    cases h2
  | N + 1, d, ps, f, p, a, h => by
    rw [show N + 1 + d = (N + d) + 1 by omega]
    cases hd : (rs ps f).2.2.2
    · rw [alone_go hd] at h ⊢
      exact ends_up N d _ _ _ _ h
    · rw [alone_end hd] at h ⊢
      exact h
theorem Goes.ends {rs : StepR} {k N M : Nat} {ps ps' p : Pts} {f f' : RF} {a : An} (h1 : Goes rs k ps f ps' f') (h2 : aloneR rs N ps' f' = (p, a, true)) (hM : k + N ≤ M) : aloneR rs M ps f = (p, a, true) := by
  have h3 := (h1 N).trans h2
  have h4 := ends_up (k + N) (M - (k + N)) _ _ _ _ h3
  rwa [show k + N + (M - (k + N)) = M by omega] at h4
/-- What lists at places have, together. -/
def itsR (g : Nat → List It) : Nat → List It
  | 0 => []
  | N + 1 => itsR g N ++ g N
theorem itsR_eq {g g' : Nat → List It} : ∀ N : Nat, (∀ i, i < N → g' i = g i) → itsR g' N = itsR g N
  | 0, _ => rfl
  | N + 1, h => by
    show itsR g' N ++ g' N = itsR g N ++ g N
    rw [itsR_eq N (fun i hi => h i (by omega)), h N (by omega)]
theorem perm_rc2 {α : Type} (a b c : List α) : ((a ++ b) ++ c).Perm ((a ++ c) ++ b) := by
  rw [List.append_assoc, List.append_assoc]
  exact List.Perm.append_left a List.perm_append_comm
theorem itsR_set {g g' : Nat → List It} {j : Nat} : ∀ N : Nat, j < N → (∀ i, i ≠ j → g' i = g i) → (itsR g' N ++ g j).Perm (itsR g N ++ g' j)
  | 0, hj, _ => absurd hj (by omega)
  | N + 1, hj, h => by
    show ((itsR g' N ++ g' N) ++ g j).Perm ((itsR g N ++ g N) ++ g' j)
    by_cases e : j = N
    · subst e
      rw [itsR_eq j (fun i hi => h i (by omega))]
      exact perm_rc2 _ _ _
    · have ih := itsR_set (g := g) (g' := g') N (by omega) h
      rw [h N (fun e2 => e e2.symm)]
      exact (perm_rc2 _ _ _).trans ((ih.append_right (g N)).trans (perm_rc2 _ _ _))
/-- A slot. -/
def sl (n : Int) (ps : Pts) (seg : Int) (j : Int) : Vl := (rd ps (2 + seg * n + j)).2
/-- What is in a slot. -/
def slI (n : Int) (ps : Pts) (seg : Int) (j : Nat) : List It := if (sl n ps seg j).n = 1 then (sl n ps seg j).l else []
/-- What is in a segment. -/
def its (n : Int) (ps : Pts) (seg : Int) : List It := itsR (slI n ps seg) n.toNat
theorem slot_inj {n a b i j : Int} (hi : 0 ≤ i ∧ i < n) (hj : 0 ≤ j ∧ j < n) (h : 2 + a * n + i = 2 + b * n + j) : a = b ∧ i = j := by
  have e : a * n + i = b * n + j := by omega
  have h1 : (a * n + i) / n = a := by rw [Int.add_comm, Int.add_mul_ediv_right _ _ (by omega), Int.ediv_eq_zero_of_lt hi.1 hi.2, Int.zero_add]
  have h2 : (b * n + j) / n = b := by rw [Int.add_comm, Int.add_mul_ediv_right _ _ (by omega), Int.ediv_eq_zero_of_lt hj.1 hj.2, Int.zero_add]
  rw [e, h2] at h1
  subst h1
  exact ⟨rfl, by omega⟩
theorem sl_put {n seg seg' j j' : Int} {ps : Pts} {v : Vl} (hj : 0 ≤ j ∧ j < n) (hj' : 0 ≤ j' ∧ j' < n) : sl n (ps ++ [⟨2 + seg * n + j, v⟩]) seg' j' = if seg = seg' ∧ j = j' then v else sl n ps seg' j' := by
  unfold sl
  rw [rd_snoc]
  by_cases e : seg = seg' ∧ j = j'
  · rw [if_pos e, if_pos (by rw [e.1, e.2])]
  · rw [if_neg e, if_neg (fun h => e (slot_inj hj hj' h))]
theorem sl_low {n seg j at_ : Int} {ps : Pts} {v : Vl} (hn : 1 ≤ n) (hs : 0 ≤ seg) (hj : 0 ≤ j) (ha : at_ < 2) : sl n (ps ++ [⟨at_, v⟩]) seg j = sl n ps seg j := by
  unfold sl
  have := Int.mul_nonneg hs (by omega : 0 ≤ n)
  rw [rd_snoc, if_neg (by show ¬ at_ = 2 + seg * n + j; omega)]
theorem its_low {n seg at_ : Int} {ps : Pts} {v : Vl} (hn : 1 ≤ n) (hs : 0 ≤ seg) (ha : at_ < 2) : its n (ps ++ [⟨at_, v⟩]) seg = its n ps seg := by
  unfold its
  refine itsR_eq _ fun i hi => ?_
  unfold slI
  rw [sl_low hn hs (by omega) ha]
theorem its_ne {n seg seg' j : Int} {ps : Pts} {v : Vl} (hj : 0 ≤ j ∧ j < n) (h : seg ≠ seg') : its n (ps ++ [⟨2 + seg * n + j, v⟩]) seg' = its n ps seg' := by
  unfold its
  refine itsR_eq _ fun i hi => ?_
  have e : sl n (ps ++ [⟨2 + seg * n + j, v⟩]) seg' i = sl n ps seg' i := by rw [sl_put hj ⟨by omega, by omega⟩, if_neg (fun e => h e.1)]
  unfold slI
  rw [e]
theorem its_put {n seg : Int} {j : Nat} {ps : Pts} {x : It} (hj : (j : Int) < n) (h0 : (sl n ps seg j).n = 0) : (its n (ps ++ [⟨2 + seg * n + j, ⟨1, [x]⟩⟩]) seg).Perm (its n ps seg ++ [x]) := by
  have h := itsR_set (g := slI n ps seg) (g' := slI n (ps ++ [⟨2 + seg * n + j, ⟨1, [x]⟩⟩]) seg) (j := j) n.toNat (by omega) (fun i hi => by
    unfold slI
    by_cases hin : (i : Int) < n
    · have e : sl n (ps ++ [⟨2 + seg * n + j, ⟨1, [x]⟩⟩]) seg i = sl n ps seg i := by rw [sl_put ⟨by omega, hj⟩ ⟨by omega, hin⟩, if_neg (fun e => hi (by omega))]
      rw [e]
    · have e : sl n (ps ++ [⟨2 + seg * n + j, ⟨1, [x]⟩⟩]) seg i = sl n ps seg i := by
        unfold sl
        rw [rd_snoc, if_neg (by show ¬ 2 + seg * n + (j : Int) = 2 + seg * n + i; omega)]
      rw [e])
  have e1 : slI n ps seg j = [] := by
    unfold slI
    rw [if_neg (by omega)]
  have e2 : slI n (ps ++ [⟨2 + seg * n + j, ⟨1, [x]⟩⟩]) seg j = [x] := by
    have e : sl n (ps ++ [⟨2 + seg * n + j, ⟨1, [x]⟩⟩]) seg j = ⟨1, [x]⟩ := by rw [sl_put ⟨by omega, hj⟩ ⟨by omega, hj⟩, if_pos ⟨rfl, rfl⟩]
    unfold slI
    rw [e]
    rfl
  rw [e1, e2, List.append_nil] at h
  exact h
theorem its_take {n seg : Int} {j : Nat} {ps : Pts} {x : It} (hj : (j : Int) < n) (h1 : (sl n ps seg j).n = 1) (hl : (sl n ps seg j).l = [x]) : (its n (ps ++ [⟨2 + seg * n + j, ⟨2, []⟩⟩]) seg ++ [x]).Perm (its n ps seg) := by
  have h := itsR_set (g := slI n ps seg) (g' := slI n (ps ++ [⟨2 + seg * n + j, ⟨2, []⟩⟩]) seg) (j := j) n.toNat (by omega) (fun i hi => by
    unfold slI
    by_cases hin : (i : Int) < n
    · have e : sl n (ps ++ [⟨2 + seg * n + j, ⟨2, []⟩⟩]) seg i = sl n ps seg i := by rw [sl_put ⟨by omega, hj⟩ ⟨by omega, hin⟩, if_neg (fun e => hi (by omega))]
      rw [e]
    · have e : sl n (ps ++ [⟨2 + seg * n + j, ⟨2, []⟩⟩]) seg i = sl n ps seg i := by
        unfold sl
        rw [rd_snoc, if_neg (by show ¬ 2 + seg * n + (j : Int) = 2 + seg * n + i; omega)]
      rw [e])
  have e1 : slI n ps seg j = [x] := by
    unfold slI
    rw [if_pos h1, hl]
  have e2 : slI n (ps ++ [⟨2 + seg * n + j, ⟨2, []⟩⟩]) seg j = [] := by
    have e : sl n (ps ++ [⟨2 + seg * n + j, ⟨2, []⟩⟩]) seg j = ⟨2, []⟩ := by rw [sl_put ⟨by omega, hj⟩ ⟨by omega, hj⟩, if_pos ⟨rfl, rfl⟩]
    unfold slI
    rw [e]
    rfl
  rw [e1, e2, List.append_nil] at h
  exact h
theorem its_none {n seg : Int} {ps : Pts} (h : ∀ j : Nat, (j : Int) < n → (sl n ps seg j).n ≠ 1) : its n ps seg = [] := by
  have : ∀ N : Nat, (∀ j : Nat, j < N → slI n ps seg j = []) → itsR (slI n ps seg) N = [] := by
    intro N
    induction N with
    | zero => intro _; rfl
    | succ N ih =>
      intro h
      show itsR _ N ++ slI n ps seg N = []
      rw [ih (fun j hj => h j (by omega)), h N (by omega)]
      rfl
  refine this _ fun j hj => ?_
  unfold slI
  rw [if_neg (h j (by omega))]
theorem its_mem {n seg : Int} {ps : Pts} {j : Nat} {x : It} (hj : (j : Int) < n) (h1 : (sl n ps seg j).n = 1) (hl : (sl n ps seg j).l = [x]) : x ∈ its n ps seg := by
  refine (its_take hj h1 hl).subset ?_
  simp
theorem its_len {n seg : Int} {ps : Pts} (h : ∀ j : Nat, (j : Int) < n → (sl n ps seg j).n = 1 → (sl n ps seg j).l.length ≤ 1) : ((its n ps seg).length : Int) ≤ n ∨ n < 0 := by
  have : ∀ N : Nat, (∀ j : Nat, j < N → (slI n ps seg j).length ≤ 1) → (itsR (slI n ps seg) N).length ≤ N := by
    intro N
    induction N with
    | zero => intro _; exact Nat.le_refl 0
    | succ N ih =>
      intro h
      show (itsR _ N ++ slI n ps seg N).length ≤ N + 1
      rw [List.length_append]
      have h1 := ih (fun j hj => h j (by omega))
      have h2 := h N (by omega)
      omega
  by_cases hn : n < 0
  · exact .inr hn
  · refine .inl ?_
    have h3 := this n.toNat (fun j hj => by
      unfold slI
      by_cases e : (sl n ps seg j).n = 1
      · rw [if_pos e]
        exact h j (by omega) e
      · rw [if_neg e]
        exact Nat.zero_le 1)
    unfold its
    omega
end Go.Proofs.Ytnolgpagdjcjbaa.Ve
