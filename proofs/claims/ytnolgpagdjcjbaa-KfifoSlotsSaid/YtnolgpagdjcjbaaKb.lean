import Derived.Test.YtnolgpagdjcjbaaKa
set_option linter.unusedVariables false
set_option linter.unusedSimpArgs false
namespace Go.Proofs.Ytnolgpagdjcjbaa.Ve
open Go
set_option maxRecDepth 4000
/-- A queue at which no operation is under way: what its segments have, from the first one on. -/
structure KQ (n : Int) (ps : Pts) (H : Int) (A : List (List It)) : Prop where
  h0 : 0 ≤ H
  head : (rd ps 0).2.n = H
  tail : (rd ps 1).2.n + 1 = H + (A.length : Int)
  ne : 0 < A.length
  one : ∀ g j : Int, 0 ≤ g → 0 ≤ j → j < n → (sl n ps g j).n = 1 → ∃ x, (sl n ps g j).l = [x]
  val : ∀ g j : Int, H ≤ g → 0 ≤ j → j < n → (sl n ps g j).n = 0 ∨ (sl n ps g j).n = 1 ∨ (sl n ps g j).n = 2
  emp : ∀ g j : Int, H ≤ g → 0 ≤ j → j < n → (sl n ps g j).n = 0 → H + (A.length : Int) ≤ g + 1
  none : ∀ g j : Int, 0 ≤ j → j < n → H + (A.length : Int) ≤ g → (sl n ps g j).n = 0
  tak : ∀ g j : Int, H < g → 0 ≤ j → j < n → (sl n ps g j).n ≠ 2
  perm : ∀ (s : Nat) (a : List It), A[s]? = some a → a.Perm (its n ps (H + s))
theorem kq0 (n : Int) : KQ n [] 0 [[]] where
  h0 := Int.le_refl 0
  head := rfl
  tail := rfl
  ne := Nat.one_pos
  one := fun g j _ _ _ h => by cases h
  val := fun g j _ _ _ => .inl rfl
  emp := fun g j hg _ _ _ => by
    show (0 : Int) + 1 ≤ g + 1
    omega
  none := fun g j _ _ _ => rfl
  tak := fun g j _ _ _ h => by cases h
  perm := fun s a h => by
    have e : its n [] (0 + (s : Int)) = [] := its_none fun j _ h => by cases h
    rw [e]
    cases s with
    | zero => cases h; exact List.Perm.refl _
    | succ s => cases h
theorem KQ.put {n : Int} (hn : 1 ≤ n) {ps : Pts} {H : Int} {B : List (List It)} {a : List It} (h : KQ n ps H (B ++ [a])) {j : Int} (hj : 0 ≤ j ∧ j < n) (h0 : (sl n ps (H + B.length) j).n = 0) (x : It) :
    KQ n (ps ++ [⟨2 + (H + B.length) * n + j, ⟨1, [x]⟩⟩]) H (B ++ [a ++ [x]]) := by
  have hl : ((B ++ [a ++ [x]]).length : Int) = (B ++ [a]).length := by simp
  have hl2 : ((B ++ [a]).length : Int) = B.length + 1 := by simp
  have hH := h.h0
  have hp : ∀ g i : Int, 0 ≤ i → i < n → sl n (ps ++ [⟨2 + (H + B.length) * n + j, ⟨1, [x]⟩⟩]) g i = if H + B.length = g ∧ j = i then ⟨1, [x]⟩ else sl n ps g i := fun g i h1 h2 => sl_put hj ⟨h1, h2⟩
  have hTn : 0 ≤ (H + B.length) * n := Int.mul_nonneg (by omega) (by omega)
  refine ⟨h.h0, ?_, ?_, by simp, ?_, ?_, ?_, ?_, ?_, ?_⟩
  · rw [rd_snoc, if_neg (by show ¬ 2 + (H + (B.length : Int)) * n + j = 0; omega)]
    exact h.head
  · rw [rd_snoc, if_neg (by show ¬ 2 + (H + (B.length : Int)) * n + j = 1; omega), hl]
    exact h.tail
  · intro g i hg h1 h2 h3
    rw [hp g i h1 h2] at h3 ⊢
    by_cases e : H + B.length = g ∧ j = i
    · rw [if_pos e]
      exact ⟨x, rfl⟩
    · rw [if_neg e] at h3 ⊢
      exact h.one g i hg h1 h2 h3
  · intro g i hg h1 h2
    rw [hp g i h1 h2]
    by_cases e : H + B.length = g ∧ j = i
    · rw [if_pos e]
      exact .inr (.inl rfl)
    · rw [if_neg e]
      exact h.val g i hg h1 h2
  · intro g i hg h1 h2 h3
    rw [hp g i h1 h2] at h3
    by_cases e : H + B.length = g ∧ j = i
    · rw [if_pos e] at h3
      cases h3
    · rw [if_neg e] at h3
      rw [hl]
      exact h.emp g i hg h1 h2 h3
  · intro g i h1 h2 hg
    rw [hl, hl2] at hg
    rw [hp g i h1 h2, if_neg (fun e => by omega)]
    exact h.none g i h1 h2 (by omega)
  · intro g i hg h1 h2 h3
    rw [hp g i h1 h2] at h3
    by_cases e : H + B.length = g ∧ j = i
    · rw [if_pos e] at h3
      cases h3
    · rw [if_neg e] at h3
      exact h.tak g i hg h1 h2 h3
  · intro s b hs
    by_cases e : s = B.length
    · subst e
      rw [List.getElem?_append_right (Nat.le_refl _), Nat.sub_self] at hs
      cases hs
      have h9 := h.perm B.length a (by rw [List.getElem?_append_right (Nat.le_refl _), Nat.sub_self]; rfl)
      obtain ⟨i, rfl⟩ : ∃ i : Nat, j = i := ⟨j.toNat, by omega⟩
      exact (h9.append_right [x]).trans (its_put hj.2 h0).symm
    · have hlt : s < B.length := by
        have := (List.getElem?_eq_some_iff.1 hs).1
        simp at this
        omega
      rw [List.getElem?_append_left hlt] at hs
      rw [its_ne hj (by omega)]
      exact h.perm s b (by rw [List.getElem?_append_left hlt]; exact hs)
theorem KQ.bump {n : Int} (hn : 1 ≤ n) {ps : Pts} {H T : Int} {A : List (List It)} (h : KQ n ps H A) (hT : T = H + A.length) (hf : ∀ j : Int, 0 ≤ j → j < n → (sl n ps (T - 1) j).n ≠ 0) : KQ n (ps ++ [⟨1, ⟨T, []⟩⟩]) H (A ++ [[]]) := by
  have hl : ((A ++ [[]]).length : Int) = A.length + 1 := by simp
  have hH := h.h0
  have hp : ∀ g i : Int, 0 ≤ g → 0 ≤ i → sl n (ps ++ [⟨1, ⟨T, []⟩⟩]) g i = sl n ps g i := fun g i h1 h2 => sl_low hn h1 h2 (by decide)
  refine ⟨h.h0, ?_, ?_, by simp, ?_, ?_, ?_, ?_, ?_, ?_⟩
  · rw [rd_snoc, if_neg (by show ¬ (1 : Int) = 0; decide)]
    exact h.head
  · rw [rd_snoc, if_pos rfl, hl]
    show T + 1 = _
    omega
  · intro g i hg h1 h2 h3
    rw [hp g i hg h1] at h3 ⊢
    exact h.one g i hg h1 h2 h3
  · intro g i hg h1 h2
    rw [hp g i (by omega) h1]
    exact h.val g i hg h1 h2
  · intro g i hg h1 h2 h3
    rw [hp g i (by omega) h1] at h3
    have h4 := h.emp g i hg h1 h2 h3
    rw [hl]
    by_cases e : g = T - 1
    · subst e
      exact absurd h3 (hf i h1 h2)
    · omega
  · intro g i h1 h2 hg
    rw [hl] at hg
    rw [hp g i (by omega) h1]
    exact h.none g i h1 h2 (by omega)
  · intro g i hg h1 h2
    rw [hp g i (by omega) h1]
    exact h.tak g i hg h1 h2
  · intro s b hs
    rw [its_low hn (by omega) (by decide)]
    by_cases e : s < A.length
    · rw [List.getElem?_append_left e] at hs
      exact h.perm s b hs
    · have e2 : s = A.length := by
        have := (List.getElem?_eq_some_iff.1 hs).1
        simp at this
        omega
      subst e2
      rw [List.getElem?_append_right (Nat.le_refl _), Nat.sub_self] at hs
      cases hs
      rw [its_none fun j hj h9 => by have := h.none (H + A.length) j (by omega) hj (by omega); omega]
theorem KQ.take {n : Int} (hn : 1 ≤ n) {ps : Pts} {H : Int} {a : List It} {B : List (List It)} (h : KQ n ps H (a :: B)) {j : Int} (hj : 0 ≤ j ∧ j < n) {x : It} (h1 : (sl n ps H j).n = 1) (hx : (sl n ps H j).l = [x]) :
    x ∈ a ∧ KQ n (ps ++ [⟨2 + H * n + j, ⟨2, []⟩⟩]) H (a.erase x :: B) := by
  have hH := h.h0
  have hTn : 0 ≤ H * n := Int.mul_nonneg hH (by omega)
  have hp : ∀ g i : Int, 0 ≤ i → i < n → sl n (ps ++ [⟨2 + H * n + j, ⟨2, []⟩⟩]) g i = if H = g ∧ j = i then ⟨2, []⟩ else sl n ps g i := fun g i h1 h2 => sl_put hj ⟨h1, h2⟩
  have ha := h.perm 0 a rfl
  have e0 : H + ((0 : Nat) : Int) = H := by omega
  rw [e0] at ha
  obtain ⟨i, rfl⟩ : ∃ i : Nat, j = i := ⟨j.toNat, by omega⟩
  have hxa : x ∈ a := ha.symm.subset (its_mem hj.2 h1 hx)
  have hl : (((a.erase x) :: B).length : Int) = (a :: B).length := by simp
  refine ⟨hxa, h.h0, ?_, ?_, by simp, ?_, ?_, ?_, ?_, ?_, ?_⟩
  · rw [rd_snoc, if_neg (by show ¬ 2 + H * n + (i : Int) = 0; omega)]
    exact h.head
  · rw [rd_snoc, if_neg (by show ¬ 2 + H * n + (i : Int) = 1; omega), hl]
    exact h.tail
  · intro g k hg h2 h3 h4
    rw [hp g k h2 h3] at h4 ⊢
    by_cases e : H = g ∧ (i : Int) = k
    · rw [if_pos e] at h4
      cases h4
    · rw [if_neg e] at h4 ⊢
      exact h.one g k hg h2 h3 h4
  · intro g k hg h2 h3
    rw [hp g k h2 h3]
    by_cases e : H = g ∧ (i : Int) = k
    · rw [if_pos e]
      exact .inr (.inr rfl)
    · rw [if_neg e]
      exact h.val g k hg h2 h3
  · intro g k hg h2 h3 h4
    rw [hp g k h2 h3] at h4
    by_cases e : H = g ∧ (i : Int) = k
    · rw [if_pos e] at h4
      cases h4
    · rw [if_neg e] at h4
      rw [hl]
      exact h.emp g k hg h2 h3 h4
  · intro g k h2 h3 hg
    rw [hl] at hg
    have hB : (0 : Int) < (a :: B).length := by simp
    rw [hp g k h2 h3, if_neg (fun e => by omega)]
    exact h.none g k h2 h3 hg
  · intro g k hg h2 h3
    rw [hp g k h2 h3, if_neg (fun e => by omega)]
    exact h.tak g k hg h2 h3
  · intro s b hs
    cases s with
    | zero =>
      cases hs
      rw [e0]
      have h5 := its_take hj.2 h1 hx
      have h6 : (x :: a.erase x).Perm (x :: its n (ps ++ [⟨2 + H * n + (i : Int), ⟨2, []⟩⟩]) H) := (List.perm_cons_erase hxa).symm.trans (ha.trans (h5.symm.trans List.perm_append_comm))
      exact h6.cons_inv
    | succ s =>
      rw [its_ne hj (by omega)]
      exact h.perm (s + 1) b hs
theorem KQ.next {n : Int} (hn : 1 ≤ n) {ps : Pts} {H : Int} {a : List It} {B : List (List It)} (h : KQ n ps H (a :: B)) (hB : 0 < B.length) : KQ n (ps ++ [⟨0, ⟨H + 1, []⟩⟩]) (H + 1) B := by
  have hH := h.h0
  have hl : ((a :: B).length : Int) = B.length + 1 := by simp
  have hp : ∀ g i : Int, 0 ≤ g → 0 ≤ i → sl n (ps ++ [⟨0, ⟨H + 1, []⟩⟩]) g i = sl n ps g i := fun g i h1 h2 => sl_low hn h1 h2 (by decide)
  refine ⟨by omega, ?_, ?_, hB, ?_, ?_, ?_, ?_, ?_, ?_⟩
  · rw [rd_snoc, if_pos rfl]
  · rw [rd_snoc, if_neg (by show ¬ (0 : Int) = 1; decide)]
    have := h.tail
    omega
  · intro g i hg h1 h2 h3
    rw [hp g i hg h1] at h3 ⊢
    exact h.one g i hg h1 h2 h3
  · intro g i hg h1 h2
    rw [hp g i (by omega) h1]
    exact h.val g i (by omega) h1 h2
  · intro g i hg h1 h2 h3
    rw [hp g i (by omega) h1] at h3
    have h4 := h.emp g i (by omega) h1 h2 h3
    omega
  · intro g i h1 h2 hg
    rw [hp g i (by omega) h1]
    exact h.none g i h1 h2 (by omega)
  · intro g i hg h1 h2
    rw [hp g i (by omega) h1]
    exact h.tak g i (by omega) h1 h2
  · intro s b hs
    rw [its_low hn (by omega) (by decide)]
    have h5 := h.perm (s + 1) b hs
    have e : H + 1 + (s : Int) = H + ((s + 1 : Nat) : Int) := by omega
    rw [e]
    exact h5
theorem around {n : Int} (hn : 1 ≤ n) {P : Int → Prop} {a : Int} (h : ∀ i : Int, 0 ≤ i → i < n → P ((a + i) % n)) : ∀ j : Int, 0 ≤ j → j < n → P j := fun j h1 h2 => by
  have h3 := h ((j - a) % n) (Int.emod_nonneg _ (by omega)) (Int.emod_lt_of_pos _ (by omega))
  have e : (a + (j - a) % n) % n = j := by
    rw [Int.add_emod, Int.emod_emod, ← Int.add_emod]
    rw [show a + (j - a) = j by omega, Int.emod_eq_of_lt h1 h2]
  rwa [e] at h3
end Go.Proofs.Ytnolgpagdjcjbaa.Ve
