import Derived.Test.YtefgpelodpggkaaHb
set_option linter.unusedVariables false
set_option linter.unusedSimpArgs false
namespace Go.Proofs.Ytefgpelodpggkaa.Ve
open Go XFlt
set_option maxRecDepth 4000
theorem ivC_swap (x y : IV) : ivC y x = - ivC x y := cmpV_swap x.1 y.1 x.2 y.2
theorem ivC_trans {x y z : IV} (h1 : ivC x y ≤ 0) (h2 : ivC y z ≤ 0) : ivC x z ≤ 0 := cmpV_trans h1 h2
theorem ivC_refl (x : IV) : ivC x x ≤ 0 := by
  have := ivC_swap x x
  omega
def swp (l : List IV) (i j : Nat) (x y : IV) : List IV := (l.set i y).set j x
theorem swp_perm {l : List IV} {i j : Nat} {x y : IV} (hx : l[i]? = some x) (hy : l[j]? = some y) : (swp l i j x y).Perm l := by
  obtain ⟨hi, ex⟩ := List.getElem?_eq_some_iff.1 hx
  obtain ⟨hj, ey⟩ := List.getElem?_eq_some_iff.1 hy
  unfold swp
  rw [← ex, ← ey]
  exact List.set_set_perm hi hj
theorem swp_len {l : List IV} {i j : Nat} {x y : IV} : (swp l i j x y).length = l.length := by simp [swp]
theorem swp_i {l : List IV} {i j : Nat} {x y : IV} (hi : i < l.length) (hij : i ≠ j) : (swp l i j x y)[i]? = some y := by
  unfold swp
  rw [List.getElem?_set_ne (Ne.symm hij), List.getElem?_set_self hi]
theorem swp_j {l : List IV} {i j : Nat} {x y : IV} (hj : j < l.length) : (swp l i j x y)[j]? = some x := by
  unfold swp
  rw [List.getElem?_set_self (by simpa using hj)]
theorem swp_o {l : List IV} {i j k : Nat} {x y : IV} (hi : k ≠ i) (hj : k ≠ j) : (swp l i j x y)[k]? = l[k]? := by
  unfold swp
  rw [List.getElem?_set_ne (Ne.symm hj), List.getElem?_set_ne (Ne.symm hi)]
def kid (p c : Nat) : Prop := c = 2 * p + 1 ∨ c = 2 * p + 2
/-- Parents from a place on are not behind their children, but for one. -/
def HeapE (l : List IV) (n lo i : Nat) : Prop := ∀ p c x y, lo ≤ p → p ≠ i → kid p c → c < n → l[p]? = some x → l[c]? = some y → ivC x y ≤ 0
def HeapF (l : List IV) (n lo : Nat) : Prop := ∀ p c x y, lo ≤ p → kid p c → c < n → l[p]? = some x → l[c]? = some y → ivC x y ≤ 0
/-- The parent of a place isn't behind the place's children. -/
def Brg (l : List IV) (n lo i : Nat) : Prop := ∀ p c x y, lo ≤ p → kid p i → kid i c → c < n → l[p]? = some x → l[c]? = some y → ivC x y ≤ 0
theorem down_stop {l : List IV} {n lo i : Nat} (h : HeapE l n lo i) (hk : ∀ c x y, kid i c → c < n → l[i]? = some x → l[c]? = some y → ivC x y ≤ 0) : HeapF l n lo := by
  intro p c x y hp hkd hc hx hy
  by_cases e : p = i
  · subst e
    exact hk c x y hkd hc hx hy
  · exact h p c x y hp e hkd hc hx hy
theorem down_step {l : List IV} {n lo i j : Nat} {x y : IV} (hn : n ≤ l.length) (h : HeapE l n lo i) (hb : Brg l n lo i) (hlo : lo ≤ i) (hx : l[i]? = some x) (hy : l[j]? = some y) (hj : kid i j) (hjn : j < n) (hlt : ivC y x < 0)
    (hmin : ∀ c z, kid i c → c < n → l[c]? = some z → ivC y z ≤ 0) : HeapE (swp l i j x y) n lo j ∧ Brg (swp l i j x y) n lo j := by
  have hil : i < l.length := (List.getElem?_eq_some_iff.1 hx).1
  have hij : i ≠ j := by unfold kid at hj; omega
  constructor
  · intro p c a b hp hpj hk hc ha hb'
    by_cases e : p = i
    · subst e
      rw [swp_i hil hij] at ha
      cases ha
      by_cases e2 : c = j
      · subst e2
        rw [swp_j (by omega)] at hb'
        cases hb'
        omega
      · rw [swp_o (by unfold kid at hk; omega) e2] at hb'
        exact hmin c b hk hc hb'
    · rw [swp_o e hpj] at ha
      by_cases e2 : c = i
      · subst e2
        rw [swp_i hil hij] at hb'
        cases hb'
        exact hb p j _ _ hp hk hj hjn ha hy
      · by_cases e3 : c = j
        · exfalso
          unfold kid at hk hj
          omega
        · rw [swp_o e2 e3] at hb'
          exact h p c a b hp e hk hc ha hb'
  · intro p c a b hp hk1 hk2 hc ha hb'
    have e : p = i := by unfold kid at hk1 hj; omega
    subst e
    rw [swp_i hil hij] at ha
    cases ha
    rw [swp_o (by unfold kid at hk2 hj; omega) (by unfold kid at hk2; omega)] at hb'
    exact h j c _ _ (by unfold kid at hj; omega) (Ne.symm hij) hk2 hc hy hb'
/-- The same, upward: every child but one isn't ahead of its parent. -/
def HeapU (l : List IV) (n j : Nat) : Prop := ∀ p c x y, c ≠ j → kid p c → c < n → l[p]? = some x → l[c]? = some y → ivC x y ≤ 0
theorem up_stop {l : List IV} {n j : Nat} (h : HeapU l n j) (hk : ∀ p x y, kid p j → l[p]? = some x → l[j]? = some y → ivC x y ≤ 0) : HeapF l n 0 := by
  intro p c x y _ hkd hc hx hy
  by_cases e : c = j
  · subst e
    exact hk p x y hkd hx hy
  · exact h p c x y e hkd hc hx hy
theorem up_step {l : List IV} {n i j : Nat} {x y : IV} (hn : n ≤ l.length) (h : HeapU l n j) (hb : Brg l n 0 j) (hx : l[i]? = some x) (hy : l[j]? = some y) (hj : kid i j) (hjn : j < n) (hlt : ivC y x < 0) : HeapU (swp l i j x y) n i ∧ Brg (swp l i j x y) n 0 i := by
  have hil : i < l.length := (List.getElem?_eq_some_iff.1 hx).1
  have hij : i ≠ j := by unfold kid at hj; omega
  constructor
  · intro p c a b hci hk hc ha hb'
    by_cases e : p = i
    · subst e
      rw [swp_i hil hij] at ha
      cases ha
      by_cases e2 : c = j
      · subst e2
        rw [swp_j (by omega)] at hb'
        cases hb'
        omega
      · rw [swp_o hci e2] at hb'
        have := h p c x b e2 hk hc hx hb'
        exact ivC_trans (by omega) this
    · by_cases e2 : p = j
      · subst e2
        rw [swp_j (by omega)] at ha
        cases ha
        rw [swp_o hci (by unfold kid at hk; omega)] at hb'
        exact hb i c _ _ (Nat.zero_le _) hj hk hc hx hb'
      · rw [swp_o e e2] at ha
        by_cases e3 : c = j
        · exfalso
          unfold kid at hk hj
          omega
        · rw [swp_o hci e3] at hb'
          exact h p c a b e3 hk hc ha hb'
  · intro p c a b _ hk1 hk2 hc ha hb'
    have hpi : p ≠ i := by unfold kid at hk1; omega
    have hpj : p ≠ j := by unfold kid at hk1 hj; omega
    rw [swp_o hpi hpj] at ha
    have h1 := h p i a x hij hk1 (by unfold kid at hj; omega) ha hx
    by_cases e2 : c = j
    · subst e2
      rw [swp_j (by omega)] at hb'
      cases hb'
      exact h1
    · rw [swp_o (by unfold kid at hk2; omega) e2] at hb'
      exact ivC_trans h1 (h i c x b e2 hk2 hc hx hb')
theorem heap_min {l : List IV} {n : Nat} (h : HeapF l n 0) {x : IV} (hx : l[0]? = some x) : ∀ (i : Nat) (y : IV), i < n → l[i]? = some y → ivC x y ≤ 0 := by
  intro i
  induction i using Nat.strongRecOn with
  | _ i ih =>
    intro y hi hy
    by_cases e : i = 0
    · subst e
      rw [hx] at hy
      cases hy
      exact ivC_refl x
    · have hp : (i - 1) / 2 < i := by omega
      obtain ⟨z, hz⟩ : ∃ z, l[(i - 1) / 2]? = some z := ⟨_, List.getElem?_eq_getElem (by have := (List.getElem?_eq_some_iff.1 hy).1; omega)⟩
      have h1 := ih _ hp z (by omega) hz
      have h2 := h ((i - 1) / 2) i z y (Nat.zero_le _) (by unfold kid; omega) hi hz hy
      exact ivC_trans h1 h2
end Go.Proofs.Ytefgpelodpggkaa.Ve
