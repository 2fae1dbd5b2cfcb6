import Derived.Test.YtnolgpagdjcjbaaKc
import Derived.Test.YtnolgpagdjcjbaaGi
set_option linter.unusedVariables false
set_option linter.unusedSimpArgs false
namespace Go.Proofs.Ytnolgpagdjcjbaa.Ve
open Go
set_option maxRecDepth 4000
/-- A version tells a number. -/
def VerN (ps : Pts) (a : Int) (v : Nat) (c : Int) : Prop := v ≤ ps.length ∧ ((rd ps a).1 = v → (rd ps a).2.n = c)
theorem VerN.now {ps : Pts} {a : Int} : VerN ps a (rd ps a).1 (rd ps a).2.n := ⟨rd_ver _ _, fun _ => rfl⟩
theorem VerN.snoc {ps : Pts} {a c : Int} {v : Nat} (h : VerN ps a v c) (p : Pt) : VerN (ps ++ [p]) a v c := by
  refine ⟨by have := h.1; simp; omega, fun e => ?_⟩
  rw [rd_snoc] at e ⊢
  by_cases hp : p.at_ = a
  · rw [if_pos hp] at e
    have e : ps.length + 1 = v := e
    have := h.1
    omega
  · rw [if_neg hp] at e ⊢
    exact h.2 e
/-- Slots, Head and Tail. -/
structure SMem (n : Int) (ps : Pts) : Prop where
  h0 : 0 ≤ (rd ps 0).2.n
  ht : (rd ps 0).2.n ≤ (rd ps 1).2.n
  ver : ∀ i, 2 ≤ i → ((rd ps i).1 = 0 ↔ (rd ps i).2.n = 0)
  val : ∀ i, 2 ≤ i → (rd ps i).2.n = 0 ∨ (rd ps i).2.n = 1 ∨ (rd ps i).2.n = 2
  one : ∀ i, 2 ≤ i → ((rd ps i).2.n = 1 ↔ (rd ps i).2.l.length = 1)
  hd : ∀ g j : Int, 0 ≤ g → g < (rd ps 0).2.n → 0 ≤ j → j < n → (sl n ps g j).n = 2
  tl : ∀ g j : Int, 0 ≤ g → g < (rd ps 1).2.n → 0 ≤ j → j < n → (sl n ps g j).n ≠ 0
theorem smem0 (n : Int) : SMem n [] where
  h0 := Int.le_refl 0
  ht := Int.le_refl 0
  ver := fun i _ => ⟨fun _ => rfl, fun _ => rfl⟩
  val := fun i _ => .inl rfl
  one := fun i _ => ⟨fun h => absurd h (by show ¬ (0 : Int) = 1; decide), fun h => absurd h (by show ¬ (0 : Nat) = 1; decide)⟩
  hd := fun g j h1 h2 => by
    have : g < 0 := h2
    omega
  tl := fun g j h1 h2 => by
    have : g < 0 := h2
    omega
/-- What only grows. -/
structure Up (n : Int) (ps ps' : Pts) : Prop where
  s : ps' = ps ∨ ∃ p, ps' = ps ++ [p]
  two : ∀ g j : Int, 0 ≤ g → 0 ≤ j → j < n → (sl n ps g j).n = 2 → (sl n ps' g j).n = 2
  non : ∀ g j : Int, 0 ≤ g → 0 ≤ j → j < n → (sl n ps g j).n ≠ 0 → (sl n ps' g j).n ≠ 0
  hd : (rd ps 0).2.n ≤ (rd ps' 0).2.n
  tl : (rd ps 1).2.n ≤ (rd ps' 1).2.n
theorem Up.refl {n : Int} {ps : Pts} : Up n ps ps := ⟨.inl rfl, fun _ _ _ _ _ h => h, fun _ _ _ _ _ h => h, Int.le_refl _, Int.le_refl _⟩
theorem VerN.up {n : Int} {ps ps' : Pts} {a c : Int} {v : Nat} (h : VerN ps a v c) (u : Up n ps ps') : VerN ps' a v c := by
  rcases u.s with e | ⟨p, e⟩
  · rw [e]
    exact h
  · rw [e]
    exact h.snoc p
/-- An operation under way, and what it has seen. -/
structure SFr (n : Int) (ps : Pts) (f : RF) : Prop where
  p3 : f.k = 3 → 0 ≤ f.pc ∧ f.pc ≤ 3
  p5 : f.k ≠ 3 → 0 ≤ f.pc ∧ f.pc ≤ 5
  e1 : f.k = 3 → f.pc = 1 → ∀ j : Int, 0 ≤ j → j < f.seen → (sl n ps f.seg ((f.at_ + j) % n)).n ≠ 0
  e3 : f.k = 3 → f.pc = 3 → ∀ j : Int, 0 ≤ j → j < n → (sl n ps f.seg j).n ≠ 0
  ev : f.k = 3 → f.pc ≠ 0 → VerN ps 1 f.v0 f.seg
  e2 : f.k = 3 → f.pc = 2 → VerN ps (kSlot n f) f.v1 0
  dh : f.k ≠ 3 → f.pc ≠ 0 → VerN ps 0 f.v0 f.seg ∧ f.seg ≤ (rd ps 0).2.n
  dt : f.k ≠ 3 → f.pc = 2 ∨ f.pc = 4 ∨ f.pc = 5 → f.seg ≤ f.c1.n ∧ f.c1.n ≤ (rd ps 1).2.n ∧ VerN ps 1 f.v1 f.c1.n
  d2 : f.k ≠ 3 → f.pc = 2 → f.empty = false → ∀ j : Int, 0 ≤ j → j < f.seen → (sl n ps f.seg ((f.at_ + j) % n)).n = 2
  d3 : f.k ≠ 3 → f.pc = 3 → VerN ps (kSlot n f) f.v1 1
  d4 : f.k ≠ 3 → f.pc = 4 → f.c1.n = f.seg ∧ ∀ j : Int, 0 ≤ j → j < n → (sl n ps f.seg j).n = 2
  d5 : f.k ≠ 3 → f.pc = 5 → f.c1.n ≠ f.seg ∧ ∀ j : Int, 0 ≤ j → j < n → (sl n ps f.seg j).n = 2
theorem sfr0 {n : Int} {ps : Pts} {f : RF} (h : f.pc = 0) : SFr n ps f where
  p3 := fun _ => by omega
  p5 := fun _ => by omega
  e1 := fun _ h1 => by omega
  e3 := fun _ h1 => by omega
  ev := fun _ h1 => absurd h h1
  e2 := fun _ h1 => by omega
  dh := fun _ h1 => absurd h h1
  dt := fun _ h1 => by omega
  d2 := fun _ h1 => by omega
  d3 := fun _ h1 => by omega
  d4 := fun _ h1 => by omega
  d5 := fun _ h1 => by omega
theorem SFr.up {n : Int} (hn : 1 ≤ n) {ps ps' : Pts} {f : RF} (h : SFr n ps f) (hs : 0 ≤ f.seg) (u : Up n ps ps') : SFr n ps' f where
  p3 := h.p3
  p5 := h.p5
  e1 := fun a b j h1 h2 => u.non _ _ hs (Int.emod_nonneg _ (by omega)) (Int.emod_lt_of_pos _ (by omega)) (h.e1 a b j h1 h2)
  e3 := fun a b j h1 h2 => u.non _ _ hs h1 h2 (h.e3 a b j h1 h2)
  ev := fun a b => (h.ev a b).up u
  e2 := fun a b => (h.e2 a b).up u
  dh := fun a b => ⟨(h.dh a b).1.up u, Int.le_trans (h.dh a b).2 u.hd⟩
  dt := fun a b => ⟨(h.dt a b).1, Int.le_trans (h.dt a b).2.1 u.tl, (h.dt a b).2.2.up u⟩
  d2 := fun a b c j h1 h2 => u.two _ _ hs (Int.emod_nonneg _ (by omega)) (Int.emod_lt_of_pos _ (by omega)) (h.d2 a b c j h1 h2)
  d3 := fun a b => (h.d3 a b).up u
  d4 := fun a b => ⟨(h.d4 a b).1, fun j h1 h2 => u.two _ _ hs h1 h2 ((h.d4 a b).2 j h1 h2)⟩
  d5 := fun a b => ⟨(h.d5 a b).1, fun j h1 h2 => u.two _ _ hs h1 h2 ((h.d5 a b).2 j h1 h2)⟩
/-- A write to a slot. -/
theorem s_slot {n : Int} (hn : 1 ≤ n) {ps : Pts} (h : SMem n ps) {g j : Int} (hg : 0 ≤ g) (hj : 0 ≤ j ∧ j < n) {v : Vl} (hv : (v.n = 1 ∧ v.l.length = 1 ∧ (sl n ps g j).n = 0) ∨ (v.n = 2 ∧ v.l.length = 0 ∧ (sl n ps g j).n = 1)) :
    SMem n (ps ++ [⟨2 + g * n + j, v⟩]) ∧ Up n ps (ps ++ [⟨2 + g * n + j, v⟩]) := by
  have hgn : 0 ≤ g * n := Int.mul_nonneg hg (by omega)
  have hp : ∀ g' i : Int, 0 ≤ i → i < n → sl n (ps ++ [⟨2 + g * n + j, v⟩]) g' i = if g = g' ∧ j = i then v else sl n ps g' i := fun g' i h1 h2 => sl_put hj ⟨h1, h2⟩
  have e0 : rd (ps ++ [⟨2 + g * n + j, v⟩]) 0 = rd ps 0 := by rw [rd_snoc, if_neg (by show ¬ 2 + g * n + j = 0; omega)]
  have e1 : rd (ps ++ [⟨2 + g * n + j, v⟩]) 1 = rd ps 1 := by rw [rd_snoc, if_neg (by show ¬ 2 + g * n + j = 1; omega)]
  have hvn : v.n ≠ 0 := by rcases hv with h | h <;> omega
  have hv1 : v.n = 1 ↔ v.l.length = 1 := by rcases hv with h | h <;> omega
  refine ⟨⟨by rw [e0]; exact h.h0, by rw [e0, e1]; exact h.ht, fun i hi => ?_, fun i hi => ?_, fun i hi => ?_, fun g' i h1 h2 h3 h4 => ?_, fun g' i h1 h2 h3 h4 => ?_⟩, .inr ⟨_, rfl⟩, fun g' i h1 h3 h4 h5 => ?_, fun g' i h1 h3 h4 h5 => ?_, by rw [e0]; exact Int.le_refl _, by rw [e1]; exact Int.le_refl _⟩
  · rw [rd_snoc]
    by_cases e : 2 + g * n + j = i
    · rw [if_pos e]
      exact ⟨fun h9 => absurd h9 (Nat.succ_ne_zero _), fun h9 => absurd h9 hvn⟩
    · rw [if_neg e]
      exact h.ver i hi
  · rw [rd_snoc]
    by_cases e : 2 + g * n + j = i
    · rw [if_pos e]
      show v.n = 0 ∨ v.n = 1 ∨ v.n = 2
      omega
    · rw [if_neg e]
      exact h.val i hi
  · rw [rd_snoc]
    by_cases e : 2 + g * n + j = i
    · rw [if_pos e]
      exact hv1
    · rw [if_neg e]
      exact h.one i hi
  · rw [e0] at h2
    rw [hp g' i h3 h4]
    by_cases e : g = g' ∧ j = i
    · obtain ⟨rfl, rfl⟩ := e
      have := h.hd g j h1 h2 h3 h4
      omega
    · rw [if_neg e]
      exact h.hd g' i h1 h2 h3 h4
  · rw [e1] at h2
    rw [hp g' i h3 h4]
    by_cases e : g = g' ∧ j = i
    · rw [if_pos e]
      exact hvn
    · rw [if_neg e]
      exact h.tl g' i h1 h2 h3 h4
  · rw [hp g' i h3 h4]
    by_cases e : g = g' ∧ j = i
    · obtain ⟨rfl, rfl⟩ := e
      omega
    · rw [if_neg e]
      exact h5
  · rw [hp g' i h3 h4]
    by_cases e : g = g' ∧ j = i
    · rw [if_pos e]
      exact hvn
    · rw [if_neg e]
      exact h5
/-- The Tail moves. -/
theorem s_tail {n : Int} (hn : 1 ≤ n) {ps : Pts} (h : SMem n ps) {t : Int} (ht : (rd ps 1).2.n = t) (hs : ∀ j : Int, 0 ≤ j → j < n → (sl n ps t j).n ≠ 0) : SMem n (ps ++ [⟨1, ⟨t + 1, []⟩⟩]) ∧ Up n ps (ps ++ [⟨1, ⟨t + 1, []⟩⟩]) := by
  have hp : ∀ g i : Int, 0 ≤ g → 0 ≤ i → sl n (ps ++ [⟨1, ⟨t + 1, []⟩⟩]) g i = sl n ps g i := fun g i h1 h2 => sl_low hn h1 h2 (by decide)
  have e0 : rd (ps ++ [⟨1, ⟨t + 1, []⟩⟩]) 0 = rd ps 0 := by rw [rd_snoc, if_neg (by show ¬ (1 : Int) = 0; decide)]
  have e1 : (rd (ps ++ [⟨1, ⟨t + 1, []⟩⟩]) 1).2.n = t + 1 := by rw [rd_snoc, if_pos rfl]
  have ei : ∀ i, 2 ≤ i → rd (ps ++ [⟨1, ⟨t + 1, []⟩⟩]) i = rd ps i := fun i hi => by rw [rd_snoc, if_neg (by show ¬ (1 : Int) = i; omega)]
  have h2 := h.ht
  refine ⟨⟨by rw [e0]; exact h.h0, by rw [e0, e1]; omega, fun i hi => by rw [ei i hi]; exact h.ver i hi, fun i hi => by rw [ei i hi]; exact h.val i hi, fun i hi => by rw [ei i hi]; exact h.one i hi, fun g i h1 h2 h3 h4 => ?_, fun g i h1 h2 h3 h4 => ?_⟩, .inr ⟨_, rfl⟩, fun g i h1 h3 h4 h5 => by rw [hp g i h1 h3]; exact h5, fun g i h1 h3 h4 h5 => by rw [hp g i h1 h3]; exact h5, by rw [e0]; exact Int.le_refl _, by rw [e1]; omega⟩
  · rw [e0] at h2
    rw [hp g i h1 h3]
    exact h.hd g i h1 h2 h3 h4
  · rw [e1] at h2
    rw [hp g i h1 h3]
    by_cases e : g = t
    · subst e
      exact hs i h3 h4
    · exact h.tl g i h1 (by omega) h3 h4
/-- The Head moves. -/
theorem s_head {n : Int} (hn : 1 ≤ n) {ps : Pts} (h : SMem n ps) {t : Int} (ht : (rd ps 0).2.n = t) (h1 : t + 1 ≤ (rd ps 1).2.n) (hs : ∀ j : Int, 0 ≤ j → j < n → (sl n ps t j).n = 2) : SMem n (ps ++ [⟨0, ⟨t + 1, []⟩⟩]) ∧ Up n ps (ps ++ [⟨0, ⟨t + 1, []⟩⟩]) := by
  have hp : ∀ g i : Int, 0 ≤ g → 0 ≤ i → sl n (ps ++ [⟨0, ⟨t + 1, []⟩⟩]) g i = sl n ps g i := fun g i h1 h2 => sl_low hn h1 h2 (by decide)
  have e1 : rd (ps ++ [⟨0, ⟨t + 1, []⟩⟩]) 1 = rd ps 1 := by rw [rd_snoc, if_neg (by show ¬ (0 : Int) = 1; decide)]
  have e0 : (rd (ps ++ [⟨0, ⟨t + 1, []⟩⟩]) 0).2.n = t + 1 := by rw [rd_snoc, if_pos rfl]
  have ei : ∀ i, 2 ≤ i → rd (ps ++ [⟨0, ⟨t + 1, []⟩⟩]) i = rd ps i := fun i hi => by rw [rd_snoc, if_neg (by show ¬ (0 : Int) = i; omega)]
  have h3 := h.h0
  refine ⟨⟨by rw [e0]; omega, by rw [e0, e1]; omega, fun i hi => by rw [ei i hi]; exact h.ver i hi, fun i hi => by rw [ei i hi]; exact h.val i hi, fun i hi => by rw [ei i hi]; exact h.one i hi, fun g i h1 h2 h3 h4 => ?_, fun g i h1 h2 h3 h4 => ?_⟩, .inr ⟨_, rfl⟩, fun g i h1 h3 h4 h5 => by rw [hp g i h1 h3]; exact h5, fun g i h1 h3 h4 h5 => by rw [hp g i h1 h3]; exact h5, by rw [e0]; omega, by rw [e1]; exact Int.le_refl _⟩
  · rw [e0] at h2
    rw [hp g i h1 h3]
    by_cases e : g = t
    · subst e
      exact hs i h3 h4
    · exact h.hd g i h1 (by omega) h3 h4
  · rw [e1] at h2
    rw [hp g i h1 h3]
    exact h.tl g i h1 h2 h3 h4
theorem kSlot_eq {n : Int} {f : RF} : kSlot n f = 2 + f.seg * n + (f.at_ + f.seen) % n := rfl
theorem seen_up {P : Int → Prop} {s : Int} (h : ∀ j : Int, 0 ≤ j → j < s → P j) (hs : P s) : ∀ j : Int, 0 ≤ j → j < s + 1 → P j := fun j h1 h2 => by
  by_cases e : j = s
  · subst e
    exact hs
  · exact h j h1 (by omega)
theorem s_step {n : Int} (hn : 1 ≤ n) {ps : Pts} {f : RF} {B : Int} (h : SMem n ps) (hk : KFr n f B) (hf : SFr n ps f) :
    SMem n (kfR n ps f).1 ∧ Up n ps (kfR n ps f).1 ∧ ((kfR n ps f).2.2.2 = false → SFr n (kfR n ps f).1 (kfR n ps f).2.1) := by
  have hmod : ∀ a : Int, 0 ≤ a % n ∧ a % n < n := fun a => ⟨Int.emod_nonneg _ (by omega), Int.emod_lt_of_pos _ (by omega)⟩
  have hseg := hk.seg
  have hseen := hk.seen
  by_cases k3 : f.k = 3
  · have hp := hf.p3 k3
    by_cases h0 : f.pc = 0
    · rw [enq0 k3 h0]
      refine ⟨h, Up.refl, fun _ => ⟨fun _ => by show (0 : Int) ≤ 1 ∧ (1 : Int) ≤ 3; decide, fun e => absurd k3 e, fun _ _ j h1 h2 => ?_, fun _ e => ?_, fun _ _ => VerN.now, fun _ e => ?_, fun e => absurd k3 e, fun e => absurd k3 e, fun e => absurd k3 e, fun e => absurd k3 e, fun e => absurd k3 e, fun e => absurd k3 e⟩⟩
      · have h2 : j < 0 := h2
        omega
      · have e : (1 : Int) = 3 := e
        omega
      · have e : (1 : Int) = 2 := e
        omega
    · have hv := hf.ev k3 h0
      by_cases h1 : f.pc = 1
      · have hx := hk.seen1 k3 (.inl h1)
        by_cases hz : (rd ps (kSlot n f)).2.n = 0
        · rw [enq1e k3 h1 hz]
          refine ⟨h, Up.refl, fun _ => ⟨fun _ => by show (0 : Int) ≤ 2 ∧ (2 : Int) ≤ 3; decide, fun e => absurd k3 e, fun _ e => ?_, fun _ e => ?_, fun _ _ => hv, fun _ _ => ?_, fun e => absurd k3 e, fun e => absurd k3 e, fun e => absurd k3 e, fun e => absurd k3 e, fun e => absurd k3 e, fun e => absurd k3 e⟩⟩
          · have e : (2 : Int) = 1 := e
            omega
          · have e : (2 : Int) = 3 := e
            omega
          · show VerN ps (kSlot n f) (rd ps (kSlot n f)).1 0
            have := VerN.now (ps := ps) (a := kSlot n f)
            rw [hz] at this
            exact this
        · have hall := seen_up (P := fun j => (sl n ps f.seg ((f.at_ + j) % n)).n ≠ 0) (hf.e1 k3 h1) (show (sl n ps f.seg ((f.at_ + f.seen) % n)).n ≠ 0 from hz)
          by_cases hs : f.seen + 1 = n
          · rw [enq1f k3 h1 hz hs]
            refine ⟨h, Up.refl, fun _ => ⟨fun _ => by show (0 : Int) ≤ 3 ∧ (3 : Int) ≤ 3; decide, fun e => absurd k3 e, fun _ e => ?_, fun _ _ => ?_, fun _ _ => hv, fun _ e => ?_, fun e => absurd k3 e, fun e => absurd k3 e, fun e => absurd k3 e, fun e => absurd k3 e, fun e => absurd k3 e, fun e => absurd k3 e⟩⟩
            · have e : (3 : Int) = 1 := e
              omega
            · exact around hn (a := f.at_) fun i h8 h9 => hall i h8 (by omega)
            · have e : (3 : Int) = 2 := e
              omega
          · rw [enq1n k3 h1 hz hs]
            refine ⟨h, Up.refl, fun _ => ⟨fun _ => hp, fun e => absurd k3 e, fun _ _ => hall, fun _ e => ?_, fun _ _ => hv, fun _ e => ?_, fun e => absurd k3 e, fun e => absurd k3 e, fun e => absurd k3 e, fun e => absurd k3 e, fun e => absurd k3 e, fun e => absurd k3 e⟩⟩
            · have e : f.pc = 3 := e
              omega
            · have e : f.pc = 2 := e
              omega
      · by_cases h2 : f.pc = 2
        · rw [enq2 k3 h2]
          unfold kPut
          by_cases hm : may ps (kSlot n f) f.v1
          · rw [if_pos hm]
            have hz := (hf.e2 k3 h2).2 (by have := hm.2.2; omega)
            obtain ⟨g1, g2⟩ := s_slot hn h (g := f.seg) (j := (f.at_ + f.seen) % n) hseg.1 (hmod _) (v := ⟨1, [f.it]⟩) (.inl ⟨rfl, rfl, hz⟩)
            exact ⟨g1, g2, fun e => by cases e⟩
          · rw [if_neg hm]
            exact ⟨h, Up.refl, fun _ => sfr0 rfl⟩
        · have h3 : f.pc = 3 := by omega
          rw [enq3 k3 h3]
          unfold kMove wr'
          by_cases hm : may ps 1 f.v0
          · rw [if_pos hm]
            have ht := hv.2 (by have := hm.2.2; omega)
            obtain ⟨g1, g2⟩ := s_tail hn h ht (hf.e3 k3 h3)
            exact ⟨g1, g2, fun _ => sfr0 rfl⟩
          · rw [if_neg hm]
            exact ⟨h, Up.refl, fun _ => sfr0 rfl⟩
  · have hp := hf.p5 k3
    by_cases h0 : f.pc = 0
    · rw [deq0 k3 h0]
      refine ⟨h, Up.refl, fun _ => ⟨fun e => absurd e k3, fun _ => by show (0 : Int) ≤ 1 ∧ (1 : Int) ≤ 5; decide, fun e => absurd e k3, fun e => absurd e k3, fun e => absurd e k3, fun e => absurd e k3, fun _ _ => ⟨VerN.now, Int.le_refl _⟩, fun _ e => ?_, fun _ e => ?_, fun _ e => ?_, fun _ e => ?_, fun _ e => ?_⟩⟩
      · have e : (1 : Int) = 2 ∨ (1 : Int) = 4 ∨ (1 : Int) = 5 := e
        omega
      all_goals
        have e := id e
        exact absurd e (by show ¬ (1 : Int) = _; decide)
    · have hdh := hf.dh k3 h0
      by_cases h1 : f.pc = 1
      · rw [deq1 k3 h1]
        refine ⟨h, Up.refl, fun _ => ⟨fun e => absurd e k3, fun _ => by show (0 : Int) ≤ 2 ∧ (2 : Int) ≤ 5; decide, fun e => absurd e k3, fun e => absurd e k3, fun e => absurd e k3, fun e => absurd e k3, fun _ _ => hdh, fun _ _ => ⟨Int.le_trans hdh.2 h.ht, Int.le_refl _, VerN.now⟩, fun _ _ _ j h8 h9 => ?_, fun _ e => ?_, fun _ e => ?_, fun _ e => ?_⟩⟩
        · have h9 : j < 0 := h9
          omega
        all_goals exact absurd e (by show ¬ (2 : Int) = _; decide)
      · by_cases h2 : f.pc = 2
        · have hdt := hf.dt k3 (.inl h2)
          have hx := hk.seen2 k3 (.inl h2)
          rw [deq2 k3 h2]
          unfold lookR
          by_cases hz : (rd ps (kSlot n f)).2.n = 1
          · rw [if_pos hz]
            refine ⟨h, Up.refl, fun _ => ⟨fun e => absurd e k3, fun _ => by show (0 : Int) ≤ 3 ∧ (3 : Int) ≤ 5; decide, fun e => absurd e k3, fun e => absurd e k3, fun e => absurd e k3, fun e => absurd e k3, fun _ _ => hdh, fun _ e => ?_, fun _ e => ?_, fun _ _ => ?_, fun _ e => ?_, fun _ e => ?_⟩⟩
            · have e : (3 : Int) = 2 ∨ (3 : Int) = 4 ∨ (3 : Int) = 5 := e
              omega
            · exact absurd e (by show ¬ (3 : Int) = _; decide)
            · show VerN ps (kSlot n f) (rd ps (kSlot n f)).1 1
              have := VerN.now (ps := ps) (a := kSlot n f)
              rw [hz] at this
              exact this
            all_goals exact absurd e (by show ¬ (3 : Int) = _; decide)
          · rw [if_neg hz]
            have h2' : (f.empty || decide ((rd ps (kSlot n f)).2.n = 0)) = false → ∀ j : Int, 0 ≤ j → j < f.seen + 1 → (sl n ps f.seg ((f.at_ + j) % n)).n = 2 := fun he => by
              obtain ⟨c1, c2⟩ := Bool.or_eq_false_iff.1 he
              have c3 := of_decide_eq_false c2
              refine seen_up (P := fun j => (sl n ps f.seg ((f.at_ + j) % n)).n = 2) (hf.d2 k3 h2 c1) ?_
              have hval : (rd ps (kSlot n f)).2.n = 0 ∨ (rd ps (kSlot n f)).2.n = 1 ∨ (rd ps (kSlot n f)).2.n = 2 := h.val _ (kSlot_ge hn hseg.1)
              show (rd ps (kSlot n f)).2.n = 2
              omega
            by_cases hs : f.seen + 1 < n
            · rw [if_pos hs]
              refine ⟨h, Up.refl, fun _ => ⟨fun e => absurd e k3, fun _ => hp, fun e => absurd e k3, fun e => absurd e k3, fun e => absurd e k3, fun e => absurd e k3, fun _ _ => hdh, fun _ _ => hdt, fun _ _ => h2', fun _ e => ?_, fun _ e => ?_, fun _ e => ?_⟩⟩
              all_goals
                have e : f.pc = _ := e
                omega
            · rw [if_neg hs]
              by_cases he : (f.empty || decide ((rd ps (kSlot n f)).2.n = 0)) = true
              · rw [if_pos he]
                exact ⟨h, Up.refl, fun e => by cases e⟩
              · rw [if_neg he]
                have he' : (f.empty || decide ((rd ps (kSlot n f)).2.n = 0)) = false := by simpa using he
                have hall := around hn (a := f.at_) (P := fun j => (sl n ps f.seg j).n = 2) fun i h8 h9 => h2' he' i h8 (by omega)
                by_cases hq : f.c1.n = f.seg
                · rw [if_pos hq]
                  refine ⟨h, Up.refl, fun _ => ⟨fun e => absurd e k3, fun _ => by show (0 : Int) ≤ 4 ∧ (4 : Int) ≤ 5; decide, fun e => absurd e k3, fun e => absurd e k3, fun e => absurd e k3, fun e => absurd e k3, fun _ _ => hdh, fun _ _ => hdt, fun _ e => ?_, fun _ e => ?_, fun _ _ => ⟨hq, hall⟩, fun _ e => ?_⟩⟩
                  all_goals exact absurd e (by show ¬ (4 : Int) = _; decide)
                · rw [if_neg hq]
                  refine ⟨h, Up.refl, fun _ => ⟨fun e => absurd e k3, fun _ => by show (0 : Int) ≤ 5 ∧ (5 : Int) ≤ 5; decide, fun e => absurd e k3, fun e => absurd e k3, fun e => absurd e k3, fun e => absurd e k3, fun _ _ => hdh, fun _ _ => hdt, fun _ e => ?_, fun _ e => ?_, fun _ e => ?_, fun _ _ => ⟨hq, hall⟩⟩⟩
                  all_goals exact absurd e (by show ¬ (5 : Int) = _; decide)
        · by_cases h3 : f.pc = 3
          · rw [deq3 k3 h3]
            unfold kPut
            by_cases hm : may ps (kSlot n f) f.v1
            · rw [if_pos hm]
              have hz := (hf.d3 k3 h3).2 (by have := hm.2.2; omega)
              obtain ⟨g1, g2⟩ := s_slot hn h (g := f.seg) (j := (f.at_ + f.seen) % n) hseg.1 (hmod _) (v := ⟨2, []⟩) (.inr ⟨rfl, rfl, hz⟩)
              exact ⟨g1, g2, fun e => by cases e⟩
            · rw [if_neg hm]
              exact ⟨h, Up.refl, fun _ => sfr0 rfl⟩
          · by_cases h4 : f.pc = 4
            · rw [deq4 k3 h4]
              unfold kMove wr'
              obtain ⟨c1, c2⟩ := hf.d4 k3 h4
              obtain ⟨c3, c4, c5⟩ := hf.dt k3 (.inr (.inl h4))
              by_cases hm : may ps 1 f.v1
              · rw [if_pos hm]
                have ht := c5.2 (by have := hm.2.2; omega)
                obtain ⟨g1, g2⟩ := s_tail hn h (t := f.seg) (by omega) (fun j h8 h9 => by rw [c2 j h8 h9]; decide)
                exact ⟨g1, g2, fun _ => sfr0 rfl⟩
              · rw [if_neg hm]
                exact ⟨h, Up.refl, fun _ => sfr0 rfl⟩
            · have h5 : f.pc = 5 := by omega
              rw [deq5 k3 h5]
              unfold kMove wr'
              obtain ⟨c1, c2⟩ := hf.d5 k3 h5
              obtain ⟨c3, c4, c5⟩ := hf.dt k3 (.inr (.inr h5))
              by_cases hm : may ps 0 f.v0
              · rw [if_pos hm]
                have ht := hdh.1.2 (by have := hm.2.2; omega)
                obtain ⟨g1, g2⟩ := s_head hn h (t := f.seg) ht (by omega) c2
                exact ⟨g1, g2, fun _ => sfr0 rfl⟩
              · rw [if_neg hm]
                exact ⟨h, Up.refl, fun _ => sfr0 rfl⟩
end Go.Proofs.Ytnolgpagdjcjbaa.Ve
