import Derived.Test.YtnolgpagdjcjbaaKb
set_option linter.unusedVariables false
set_option linter.unusedSimpArgs false
namespace Go.Proofs.Ytnolgpagdjcjbaa.Ve
open Go
set_option maxRecDepth 4000
theorem rd_sl {n : Int} {ps : Pts} {f : RF} : (rd ps (kSlot n f)).2 = sl n ps f.seg ((f.at_ + f.seen) % n) := rfl
theorem enq_probe {n : Int} (hn : 1 ≤ n) {ps : Pts} : ∀ (m : Nat) (f : RF), f.k = 3 → f.pc = 1 → 0 ≤ f.seen → f.seen < n → n = f.seen + m →
    (∃ d f', d ≤ m ∧ Goes (kfR n) d ps f ps f' ∧ f'.k = 3 ∧ f'.pc = 2 ∧ f'.it = f.it ∧ f'.v1 = (rd ps (kSlot n f')).1 ∧ ∃ j, 0 ≤ j ∧ j < n ∧ kSlot n f' = 2 + f.seg * n + j ∧ (sl n ps f.seg j).n = 0) ∨
    (∃ f', Goes (kfR n) m ps f ps f' ∧ f'.k = 3 ∧ f'.pc = 3 ∧ f'.seg = f.seg ∧ f'.v0 = f.v0 ∧ f'.it = f.it ∧ ∀ i, f.seen ≤ i → i < n → (sl n ps f.seg ((f.at_ + i) % n)).n ≠ 0)
  | 0, f, _, _, _, h5, h6 => by omega
  | m + 1, f, hk, hp, h4, h5, h6 => by
    by_cases h0 : (rd ps (kSlot n f)).2.n = 0
    · have s1 := enq1e (n := n) (ps := ps) hk hp h0
      refine .inl ⟨1, _, by omega, Goes.one s1, hk, rfl, rfl, rfl, (f.at_ + f.seen) % n, Int.emod_nonneg _ (by omega), Int.emod_lt_of_pos _ (by omega), rfl, ?_⟩
      rw [rd_sl] at h0
      exact h0
    · by_cases hs : f.seen + 1 = n
      · have s1 := enq1f (n := n) (ps := ps) hk hp h0 hs
        have hm : m = 0 := by omega
        subst hm
        refine .inr ⟨_, Goes.one s1, hk, rfl, rfl, rfl, rfl, fun i h7 h8 => ?_⟩
        have e : i = f.seen := by omega
        subst e
        rw [rd_sl] at h0
        exact h0
      · have s1 := enq1n (n := n) (ps := ps) hk hp h0 hs
        obtain ⟨f1, hf1⟩ : ∃ f1 : RF, { f with seen := f.seen + 1, v1 := (rd ps (kSlot n f)).1, c1 := (rd ps (kSlot n f)).2 } = f1 := ⟨_, rfl⟩
        rw [hf1] at s1
        have a1 : f1.k = f.k := by rw [← hf1]
        have a2 : f1.pc = f.pc := by rw [← hf1]
        have a3 : f1.seen = f.seen + 1 := by rw [← hf1]
        have a4 : f1.seg = f.seg := by rw [← hf1]
        have a5 : f1.it = f.it := by rw [← hf1]
        have a6 : f1.v0 = f.v0 := by rw [← hf1]
        have a7 : f1.at_ = f.at_ := by rw [← hf1]
        rcases enq_probe hn (ps := ps) m f1 (a1.trans hk) (a2.trans hp) (by omega) (by omega) (by omega) with ⟨d, f', b1, b2, b3, b4, b5, b6, j, b7, b8, b9, b10⟩ | ⟨f', b2, b3, b4, b5, b6, b7, b8⟩
        · rw [a4] at b9 b10
          exact .inl ⟨1 + d, f', by omega, (Goes.one s1).trans b2, b3, b4, b5.trans a5, b6, j, b7, b8, b9, b10⟩
        · refine .inr ⟨f', by rw [Nat.add_comm]; exact (Goes.one s1).trans b2, b3, b4, b5.trans a4, b6.trans a6, b7.trans a5, fun i h7 h8 => ?_⟩
          by_cases e : i = f.seen
          · subst e
            rw [rd_sl] at h0
            exact h0
          · have h9 := b8 i (by omega) h8
            rw [a4, a7] at h9
            exact h9
theorem capn {n H : Int} {L : Nat} (hn : 1 ≤ n ∧ n ≤ 16) (hH : 0 ≤ H) (hc : H + L ≤ 61) : (H + L) * n ≤ 998 := by
  have h1 : (H + L) * n ≤ 61 * 16 := Int.mul_le_mul hc hn.2 (by omega) (by decide)
  omega
/-- An Enq that looks at the last segment. -/
theorem enq_try {n : Int} (hn : 1 ≤ n ∧ n ≤ 16) {ps : Pts} {H T : Int} {A : List (List It)} (h : KQ n ps H A) (hT : T + 1 = H + A.length) (hcap : H + A.length ≤ 61) (f : RF) (hk : f.k = 3) (hp : f.pc = 0) :
    (∃ j, 0 ≤ j ∧ j < n ∧ (sl n ps T j).n = 0 ∧ aloneR (kfR n) (n.toNat + 2) ps f = (ps ++ [⟨2 + T * n + j, ⟨1, [f.it]⟩⟩], ⟨true, f.it, 0⟩, true)) ∨
    ((∀ j, 0 ≤ j → j < n → (sl n ps T j).n ≠ 0) ∧ ∃ f2 : RF, f2.k = 3 ∧ f2.pc = 0 ∧ f2.it = f.it ∧ Goes (kfR n) (n.toNat + 2) ps f (ps ++ [⟨1, ⟨T + 1, []⟩⟩]) f2) := by
  have hH := h.h0
  have hT1 : (rd ps 1).2.n = T := by have := h.tail; omega
  have hT0 : 0 ≤ T := by have := h.ne; omega
  have hc := capn hn hH hcap
  rw [← hT] at hc
  have e1 : (T + 1) * n = T * n + n := by rw [Int.add_mul, Int.one_mul]
  have s1 := enq0 (n := n) (ps := ps) hk hp
  rw [hT1, decide_eq_false (by omega)] at s1
  obtain ⟨f1, hf1⟩ : ∃ f1 : RF, { f with pc := 1, v0 := (rd ps 1).1, c0 := (rd ps 1).2, seg := T, at_ := into f.d0 n, seen := 0 } = f1 := ⟨_, rfl⟩
  rw [hf1] at s1
  have a1 : f1.k = f.k := by rw [← hf1]
  have a2 : f1.pc = 1 := by rw [← hf1]
  have a3 : f1.seen = 0 := by rw [← hf1]
  have a4 : f1.seg = T := by rw [← hf1]
  have a5 : f1.it = f.it := by rw [← hf1]
  have a6 : f1.v0 = (rd ps 1).1 := by rw [← hf1]
  have hTn : 0 ≤ T * n := Int.mul_nonneg hT0 (by omega)
  rcases enq_probe hn.1 (ps := ps) n.toNat f1 (a1.trans hk) a2 (by omega) (by omega) (by omega) with ⟨d, f', b1, b2, b3, b4, b5, b6, j, b7, b8, b9, b10⟩ | ⟨f', b2, b3, b4, b5, b6, b7, b8⟩
  · rw [a4] at b9 b10
    refine .inl ⟨j, b7, b8, b10, ?_⟩
    have s3 := enq2 (n := n) (ps := ps) b3 b4
    unfold kPut at s3
    rw [b9] at s3 b6
    rw [if_pos ⟨by omega, by omega, by rw [b6]⟩, b5, a5] at s3
    have h9 : aloneR (kfR n) 1 ps f' = (ps ++ [⟨2 + T * n + j, ⟨1, [f.it]⟩⟩], ⟨true, f.it, 0⟩, true) := by
      rw [show (1 : Nat) = 0 + 1 from rfl, alone_end (by rw [s3]), s3]
    exact ((Goes.one s1).trans b2).ends h9 (by omega)
  · refine .inr ⟨?_, ?_⟩
    · refine around hn.1 (a := f1.at_) fun i h1 h2 => ?_
      have h9 := b8 i (by omega) h2
      rw [a4] at h9
      exact h9
    · have s3 := enq3 (n := n) (ps := ps) b3 b4
      unfold kMove wr' at s3
      rw [if_pos ⟨by decide, by decide, by rw [b6, a6]⟩, b5, a4] at s3
      refine ⟨_, ?_, ?_, ?_, by rw [show n.toNat + 2 = (1 + n.toNat) + 1 by omega]; exact ((Goes.one s1).trans b2).trans (Goes.one s3)⟩
      · exact b3
      · rfl
      · exact b7.trans a5
theorem snoc_of {α : Type} {l : List α} (h : 0 < l.length) : ∃ b a, l = b ++ [a] := by
  refine ⟨l.dropLast, l.getLast (by intro e; subst e; cases h), ?_⟩
  exact (List.dropLast_concat_getLast _).symm
theorem enq_alone {n : Int} (hn : 1 ≤ n ∧ n ≤ 16) {ps : Pts} {H : Int} {A : List (List It)} (h : KQ n ps H A) (hcap : H + A.length ≤ 60) (f : RF) (hk : f.k = 3) (hp : f.pc = 0) :
    ∃ ps' A', aloneR (kfR n) 100 ps f = (ps', ⟨true, f.it, 0⟩, true) ∧ KQ n ps' H A' ∧ A'.flatten = A.flatten ++ [f.it] ∧ A'.length ≤ A.length + 1 := by
  obtain ⟨B, a, rfl⟩ := snoc_of h.ne
  have hl : ((B ++ [a]).length : Int) = B.length + 1 := by simp
  have hl1 : (B ++ [a]).length = B.length + 1 := by simp
  rcases enq_try hn h (T := H + B.length) (by omega) (by omega) f hk hp with ⟨j, h1, h2, h3, h4⟩ | ⟨h1, f2, h2, h3, h4, h5⟩
  · refine ⟨_, _, ?_, h.put hn.1 ⟨h1, h2⟩ h3 f.it, ?_, ?_⟩
    · have := ends_up _ (100 - (n.toNat + 2)) _ _ _ _ h4
      rwa [show n.toNat + 2 + (100 - (n.toNat + 2)) = 100 by omega] at this
    · simp
    · simp
  · have hb := h.bump (T := H + B.length + 1) hn.1 (by omega) (fun j hj1 hj2 => by rw [show H + (B.length : Int) + 1 - 1 = H + B.length by omega]; exact h1 j hj1 hj2)
    have hl2 : (((B ++ [a]) ++ [[]]).length : Int) = B.length + 2 := by simp
    rcases enq_try hn hb (T := H + (B ++ [a]).length) (by omega) (by omega) f2 h2 h3 with ⟨j, g1, g2, g3, g4⟩ | ⟨g1, -⟩
    · rw [h4] at g4
      refine ⟨_, _, h5.ends g4 (by omega), hb.put hn.1 ⟨g1, g2⟩ g3 f.it, ?_, ?_⟩
      · simp
      · simp
    · exact absurd (h.none (H + (B ++ [a]).length) 0 (by omega) (by omega) (by omega)) (fun e => g1 0 (by omega) (by omega) ((congrArg Vl.n (sl_low hn.1 (by have := h.h0; omega) (by omega) (by decide))).trans e))
theorem deq0 {n : Int} {ps : Pts} {f : RF} (hk : f.k ≠ 3) (hp : f.pc = 0) : kfR n ps f = (ps, { f with pc := 1, v0 := (rd ps 0).1, c0 := (rd ps 0).2, seg := (rd ps 0).2.n }, an00, false) := by
  unfold kfR deqR
  rw [if_neg hk, if_pos hp]
theorem deq1 {n : Int} {ps : Pts} {f : RF} (hk : f.k ≠ 3) (hp : f.pc = 1) : kfR n ps f = (ps, { f with pc := 2, v1 := (rd ps 1).1, c1 := (rd ps 1).2, at_ := into f.d0 n, seen := 0, empty := false }, an00, false) := by
  unfold kfR deqR
  rw [if_neg hk, if_neg (by omega), if_pos hp]
theorem deq2 {n : Int} {ps : Pts} {f : RF} (hk : f.k ≠ 3) (hp : f.pc = 2) : kfR n ps f = lookR n ps f := by
  unfold kfR
  rw [if_neg hk, deqR_look (by omega) (by omega) hp]
theorem deq3 {n : Int} {ps : Pts} {f : RF} (hk : f.k ≠ 3) (hp : f.pc = 3) : kfR n ps f = kPut ps f (kSlot n f) f.v1 ⟨2, []⟩ (hd0 f.c1.l) := by
  unfold kfR deqR
  rw [if_neg hk, if_neg (by omega), if_neg (by omega), if_neg (by omega), if_pos hp]
theorem deq4 {n : Int} {ps : Pts} {f : RF} (hk : f.k ≠ 3) (hp : f.pc = 4) : kfR n ps f = kMove ps f 1 f.v1 (f.seg + 1) := by
  unfold kfR deqR
  rw [if_neg hk, if_neg (by omega), if_neg (by omega), if_neg (by omega), if_neg (by omega), if_pos hp]
theorem deq5 {n : Int} {ps : Pts} {f : RF} (hk : f.k ≠ 3) (hp : f.pc = 5) : kfR n ps f = kMove ps f 0 f.v0 (f.seg + 1) := by
  unfold kfR deqR
  rw [if_neg hk, if_neg (by omega), if_neg (by omega), if_neg (by omega), if_neg (by omega), if_neg (by omega)]
theorem deq_probe {n : Int} (hn : 1 ≤ n) {ps : Pts} : ∀ (m : Nat) (f : RF), f.k ≠ 3 → f.pc = 2 → 0 ≤ f.seen → f.seen < n → n = f.seen + m →
    (∃ d f', d ≤ m ∧ Goes (kfR n) d ps f ps f' ∧ f'.k ≠ 3 ∧ f'.pc = 3 ∧ f'.v1 = (rd ps (kSlot n f')).1 ∧ f'.c1 = (rd ps (kSlot n f')).2 ∧ ∃ j, 0 ≤ j ∧ j < n ∧ kSlot n f' = 2 + f.seg * n + j ∧ (sl n ps f.seg j).n = 1) ∨
    ((∀ i, f.seen ≤ i → i < n → (sl n ps f.seg ((f.at_ + i) % n)).n ≠ 1) ∧
      (((f.empty = true ∨ ∃ i, f.seen ≤ i ∧ i < n ∧ (sl n ps f.seg ((f.at_ + i) % n)).n = 0) ∧ aloneR (kfR n) m ps f = (ps, an00, true)) ∨
       (f.empty = false ∧ (∀ i, f.seen ≤ i → i < n → (sl n ps f.seg ((f.at_ + i) % n)).n ≠ 0) ∧ ∃ f', Goes (kfR n) m ps f ps f' ∧ f'.k = f.k ∧ f'.v0 = f.v0 ∧ f'.v1 = f.v1 ∧ f'.seg = f.seg ∧ f'.pc = if f.c1.n = f.seg then 4 else 5)))
  | 0, f, _, _, _, h5, h6 => by omega
  | m + 1, f, hk, hp, h4, h5, h6 => by
    have s0 := deq2 (n := n) (ps := ps) hk hp
    unfold lookR at s0
    by_cases h1 : (rd ps (kSlot n f)).2.n = 1
    · rw [if_pos h1] at s0
      refine .inl ⟨1, _, by omega, Goes.one s0, hk, rfl, rfl, rfl, (f.at_ + f.seen) % n, Int.emod_nonneg _ (by omega), Int.emod_lt_of_pos _ (by omega), rfl, ?_⟩
      rw [rd_sl] at h1
      exact h1
    · rw [if_neg h1] at s0
      by_cases hs : f.seen + 1 < n
      · rw [if_pos hs] at s0
        obtain ⟨f1, hf1⟩ : ∃ f1 : RF, { f with seen := f.seen + 1, empty := f.empty || decide ((rd ps (kSlot n f)).2.n = 0) } = f1 := ⟨_, rfl⟩
        rw [hf1] at s0
        have a1 : f1.k = f.k := by rw [← hf1]
        have a2 : f1.pc = f.pc := by rw [← hf1]
        have a3 : f1.seen = f.seen + 1 := by rw [← hf1]
        have a4 : f1.seg = f.seg := by rw [← hf1]
        have a5 : f1.v1 = f.v1 := by rw [← hf1]
        have a6 : f1.v0 = f.v0 := by rw [← hf1]
        have a7 : f1.at_ = f.at_ := by rw [← hf1]
        have a8 : f1.c1 = f.c1 := by rw [← hf1]
        have a9 : f1.empty = (f.empty || decide ((rd ps (kSlot n f)).2.n = 0)) := by rw [← hf1]
        rw [rd_sl] at h1 a9
        have hall : ∀ {z : Int}, (∀ i, f1.seen ≤ i → i < n → (sl n ps f1.seg ((f1.at_ + i) % n)).n ≠ z) → (sl n ps f.seg ((f.at_ + f.seen) % n)).n ≠ z → ∀ i, f.seen ≤ i → i < n → (sl n ps f.seg ((f.at_ + i) % n)).n ≠ z := fun hz h0 i h7 h8 => by
          by_cases e : i = f.seen
          · subst e
            exact h0
          · have h9 := hz i (by omega) h8
            rw [a4, a7] at h9
            exact h9
        rcases deq_probe hn (ps := ps) m f1 (by rw [a1]; exact hk) (a2.trans hp) (by omega) (by omega) (by omega) with ⟨d, f', b1, b2, b3, b4, b5, b6, j, b7, b8, b9, b10⟩ | ⟨b1, ⟨b2, b3⟩ | ⟨b2, b3, f', b4, b5, b6, b7, b8, b9⟩⟩
        · rw [a4] at b9 b10
          exact .inl ⟨1 + d, f', by omega, (Goes.one s0).trans b2, b3, b4, b5, b6, j, b7, b8, b9, b10⟩
        · refine .inr ⟨hall b1 h1, .inl ⟨?_, (Goes.one s0).ends b3 (by omega)⟩⟩
          rcases b2 with b2 | ⟨i, c1, c2, c3⟩
          · rw [a9] at b2
            rcases Bool.or_eq_true_iff.1 b2 with b2 | b2
            · exact .inl b2
            · exact .inr ⟨f.seen, Int.le_refl _, h5, of_decide_eq_true b2⟩
          · rw [a4, a7] at c3
            exact .inr ⟨i, by omega, c2, c3⟩
        · rw [a9] at b2
          obtain ⟨c1, c2⟩ := Bool.or_eq_false_iff.1 b2
          refine .inr ⟨hall b1 h1, .inr ⟨c1, hall b3 (of_decide_eq_false c2), f', by rw [Nat.add_comm]; exact (Goes.one s0).trans b4, b5.trans a1, b6.trans a6, b7.trans a5, b8.trans a4, ?_⟩⟩
          rw [b9, a8, a4]
      · rw [if_neg hs] at s0
        have hm : m = 0 := by omega
        subst hm
        rw [rd_sl] at h1 s0
        have hi : ∀ i, f.seen ≤ i → i < n → i = f.seen := fun i h7 h8 => by omega
        by_cases he : (f.empty || decide ((sl n ps f.seg ((f.at_ + f.seen) % n)).n = 0)) = true
        · rw [if_pos he] at s0
          refine .inr ⟨fun i h7 h8 => by rw [hi i h7 h8]; exact h1, .inl ⟨?_, ?_⟩⟩
          · rcases Bool.or_eq_true_iff.1 he with b2 | b2
            · exact .inl b2
            · exact .inr ⟨f.seen, Int.le_refl _, h5, of_decide_eq_true b2⟩
          · rw [alone_end (by rw [s0]), s0]
        · rw [if_neg he] at s0
          have he' : (f.empty || decide ((sl n ps f.seg ((f.at_ + f.seen) % n)).n = 0)) = false := by simpa using he
          obtain ⟨c1, c2⟩ := Bool.or_eq_false_iff.1 he'
          refine .inr ⟨fun i h7 h8 => by rw [hi i h7 h8]; exact h1, .inr ⟨c1, fun i h7 h8 => by rw [hi i h7 h8]; exact of_decide_eq_false c2, ?_⟩⟩
          by_cases hq : f.c1.n = f.seg
          · rw [if_pos hq] at s0
            exact ⟨_, Goes.one s0, rfl, rfl, rfl, rfl, by rw [if_pos hq]⟩
          · rw [if_neg hq] at s0
            exact ⟨_, Goes.one s0, rfl, rfl, rfl, rfl, by rw [if_neg hq]⟩
/-- A Deq that looks at the first segment. -/
theorem deq_try {n : Int} (hn : 1 ≤ n ∧ n ≤ 16) {ps : Pts} {H : Int} {A : List (List It)} (h : KQ n ps H A) (hcap : H + A.length ≤ 61) (f : RF) (hk : f.k ≠ 3) (hp : f.pc = 0) :
    (∃ j x, 0 ≤ j ∧ j < n ∧ (sl n ps H j).n = 1 ∧ (sl n ps H j).l = [x] ∧ aloneR (kfR n) (n.toNat + 3) ps f = (ps ++ [⟨2 + H * n + j, ⟨2, []⟩⟩], ⟨true, x, 0⟩, true)) ∨
    ((∀ j, 0 ≤ j → j < n → (sl n ps H j).n ≠ 1) ∧
      (((∃ j, 0 ≤ j ∧ j < n ∧ (sl n ps H j).n = 0) ∧ aloneR (kfR n) (n.toNat + 2) ps f = (ps, an00, true)) ∨
       ((∀ j, 0 ≤ j → j < n → (sl n ps H j).n ≠ 0) ∧ ∃ f2 : RF, f2.k ≠ 3 ∧ f2.pc = 0 ∧ Goes (kfR n) (n.toNat + 3) ps f (if A.length = 1 then ps ++ [⟨1, ⟨H + 1, []⟩⟩] else ps ++ [⟨0, ⟨H + 1, []⟩⟩]) f2))) := by
  have hH := h.h0
  have hL := h.ne
  have hc := capn hn hH hcap
  have hHn : 0 ≤ H * n := Int.mul_nonneg hH (by omega)
  have e1 : (H + 1) * n ≤ (H + A.length) * n := Int.mul_le_mul_of_nonneg_right (by omega) (by omega)
  rw [Int.add_mul, Int.one_mul] at e1
  have s1 := deq0 (n := n) (ps := ps) hk hp
  rw [h.head] at s1
  obtain ⟨f1, hf1⟩ : ∃ f1 : RF, { f with pc := 1, v0 := (rd ps 0).1, c0 := (rd ps 0).2, seg := H } = f1 := ⟨_, rfl⟩
  rw [hf1] at s1
  have s2 := deq1 (n := n) (ps := ps) (f := f1) (by rw [← hf1]; exact hk) (by rw [← hf1])
  obtain ⟨g, hg⟩ : ∃ g : RF, { f1 with pc := 2, v1 := (rd ps 1).1, c1 := (rd ps 1).2, at_ := into f1.d0 n, seen := 0, empty := false } = g := ⟨_, rfl⟩
  rw [hg] at s2
  have a1 : g.k = f.k := by rw [← hg, ← hf1]
  have a2 : g.pc = 2 := by rw [← hg]
  have a3 : g.seen = 0 := by rw [← hg]
  have a4 : g.seg = H := by rw [← hg, ← hf1]
  have a5 : g.v1 = (rd ps 1).1 := by rw [← hg]
  have a6 : g.v0 = (rd ps 0).1 := by rw [← hg, ← hf1]
  have a8 : g.c1 = (rd ps 1).2 := by rw [← hg]
  have a9 : g.empty = false := by rw [← hg]
  have s12 := (Goes.one s1).trans (Goes.one s2)
  rcases deq_probe hn.1 (ps := ps) n.toNat g (by rw [a1]; exact hk) a2 (by omega) (by omega) (by omega) with ⟨d, f', b1, b2, b3, b4, b5, b6, j, b7, b8, b9, b10⟩ | ⟨b1, hrest⟩
  · rw [a4] at b9 b10
    obtain ⟨x, hx⟩ := h.one H j hH b7 b8 b10
    refine .inl ⟨j, x, b7, b8, b10, hx, ?_⟩
    have s3 := deq3 (n := n) (ps := ps) b3 b4
    unfold kPut at s3
    rw [b9] at s3 b5 b6
    have hcx : f'.c1.l = [x] := by rw [b6]; exact hx
    rw [if_pos ⟨by omega, by omega, by rw [b5]⟩, hcx] at s3
    have h9 : aloneR (kfR n) 1 ps f' = (ps ++ [⟨2 + H * n + j, ⟨2, []⟩⟩], ⟨true, x, 0⟩, true) := by
      rw [show (1 : Nat) = 0 + 1 from rfl, alone_end (by rw [s3]), s3]
      rfl
    exact (s12.trans b2).ends h9 (by omega)
  · rw [a4] at b1
    refine .inr ⟨around hn.1 (a := g.at_) fun i h1 h2 => b1 i (by omega) h2, ?_⟩
    rcases hrest with ⟨b2, b3⟩ | ⟨-, b3, f', b4, b5, b6, b7, b8, b9⟩
    · refine .inl ⟨?_, s12.ends b3 (by omega)⟩
      rcases b2 with b2 | ⟨i, c1, c2, c3⟩
      · rw [a9] at b2
        cases b2
      · rw [a4] at c3
        exact ⟨_, Int.emod_nonneg _ (by omega), Int.emod_lt_of_pos _ (by omega), c3⟩
    · rw [a4] at b3
      refine .inr ⟨around hn.1 (a := g.at_) fun i h1 h2 => b3 i (by omega) h2, ?_⟩
      have hk' : f'.k ≠ 3 := by rw [b5, a1]; exact hk
      have htl := h.tail
      rw [a8, a4] at b9
      by_cases hA : A.length = 1
      · rw [if_pos hA]
        rw [if_pos (by omega)] at b9
        have s3 := deq4 (n := n) (ps := ps) hk' b9
        unfold kMove wr' at s3
        rw [if_pos ⟨by decide, by decide, by rw [b7, a5]⟩, b8, a4] at s3
        refine ⟨_, ?_, ?_, by rw [show n.toNat + 3 = (1 + 1 + n.toNat) + 1 by omega]; exact (s12.trans b4).trans (Goes.one s3)⟩
        · exact hk'
        · rfl
      · rw [if_neg hA]
        rw [if_neg (by omega)] at b9
        have s3 := deq5 (n := n) (ps := ps) hk' b9
        unfold kMove wr' at s3
        rw [if_pos ⟨by decide, by decide, by rw [b6, a6]⟩, b8, a4] at s3
        refine ⟨_, ?_, ?_, by rw [show n.toNat + 3 = (1 + 1 + n.toNat) + 1 by omega]; exact (s12.trans b4).trans (Goes.one s3)⟩
        · exact hk'
        · rfl
theorem mem_take_app {α : Type} {a r : List α} {x : α} {n : Nat} (h : x ∈ a) (hl : a.length ≤ n) : x ∈ (a ++ r).take n := by
  rw [List.take_append, List.take_of_length_le hl]
  exact List.mem_append_left _ h
theorem KQ.first_len {n : Int} (hn : 1 ≤ n) {ps : Pts} {H : Int} {a : List It} {B : List (List It)} (h : KQ n ps H (a :: B)) : (a.length : Int) ≤ n := by
  have h1 := h.perm 0 a rfl
  have e0 : H + ((0 : Nat) : Int) = H := by omega
  rw [e0] at h1
  rw [h1.length_eq]
  rcases its_len (n := n) (seg := H) (ps := ps) (fun j hj h1 => by
    obtain ⟨x, hx⟩ := h.one H j h.h0 (by omega) hj h1
    rw [hx]
    exact Nat.le_refl 1) with h2 | h2
  · exact h2
  · omega
theorem KQ.first_nil {n : Int} {ps : Pts} {H : Int} {a : List It} {B : List (List It)} (h : KQ n ps H (a :: B)) (h1 : ∀ j, 0 ≤ j → j < n → (sl n ps H j).n ≠ 1) : a = [] := by
  have h2 := h.perm 0 a rfl
  have e0 : H + ((0 : Nat) : Int) = H := by omega
  rw [e0, its_none fun j hj => h1 j (by omega) hj] at h2
  exact h2.eq_nil
/-- What came of a Deq that nobody disturbs. -/
def DeqSays (n : Int) (ps : Pts) (f : RF) (L : Int) (T : List It) : Prop :=
  (T = [] ∧ ∃ ps' H' A', aloneR (kfR n) 100 ps f = (ps', an00, true) ∧ KQ n ps' H' A' ∧ A'.flatten = [] ∧ H' + (A'.length : Int) ≤ L) ∨
  ∃ x ps' H' A', aloneR (kfR n) 100 ps f = (ps', ⟨true, x, 0⟩, true) ∧ KQ n ps' H' A' ∧ A'.flatten = T.erase x ∧ x ∈ T.take n.toNat ∧ H' + (A'.length : Int) ≤ L
theorem deq_got {n : Int} (hn : 1 ≤ n ∧ n ≤ 16) {ps ps0 : Pts} {f f2 : RF} {k : Nat} {H L : Int} {a : List It} {B : List (List It)} (h : KQ n ps H (a :: B)) (hL : H + ((a :: B).length : Int) ≤ L) (hg : Goes (kfR n) k ps0 f ps f2) (hk : k ≤ 80) {j : Int} {x : It} (hj : 0 ≤ j ∧ j < n) (h1 : (sl n ps H j).n = 1) (hx : (sl n ps H j).l = [x])
    (he : aloneR (kfR n) (n.toNat + 3) ps f2 = (ps ++ [⟨2 + H * n + j, ⟨2, []⟩⟩], ⟨true, x, 0⟩, true)) : DeqSays n ps0 f L (a :: B).flatten := by
  obtain ⟨hxa, hq⟩ := h.take hn.1 hj h1 hx
  have hal := h.first_len hn.1
  refine .inr ⟨x, _, H, _, hg.ends he (by omega), hq, ?_, ?_, ?_⟩
  · simp only [List.flatten_cons]
    rw [List.erase_append_left _ hxa]
  · simp only [List.flatten_cons]
    exact mem_take_app hxa (by omega)
  · simpa using hL
theorem deq_none {n : Int} (hn : 1 ≤ n ∧ n ≤ 16) {ps ps0 : Pts} {f f2 : RF} {k : Nat} {H L : Int} {a : List It} {B : List (List It)} (h : KQ n ps H (a :: B)) (hL : H + ((a :: B).length : Int) ≤ L) (hg : Goes (kfR n) k ps0 f ps f2) (hk : k ≤ 80) (h1 : ∀ j, 0 ≤ j → j < n → (sl n ps H j).n ≠ 1) (h2 : ∃ j, 0 ≤ j ∧ j < n ∧ (sl n ps H j).n = 0)
    (he : aloneR (kfR n) (n.toNat + 2) ps f2 = (ps, an00, true)) : DeqSays n ps0 f L (a :: B).flatten := by
  have ha := h.first_nil h1
  obtain ⟨j, h3, h4, h5⟩ := h2
  have h6 := h.emp H j (Int.le_refl _) h3 h4 h5
  have hB : B = [] := by
    cases B with
    | nil => rfl
    | cons b B => simp at h6; omega
  subst ha
  subst hB
  exact .inl ⟨rfl, _, H, _, hg.ends he (by omega), h, rfl, hL⟩
theorem deq_alone {n : Int} (hn : 1 ≤ n ∧ n ≤ 16) {ps : Pts} {H : Int} {A : List (List It)} (h : KQ n ps H A) (hcap : H + A.length ≤ 60) (f : RF) (hk : f.k ≠ 3) (hp : f.pc = 0) :
    DeqSays n ps f (H + A.length + 1) A.flatten := by
  cases A with
  | nil => exact absurd h.ne (by simp)
  | cons a B =>
    have hH := h.h0
    have hl : ((a :: B).length : Int) = B.length + 1 := by simp
    rcases deq_try hn h (by omega) f hk hp with ⟨j, x, h1, h2, h3, h4, h5⟩ | ⟨h1, ⟨h2, h3⟩ | ⟨h2, f2, h3, h4, h5⟩⟩
    · exact deq_got hn h (by omega) Goes.refl (by omega) ⟨h1, h2⟩ h3 h4 h5
    · exact deq_none hn h (by omega) Goes.refl (by omega) h1 h2 h3
    · have ha := h.first_nil h1
      subst ha
      by_cases hB : B = []
      · subst hB
        rw [if_pos (show ([[]] : List (List It)).length = 1 from rfl)] at h5
        have hb := h.bump (T := H + 1) hn.1 (by simp) (fun j hj1 hj2 => by rw [show H + 1 - 1 = H by omega]; exact h2 j hj1 hj2)
        have hp1 : ∀ i : Int, 0 ≤ i → sl n (ps ++ [⟨1, ⟨H + 1, []⟩⟩]) H i = sl n ps H i := fun i hi => sl_low hn.1 hH hi (by decide)
        have hb2 : KQ n (ps ++ [⟨1, ⟨H + 1, []⟩⟩]) H [[], []] := hb
        rcases deq_try hn hb2 (by simp at hcap ⊢; omega) f2 h3 h4 with ⟨j, x, g1, g2, g3, g4, g5⟩ | ⟨g1, ⟨⟨j, g2, g3, g4⟩, -⟩ | ⟨g2, f3, g3, g4, g5⟩⟩
        · rw [hp1 j g1] at g3
          exact absurd g3 (h1 j g1 g2)
        · rw [hp1 j g2] at g4
          exact absurd g4 (h2 j g2 g3)
        · rw [if_neg (by simp)] at g5
          have hc := hb2.next hn.1 (by simp)
          have hno : ∀ j : Int, 0 ≤ j → j < n → (sl n (ps ++ [⟨1, ⟨H + 1, []⟩⟩] ++ [⟨0, ⟨H + 1, []⟩⟩]) (H + 1) j).n = 0 := fun j hj1 hj2 => by
            rw [sl_low hn.1 (by omega) hj1 (by decide), sl_low hn.1 (by omega) hj1 (by decide)]
            exact h.none (H + 1) j hj1 hj2 (by simp)
          rcases deq_try hn hc (by simp at hcap ⊢; omega) f3 g3 g4 with ⟨j, x, k1, k2, k3, k4, k5⟩ | ⟨k1, ⟨k2, k3⟩ | ⟨k2, -⟩⟩
          · rw [hno j k1 k2] at k3
            cases k3
          · have := deq_none hn hc (L := H + (([[]] : List (List It)).length : Int) + 1) (by simp) (h5.trans g5) (by omega) k1 k2 k3
            exact this
          · exact absurd (hno 0 (by omega) (by omega)) (k2 0 (by omega) (by omega))
      · have hBl : 0 < B.length := List.length_pos_iff.2 hB
        rw [if_neg (by simp; omega)] at h5
        have hc := h.next hn.1 hBl
        have hsame : ∀ i : Int, 0 ≤ i → sl n (ps ++ [⟨0, ⟨H + 1, []⟩⟩]) (H + 1) i = sl n ps (H + 1) i := fun i hi => sl_low hn.1 (by omega) hi (by decide)
        cases B with
        | nil => exact absurd rfl hB
        | cons b B =>
          have hl2 : ((b :: B).length : Int) = B.length + 1 := by simp
          have hfl : ([] :: b :: B : List (List It)).flatten = (b :: B).flatten := by simp
          rw [hfl]
          rcases deq_try hn hc (by omega) f2 h3 h4 with ⟨j, x, g1, g2, g3, g4, g5⟩ | ⟨g1, ⟨g2, g3⟩ | ⟨g2, -⟩⟩
          · exact deq_got hn hc (by omega) h5 (by omega) ⟨g1, g2⟩ g3 g4 g5
          · exact deq_none hn hc (by omega) h5 (by omega) g1 g2 g3
          · have c0 := g2 0 (by omega) (by omega)
            have c1 := g1 0 (by omega) (by omega)
            rw [hsame 0 (by omega)] at c0 c1
            have c2 := h.tak (H + 1) 0 (by omega) (by omega) (by omega)
            have c3 := h.val (H + 1) 0 (by omega) (by omega) (by omega)
            omega
end Go.Proofs.Ytnolgpagdjcjbaa.Ve
