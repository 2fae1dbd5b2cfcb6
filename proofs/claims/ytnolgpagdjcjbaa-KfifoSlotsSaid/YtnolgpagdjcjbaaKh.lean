import Derived.Test.YtnolgpagdjcjbaaKp
set_option linter.unusedVariables false
set_option linter.unusedSimpArgs false
namespace Go.Proofs.Ytnolgpagdjcjbaa.Ve
open Go
set_option maxRecDepth 4000
theorem alone_go {rs : StepR} {N : Nat} {ps : Pts} {f : RF} (h : (rs ps f).2.2.2 = false) : aloneR rs (N + 1) ps f = aloneR rs N (rs ps f).1 (rs ps f).2.1 := by
  simp [aloneR, h]
theorem alone_end {rs : StepR} {N : Nat} {ps : Pts} {f : RF} (h : (rs ps f).2.2.2 = true) : aloneR rs (N + 1) ps f = ((rs ps f).1, (rs ps f).2.2.1, true) := by
  simp [aloneR, h]
theorem okRun_kf {n : Int} (hn : 1 ≤ n ∧ n ≤ 16) : ∀ (N : Nat) (ps : Pts) (f : RF) (B : Int), 2 ≤ B → B + N ≤ 2 ^ 21 → ps.length + N < 2 ^ 20 → KMem n ps B → KFr n f B → okRun (kfR n) (KOk n) N ps f
  | 0, _, _, _, _, _, _, _, _ => trivial
  | N + 1, ps, f, B, hB, hBN, hl, hm, hf => by
    obtain ⟨h1, h2, h3⟩ := kfR_inv hn hB hm hf
    refine ⟨⟨hn, by omega, hm.up (by omega), hf.up (by omega)⟩, fun hd => ?_⟩
    exact okRun_kf hn N _ _ (B + 1) (by omega) (by omega) (by omega) h1 ((h2 hd).up (by omega))
theorem alone_mem {n : Int} (hn : 1 ≤ n ∧ n ≤ 16) : ∀ (N : Nat) (ps : Pts) (f : RF) (B : Int), 2 ≤ B → KMem n ps B → KFr n f B → KMem n (aloneR (kfR n) N ps f).1 (B + N) ∧ (aloneR (kfR n) N ps f).1.length ≤ ps.length + N
  | 0, _, _, _, _, hm, _ => ⟨hm.up (by omega), by simp [aloneR]⟩
  | N + 1, ps, f, B, hB, hm, hf => by
    obtain ⟨h1, h2, h3⟩ := kfR_inv hn hB hm hf
    cases hd : (kfR n ps f).2.2.2
    · rw [alone_go hd]
      obtain ⟨a, b⟩ := alone_mem hn N _ _ (B + 1) (by omega) h1 ((h2 hd).up (by omega))
      exact ⟨a.up (by omega), by omega⟩
    · rw [alone_end hd]
      exact ⟨h1.up (by omega), by show (kfR n ps f).1.length ≤ _; omega⟩
theorem enq0 {n : Int} {ps : Pts} {f : RF} (hk : f.k = 3) (hp : f.pc = 0) : kfR n ps f = (ps, { f with pc := 1, v0 := (rd ps 1).1, c0 := (rd ps 1).2, seg := (rd ps 1).2.n, at_ := into f.d0 n, seen := 0 }, an00, decide (1000 < 2 + ((rd ps 1).2.n + 1) * n)) := by
  unfold kfR enqR
  rw [if_pos hk, if_pos hp]
theorem enq1e {n : Int} {ps : Pts} {f : RF} (hk : f.k = 3) (hp : f.pc = 1) (h : (rd ps (kSlot n f)).2.n = 0) : kfR n ps f = (ps, { f with pc := 2, v1 := (rd ps (kSlot n f)).1, c1 := (rd ps (kSlot n f)).2 }, an00, false) := by
  unfold kfR enqR
  rw [if_pos hk, if_neg (by omega), if_pos hp, if_pos h]
theorem enq1f {n : Int} {ps : Pts} {f : RF} (hk : f.k = 3) (hp : f.pc = 1) (h : (rd ps (kSlot n f)).2.n ≠ 0) (hs : f.seen + 1 = n) : kfR n ps f = (ps, { f with pc := 3, seen := f.seen + 1, v1 := (rd ps (kSlot n f)).1, c1 := (rd ps (kSlot n f)).2 }, an00, false) := by
  unfold kfR enqR
  rw [if_pos hk, if_neg (by omega), if_pos hp, if_neg h, if_pos hs]
theorem enq1n {n : Int} {ps : Pts} {f : RF} (hk : f.k = 3) (hp : f.pc = 1) (h : (rd ps (kSlot n f)).2.n ≠ 0) (hs : ¬ f.seen + 1 = n) : kfR n ps f = (ps, { f with seen := f.seen + 1, v1 := (rd ps (kSlot n f)).1, c1 := (rd ps (kSlot n f)).2 }, an00, false) := by
  unfold kfR enqR
  rw [if_pos hk, if_neg (by omega), if_pos hp, if_neg h, if_neg hs]
theorem enq2 {n : Int} {ps : Pts} {f : RF} (hk : f.k = 3) (hp : f.pc = 2) : kfR n ps f = kPut ps f (kSlot n f) f.v1 ⟨1, [f.it]⟩ f.it := by
  unfold kfR enqR
  rw [if_pos hk, if_neg (by omega), if_neg (by omega), if_pos hp]
theorem enq3 {n : Int} {ps : Pts} {f : RF} (hk : f.k = 3) (hp : f.pc = 3) : kfR n ps f = kMove ps f 1 f.v0 (f.seg + 1) := by
  unfold kfR enqR
  rw [if_pos hk, if_neg (by omega), if_neg (by omega), if_neg (by omega)]
/-- So many Enqs were done, one by one. -/
structure FS (n : Int) (ps : Pts) (i : Nat) (T : Int) : Prop where
  tail : (rd ps 1).2.n = T
  slot : ∀ s : Nat, (rd ps (2 + s)).2.n = if s < i then 1 else 0
theorem into_seg {n T : Int} {i : Nat} (hn : 1 ≤ n) (hlo : T * n ≤ i) (hhi : (i : Int) < T * n + n) : into i n = i - T * n := by
  unfold into
  rw [if_neg (by omega)]
  have e : (i : Int) = (i - T * n) + n * T := by rw [Int.mul_comm n T]; omega
  rw [e, Int.add_mul_emod_self_left, Int.emod_eq_of_lt (by omega) (by omega)]
  omega
theorem full_a {n : Int} (hn : 1 ≤ n ∧ n ≤ 16) {ps : Pts} {i : Nat} {T : Int} (h : FS n ps i T) (hlo : T * n ≤ i) (hhi : (i : Int) < T * n + n) (hcap : (T + 1) * n ≤ 998) (f : RF) (hk : f.k = 3) (hpc : f.pc = 0) (hd : f.d0 = i) (N : Nat) :
    aloneR (kfR n) (N + 3) ps f = (ps ++ [⟨2 + i, ⟨1, [f.it]⟩⟩], ⟨true, f.it, 0⟩, true) := by
  have hin := into_seg hn.1 hlo hhi
  have e1 : (T + 1) * n = T * n + n := by rw [Int.add_mul, Int.one_mul]
  have s1 := enq0 (n := n) (ps := ps) hk hpc
  rw [h.tail, hd, hin, decide_eq_false (by omega)] at s1
  obtain ⟨f1, hf1⟩ : ∃ f1 : RF, { f with d0 := (i : Int), pc := 1, v0 := (rd ps 1).1, c0 := (rd ps 1).2, seg := T, at_ := (i : Int) - T * n, seen := 0 } = f1 := ⟨_, rfl⟩
  rw [hf1] at s1
  have k1 : f1.k = 3 := by rw [← hf1]; exact hk
  have p1 : f1.pc = 1 := by rw [← hf1]
  have t1 : f1.it = f.it := by rw [← hf1]
  have hsl : kSlot n f1 = 2 + i := by
    rw [← hf1]
    unfold kSlot
    show 2 + T * n + ((i : Int) - T * n + 0) % n = 2 + i
    rw [Int.emod_eq_of_lt (by omega) (by omega)]
    omega
  have h0 : (rd ps (kSlot n f1)).2.n = 0 := by
    rw [hsl, h.slot i, if_neg (by omega)]
  have s2 := enq1e (n := n) (ps := ps) k1 p1 h0
  rw [hsl] at s2
  obtain ⟨f2, hf2⟩ : ∃ f2 : RF, { f1 with pc := 2, v1 := (rd ps (2 + (i : Int))).1, c1 := (rd ps (2 + (i : Int))).2 } = f2 := ⟨_, rfl⟩
  rw [hf2] at s2
  have k2 : f2.k = 3 := by rw [← hf2]; exact k1
  have p2 : f2.pc = 2 := by rw [← hf2]
  have hsl2 : kSlot n f2 = 2 + i := by rw [← hf2]; exact hsl
  have v2 : f2.v1 = (rd ps (2 + (i : Int))).1 := by rw [← hf2]
  have t2 : f2.it = f.it := by rw [← hf2]; exact t1
  have hmay : may ps (2 + i) f2.v1 := ⟨by omega, by omega, by rw [v2]⟩
  have s3 := enq2 (n := n) (ps := ps) k2 p2
  unfold kPut at s3
  rw [hsl2, if_pos hmay, t2] at s3
  rw [alone_go (by rw [s1]), s1]
  show aloneR (kfR n) (N + 1 + 1) ps f1 = _
  rw [alone_go (by rw [s2]), s2]
  show aloneR (kfR n) (N + 1) ps f2 = _
  rw [alone_end (by rw [s3]), s3]
theorem probe {n : Int} (hn : 1 ≤ n ∧ n ≤ 16) {ps : Pts} (N : Nat) : ∀ (m : Nat) (f : RF), f.k = 3 → f.pc = 1 → f.at_ = 0 → 0 ≤ f.seen → f.seen < n → n = f.seen + m → (∀ j : Int, 0 ≤ j → j < n → (rd ps (2 + f.seg * n + j)).2.n ≠ 0) →
    ∃ f' : RF, f'.k = 3 ∧ f'.pc = 3 ∧ f'.seg = f.seg ∧ f'.v0 = f.v0 ∧ f'.it = f.it ∧ f'.d0 = f.d0 ∧ aloneR (kfR n) (N + m) ps f = aloneR (kfR n) N ps f'
  | 0, f, _, _, _, _, h5, h6, _ => by omega
  | m + 1, f, hk, hp, ha, h4, h5, h6, hfull => by
    have hsl : kSlot n f = 2 + f.seg * n + f.seen := by
      unfold kSlot
      rw [ha, Int.zero_add, Int.emod_eq_of_lt h4 h5]
    have h0 : (rd ps (kSlot n f)).2.n ≠ 0 := by
      rw [hsl]
      exact hfull _ h4 h5
    by_cases hl : f.seen + 1 = n
    · have s1 := enq1f (n := n) (ps := ps) hk hp h0 hl
      have hm : m = 0 := by omega
      subst hm
      refine ⟨{ f with pc := 3, seen := f.seen + 1, v1 := (rd ps (kSlot n f)).1, c1 := (rd ps (kSlot n f)).2 }, hk, rfl, rfl, rfl, rfl, rfl, ?_⟩
      rw [alone_go (N := N + 0) (by rw [s1]), s1]
      rfl
    · have s1 := enq1n (n := n) (ps := ps) hk hp h0 hl
      obtain ⟨f', h1, h2, h3, h4', h5', h6', h7⟩ := probe hn N m { f with seen := f.seen + 1, v1 := (rd ps (kSlot n f)).1, c1 := (rd ps (kSlot n f)).2 } hk hp ha (by show 0 ≤ f.seen + 1; omega) (by show f.seen + 1 < n; omega) (by show n = f.seen + 1 + m; omega) hfull
      refine ⟨f', h1, h2, h3, h4', h5', h6', ?_⟩
      rw [← Nat.add_assoc, alone_go (by rw [s1]), s1]
      exact h7
theorem FS.bump {n : Int} {ps : Pts} {i : Nat} {T : Int} (h : FS n ps i T) (q : Int) : FS n (ps ++ [⟨1, ⟨q, []⟩⟩]) i q where
  tail := by rw [rd_snoc, if_pos rfl]
  slot := fun s => by
    rw [rd_snoc, if_neg (by show ¬ (1 : Int) = 2 + s; omega)]
    exact h.slot s
theorem FS.put {n : Int} {ps : Pts} {i : Nat} {T : Int} (h : FS n ps i T) (x : It) : FS n (ps ++ [⟨2 + i, ⟨1, [x]⟩⟩]) (i + 1) T where
  tail := by
    rw [rd_snoc, if_neg (by show ¬ 2 + (i : Int) = 1; omega)]
    exact h.tail
  slot := fun s => by
    rw [rd_snoc]
    by_cases e : s = i
    · subst e
      rw [if_pos rfl, if_pos (by omega)]
    · rw [if_neg (by show ¬ 2 + (i : Int) = 2 + s; omega), h.slot s]
      by_cases h2 : s < i
      · rw [if_pos h2, if_pos (by omega)]
      · rw [if_neg h2, if_neg (by omega)]
/-- The last segment is full: the next one. -/
theorem full_b {n : Int} (hn : 1 ≤ n ∧ n ≤ 16) {ps : Pts} {i : Nat} {T : Int} (h : FS n ps i T) (hT : 0 ≤ T) (hi : (i : Int) = T * n + n) (hcap : (T + 1) * n ≤ 998) (f : RF) (hk : f.k = 3) (hpc : f.pc = 0) (hd : f.d0 = i) (N : Nat) :
    ∃ f' : RF, f'.k = 3 ∧ f'.pc = 0 ∧ f'.d0 = i ∧ f'.it = f.it ∧ aloneR (kfR n) (N + 1 + n.toNat + 1) ps f = aloneR (kfR n) N (ps ++ [⟨1, ⟨T + 1, []⟩⟩]) f' := by
  have e1 : (T + 1) * n = T * n + n := by rw [Int.add_mul, Int.one_mul]
  have s1 := enq0 (n := n) (ps := ps) hk hpc
  have hin : into (i : Int) n = 0 := by
    unfold into
    rw [if_neg (by omega)]
    have e : (i : Int) = n * (T + 1) := by rw [Int.mul_comm]; omega
    rw [e, Int.mul_emod_right]
  rw [h.tail, hd, hin, decide_eq_false (by omega)] at s1
  obtain ⟨f1, hf1⟩ : ∃ f1 : RF, { f with d0 := (i : Int), pc := 1, v0 := (rd ps 1).1, c0 := (rd ps 1).2, seg := T, at_ := (0 : Int), seen := 0 } = f1 := ⟨_, rfl⟩
  rw [hf1] at s1
  have k1 : f1.k = 3 := by rw [← hf1]; exact hk
  have p1 : f1.pc = 1 := by rw [← hf1]
  have a1 : f1.at_ = 0 := by rw [← hf1]
  have n1 : f1.seen = 0 := by rw [← hf1]
  have g1 : f1.seg = T := by rw [← hf1]
  have v1 : f1.v0 = (rd ps 1).1 := by rw [← hf1]
  have t1 : f1.it = f.it := by rw [← hf1]
  have d1 : f1.d0 = i := by rw [← hf1]
  have hTn : 0 ≤ T * n := Int.mul_nonneg hT (by omega)
  obtain ⟨f2, k2, p2, g2, v2, t2, d2, s2⟩ := probe hn (ps := ps) (N + 1) n.toNat f1 k1 p1 a1 (by omega) (by omega) (by omega) (fun j hj hj2 => by
    rw [g1]
    obtain ⟨s, hs⟩ : ∃ s : Nat, T * n + j = s := ⟨(T * n + j).toNat, by omega⟩
    have e : 2 + T * n + j = 2 + (s : Int) := by omega
    rw [e, h.slot s, if_pos (by omega)]
    decide)
  have s3 := enq3 (n := n) (ps := ps) k2 p2
  have hmay : may ps 1 f2.v0 := ⟨by decide, by decide, by rw [v2, v1]⟩
  unfold kMove wr' at s3
  rw [if_pos hmay, g2, g1] at s3
  refine ⟨{ f2 with pc := 0, seg := T }, k2, rfl, d2.trans d1, t2.trans t1, ?_⟩
  rw [alone_go (by rw [s1]), s1]
  show aloneR (kfR n) (N + 1 + n.toNat) ps f1 = _
  rw [s2, alone_go (by rw [s3]), s3]
/-- An Enq behind others, one by one. -/
theorem full_step {n : Int} (hn : 1 ≤ n ∧ n ≤ 16) {ps : Pts} {i : Nat} {T Q : Int} (h : FS n ps i T) (hT : 0 ≤ T) (hlo : i = 0 ∧ T = 0 ∨ T * n < i) (hhi : (i : Int) ≤ T * n + n) (hQ : Q * n ≤ 998) (hQ2 : 998 < (Q + 1) * n) (hQ0 : 0 < Q) (hi : (i : Int) ≤ Q * n) (f : RF) (hk : f.k = 3) (hpc : f.pc = 0) (hd : f.d0 = i) :
    ((i : Int) < Q * n → ∃ ps' T', aloneR (kfR n) 100 ps f = (ps', ⟨true, f.it, 0⟩, true) ∧ FS n ps' (i + 1) T' ∧ 0 ≤ T' ∧ T' * n < ((i + 1 : Nat) : Int) ∧ ((i + 1 : Nat) : Int) ≤ T' * n + n) ∧
    ((i : Int) = Q * n → ∃ ps', aloneR (kfR n) 100 ps f = (ps', an00, true)) := by
  have hn0 : 0 < n := by omega
  have hlo' : T * n ≤ i := by
    rcases hlo with ⟨rfl, rfl⟩ | h
    · simp
    · omega
  have mono : ∀ a b : Int, a < b → (a + 1) * n ≤ b * n := fun a b hab => Int.mul_le_mul_of_nonneg_right (by omega) (by omega)
  have lt : ∀ a b : Int, a * n < b * n → a < b := fun a b hab => Int.lt_of_mul_lt_mul_right hab (by omega)
  have e1 : (T + 1) * n = T * n + n := by rw [Int.add_mul, Int.one_mul]
  have e2 : (T + 1 + 1) * n = T * n + n + n := by rw [Int.add_mul, Int.one_mul, e1]
  refine ⟨fun hlt => ?_, fun heq => ?_⟩
  · by_cases hr : (i : Int) < T * n + n
    · have hTQ := lt T Q (by omega)
      have hc := mono T Q hTQ
      refine ⟨_, T, full_a hn h hlo' hr (by omega) f hk hpc hd 97, h.put _, hT, by omega, by omega⟩
    · have hie : (i : Int) = T * n + n := by omega
      have hTQ := lt (T + 1) Q (by omega)
      have hc := mono (T + 1) Q hTQ
      obtain ⟨f', k', p', d', t', s'⟩ := full_b hn h hT hie (by omega) f hk hpc hd (98 - n.toNat)
      have eN : 98 - n.toNat + 1 + n.toNat + 1 = 100 := by omega
      rw [eN] at s'
      have eN2 : 98 - n.toNat = (95 - n.toNat) + 3 := by omega
      refine ⟨_, T + 1, ?_, (h.bump (T + 1)).put f.it, by omega, by omega, by omega⟩
      rw [s', eN2, full_a hn (h.bump (T + 1)) (by omega) (by omega) (by omega) f' k' p' d' _, t']
  · have hne : ¬ i = 0 := fun h0 => by
      subst h0
      have : 0 < Q * n := Int.mul_pos hQ0 hn0
      omega
    have hTi : T * n < i := by
      rcases hlo with h | h
      · exact absurd h.1 hne
      · exact h
    have hTQ := lt T Q (by omega)
    have hc := mono T Q hTQ
    have hie : (i : Int) = T * n + n := by omega
    obtain ⟨f', k', p', d', t', s'⟩ := full_b hn h hT hie (by omega) f hk hpc hd (98 - n.toNat)
    have eN : 98 - n.toNat + 1 + n.toNat + 1 = 100 := by omega
    rw [eN] at s'
    have eN2 : 98 - n.toNat = (97 - n.toNat) + 1 := by omega
    have s1 := enq0 (n := n) (ps := ps ++ [⟨1, ⟨T + 1, []⟩⟩]) k' p'
    have e3 : (Q + 1) * n = Q * n + n := by rw [Int.add_mul, Int.one_mul]
    rw [(h.bump (T + 1)).tail, decide_eq_true (by omega)] at s1
    refine ⟨ps ++ [⟨1, ⟨T + 1, []⟩⟩], ?_⟩
    rw [s', eN2, alone_end (by rw [s1]), s1]
theorem fs0 (n : Int) : FS n [] 0 0 where
  tail := rfl
  slot := fun s => by
    rw [if_neg (by omega)]
    rfl
end Go.Proofs.Ytnolgpagdjcjbaa.Ve
