import Derived.Test.YtfieppbehmglbaaVeL
/-! One piece behind the other. -/
set_option linter.unusedVariables false
set_option linter.unusedSimpArgs false
namespace Go.Proofs.Ytfieppbehmglbaa.Ve
open Go

/-- What is read and written is there. -/
def Live (st : St) (R W : List Nat) : Prop := ∀ i, i ∈ R ∨ i ∈ W → i < st.next → ∃ so, st.get i = some so

/-- Whatever its number is. -/
def LiveA (st : St) (R W : List Nat) : Prop := ∀ i, i ∈ R ∨ i ∈ W → ∃ so, st.get i = some so

theorem LiveA.nil (st : St) : LiveA st [] [] := fun i h => by rcases h with h | h <;> cases h

theorem Live.nil (st : St) : Live st [] [] := fun i h => by rcases h with h | h <;> cases h

section
variable {P : Program}

theorem srcRows_live {st : St} {size : Nat} {y : V} {q : List (List V)} {R : List Nat} (hq : srcRows st size y = some (q, R)) : ∀ i ∈ R, ∃ so, st.get i = some so := by
  intro i hi
  unfold srcRows at hq
  split at hq
  · simp only [Option.some.injEq, Prod.mk.injEq] at hq; obtain ⟨-, rfl⟩ := hq; cases hi
  · split at hq
    · simp only [Option.some.injEq, Prod.mk.injEq] at hq; obtain ⟨-, rfl⟩ := hq; cases hi
    · simp at hq
  · split at hq
    · rename_i so hso
      split at hq
      · simp only [Option.some.injEq, Prod.mk.injEq] at hq
        obtain ⟨-, rfl⟩ := hq
        simp only [List.mem_singleton] at hi
        subst hi
        exact ⟨so, hso⟩
      · simp at hq
    · simp at hq
  · simp at hq

theorem srcRows_own {st : St} {size i s r len : Nat} {q : List (List V)} {R : List Nat} (hq : srcRows st size (.ow i s r len) = some (q, R)) : ∃ so, st.get i = some so := by
  unfold srcRows at hq
  simp only at hq
  split at hq
  · exact ⟨_, by assumption⟩
  · simp at hq

theorem loadV_live {st : St} {t : TypeId} {x v : V} {R : List Nat} (hl : loadV P st t x = some (v, R)) : ∀ i ∈ R, ∃ so, st.get i = some so := by
  intro i hi
  unfold loadV at hl
  split at hl
  · split at hl
    · rename_i so hso
      split at hl
      · split at hl
        · simp only [Option.some.injEq, Prod.mk.injEq] at hl
          rw [← hl.2] at hi
          simp only [List.mem_singleton] at hi
          subst hi
          exact ⟨so, hso⟩
        · simp at hl
      · simp at hl
    · simp at hl
  · split at hl
    · simp only [Option.some.injEq, Prod.mk.injEq] at hl
      rw [← hl.2] at hi
      cases hi
    · simp at hl
  · simp at hl

theorem one_live {st st' : St} {x : Option V} {v : V} {R W : List Nat} (h : one st x = some (v, st', R, W)) : LiveA st R W := by
  obtain ⟨-, -, rfl, rfl⟩ := one_some h
  exact LiveA.nil st

theorem append_live {st st' : St} {at_ : Array TypeId} {s x v : V} {R W : List Nat} (h : appendV P st at_ s x = some (v, st', R, W)) : LiveA st R W := by
  unfold appendV at h
  repeat' split at h
  all_goals try (simp at h; done)
  · simp only [Option.some.injEq, Prod.mk.injEq] at h
    obtain ⟨-, -, rfl, rfl⟩ := h
    intro i hi
    rcases hi with hi | hi
    · exact srcRows_live (by assumption) i hi
    · cases hi
  · simp only [Option.some.injEq, Prod.mk.injEq] at h
    obtain ⟨-, -, rfl, rfl⟩ := h
    intro i hi
    rcases hi with hi | hi
    · exact srcRows_live (by assumption) i hi
    · cases hi
  · rename_i hsrc _ _
    simp only [Option.some.injEq, Prod.mk.injEq] at h
    obtain ⟨-, -, rfl, rfl⟩ := h
    intro i hi
    rcases hi with hi | hi
    · exact srcRows_live (by assumption) i hi
    · cases hi
  · simp only [Option.some.injEq, Prod.mk.injEq] at h
    obtain ⟨-, -, rfl, rfl⟩ := h
    rename_i hold _
    intro i hi
    rcases hi with hi | hi
    · rcases List.mem_append.1 hi with hi | hi
      · exact srcRows_live hold i hi
      · exact srcRows_live (by assumption) i hi
    · simp only [List.mem_singleton] at hi
      subst hi
      exact srcRows_own hold

theorem vop_liveA {env : Operand → Option V} {o : Oper} {st st' : St} {v : V} {R W : List Nat} (h : vop P env o st = some (v, st', R, W)) : LiveA st R W := by
  unfold vop at h
  split at h
  case h_4 => repeat' split at h
              all_goals first
                | (simp at h; done)
                | (simp only [Option.some.injEq, Prod.mk.injEq] at h; obtain ⟨-, -, rfl, rfl⟩ := h; exact LiveA.nil st)
  case h_5 => repeat' split at h
              all_goals first
                | (simp at h; done)
                | (simp only [Option.some.injEq, Prod.mk.injEq] at h; obtain ⟨-, -, rfl, rfl⟩ := h; exact LiveA.nil st)
  case h_7 =>
    split at h
    · unfold buildSliceV at h
      repeat' split at h
      all_goals first
        | (simp at h; done)
        | (simp only [Option.some.injEq, Prod.mk.injEq] at h; obtain ⟨-, -, rfl, rfl⟩ := h; exact LiveA.nil st)
    · simp at h
  case h_8 =>
    split at h
    · split at h
      · rename_i hl
        simp only [Option.some.injEq, Prod.mk.injEq] at h
        obtain ⟨-, -, rfl, rfl⟩ := h
        intro i hi
        rcases hi with hi | hi
        · exact loadV_live hl i hi
        · cases hi
      · simp at h
    · simp at h
  case h_9 =>
    split at h
    · split at h
      · split at h
        · rename_i hs
          simp only [Option.some.injEq, Prod.mk.injEq] at h
          obtain ⟨-, -, rfl, rfl⟩ := h
          unfold storeV at hs
          split at hs
          · split at hs
            · split at hs
              · simp only [Option.some.injEq, Prod.mk.injEq] at hs
                obtain ⟨-, rfl⟩ := hs
                exact LiveA.nil st
              · simp at hs
            · split at hs
              · rename_i so hso
                split at hs
                · split at hs
                  · simp only [Option.some.injEq, Prod.mk.injEq] at hs
                    obtain ⟨-, rfl⟩ := hs
                    intro i hi
                    rcases hi with hi | hi
                    · cases hi
                    · simp only [List.mem_singleton] at hi
                      subst hi
                      exact ⟨so, hso⟩
                  · simp at hs
                · simp at hs
              · simp at hs
          · simp at hs
        · simp at h
      · simp at h
    · simp at h
  case h_16 =>
    split at h
    · split at h
      · unfold makeSliceV at h
        repeat' split at h
        all_goals first
          | (simp at h; done)
          | (simp only [Option.some.injEq, Prod.mk.injEq] at h; obtain ⟨-, -, rfl, rfl⟩ := h; exact LiveA.nil st)
      · simp at h
    · simp at h
  all_goals
    repeat' split at h
    all_goals first
      | (simp at h; done)
      | exact one_live h
      | exact append_live h
      | (simp only [Option.some.injEq, Prod.mk.injEq] at h; obtain ⟨-, -, rfl, rfl⟩ := h; exact LiveA.nil st)

theorem vop_live {env : Operand → Option V} {o : Oper} {st st' : St} {v : V} {R W : List Nat} (h : vop P env o st = some (v, st', R, W)) : Live st R W := fun i hi _ => vop_liveA h i hi

end

section
variable {ρ ρ₁ ρ₂ : Ren} {F F₁ F₂ : Nat → Prop} {w w₁ w₂ : World} {st st₁ st₂ : St} {R W R₁ W₁ R₂ W₂ : List Nat} {n : Nat}

theorem blk_of {i : Nat} {x : Nat × Nat × Nat} (h : ρ i = some x) : blk ρ i = some x.1 := by simp [blk, h]

theorem blk_le (hr : RLe ρ ρ₁) {i B : Nat} (h : blk ρ i = some B) : blk ρ₁ i = some B := by
  unfold blk at h ⊢
  cases hi : ρ i with
  | none => simp [hi] at h
  | some x => rw [hr i x hi]; simpa [hi] using h

theorem blk_back (hr : RLe ρ ρ₁) {i B : Nat} (h : blk ρ₁ i = some B) (hs : ∃ B', blk ρ i = some B') : blk ρ i = some B := by
  obtain ⟨B', hB'⟩ := hs
  have := blk_le hr hB'
  rw [h] at this
  rw [hB', this]

/-- The second piece can start. -/
theorem Pre.next (hp : Pre ρ F w st R W n) (h1 : Post ρ F w st ρ₁ F₁ w₁ st₁ W₁) (f1 : Fine st st₁ W₁) (hlive : Live st₁ R₂ W₂)
    (hW1 : ∀ i, i < st.next → i ∈ W₁ → i ∈ W) (hR2 : ∀ i, i < st.next → i ∈ R₂ → i ∈ R ∨ i ∈ W) (hW2 : ∀ i, i < st.next → i ∈ W₂ → i ∈ W) (hl1 : Live st R₁ W₁) : Pre ρ₁ F₁ w₁ st₁ R₂ W₂ n := by
  have hext : Ext F w F₁ w₁ := ⟨h1.fle, fun B hB => h1.heap B (hp.fok B hB) (fun i hi hm e => by
    obtain ⟨so, hg, B', o, c, e', hρ, hF, -⟩ := hp.obj i hi (.inr (hW1 i hi hm))
    rw [blk_of hρ] at e
    simp only [Option.some.injEq] at e
    exact hF (by rw [e]; exact hB)), h1.shp⟩
  have mem : ∀ i, i < st.next → (i ∈ R₂ ∨ i ∈ W₂) → i ∈ R ∨ i ∈ W := fun i hi hm => hm.elim (hR2 i hi) (fun h => .inr (hW2 i hi h))
  -- the block of an old object that the first piece leaves alone
  have oldblk : ∀ j, j < st.next → j ∉ W₁ → (j ∈ R ∨ j ∈ W) → ∃ B, blk ρ j = some B ∧ B < w.heap.size ∧ (∀ i, i < st.next → i ∈ W₁ → blk ρ i ≠ some B) := by
    intro j hj hnj hm
    obtain ⟨so, hg, ho⟩ := hp.obj j hj hm
    obtain ⟨B, hB, hlt⟩ := ho.lt
    refine ⟨B, hB, hlt, fun i hi him e => ?_⟩
    have hne : i ≠ j := fun e => hnj (e ▸ him)
    exact hp.inj i j hi hj (hW1 i hi him) hm hne (e.trans hB.symm)
  refine ⟨h1.fok, fun i hi hm => ?_, fun i j hi hj him hjm hne => ?_, fun i h1' h2' => ?_⟩
  · obtain ⟨so, hso⟩ := hlive i hm hi
    refine ⟨so, hso, ?_⟩
    by_cases hold : i < st.next
    · by_cases hw : i ∈ W₁
      · exact (h1.obj i so (.inl ⟨hold, hw⟩) hso).1
      · rw [f1.same i hold hw] at hso
        obtain ⟨so', hg, ho⟩ := hp.obj i hold (mem i hold hm)
        rw [hso] at hg
        cases hg
        obtain ⟨B, hB, hlt, hno⟩ := oldblk i hold hw (mem i hold hm)
        refine ho.keep hext h1.rle fun B' hB' => ?_
        rw [hB] at hB'
        cases hB'
        refine ⟨h1.heap B hlt hno, fun hF => ?_⟩
        rcases h1.fnew B hF with hF | hge | ⟨k, hk, hkm, hkb⟩
        · obtain ⟨B'', o, c, e, hρ, hnF, -⟩ := ho
          rw [blk_of hρ] at hB
          simp only [Option.some.injEq] at hB
          exact hnF (hB ▸ hF)
        · omega
        · exact hno k hk hkm hkb
    · exact (h1.obj i so (.inr (by omega)) hso).1
  · have cls : ∀ k, k < st₁.next → (k ∈ R₂ ∨ k ∈ W₂) → (k < st.next ∧ k ∈ W₁ ∨ st.next ≤ k) ∨ (k < st.next ∧ k ∉ W₁) := fun k _ _ => by
      by_cases h : k < st.next
      · by_cases h' : k ∈ W₁
        · exact .inl (.inl ⟨h, h'⟩)
        · exact .inr ⟨h, h'⟩
      · exact .inl (.inr (by omega))
    have some1 : ∀ k, k < st₁.next → (k ∈ R₂ ∨ k ∈ W₂) → (st₁.get k).isSome := fun k hk hm => by obtain ⟨so, h⟩ := hlive k hm hk; rw [h]; rfl
    have mixed : ∀ a b, a < st₁.next → b < st₁.next → (a ∈ R₂ ∨ a ∈ W₂) → (b ∈ R₂ ∨ b ∈ W₂) → (a < st.next ∧ a ∈ W₁ ∨ st.next ≤ a) → (b < st.next ∧ b ∉ W₁) → blk ρ₁ a ≠ blk ρ₁ b := by
      intro a b ha hb ham hbm hca hcb e
      obtain ⟨B, hB, hlt, hno⟩ := oldblk b hcb.1 hcb.2 (mem b hcb.1 hbm)
      have hB1 := blk_le h1.rle hB
      obtain ⟨so, hso⟩ := hlive a ham ha
      obtain ⟨-, hcl⟩ := h1.obj a so hca hso
      rcases hcl B (e.trans hB1) with hge | ⟨k, hk, hkm, hkb⟩
      · omega
      · exact hno k hk hkm hkb
    rcases cls i hi (.inr him) with ci | ci <;> rcases cls j hj hjm with cj | cj
    · exact h1.inj i j ci cj (some1 i hi (.inr him)) (some1 j hj hjm) hne
    · exact mixed i j hi hj (.inr him) hjm ci cj
    · exact fun e => mixed j i hj hi hjm (.inr him) cj ci e.symm
    · obtain ⟨B, hB, -⟩ := oldblk i ci.1 ci.2 (mem i ci.1 (.inr him))
      obtain ⟨B', hB', -⟩ := oldblk j cj.1 cj.2 (mem j cj.1 hjm)
      have := hp.inj i j ci.1 cj.1 (hW2 i ci.1 him) (mem j cj.1 hjm) hne
      intro e
      rw [blk_le h1.rle hB, blk_le h1.rle hB'] at e
      exact this (hB.trans (e.trans hB'.symm))
  · have := hp.fresh i (Nat.le_trans f1.next h1') h2'
    cases hq : ρ₁ i with
    | none => rfl
    | some x =>
      have hne : ρ₁ i ≠ ρ i := by rw [hq, this]; simp
      have := (h1.rnew i hne).2
      omega

/-- The two pieces together. -/
theorem Post.trans (hp : Pre ρ F w st R W n) (h1 : Post ρ F w st ρ₁ F₁ w₁ st₁ W₁) (f1 : Fine st st₁ W₁) (hp2 : Pre ρ₁ F₁ w₁ st₁ R₂ W₂ n) (h2 : Post ρ₁ F₁ w₁ st₁ ρ₂ F₂ w₂ st₂ W₂) (f2 : Fine st₁ st₂ W₂)
    (hW1 : ∀ i, i < st.next → i ∈ W₁ → i ∈ W) (hW2 : ∀ i, i < st.next → i ∈ W₂ → i ∈ W) : Post ρ F w st ρ₂ F₂ w₂ st₂ (W₁ ++ W₂) := by
  -- the block of what the second piece writes
  have w2blk : ∀ k B, k < st₁.next → k ∈ W₂ → blk ρ₁ k = some B → (k < st.next ∧ blk ρ k = some B) ∨ (st.next ≤ k ∧ (w.heap.size ≤ B ∨ ∃ j, j < st.next ∧ j ∈ W₁ ∧ blk ρ j = some B)) := by
    intro k B hk hkm hkb
    by_cases hold : k < st.next
    · obtain ⟨so, hg, ho⟩ := hp.obj k hold (.inr (hW2 k hold hkm))
      obtain ⟨B', hB', -⟩ := ho.lt
      exact .inl ⟨hold, blk_back h1.rle hkb ⟨B', hB'⟩⟩
    · obtain ⟨so, hg, -⟩ := hp2.obj k hk (.inr hkm)
      exact .inr ⟨by omega, (h1.obj k so (.inr (by omega)) hg).2 B hkb⟩
  have hfnew1 : ∀ B, F₁ B → F B ∨ w.heap.size ≤ B ∨ ∃ i, i < st.next ∧ i ∈ W₁ ++ W₂ ∧ blk ρ i = some B := fun B hB =>
    (h1.fnew B hB).imp id (Or.imp id fun ⟨i, h1, h2, h3⟩ => ⟨i, h1, by simp [h2], h3⟩)
  -- an object that the second piece leaves alone
  have alone : ∀ i so, (i < st.next ∧ i ∈ W₁ ∨ st.next ≤ i) → i < st₁.next → i ∉ W₂ → st₁.get i = some so → ∃ B, blk ρ₁ i = some B ∧ B < w₁.heap.size ∧ ∀ j, j < st₁.next → j ∈ W₂ → blk ρ₁ j ≠ some B := by
    intro i so hi hlt hn hso
    obtain ⟨ho, hcl⟩ := h1.obj i so hi hso
    obtain ⟨B, hB, hBlt⟩ := ho.lt
    refine ⟨B, hB, hBlt, fun j hj hjm e => ?_⟩
    have hne : j ≠ i := fun e => hn (e ▸ hjm)
    obtain ⟨soj, hsoj, -⟩ := hp2.obj j hj (.inr hjm)
    by_cases hjc : j < st.next ∧ j ∈ W₁ ∨ st.next ≤ j
    · exact h1.inj j i hjc hi (by rw [hsoj]; rfl) (by rw [hso]; rfl) hne (e.trans hB.symm)
    · have hjo : j < st.next := by omega
      have hjn : j ∉ W₁ := fun h => hjc (.inl ⟨hjo, h⟩)
      obtain ⟨so', hg', ho'⟩ := hp.obj j hjo (.inr (hW2 j hjo hjm))
      obtain ⟨B', hB', hlt'⟩ := ho'.lt
      have : B' = B := by
        have := blk_le h1.rle hB'
        rw [e] at this
        simpa using this.symm
      subst this
      rcases hcl B' hB with hge | ⟨k, hk, hkm, hkb⟩
      · omega
      · have hkj : k ≠ j := fun e => hjn (e ▸ hkm)
        exact hp.inj k j hk hjo (hW1 k hk hkm) (.inr (hW2 j hjo hjm)) hkj (hkb.trans hB'.symm)
  have hext2 : Ext F₁ w₁ F₂ w₂ := ⟨h2.fle, fun B hB => h2.heap B (h1.fok B hB) (fun i hi hm e => by
    obtain ⟨so, hg, B', o, c, e', hρ, hF, -⟩ := hp2.obj i hi (.inr hm)
    rw [blk_of hρ] at e
    simp only [Option.some.injEq] at e
    exact hF (by rw [e]; exact hB)), h2.shp⟩
  have wclaim : ∀ k B, k < st₁.next → k ∈ W₂ → blk ρ₁ k = some B → w.heap.size ≤ B ∨ ∃ j, j < st.next ∧ j ∈ W₁ ++ W₂ ∧ blk ρ j = some B := fun k B hk hkm hkb => by
    rcases w2blk k B hk hkm hkb with ⟨ho, hb⟩ | ⟨hn, hb⟩
    · exact .inr ⟨k, ho, by simp [hkm], hb⟩
    · exact hb.imp id fun ⟨j, h1, h2, h3⟩ => ⟨j, h1, by simp [h2], h3⟩
  have split : ∀ i so, (i < st.next ∧ i ∈ W₁ ++ W₂ ∨ st.next ≤ i) → st₂.get i = some so → (i < st₁.next ∧ i ∈ W₂ ∨ st₁.next ≤ i) ∨ (i < st₁.next ∧ i ∉ W₂ ∧ (i < st.next ∧ i ∈ W₁ ∨ st.next ≤ i) ∧ st₁.get i = some so) := by
    intro i so hi hg
    by_cases h : i < st₁.next
    · by_cases h' : i ∈ W₂
      · exact .inl (.inl ⟨h, h'⟩)
      · refine .inr ⟨h, h', hi.imp (fun ⟨a, b⟩ => ⟨a, ?_⟩) id, by rw [← f2.same i h h']; exact hg⟩
        rcases List.mem_append.1 b with b | b
        · exact b
        · exact absurd b h'
    · exact .inl (.inr (by omega))
  refine ⟨fun i x h => h2.rle i x (h1.rle i x h), fun i hi => ?_, fun B h => h2.fle B (h1.fle B h), fun B hB => ?_, h2.fok, Nat.le_trans h1.size h2.size, h1.shp.trans h2.shp, fun B hB hno => ?_, fun i so hi hg => ?_, fun i j hi hj gi gj hne => ?_⟩
  · by_cases e : ρ₁ i = ρ i
    · rw [← e] at hi
      have := h2.rnew i hi
      exact ⟨Nat.le_trans f1.next this.1, this.2⟩
    · have := h1.rnew i e
      exact ⟨this.1, Nat.lt_of_lt_of_le this.2 f2.next⟩
  · rcases h2.fnew B hB with h | h | ⟨k, hk, hkm, hkb⟩
    · exact hfnew1 B h
    · exact .inr (.inl (Nat.le_trans h1.size h))
    · exact .inr (wclaim k B hk hkm hkb)
  · rw [h2.heap B (Nat.lt_of_lt_of_le hB h1.size) (fun k hk hkm hkb => ?_), h1.heap B hB (fun k hk hkm => hno k hk (by simp [hkm]))]
    rcases w2blk k B hk hkm hkb with ⟨ho, hb⟩ | ⟨hn, hb⟩
    · exact hno k ho (by simp [hkm]) hb
    · rcases hb with hge | ⟨j, hj, hjm, hjb⟩
      · omega
      · exact hno j hj (by simp [hjm]) hjb
  · rcases split i so hi hg with hc | ⟨hlt, hn, hc, hg1⟩
    · obtain ⟨ho, hcl⟩ := h2.obj i so hc hg
      refine ⟨ho, fun B hB => ?_⟩
      rcases hcl B hB with hge | ⟨k, hk, hkm, hkb⟩
      · exact .inl (Nat.le_trans h1.size hge)
      · exact wclaim k B hk hkm hkb
    · obtain ⟨ho, hcl⟩ := h1.obj i so hc hg1
      obtain ⟨B, hB, hBlt, hno⟩ := alone i so hc hlt hn hg1
      refine ⟨ho.keep hext2 h2.rle fun B' hB' => ?_, fun B' hB' => ?_⟩
      · rw [hB] at hB'
        cases hB'
        refine ⟨h2.heap B hBlt hno, fun hF => ?_⟩
        rcases h2.fnew B hF with hF | hge | ⟨k, hk, hkm, hkb⟩
        · obtain ⟨B'', o, c, e, hρ, hnF, -⟩ := ho
          rw [blk_of hρ] at hB
          simp only [Option.some.injEq] at hB
          exact hnF (hB ▸ hF)
        · omega
        · exact hno k hk hkm hkb
      · have := blk_back h2.rle hB' ⟨B, hB⟩
        exact (hcl B' this).imp id fun ⟨j, h1, h2, h3⟩ => ⟨j, h1, by simp [h2], h3⟩
  · cases hgi : st₂.get i with
    | none => rw [hgi] at gi; cases gi
    | some soi =>
    cases hgj : st₂.get j with
    | none => rw [hgj] at gj; cases gj
    | some soj =>
    have mixed : ∀ a b soa sob, (a < st₁.next ∧ a ∈ W₂ ∨ st₁.next ≤ a) → st₂.get a = some soa → (b < st₁.next ∧ b ∉ W₂ ∧ (b < st.next ∧ b ∈ W₁ ∨ st.next ≤ b) ∧ st₁.get b = some sob) → blk ρ₂ a ≠ blk ρ₂ b := by
      intro a b soa sob ha hga ⟨hb1, hb2, hb3, hb4⟩ e
      obtain ⟨B, hB, hBlt, hno⟩ := alone b sob hb3 hb1 hb2 hb4
      have hB2 := blk_le h2.rle hB
      rcases (h2.obj a soa ha hga).2 B (e.trans hB2) with hge | ⟨k, hk, hkm, hkb⟩
      · omega
      · exact hno k hk hkm hkb
    rcases split i soi hi hgi with ci | ci <;> rcases split j soj hj hgj with cj | cj
    · exact h2.inj i j ci cj gi gj hne
    · exact mixed i j soi soj ci hgi cj
    · exact fun e => mixed j i soj soi cj hgj ci e.symm
    · obtain ⟨hi1, hi2, hi3, hi4⟩ := ci
      obtain ⟨hj1, hj2, hj3, hj4⟩ := cj
      obtain ⟨B, hB, -⟩ := alone i soi hi3 hi1 hi2 hi4
      obtain ⟨B', hB', -⟩ := alone j soj hj3 hj1 hj2 hj4
      have := h1.inj i j hi3 hj3 (by rw [hi4]; rfl) (by rw [hj4]; rfl) hne
      intro e
      rw [blk_le h2.rle hB, blk_le h2.rle hB'] at e
      exact this (hB.trans (e.trans hB'.symm))

theorem Fine.trans (f1 : Fine st st₁ W₁) (f2 : Fine st₁ st₂ W₂) : Fine st st₂ (W₁ ++ W₂) where
  next := Nat.le_trans f1.next f2.next
  same := fun i hi hm => by
    simp only [List.mem_append, not_or] at hm
    rw [f2.same i (Nat.lt_of_lt_of_le hi f1.next) hm.2, f1.same i hi hm.1]
  wf := f2.wf

theorem Live.trans (f1 : Fine st st₁ W₁) (l1 : Live st R₁ W₁) (l2 : Live st₁ R₂ W₂) : Live st (R₁ ++ R₂) (W₁ ++ W₂) := fun i hi hlt => by
  by_cases h1 : i ∈ R₁ ∨ i ∈ W₁
  · exact l1 i h1 hlt
  · have h2 : i ∈ R₂ ∨ i ∈ W₂ := by
      simp only [List.mem_append] at hi
      simp only [not_or] at h1
      rcases hi with (h | h) | (h | h)
      · exact absurd h h1.1
      · exact .inl h
      · exact absurd h h1.2
      · exact .inr h
    obtain ⟨so, hso⟩ := l2 i h2 (Nat.lt_of_lt_of_le hlt f1.next)
    rw [f1.same i hlt (fun h => h1 (.inr h))] at hso
    exact ⟨so, hso⟩

theorem Pre.mono {n' : Nat} {R' W' : List Nat} (hp : Pre ρ F w st R W n) (hR : ∀ i, i < st.next → i ∈ R' → i ∈ R ∨ i ∈ W) (hW : ∀ i, i < st.next → i ∈ W' → i ∈ W) (hn : n' ≤ n) : Pre ρ F w st R' W' n' :=
  ⟨hp.fok, fun i hi hm => hp.obj i hi (hm.elim (hR i hi) (fun h => .inr (hW i hi h))), fun i j hi hj him hjm hne => hp.inj i j hi hj (hW i hi him) (hjm.elim (hR j hj) (fun h => .inr (hW j hj h))) hne,
    fun i h1 h2 => hp.fresh i h1 (by omega)⟩

theorem Post.mono {W' : List Nat} (h : Post ρ F w st ρ₁ F₁ w₁ st₁ W) (hW : ∀ i, i < st.next → (i ∈ W ↔ i ∈ W')) : Post ρ F w st ρ₁ F₁ w₁ st₁ W' where
  rle := h.rle
  rnew := h.rnew
  fle := h.fle
  fnew := fun B hB => (h.fnew B hB).imp id (Or.imp id fun ⟨i, h1, h2, h3⟩ => ⟨i, h1, (hW i h1).1 h2, h3⟩)
  fok := h.fok
  size := h.size
  shp := h.shp
  heap := fun B hB hno => h.heap B hB fun i hi hm => hno i hi ((hW i hi).1 hm)
  obj := fun i so hi hg => by
    obtain ⟨h1, h2⟩ := h.obj i so (hi.imp (fun ⟨a, b⟩ => ⟨a, (hW i a).2 b⟩) id) hg
    exact ⟨h1, fun B hB => (h2 B hB).imp id fun ⟨j, h1, h2, h3⟩ => ⟨j, h1, (hW j h1).1 h2, h3⟩⟩
  inj := fun i j hi hj => h.inj i j (hi.imp (fun ⟨a, b⟩ => ⟨a, (hW i a).2 b⟩) id) (hj.imp (fun ⟨a, b⟩ => ⟨a, (hW j a).2 b⟩) id)

/-- What is kept from start to end. -/
theorem Post.ext (hp : Pre ρ F w st R W n) (h : Post ρ F w st ρ₁ F₁ w₁ st₁ W₁) (hW : ∀ i, i < st.next → i ∈ W₁ → i ∈ W) : Ext F w F₁ w₁ :=
  ⟨h.fle, fun B hB => h.heap B (hp.fok B hB) (fun i hi hm e => by
    obtain ⟨so, hg, B', o, c, e', hρ, hF, -⟩ := hp.obj i hi (.inr (hW i hi hm))
    rw [blk_of hρ] at e
    simp only [Option.some.injEq] at e
    exact hF (by rw [e]; exact hB)), h.shp⟩

end

end Go.Proofs.Ytfieppbehmglbaa.Ve
