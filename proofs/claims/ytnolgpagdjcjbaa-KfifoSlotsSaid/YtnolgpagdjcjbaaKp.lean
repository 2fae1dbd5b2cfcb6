import Derived.Test.YtnolgpagdjcjbaaDs
set_option linter.unusedVariables false
set_option linter.unusedSimpArgs false
namespace Go.Proofs.Ytnolgpagdjcjbaa.Ve
open Go
set_option maxRecDepth 4000
/-- A slot's cell. -/
def kSlot (n : Int) (f : RF) : Int := 2 + f.seg * n + (f.at_ + f.seen) % n
/-- A write that is done, or isn't. -/
def kPut (ps : Pts) (f : RF) (at_ ver : Int) (v : Vl) (a : It) : Pts × RF × An × Bool :=
  if may ps at_ ver then (ps ++ [⟨at_, v⟩], f, ⟨true, a, 0⟩, true) else (ps, { f with pc := 0 }, an00, false)
def kMove (ps : Pts) (f : RF) (at_ ver n : Int) : Pts × RF × An × Bool := (wr' ps at_ ver ⟨n, []⟩, { f with pc := 0 }, an00, false)
/-- An Enq's step. -/
def enqR (n : Int) (ps : Pts) (f : RF) : Pts × RF × An × Bool :=
  if f.pc = 0 then (ps, { f with pc := 1, v0 := (rd ps 1).1, c0 := (rd ps 1).2, seg := (rd ps 1).2.n, at_ := into f.d0 n, seen := 0 }, an00, decide (1000 < 2 + ((rd ps 1).2.n + 1) * n))
  else if f.pc = 1 then
    if (rd ps (kSlot n f)).2.n = 0 then (ps, { f with pc := 2, v1 := (rd ps (kSlot n f)).1, c1 := (rd ps (kSlot n f)).2 }, an00, false)
    else if f.seen + 1 = n then (ps, { f with pc := 3, seen := f.seen + 1, v1 := (rd ps (kSlot n f)).1, c1 := (rd ps (kSlot n f)).2 }, an00, false)
    else (ps, { f with seen := f.seen + 1, v1 := (rd ps (kSlot n f)).1, c1 := (rd ps (kSlot n f)).2 }, an00, false)
  else if f.pc = 2 then kPut ps f (kSlot n f) f.v1 ⟨1, [f.it]⟩ f.it
  else kMove ps f 1 f.v0 (f.seg + 1)
/-- The first item of some. -/
def hd0 (l : List It) : It := l.headD ⟨0, 0⟩
/-- A Deq's step. -/
def deqR (n : Int) (ps : Pts) (f : RF) : Pts × RF × An × Bool :=
  if f.pc = 0 then (ps, { f with pc := 1, v0 := (rd ps 0).1, c0 := (rd ps 0).2, seg := (rd ps 0).2.n }, an00, false)
  else if f.pc = 1 then (ps, { f with pc := 2, v1 := (rd ps 1).1, c1 := (rd ps 1).2, at_ := into f.d0 n, seen := 0, empty := false }, an00, false)
  else if f.pc = 2 then
    if (rd ps (kSlot n f)).2.n = 1 then (ps, { f with pc := 3, v1 := (rd ps (kSlot n f)).1, c1 := (rd ps (kSlot n f)).2 }, an00, false)
    else if f.seen + 1 < n then (ps, { f with seen := f.seen + 1, empty := f.empty || decide ((rd ps (kSlot n f)).2.n = 0) }, an00, false)
    else if (f.empty || decide ((rd ps (kSlot n f)).2.n = 0)) = true then (ps, { f with seen := f.seen + 1, empty := true }, an00, true)
    else if f.c1.n = f.seg then (ps, { f with seen := f.seen + 1, empty := false, pc := 4 }, an00, false)
    else (ps, { f with seen := f.seen + 1, empty := false, pc := 5 }, an00, false)
  else if f.pc = 3 then kPut ps f (kSlot n f) f.v1 ⟨2, []⟩ (hd0 f.c1.l)
  else if f.pc = 4 then kMove ps f 1 f.v1 (f.seg + 1)
  else kMove ps f 0 f.v0 (f.seg + 1)
/-- A Deq's look at a slot. -/
def lookR (n : Int) (ps : Pts) (f : RF) : Pts × RF × An × Bool :=
  if (rd ps (kSlot n f)).2.n = 1 then (ps, { f with pc := 3, v1 := (rd ps (kSlot n f)).1, c1 := (rd ps (kSlot n f)).2 }, an00, false)
  else if f.seen + 1 < n then (ps, { f with seen := f.seen + 1, empty := f.empty || decide ((rd ps (kSlot n f)).2.n = 0) }, an00, false)
  else if (f.empty || decide ((rd ps (kSlot n f)).2.n = 0)) = true then (ps, { f with seen := f.seen + 1, empty := true }, an00, true)
  else if f.c1.n = f.seg then (ps, { f with seen := f.seen + 1, empty := false, pc := 4 }, an00, false)
  else (ps, { f with seen := f.seen + 1, empty := false, pc := 5 }, an00, false)
theorem deqR_look {n : Int} {ps : Pts} {f : RF} (h0 : ¬ f.pc = 0) (h1 : ¬ f.pc = 1) (h2 : f.pc = 2) : deqR n ps f = lookR n ps f := by
  unfold deqR lookR
  rw [if_neg h0, if_neg h1, if_pos h2]
def kfR (n : Int) (ps : Pts) (f : RF) : Pts × RF × An × Bool := if f.k = 3 then enqR n ps f else deqR n ps f
/-- What a memory of a queue is like. -/
structure KMem (n : Int) (ps : Pts) (B : Int) : Prop where
  cell : ∀ i, 0 ≤ (rd ps i).2.n ∧ (rd ps i).2.n ≤ B
  full : ∀ i, 2 ≤ i → (rd ps i).2.n = 1 → (rd ps i).2.l ≠ []
/-- An operation under way at a queue. -/
structure KFr (n : Int) (f : RF) (B : Int) : Prop where
  d0 : i64 f.d0
  seg : 0 ≤ f.seg ∧ f.seg ≤ B
  at_ : 0 ≤ f.at_ ∧ f.at_ < n
  seen : 0 ≤ f.seen ∧ f.seen ≤ n
  seen1 : f.k = 3 → f.pc = 1 ∨ f.pc = 2 → f.seen < n
  seen2 : f.k ≠ 3 → f.pc = 2 ∨ f.pc = 3 → f.seen < n
  emp : f.k = 3 → f.empty = false
  c1 : f.k ≠ 3 → f.pc = 3 → f.c1.l ≠ []
/-- Numbers that stay small. -/
structure KOk (n : Int) (ps : Pts) (f : RF) : Prop where
  nn : 1 ≤ n ∧ n ≤ 16
  len : ps.length < 2 ^ 20
  mem : KMem n ps (2 ^ 21)
  fr : KFr n f (2 ^ 21)
theorem KMem.up {n : Int} {ps : Pts} {B B' : Int} (h : KMem n ps B) (hB : B ≤ B') : KMem n ps B' := ⟨fun i => by have := h.cell i; omega, h.full⟩
theorem KFr.up {n : Int} {f : RF} {B B' : Int} (h : KFr n f B) (hB : B ≤ B') : KFr n f B' := ⟨h.d0, by have := h.seg; omega, h.at_, h.seen, h.seen1, h.seen2, h.emp, h.c1⟩
theorem kSlot_ge {n : Int} {f : RF} (hn : 1 ≤ n) (hs : 0 ≤ f.seg) : 2 ≤ kSlot n f := by
  unfold kSlot
  have h1 : 0 ≤ f.seg * n := Int.mul_nonneg hs (by omega)
  have h2 := Int.emod_nonneg (f.at_ + f.seen) (by omega : n ≠ 0)
  omega
theorem kSlot_ne {n : Int} {f : RF} (hn : 1 ≤ n ∧ n ≤ 16) (hs : 0 ≤ f.seg ∧ f.seg ≤ 2 ^ 21) : kSlot n f ≤ 2 ^ 26 := by
  unfold kSlot
  have h1 : f.seg * n ≤ 2 ^ 21 * 16 := Int.mul_le_mul hs.2 hn.2 (by omega) (by decide)
  have h2 := Int.emod_lt_of_pos (f.at_ + f.seen) (by omega : 0 < n)
  omega
theorem KMem.put {n : Int} {ps : Pts} {B : Int} (h : KMem n ps B) (at_ : Int) (v : Vl) (hv : 0 ≤ v.n ∧ v.n ≤ B) (hf : 2 ≤ at_ → v.n = 1 → v.l ≠ []) : KMem n (ps ++ [⟨at_, v⟩]) B := by
  refine ⟨fun i => ?_, fun i hi h1 => ?_⟩
  · rw [rd_snoc]
    split
    · exact hv
    · exact h.cell i
  · rw [rd_snoc] at h1 ⊢
    by_cases e : at_ = i
    · rw [if_pos e] at h1 ⊢
      exact hf (by omega) h1
    · rw [if_neg e] at h1 ⊢
      exact h.full i hi h1
theorem kMove_inv {n : Int} {ps : Pts} {f : RF} {B at_ ver q : Int} (hm : KMem n ps B) (hq : 0 ≤ q ∧ q ≤ B + 1) (ha : at_ < 2) (hf : KFr n { f with pc := 0 } B) :
    KMem n (kMove ps f at_ ver q).1 (B + 1) ∧ KFr n (kMove ps f at_ ver q).2.1 B ∧ (kMove ps f at_ ver q).1.length ≤ ps.length + 1 := by
  unfold kMove wr'
  split
  · exact ⟨(hm.up (by omega)).put _ _ hq (fun h => by omega), hf, by simp⟩
  · exact ⟨hm.up (by omega), hf, by simp⟩
theorem kPut_inv {n : Int} {ps : Pts} {f : RF} {B at_ ver : Int} {v : Vl} {a : It} (hm : KMem n ps B) (hv : 0 ≤ v.n ∧ v.n ≤ B) (hl : v.n = 1 → v.l ≠ []) (hf : KFr n f B) (hf0 : KFr n { f with pc := 0 } B) :
    KMem n (kPut ps f at_ ver v a).1 B ∧ KFr n (kPut ps f at_ ver v a).2.1 B ∧ (kPut ps f at_ ver v a).1.length ≤ ps.length + 1 := by
  unfold kPut
  split
  · exact ⟨hm.put _ _ hv (fun _ => hl), hf, by simp⟩
  · exact ⟨hm, hf0, by simp⟩
theorem kfR_inv {n : Int} (hn : 1 ≤ n ∧ n ≤ 16) {ps : Pts} {f : RF} {B : Int} (hB : 2 ≤ B) (hm : KMem n ps B) (h : KFr n f B) :
    KMem n (kfR n ps f).1 (B + 1) ∧ ((kfR n ps f).2.2.2 = false → KFr n (kfR n ps f).2.1 B) ∧ (kfR n ps f).1.length ≤ ps.length + 1 := by
  have hin := into_range f.d0 n (by omega)
  have hup := hm.up (show B ≤ B + 1 by omega)
  have h0 : KFr n { f with pc := 0 } B := ⟨h.d0, h.seg, h.at_, h.seen, fun _ h => (by rcases h with h | h <;> cases h), fun _ h => (by rcases h with h | h <;> cases h), h.emp, fun _ h => by cases h⟩
  have hseg := h.seg
  have hsl := kSlot_ge hn.1 hseg.1
  unfold kfR
  by_cases hk : f.k = 3
  · rw [if_pos hk]
    unfold enqR
    by_cases h1 : f.pc = 0
    · simp only [if_pos h1]
      exact ⟨hup, fun _ => ⟨h.d0, hm.cell 1, hin, ⟨Int.le_refl 0, by show (0 : Int) ≤ n; omega⟩, fun _ _ => by show (0 : Int) < n; omega, fun h => absurd hk h, h.emp, fun h => absurd hk h⟩, by simp⟩
    · simp only [if_neg h1]
      by_cases h2 : f.pc = 1
      · simp only [if_pos h2]
        have hs := h.seen1 hk (.inl h2)
        have hs' := h.seen
        by_cases h3 : (rd ps (kSlot n f)).2.n = 0
        · rw [if_pos h3]
          exact ⟨hup, fun _ => ⟨h.d0, h.seg, h.at_, h.seen, fun _ _ => hs, fun h => absurd hk h, h.emp, fun h => absurd hk h⟩, by simp⟩
        · rw [if_neg h3]
          by_cases h4 : f.seen + 1 = n
          · rw [if_pos h4]
            refine ⟨hup, fun _ => ⟨h.d0, h.seg, h.at_, ?_, fun _ h => (by rcases h with h | h <;> cases h), fun h => absurd hk h, h.emp, fun h => absurd hk h⟩, by simp⟩
            show 0 ≤ f.seen + 1 ∧ f.seen + 1 ≤ n
            omega
          · rw [if_neg h4]
            refine ⟨hup, fun _ => ⟨h.d0, h.seg, h.at_, ?_, fun _ _ => ?_, fun h => absurd hk h, h.emp, fun h => absurd hk h⟩, by simp⟩
            · show 0 ≤ f.seen + 1 ∧ f.seen + 1 ≤ n
              omega
            · show f.seen + 1 < n
              omega
      · simp only [if_neg h2]
        by_cases h3 : f.pc = 2
        · rw [if_pos h3]
          obtain ⟨a, b, c⟩ := kPut_inv (at_ := kSlot n f) (ver := f.v1) (v := ⟨1, [f.it]⟩) (a := f.it) hm ⟨(show (0 : Int) ≤ 1 by decide), by show (1 : Int) ≤ B; omega⟩ (fun _ => List.cons_ne_nil _ _) h h0
          exact ⟨a.up (by omega), fun _ => b, c⟩
        · rw [if_neg h3]
          obtain ⟨a, b, c⟩ := kMove_inv (at_ := 1) (ver := f.v0) (q := f.seg + 1) hm (by omega) (by decide) h0
          exact ⟨a, fun _ => b, c⟩
  · rw [if_neg hk]
    unfold deqR
    by_cases h1 : f.pc = 0
    · simp only [if_pos h1]
      exact ⟨hup, fun _ => ⟨h.d0, hm.cell 0, h.at_, h.seen, fun h => absurd h hk, fun _ h => (by rcases h with h | h <;> cases h), h.emp, fun _ h => by cases h⟩, by simp⟩
    · simp only [if_neg h1]
      by_cases h2 : f.pc = 1
      · simp only [if_pos h2]
        exact ⟨hup, fun _ => ⟨h.d0, h.seg, hin, ⟨Int.le_refl 0, by show (0 : Int) ≤ n; omega⟩, fun h => absurd h hk, fun _ _ => (by show (0 : Int) < n; omega), fun _ => rfl, fun _ h => by cases h⟩, by simp⟩
      · simp only [if_neg h2]
        by_cases h3 : f.pc = 2
        · simp only [if_pos h3]
          have hs := h.seen2 hk (.inl h3)
          have hs' := h.seen
          by_cases h4 : (rd ps (kSlot n f)).2.n = 1
          · rw [if_pos h4]
            exact ⟨hup, fun _ => ⟨h.d0, h.seg, h.at_, h.seen, fun h => absurd h hk, fun _ _ => hs, h.emp, fun _ _ => hm.full _ hsl h4⟩, by simp⟩
          · rw [if_neg h4]
            by_cases h5 : f.seen + 1 < n
            · rw [if_pos h5]
              refine ⟨hup, fun _ => ⟨h.d0, h.seg, h.at_, ?_, fun h => absurd h hk, fun _ _ => h5, fun h => absurd h hk, fun _ h => ?_⟩, by simp⟩
              · show 0 ≤ f.seen + 1 ∧ f.seen + 1 ≤ n
                omega
              · have : f.pc = 3 := h
                omega
            · have hs1 : 0 ≤ f.seen + 1 ∧ f.seen + 1 ≤ n := by omega
              rw [if_neg h5]
              by_cases h6 : (f.empty || decide ((rd ps (kSlot n f)).2.n = 0)) = true
              · rw [if_pos h6]
                exact ⟨hup, fun h => (by cases h), by simp⟩
              · rw [if_neg h6]
                by_cases h7 : f.c1.n = f.seg
                · rw [if_pos h7]
                  exact ⟨hup, fun _ => ⟨h.d0, h.seg, h.at_, hs1, fun h => absurd h hk, fun _ h => (by rcases h with h | h <;> cases h), fun h => absurd h hk, fun _ h => by cases h⟩, by simp⟩
                · rw [if_neg h7]
                  exact ⟨hup, fun _ => ⟨h.d0, h.seg, h.at_, hs1, fun h => absurd h hk, fun _ h => (by rcases h with h | h <;> cases h), fun h => absurd h hk, fun _ h => by cases h⟩, by simp⟩
        · simp only [if_neg h3]
          by_cases h4 : f.pc = 3
          · rw [if_pos h4]
            obtain ⟨a, b, c⟩ := kPut_inv (at_ := kSlot n f) (ver := f.v1) (v := ⟨2, []⟩) (a := hd0 f.c1.l) hm ⟨(show (0 : Int) ≤ 2 by decide), hB⟩ (fun h => by cases h) h h0
            exact ⟨a.up (by omega), fun _ => b, c⟩
          · rw [if_neg h4]
            by_cases h5 : f.pc = 4
            · rw [if_pos h5]
              obtain ⟨a, b, c⟩ := kMove_inv (at_ := 1) (ver := f.v1) (q := f.seg + 1) hm (by omega) (by decide) h0
              exact ⟨a, fun _ => b, c⟩
            · rw [if_neg h5]
              obtain ⟨a, b, c⟩ := kMove_inv (at_ := 0) (ver := f.v0) (q := f.seg + 1) hm (by omega) (by decide) h0
              exact ⟨a, fun _ => b, c⟩
/-- A queue's run. -/
structure KInv (n : Int) (D : DS) : Prop where
  mem : KMem n D.ps (D.n + 2)
  len : D.ps.length ≤ D.n
  fr : ∀ (k : Nat) (t : TH), D.T[k]? = some t → t.on = true → KFr n t.f (D.n + 2)
theorem KInv.ok {n : Int} (hn : 1 ≤ n ∧ n ≤ 16) {D : DS} (h : KInv n D) (hn2 : D.n ≤ 1000) {k : Nat} {t : TH} (hT : D.T[k]? = some t) (hon : t.on = true) : KOk n D.ps t.f :=
  ⟨hn, by have := h.len; omega, h.mem.up (by omega), (h.fr k t hT hon).up (by omega)⟩
theorem kf_dbeg {n : Int} (hn : 1 ≤ n ∧ n ≤ 16) {ops : List (List Rw)} (hops : ∀ l ∈ ops, ∀ x ∈ l, RwOk x) {D D' : DS} {k : Nat} (hI : KInv n D) (h : dbeg (ownOp 3 4) ops D k = some D') : KInv n D' ∧ D'.n = D.n ∧ ∃ t, D'.T[k]? = some t ∧ t.on = true := by
  unfold dbeg at h
  split at h
  · rename_i t l hT hl
    split at h
    · rename_i hon
      cases h
      exact ⟨hI, rfl, t, hT, hon⟩
    · split at h
      · split at h
        · rename_i x hx
          cases h
          have hkl := (List.getElem?_eq_some_iff.1 hT).1
          refine ⟨⟨hI.mem, hI.len, fun j u hj hu => ?_⟩, rfl, _, List.getElem?_set_self hkl, rfl⟩
          by_cases e : k = j
          · subst e
            have hj : (D.T.set k _)[k]? = some u := hj
            rw [List.getElem?_set_self hkl] at hj
            cases hj
            have hx' := hops l (List.mem_of_getElem? hl) x (List.mem_of_getElem? hx)
            refine ⟨hx'.d0, ⟨Int.le_refl 0, ?_⟩, ⟨Int.le_refl 0, ?_⟩, ⟨Int.le_refl 0, ?_⟩, fun _ h => (by rcases h with h | h <;> cases h), fun _ h => (by rcases h with h | h <;> cases h), fun _ => rfl, fun _ h => by cases h⟩
            · show (0 : Int) ≤ D.n + 2
              omega
            · show (0 : Int) < n
              omega
            · show (0 : Int) ≤ n
              omega
          · have hj : (D.T.set k _)[j]? = some u := hj
            rw [List.getElem?_set_ne e] at hj
            exact hI.fr j u hj hu
        · cases h
      · cases h
  · cases h
theorem kf_dmov {n : Int} (hn : 1 ≤ n ∧ n ≤ 16) {D : DS} {k : Nat} {t : TH} (hI : KInv n D) (hT : D.T[k]? = some t) (hon : t.on = true) : KInv n (dmov (kfR n) D k) := by
  have hkl := (List.getElem?_eq_some_iff.1 hT).1
  have hl := hI.len
  obtain ⟨h1, h2, h3⟩ := kfR_inv hn (by omega) hI.mem (hI.fr k t hT hon)
  have e : (D.n : Int) + 2 + 1 = ((D.n + 1 : Nat) : Int) + 2 := by omega
  rw [e] at h1
  unfold dmov
  rw [hT]
  simp only
  split
  · refine ⟨h1, by show (kfR n D.ps t.f).1.length ≤ D.n + 1; omega, fun j u hj hu => ?_⟩
    by_cases e : k = j
    · subst e
      have hj : (D.T.set k _)[k]? = some u := hj
      rw [List.getElem?_set_self hkl] at hj
      cases hj
      cases hu
    · have hj : (D.T.set k _)[j]? = some u := hj
      rw [List.getElem?_set_ne e] at hj
      exact (hI.fr j u hj hu).up (by show (D.n : Int) + 2 ≤ ((D.n + 1 : Nat) : Int) + 2; omega)
  · rename_i hd
    refine ⟨h1, by show (kfR n D.ps t.f).1.length ≤ D.n + 1; omega, fun j u hj hu => ?_⟩
    by_cases e : k = j
    · subst e
      have hj : (D.T.set k _)[k]? = some u := hj
      rw [List.getElem?_set_self hkl] at hj
      cases hj
      exact (h2 (by simpa using hd)).up (by show (D.n : Int) + 2 ≤ ((D.n + 1 : Nat) : Int) + 2; omega)
    · have hj : (D.T.set k _)[j]? = some u := hj
      rw [List.getElem?_set_ne e] at hj
      exact (hI.fr j u hj hu).up (by show (D.n : Int) + 2 ≤ ((D.n + 1 : Nat) : Int) + 2; omega)
theorem kinv_step {n : Int} (hn : 1 ≤ n ∧ n ≤ 16) {ops : List (List Rw)} (hops : ∀ l ∈ ops, ∀ x ∈ l, RwOk x) : ∀ D k D', D.n < 200 → KInv n D → dbeg (ownOp 3 4) ops D k = some D' → KInv n (dmov (kfR n) D' k) := fun D k D' hD hI hb => by
  obtain ⟨h1, h2, t0, h3, h4⟩ := kf_dbeg hn hops hI hb
  exact kf_dmov hn h1 h3 h4
theorem kinv0 (n : Int) (q : Nat) : KInv n (ds0 q) where
  mem := ⟨fun i => ⟨Int.le_refl 0, (by decide : (0 : Int) ≤ ((0 : Nat) : Int) + 2)⟩, fun i _ h => by cases h⟩
  len := Nat.le_refl 0
  fr := fun k t h hon => by
    have h : (List.replicate q th0)[k]? = some t := h
    rw [List.getElem?_replicate] at h
    split at h
    · cases h
      cases hon
    · cases h
end Go.Proofs.Ytnolgpagdjcjbaa.Ve
