import Derived.Test.YtfieppbehmglbaaVeM
/-! Freezing; calls. -/
set_option linter.unusedVariables false
set_option linter.unusedSimpArgs false
namespace Go.Proofs.Ytfieppbehmglbaa.Ve
open Go

/-- Frozen besides: the blocks of these objects. -/
def FB (ρ : Ren) (F : Nat → Prop) (I : List Nat) (B : Nat) : Prop := F B ∨ ∃ i ∈ I, blk ρ i = some B

section
variable {ρ ρ₁ ρ₂ : Ren} {F F₁ F₂ : Nat → Prop} {w w₁ w₂ : World} {st st₁ st₂ : St}

theorem frzs_get {f : V → Option (PV × List Nat)} : ∀ {vs : List V} {ps : List PV} {ids : List Nat}, frz.frzs f vs = some (ps, ids) → ps.length = vs.length ∧ ∀ (k : Nat) v, vs[k]? = some v → ∃ p idk, ps[k]? = some p ∧ f v = some (p, idk) ∧ ∀ i ∈ idk, i ∈ ids
  | [], ps, ids, h => by
    simp only [frz.frzs, Option.some.injEq, Prod.mk.injEq] at h
    obtain ⟨rfl, rfl⟩ := h
    exact ⟨rfl, by simp⟩
  | v :: vs, ps, ids, h => by
    simp only [frz.frzs] at h
    split at h
    · rename_i p id1 hp
      split at h
      · rename_i qs id2 hq
        simp only [Option.some.injEq, Prod.mk.injEq] at h
        obtain ⟨rfl, rfl⟩ := h
        obtain ⟨h1, h2⟩ := frzs_get hq
        refine ⟨by simp [h1], fun k u hk => ?_⟩
        cases k with
        | zero =>
          simp at hk
          subst hk
          exact ⟨p, id1, rfl, hp, fun i hi => by simp [hi]⟩
        | succ k =>
          obtain ⟨q, idk, g1, g2, g3⟩ := h2 k u (by simpa using hk)
          exact ⟨q, idk, by simpa using g1, g2, fun i hi => by simp [g3 i hi]⟩
      · simp at h
    · simp at h

theorem frzss_get {f : V → Option (PV × List Nat)} : ∀ {vs : List (List V)} {ps : List (List PV)} {ids : List Nat}, frz.frzss f vs = some (ps, ids) → ps.length = vs.length ∧ ∀ (k : Nat) v, vs[k]? = some v → ∃ p idk, ps[k]? = some p ∧ frz.frzs f v = some (p, idk) ∧ ∀ i ∈ idk, i ∈ ids
  | [], ps, ids, h => by
    simp only [frz.frzss, Option.some.injEq, Prod.mk.injEq] at h
    obtain ⟨rfl, rfl⟩ := h
    exact ⟨rfl, by simp⟩
  | v :: vs, ps, ids, h => by
    simp only [frz.frzss] at h
    split at h
    · rename_i p id1 hp
      split at h
      · rename_i qs id2 hq
        simp only [Option.some.injEq, Prod.mk.injEq] at h
        obtain ⟨rfl, rfl⟩ := h
        obtain ⟨h1, h2⟩ := frzss_get hq
        refine ⟨by simp [h1], fun k u hk => ?_⟩
        cases k with
        | zero =>
          simp at hk
          subst hk
          exact ⟨p, id1, rfl, hp, fun i hi => by simp [hi]⟩
        | succ k =>
          obtain ⟨q, idk, g1, g2, g3⟩ := h2 k u (by simpa using hk)
          exact ⟨q, idk, by simpa using g1, g2, fun i hi => by simp [g3 i hi]⟩
      · simp at h
    · simp at h

theorem PList.intro : ∀ {ps : List PV} {l : List Value}, l.length = ps.length → (∀ (k : Nat) p, ps[k]? = some p → ∃ v, l[k]? = some v ∧ PRel F w p v) → PList F w ps l
  | [], l, hl, _ => by simp only [PList]; exact List.eq_nil_of_length_eq_zero (by simpa using hl)
  | p :: ps, [], hl, _ => by simp at hl
  | p :: ps, v :: vs, hl, h => by
    simp only [PList]
    obtain ⟨u, hu, hr⟩ := h 0 p rfl
    obtain rfl : v = u := by simpa using hu
    exact ⟨v, vs, rfl, hr, PList.intro (by simpa using hl) fun k x hk => by simpa using h (k + 1) x (by simpa using hk)⟩

theorem ext_fb (I : List Nat) : Ext F w (FB ρ F I) w := ⟨fun _ h => .inl h, fun _ _ => rfl, Shp.refl w⟩

theorem frz_sound {I : List Nat} (hI : ∀ i ∈ I, ∀ so, st.get i = some so → ObjRel ρ F w i so) : ∀ (n : Nat) (v : V) (p : PV) (ids : List Nat) (val : Value), frz st n v = some (p, ids) → (∀ i ∈ ids, i ∈ I) → VRel ρ F w v val → PRel (FB ρ F I) w p val := by
  have base1 : ∀ (q p : PV) (ids : List Nat) (val : Value), some (q, ([] : List Nat)) = some (p, ids) → VRel ρ F w (.pv q) val → PRel (FB ρ F I) w p val := by
    intro q p ids val h hv
    simp only [Option.some.injEq, Prod.mk.injEq] at h
    obtain ⟨rfl, rfl⟩ := h
    simp only [VRel] at hv
    exact PRel.mono (ext_fb I) q val hv
  have base2 : ∀ (p : PV) (ids : List Nat) (val : Value), some (PV.fz [], ([] : List Nat)) = some (p, ids) → VRel ρ F w .nl val → PRel (FB ρ F I) w p val := by
    intro p ids val h hv
    simp only [Option.some.injEq, Prod.mk.injEq] at h
    obtain ⟨rfl, rfl⟩ := h
    simp only [VRel] at hv
    subst hv
    simp only [PRel]
    exact ⟨none, 0, rfl, by simp, .inl trivial⟩
  intro n
  induction n with
  | zero =>
    intro v p ids val h hids hv
    cases v with
    | pv q => exact base1 q p ids val (by simpa [frz] using h) hv
    | nl => exact base2 p ids val (by simpa [frz] using h) hv
    | _ => simp [frz] at h
  | succ n ih =>
    intro v p ids val h hids hv
    cases v with
    | pv q => exact base1 q p ids val (by simpa [frz] using h) hv
    | nl => exact base2 p ids val (by simpa [frz] using h) hv
    | agg cs =>
      simp only [frz] at h
      split at h
      · rename_i ps id1 hq
        simp only [Option.some.injEq, Prod.mk.injEq] at h
        obtain ⟨rfl, rfl⟩ := h
        simp only [VRel] at hv
        obtain ⟨l, rfl, hl⟩ := hv
        simp only [PRel]
        obtain ⟨h1, h2⟩ := frzs_get hq
        refine ⟨l, rfl, PList.intro (by rw [hl.length, h1]) fun k q hk => ?_⟩
        have hlt : k < cs.length := by have := (List.getElem?_eq_some_iff.1 hk).1; omega
        obtain ⟨q', idk, g1, g2, g3⟩ := h2 k cs[k] (by simp [hlt])
        rw [hk] at g1
        cases g1
        obtain ⟨u, hu, hur⟩ := hl.get k cs[k] (by simp [hlt])
        exact ⟨u, hu, ih _ _ _ _ g2 (fun i hi => hids i (g3 i hi)) hur⟩
      · simp at h
    | ifc t x =>
      simp only [frz] at h
      split at h
      · rename_i q id1 hq
        simp only [Option.some.injEq, Prod.mk.injEq] at h
        obtain ⟨rfl, rfl⟩ := h
        simp only [VRel] at hv
        obtain ⟨u, rfl, hu⟩ := hv
        simp only [PRel]
        exact ⟨u, rfl, ih _ _ _ _ hq hids hu⟩
      · simp at h
    | ow i s r len =>
      simp only [frz] at h
      split at h
      · rename_i so hso
        split at h
        · rename_i hle
          split at h
          · rename_i rows id1 hq
            simp only [Option.some.injEq, Prod.mk.injEq] at h
            obtain ⟨rfl, rfl⟩ := h
            simp only [VRel] at hv
            obtain ⟨B, o, a, cap, hρ, rfl, hlc, hca, -⟩ := hv
            obtain ⟨h1, h2⟩ := frzss_get hq
            have hlen : rows.length = len := by rw [h1]; simp; omega
            have hiI : i ∈ I := hids i (by simp)
            obtain ⟨B', o', c, e, hρ', hF, hb, hR⟩ := hI i hiI so hso
            rw [hρ] at hρ'
            simp only [Option.some.injEq, Prod.mk.injEq] at hρ'
            obtain ⟨rfl, rfl, hs⟩ := hρ'
            simp only [PRel]
            refine ⟨_, cap, by rw [hlen], by rw [hlen]; exact hlc, ?_⟩
            by_cases h0 : rows = []
            · exact .inl h0
            · right
              have hpos : len ≠ 0 := by
                intro e
                exact h0 (List.eq_nil_of_length_eq_zero (by omega))
              have ha : a = o + r * s := by
                rcases hca with hc | hc
                · omega
                · exact hc
              refine ⟨B, a, s, rfl, .inr ⟨i, hiI, blk_of hρ⟩, PRows.intro fun k row hk => ?_⟩
              have hlt : k < ((so.rows.drop r).take len).length := by have := (List.getElem?_eq_some_iff.1 hk).1; omega
              obtain ⟨q', idk, g1, g2, g3⟩ := h2 k ((so.rows.drop r).take len)[k] (by simp only [List.getElem?_eq_getElem hlt])
              rw [hk] at g1
              cases g1
              have hrow : so.rows[r + k]? = some ((so.rows.drop r).take len)[k] := by
                have := List.getElem?_eq_getElem hlt
                rw [List.getElem?_take] at this
                split at this
                · rwa [List.getElem?_drop] at this
                · cases this
              obtain ⟨m1, m2⟩ := hR (r + k) _ hrow
              obtain ⟨f1, f2⟩ := frzs_get g2
              refine ⟨by rw [f1, m1, hs], PCells.intro fun j pj hj => ?_⟩
              have hjlt : j < ((so.rows.drop r).take len)[k].length := by have := (List.getElem?_eq_some_iff.1 hj).1; omega
              obtain ⟨pj', idj, e1, e2, e3⟩ := f2 j _ (List.getElem?_eq_getElem hjlt)
              rw [hj] at e1
              cases e1
              obtain ⟨u, hu, hu1, hur⟩ := m2 j _ (List.getElem?_eq_getElem hjlt)
              refine ⟨u, ?_, hu1, ih _ _ _ _ e2 (fun i hi => hids i (by simp [g3 i (e3 i hi)])) hur⟩
              have : o + (r + k) * so.s + j = a + k * s + j := by rw [ha, ← hs, Nat.add_mul]; omega
              rw [this] at hu
              simp [World.cell?, hb, hu]
          · simp at h
        · simp at h
      · simp at h
    | _ => simp [frz] at h

theorem frz_live : ∀ (n : Nat) (v : V) (p : PV) (ids : List Nat), frz st n v = some (p, ids) → ∀ i ∈ ids, ∃ so, st.get i = some so := by
  have helper : ∀ (f : V → Option (PV × List Nat)), (∀ v p ids, f v = some (p, ids) → ∀ i ∈ ids, ∃ so, st.get i = some so) → ∀ (vs : List V) (ps : List PV) (ids : List Nat), frz.frzs f vs = some (ps, ids) → ∀ i ∈ ids, ∃ so, st.get i = some so := by
    intro f hf vs
    induction vs with
    | nil => intro ps ids h i hi; simp only [frz.frzs, Option.some.injEq, Prod.mk.injEq] at h; obtain ⟨-, rfl⟩ := h; cases hi
    | cons v vs ih =>
      intro ps ids h i hi
      simp only [frz.frzs] at h
      split at h
      · rename_i p id1 hp
        split at h
        · rename_i qs id2 hq
          simp only [Option.some.injEq, Prod.mk.injEq] at h
          obtain ⟨-, rfl⟩ := h
          rcases List.mem_append.1 hi with hi | hi
          · exact hf v p id1 hp i hi
          · exact ih qs id2 hq i hi
        · simp at h
      · simp at h
  have helper2 : ∀ (f : V → Option (PV × List Nat)), (∀ v p ids, f v = some (p, ids) → ∀ i ∈ ids, ∃ so, st.get i = some so) → ∀ (vs : List (List V)) (ps : List (List PV)) (ids : List Nat), frz.frzss f vs = some (ps, ids) → ∀ i ∈ ids, ∃ so, st.get i = some so := by
    intro f hf vs
    induction vs with
    | nil => intro ps ids h i hi; simp only [frz.frzss, Option.some.injEq, Prod.mk.injEq] at h; obtain ⟨-, rfl⟩ := h; cases hi
    | cons v vs ih =>
      intro ps ids h i hi
      simp only [frz.frzss] at h
      split at h
      · rename_i p id1 hp
        split at h
        · rename_i qs id2 hq
          simp only [Option.some.injEq, Prod.mk.injEq] at h
          obtain ⟨-, rfl⟩ := h
          rcases List.mem_append.1 hi with hi | hi
          · exact helper f hf v p id1 hp i hi
          · exact ih qs id2 hq i hi
        · simp at h
      · simp at h
  intro n
  induction n with
  | zero =>
    intro v p ids h i hi
    cases v <;> simp [frz] at h <;> (obtain ⟨-, rfl⟩ := h; cases hi)
  | succ n ih =>
    intro v p ids h i hi
    cases v with
    | agg cs =>
      simp only [frz] at h
      split at h
      · rename_i ps id1 hq
        simp only [Option.some.injEq, Prod.mk.injEq] at h
        obtain ⟨-, rfl⟩ := h
        exact helper _ ih _ _ _ hq i hi
      · simp at h
    | ifc t x =>
      simp only [frz] at h
      split at h
      · rename_i q id1 hq
        simp only [Option.some.injEq, Prod.mk.injEq] at h
        obtain ⟨-, rfl⟩ := h
        exact ih _ _ _ hq i hi
      · simp at h
    | ow j s r len =>
      simp only [frz] at h
      split at h
      · rename_i so hso
        split at h
        · split at h
          · rename_i rows id1 hq
            simp only [Option.some.injEq, Prod.mk.injEq] at h
            obtain ⟨-, rfl⟩ := h
            rcases List.mem_cons.1 hi with rfl | hi
            · exact ⟨so, hso⟩
            · exact helper2 _ ih _ _ _ hq i hi
          · simp at h
        · simp at h
      · simp at h
    | _ => simp [frz] at h <;> (obtain ⟨-, rfl⟩ := h; cases hi)

theorem frzAll_live : ∀ {vs : List V} {ps : List PV} {ids : List Nat}, frzAll st vs = some (ps, ids) → ∀ i ∈ ids, ∃ so, st.get i = some so
  | [], ps, ids, h => by simp only [frzAll, Option.some.injEq, Prod.mk.injEq] at h; obtain ⟨-, rfl⟩ := h; simp
  | v :: vs, ps, ids, h => by
    simp only [frzAll] at h
    split at h
    · rename_i p id1 hp
      split at h
      · rename_i qs id2 hq
        simp only [Option.some.injEq, Prod.mk.injEq] at h
        obtain ⟨-, rfl⟩ := h
        intro i hi
        rcases List.mem_append.1 hi with hi | hi
        · exact frz_live _ _ _ _ hp i hi
        · exact frzAll_live hq i hi
      · simp at h
    · simp at h

theorem frzAll_sound {I : List Nat} (hI : ∀ i ∈ I, ∀ so, st.get i = some so → ObjRel ρ F w i so) : ∀ {vs : List V} {ps : List PV} {ids : List Nat} {l : List Value}, frzAll st vs = some (ps, ids) → (∀ i ∈ ids, i ∈ I) → VList ρ F w vs l → PList (FB ρ F I) w ps l
  | [], ps, ids, l, h, _, hl => by
    simp only [frzAll, Option.some.injEq, Prod.mk.injEq] at h
    obtain ⟨rfl, -⟩ := h
    simp only [VList] at hl
    simp [PList, hl]
  | v :: vs, ps, ids, l, h, hids, hl => by
    simp only [frzAll] at h
    split at h
    · rename_i p id1 hp
      split at h
      · rename_i qs id2 hq
        simp only [Option.some.injEq, Prod.mk.injEq] at h
        obtain ⟨rfl, rfl⟩ := h
        simp only [VList] at hl
        obtain ⟨x, xs, rfl, hx, hxs⟩ := hl
        simp only [PList]
        exact ⟨x, xs, rfl, frz_sound hI _ _ _ _ _ hp (fun i hi => hids i (by simp [hi])) hx, frzAll_sound hI hq (fun i hi => hids i (by simp [hi])) hxs⟩
      · simp at h
    · simp at h

theorem frzArgs_live : ∀ {vs : List V}, ∀ i ∈ (frzArgs st vs).2, ∃ so, st.get i = some so
  | [] => by simp [frzArgs]
  | v :: vs => by
    simp only [frzArgs]
    split
    · rename_i p id1 hp
      intro i hi
      rcases List.mem_append.1 hi with hi | hi
      · exact frz_live _ _ _ _ hp i hi
      · exact frzArgs_live i hi
    · exact frzArgs_live

theorem frzArgs_sound {I : List Nat} (hI : ∀ i ∈ I, ∀ so, st.get i = some so → ObjRel ρ F w i so) : ∀ {vs : List V} {l : List Value}, (∀ i ∈ (frzArgs st vs).2, i ∈ I) → VList ρ F w vs l → VList ρ (FB ρ F I) w (frzArgs st vs).1 l
  | [], l, _, hl => by simp only [VList] at hl; simp [frzArgs, VList, hl]
  | v :: vs, l, hids, hl => by
    simp only [VList] at hl
    obtain ⟨x, xs, rfl, hx, hxs⟩ := hl
    simp only [frzArgs] at hids ⊢
    cases hf : frz st 4 v with
    | some q =>
      obtain ⟨p, id1⟩ := q
      simp only [hf] at hids ⊢
      simp only [VList]
      exact ⟨x, xs, rfl, by simp only [VRel]; exact frz_sound hI _ _ _ _ _ hf (fun i hi => hids i (by simp [hi])) hx, frzArgs_sound hI (fun i hi => hids i (by simp [hi])) hxs⟩
    | none =>
      simp only [hf] at hids ⊢
      simp only [VList]
      exact ⟨x, xs, rfl, VRel.mono (ext_fb I) (rle_refl ρ) _ _ (rel_norm v x hx), frzArgs_sound hI hids hxs⟩

theorem kills_next : ∀ (I : List Nat) (st : St), (st.kills I).next = st.next
  | [], _ => rfl
  | i :: I, st => by simp only [St.kills]; rw [kills_next I]; rfl
theorem kills_get : ∀ (I : List Nat) (st : St) (j : Nat), (st.kills I).get j = if j ∈ I then none else st.get j
  | [], _, j => by simp [St.kills]
  | i :: I, st, j => by
    simp only [St.kills]
    rw [kills_get I]
    by_cases h1 : j ∈ I
    · simp [h1]
    · by_cases h2 : j = i
      · simp [h1, h2, St.kill]
      · simp [h1, h2, St.kill]

theorem fine_kills (hwf : st.WF) (I : List Nat) : Fine st (st.kills I) I where
  next := by rw [kills_next]; exact Nat.le_refl _
  same := fun i hi hm => by rw [kills_get, if_neg hm]
  wf := fun i hi => by
    rw [kills_next] at hi
    rw [kills_get]
    split
    · rfl
    · exact hwf i hi

theorem post_freeze {R W : List Nat} {n : Nat} (hp : Pre ρ F w st R W n) (hwf : st.WF) {I : List Nat} (hI : ∀ i ∈ I, i ∈ W) (hlive : ∀ i ∈ I, ∃ so, st.get i = some so) : Post ρ F w st ρ (FB ρ F I) w (st.kills I) I where
  rle := rle_refl ρ
  rnew := fun i h => absurd rfl h
  fle := fun B h => .inl h
  fnew := fun B h => by
    rcases h with h | ⟨i, hi, hb⟩
    · exact .inl h
    · obtain ⟨so, hso⟩ := hlive i hi
      exact .inr (.inr ⟨i, get_lt hwf hso, hi, hb⟩)
  fok := fun B h => by
    rcases h with h | ⟨i, hi, hb⟩
    · exact hp.fok B h
    · obtain ⟨so, hso⟩ := hlive i hi
      obtain ⟨so', hg, ho⟩ := hp.obj i (get_lt hwf hso) (.inr (hI i hi))
      obtain ⟨B', hB', hlt⟩ := ho.lt
      rw [hb] at hB'
      cases hB'
      exact hlt
  size := Nat.le_refl _
  shp := Shp.refl w
  heap := fun _ _ _ => rfl
  obj := fun i so hi hg => by
    rw [kills_get] at hg
    split at hg
    · cases hg
    · rename_i hn
      rcases hi with ⟨_, hm⟩ | hi
      · exact absurd hm hn
      · rw [hwf i hi] at hg; cases hg
  inj := fun i j hi hj gi gj hne => by
    rw [kills_get] at gi
    split at gi
    · cases gi
    · rename_i hn
      rcases hi with ⟨_, hm⟩ | hi
      · exact absurd hm hn
      · rw [hwf i hi] at gi; cases gi

end

end Go.Proofs.Ytfieppbehmglbaa.Ve
