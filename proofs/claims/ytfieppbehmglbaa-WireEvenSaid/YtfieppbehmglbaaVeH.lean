import Derived.Test.YtfieppbehmglbaaVeG
/-! Cuts, lengths, append, stores. -/
set_option linter.unusedVariables false
set_option linter.unusedSimpArgs false
namespace Go.Proofs.Ytfieppbehmglbaa.Ve
open Go

section
variable {P : Program} {ρ ρ' : Ren} {F F' : Nat → Prop} {w w' : World}

theorem asInt_rel {x : V} {v : Value} {n : Int} (h : asInt? x = some n) (hx : VRel ρ F w x v) : ∃ k, v = .int k n := by
  unfold asInt? at h
  split at h
  · simp only [Option.some.injEq] at h
    subst h
    simp only [VRel, PRel] at hx
    exact ⟨_, hx⟩
  · simp at h

theorem bound_run {env : Operand → Option V} {ev : Operand → Value} {d y : Nat} {b : Option Operand} {k : Int} {code : BoundsCode} (hb : boundV env d b = some k) (he : EnvRel ρ F w env ev b.toList) (h0 : 0 ≤ k) (hy : k ≤ y) (w₁ : World) :
    (match b.map ev with
      | some v => Instr.sliceBound v y code
      | none => pure d : Sem Nat).run P w₁ = .ok k.toNat w₁ := by
  cases b with
  | none => simp only [boundV, Option.some.injEq] at hb; subst hb; simp
  | some x =>
    simp only [boundV] at hb
    cases hx : env x with
    | none => simp [hx] at hb
    | some v =>
      simp only [hx] at hb
      obtain ⟨kk, hv⟩ := asInt_rel hb (he x (by simp) v hx)
      simp only [Option.map_some, hv, Instr.sliceBound, Sem.run_bind, asIntOf, Sem.run_pure, Result.andThen_ok, h0, hy, and_self, if_true]

theorem bounds_run {env : Operand → Option V} {ev : Operand → Value} {len cap : Nat} {lo hi : Option Operand} {l h : Int} (hl : boundV env 0 lo = some l) (hh : boundV env len hi = some h) (e1 : EnvRel ρ F w env ev lo.toList) (e2 : EnvRel ρ F w env ev hi.toList)
    (h0 : 0 ≤ l) (hlh : l ≤ h) (hhl : h ≤ len) (hc : len ≤ cap) (w₁ : World) : (Instr.sliceBounds true len cap (lo.map ev) (hi.map ev) none).run P w₁ = .ok (l.toNat, h.toNat, cap) w₁ := by
  have r1 := bound_run (P := P) (y := cap) (code := .sliceAcap) hh e2 (by omega) (by omega) w₁
  have r2 := bound_run (P := P) (y := h.toNat) (code := .sliceB) hl e1 h0 (by omega) w₁
  unfold Instr.sliceBounds
  cases lo with
  | none =>
    simp only [boundV, Option.some.injEq] at hl
    subst hl
    cases hi with
    | none =>
      simp only [boundV, Option.some.injEq] at hh
      subst hh
      rfl
    | some x =>
      simp only [Option.map_none, Option.map_some] at r1 ⊢
      simp only [Sem.run_bind, Sem.run_pure, Result.andThen_ok, if_true, r1]
      rfl
  | some y =>
    cases hi with
    | none =>
      simp only [boundV, Option.some.injEq] at hh
      subst hh
      simp only [Option.map_none, Option.map_some] at r2 ⊢
      simp only [Sem.run_bind, Sem.run_pure, Result.andThen_ok, Option.isSome_none, Bool.false_eq_true, if_false]
      simp only [Int.toNat_natCast] at r2 ⊢
      rw [r2]
      rfl
    | some x =>
      simp only [Option.map_some] at r1 r2 ⊢
      simp only [Sem.run_bind, Sem.run_pure, Result.andThen_ok, if_true, Option.isSome_none, Bool.false_eq_true, if_false, r1, r2]

theorem PRows_cut {B s : Nat} {o : Nat} {rows : List (List PV)} (h : PRows F w B s o rows) (l n : Nat) : PRows F w B s (o + l * s) ((rows.take n).drop l) :=
  PRows.intro fun k r hk => by
    rw [List.getElem?_drop, List.getElem?_take] at hk
    split at hk
    · obtain ⟨h1, h2⟩ := h.get (l + k) r hk
      refine ⟨h1, ?_⟩
      rw [show o + l * s + k * s = o + (l + k) * s by rw [Nat.add_mul]; omega]
      exact h2
    · simp at hk

theorem slice_sound {env : Operand → Option V} {ev : Operand → Value} {t : TypeId} {x v : V} {vx : Value} {lo hi : Option Operand}
    (h : sliceV P t x (fun d => boundV env d.toNat lo) (fun d => boundV env d.toNat hi) = some v) (hx : VRel ρ F w x vx) (e1 : EnvRel ρ F w env ev lo.toList) (e2 : EnvRel ρ F w env ev hi.toList) :
    ∃ y, (Instr.sliceAt t vx (lo.map ev) (hi.map ev) none).run P w = .ok y w ∧ VRel ρ F w v y := by
  unfold sliceV at h
  split at h
  · rename_i elem he
    have hu := sliceElem_eq he
    split at h
    · rename_i size hs
      have hrun : ∀ (a : Option Addr) (len cap : Nat) (l h : Int), boundV env 0 lo = some l → boundV env len hi = some h → 0 ≤ l → l ≤ h → h ≤ len → len ≤ cap →
          (Instr.sliceAt t (.slice a len cap) (lo.map ev) (hi.map ev) none).run P w = .ok (.slice (if cap = l.toNat then a else a.map (·.add (l.toNat * size))) (h.toNat - l.toNat) (cap - l.toNat)) w := by
        intro a len cap l h hl hh h0 h1 h2 h3
        simp only [Instr.sliceAt, Sem.run_bind, run_underlying hu, Result.andThen_ok, Instr.slice, bounds_run hl hh e1 e2 h0 h1 h2 h3, run_sizeOf hs, Sem.run_pure]
      split at h
      · rename_i rows
        split at h
        · rename_i l hl
          split at h
          · rename_i hh hhi
            split at h
            · rename_i hcond
              obtain ⟨h0, h1, h2, h3⟩ := hcond
              simp only [Option.some.injEq] at h
              subst h
              simp only [VRel, PRel] at hx
              obtain ⟨a, cap, rfl, hcap, hR⟩ := hx
              refine ⟨_, hrun a rows.length cap l hh (by simpa using hl) (by simpa using hhi) h0 h1 h2 hcap, ?_⟩
              simp only [VRel, PRel]
              have hlen : ((rows.take hh.toNat).drop l.toNat).length = hh.toNat - l.toNat := by simp; omega
              refine ⟨_, cap - l.toNat, by rw [hlen], by rw [hlen]; omega, ?_⟩
              by_cases hemp : (rows.take hh.toNat).drop l.toNat = []
              · exact .inl hemp
              · right
                have hlt : l.toNat < hh.toNat := by
                  rcases Nat.lt_or_ge l.toNat hh.toNat with h | h
                  · exact h
                  · exact absurd (List.eq_nil_of_length_eq_zero (by omega)) hemp
                rcases hR with rfl | ⟨B, o, s, rfl, hF, hR⟩
                · simp at h2; omega
                · refine ⟨B, o + l.toNat * s, s, ?_, hF, PRows_cut hR _ _⟩
                  rw [if_neg (by omega)]
                  simp only [Option.map_some, Addr.add_mid, Option.some.injEq, Addr.mk.injEq, and_true, true_and]
                  rcases h3 with h3 | h3
                  · have : l.toNat = 0 := by omega
                    simp [this]
                  · have hr0 : 0 < rows.length := by omega
                    obtain ⟨hr1, -⟩ := hR.get 0 rows[0] (by simp [hr0])
                    have := List.all_eq_true.1 h3 rows[0] (by simp)
                    simp at this
                    rw [← hr1, this]
            · simp at h
          · simp at h
        · simp at h
      · rename_i i s r len
        split at h
        · rename_i l hl
          split at h
          · rename_i hh hhi
            split at h
            · rename_i hcond
              obtain ⟨h0, h1, h2, rfl⟩ := hcond
              simp only [Option.some.injEq] at h
              subst h
              simp only [VRel] at hx
              obtain ⟨B, o, a, cap, hi', rfl, hcap, hca, hq⟩ := hx
              refine ⟨_, hrun (some ⟨B, a, none⟩) len cap l hh (by simpa using hl) (by simpa using hhi) h0 h1 h2 hcap, ?_⟩
              simp only [VRel]
              by_cases hc : cap = l.toNat
              · refine ⟨B, o, a, cap - l.toNat, hi', by rw [if_pos hc], by omega, .inl (by omega), ?_⟩
                obtain ⟨c, e, hb, hn⟩ := hq
                refine ⟨c, e, hb, Nat.le_trans (Nat.add_le_add_left (Nat.mul_le_mul_right _ (Nat.sub_le _ _)) _) hn⟩
              · refine ⟨B, o, a + l.toNat * s, cap - l.toNat, hi', by rw [if_neg hc]; simp [Addr.add_mid], by omega, .inr ?_, ?_⟩
                · rcases hca with rfl | rfl
                  · omega
                  · rw [Nat.add_mul]; omega
                · obtain ⟨c, e, hb, hn⟩ := hq
                  refine ⟨c, e, hb, ?_⟩
                  have : l.toNat * s + (cap - l.toNat) * s = cap * s := by rw [← Nat.add_mul]; congr 1; omega
                  omega
            · simp at h
          · simp at h
        · simp at h
      · split at h
        · rename_i l hl
          split at h
          · rename_i hh hhi
            split at h
            · rename_i hcond
              obtain ⟨rfl, rfl⟩ := hcond
              simp only [Option.some.injEq] at h
              subst h
              simp only [VRel] at hx
              subst hx
              refine ⟨_, hrun none 0 0 0 0 (by simpa using hl) (by simpa using hhi) (by omega) (by omega) (by omega) (by omega), ?_⟩
              simp [VRel]
            · simp at h
          · simp at h
        · simp at h
      · simp at h
    · simp at h
  · simp at h

theorem len_sound {t ty : TypeId} {x : V} {vx : Value} {n : Int} (h : lenV P t x = some n) (hx : VRel ρ F w x vx) : (Builtin.len_ #[t] ty #[vx]).run P w = .ok (.int .i64 n) w := by
  unfold lenV at h
  split at h
  · rename_i e hu
    split at h
    · simp only [Option.some.injEq] at h
      subst h
      simp only [VRel, PRel] at hx
      obtain ⟨a, cap, rfl, -⟩ := hx
      simp [Builtin.len_, run_underlying hu, goInt]
    · simp only [Option.some.injEq] at h
      subst h
      simp only [VRel] at hx
      obtain ⟨B, o, a, cap, -, rfl, -⟩ := hx
      simp [Builtin.len_, run_underlying hu, goInt]
    · simp only [Option.some.injEq] at h
      subst h
      simp only [VRel] at hx
      subst hx
      simp [Builtin.len_, run_underlying hu, goInt]
    · simp at h
  · rename_i k e hu
    simp only [Option.some.injEq] at h
    subst h
    simp [Builtin.len_, run_underlying hu, goInt]
  · simp at h

/-- The rows that are added: they lie in the world, cell by cell. -/
theorem src_sound {st : St} {size : Nat} {x : V} {vx : Value} {rows : List (List V)} {R : List Nat} (h : srcRows st size x = some (rows, R)) (hx : VRel ρ F w x vx) (ho : ∀ i ∈ R, ∃ so, st.get i = some so ∧ ObjRel ρ F w i so) :
    ∃ a cap, vx = .slice a rows.length cap ∧ ∃ l : List Value, l.length = rows.length * size ∧ (∀ w₁ : World, w₁.heap = w.heap → (Builtin.firstCells size rows.length vx).run P w₁ = .ok l.toArray w₁) ∧ (∀ v ∈ l, v.oneCell' = true) ∧
      ∀ (r : Nat) row, rows[r]? = some row → row.length = size ∧ ∀ (k : Nat) y, row[k]? = some y → ∃ v, l[r * size + k]? = some v ∧ VRel ρ F w y v := by
  have gen : ∀ (rows : List (List V)) (B q : Nat), (∀ (r : Nat) row, rows[r]? = some row → row.length = size ∧ ∀ (k : Nat) y, row[k]? = some y → ∃ v, w.cell? ⟨B, q + r * size + k, none⟩ = some v ∧ v.oneCell' = true ∧ VRel ρ F w y v) →
      ∃ l : List Value, l.length = rows.length * size ∧ (∀ (j : Nat) v, l[j]? = some v → w.cell? ⟨B, q + j, none⟩ = some v) ∧ (∀ v ∈ l, v.oneCell' = true) ∧
        ∀ (r : Nat) row, rows[r]? = some row → row.length = size ∧ ∀ (k : Nat) y, row[k]? = some y → ∃ v, l[r * size + k]? = some v ∧ VRel ρ F w y v := by
    intro rows
    induction rows with
    | nil => intro B q _; exact ⟨[], by simp, by simp, by simp, by simp⟩
    | cons row rows ih =>
      intro B q hq
      obtain ⟨l, h1, h2, h3, h4⟩ := ih B (q + size) (fun r row' hr => by
        have := hq (r + 1) row' (by simpa using hr)
        rw [show q + (r + 1) * size = q + size + r * size by rw [Nat.add_mul]; omega] at this
        exact this)
      obtain ⟨hl0, hc0⟩ := hq 0 row rfl
      have ex : ∀ (xs : List V) (p : Nat), (∀ (k : Nat) y, xs[k]? = some y → ∃ v, w.cell? ⟨B, p + k, none⟩ = some v ∧ v.oneCell' = true ∧ VRel ρ F w y v) → ∃ m : List Value, m.length = xs.length ∧ (∀ (j : Nat) v, m[j]? = some v → w.cell? ⟨B, p + j, none⟩ = some v) ∧ (∀ v ∈ m, v.oneCell' = true) ∧ ∀ (k : Nat) y, xs[k]? = some y → ∃ v, m[k]? = some v ∧ VRel ρ F w y v := by
        intro xs
        induction xs with
        | nil => intro p _; exact ⟨[], rfl, by simp, by simp, by simp⟩
        | cons y ys ihx =>
          intro p hp
          obtain ⟨v, hv, hv1, hvr⟩ := hp 0 y rfl
          obtain ⟨m, m1, m2, m3, m4⟩ := ihx (p + 1) (fun k z hk => by
            have := hp (k + 1) z (by simpa using hk)
            rwa [show p + (k + 1) = p + 1 + k by omega] at this)
          refine ⟨v :: m, by simp [m1], ?_, ?_, ?_⟩
          · intro j u hu
            cases j with
            | zero => simp at hu; subst hu; simpa using hv
            | succ j => rw [show p + (j + 1) = p + 1 + j by omega]; exact m2 j u (by simpa using hu)
          · intro u hu
            rcases List.mem_cons.1 hu with rfl | hu
            · exact hv1
            · exact m3 u hu
          · intro k z hk
            cases k with
            | zero => simp at hk; subst hk; exact ⟨v, rfl, hvr⟩
            | succ k => simpa using m4 k z (by simpa using hk)
      obtain ⟨m, m1, m2, m3, m4⟩ := ex row q (fun k y hk => by simpa using hc0 k y hk)
      have hml : m.length = size := by rw [m1, hl0]
      refine ⟨m ++ l, by simp [hml, h1, Nat.add_mul]; omega, ?_, ?_, ?_⟩
      · intro j v hv
        by_cases hj : j < m.length
        · rw [List.getElem?_append_left hj] at hv; exact m2 j v hv
        · rw [List.getElem?_append_right (by omega)] at hv
          have := h2 _ v hv
          rwa [show q + size + (j - m.length) = q + j by omega] at this
      · intro v hv
        rcases List.mem_append.1 hv with hv | hv
        · exact m3 v hv
        · exact h3 v hv
      · intro r row' hr
        cases r with
        | zero =>
          simp at hr
          subst hr
          refine ⟨hl0, fun k y hk => ?_⟩
          obtain ⟨v, hv, hvr⟩ := m4 k y hk
          have hlt := (List.getElem?_eq_some_iff.1 hv).1
          exact ⟨v, by rw [Nat.zero_mul, Nat.zero_add, List.getElem?_append_left hlt]; exact hv, hvr⟩
        | succ r =>
          obtain ⟨g1, g2⟩ := h4 r row' (by simpa using hr)
          refine ⟨g1, fun k y hk => ?_⟩
          obtain ⟨v, hv, hvr⟩ := g2 k y hk
          refine ⟨v, ?_, hvr⟩
          rw [List.getElem?_append_right (by rw [hml, Nat.add_mul]; omega), hml, show (r + 1) * size + k - size = r * size + k by rw [Nat.add_mul]; omega]
          exact hv
  have load : ∀ (B q : Nat) (l : List Value) (n : Nat), l.length = n * size → (∀ (j : Nat) v, l[j]? = some v → w.cell? ⟨B, q + j, none⟩ = some v) → ∀ cap (w₁ : World), w₁.heap = w.heap → (Builtin.firstCells size n (.slice (some ⟨B, q, none⟩) n cap)).run P w₁ = .ok l.toArray w₁ := by
    intro B q l n hl hc cap w₁ hh
    simp only [Builtin.firstCells]
    rw [← hl]
    exact run_loadCells_list (P := P) w₁ _ l (fun j v hv => by
      rw [Addr.add_mid]
      have := hc j v hv
      simp only [World.cell?] at this ⊢
      rw [hh]
      exact this)
  cases x with
  | nl =>
    simp only [srcRows, Option.some.injEq, Prod.mk.injEq] at h
    obtain ⟨rfl, rfl⟩ := h
    simp only [VRel] at hx
    subst hx
    exact ⟨none, 0, rfl, [], by simp, fun w₁ _ => by simp [Builtin.firstCells], by simp, by simp⟩
  | pv p =>
    cases p with
    | fz rs =>
      simp only [srcRows] at h
      split at h
      · rename_i hall
        simp only [Option.some.injEq, Prod.mk.injEq] at h
        obtain ⟨rfl, rfl⟩ := h
        simp only [VRel, PRel] at hx
        obtain ⟨a, cap, rfl, hcap, hR⟩ := hx
        refine ⟨a, cap, by simp, ?_⟩
        rcases hR with rfl | ⟨B, o, s, rfl, hF, hR⟩
        · refine ⟨[], by simp, fun w₁ _ => ?_, by simp, by simp⟩
          cases a with
          | none => simp [Builtin.firstCells]
          | some a => simp [Builtin.firstCells, loadCells, loadCellsFrom]
        · obtain ⟨l, h1, h2, h3, h4⟩ := gen (rs.map (·.map .pv)) B o (fun r row hr => by
            rw [List.getElem?_map] at hr
            cases hq : rs[r]? with
            | none => simp [hq] at hr
            | some row' =>
              simp only [hq, Option.map_some, Option.some.injEq] at hr
              subst hr
              obtain ⟨g1, g2⟩ := hR.get r row' hq
              have hsz : row'.length = size := by have := List.all_eq_true.1 hall row' (List.mem_of_getElem? hq); simpa using this
              refine ⟨by simpa using hsz, fun k y hk => ?_⟩
              rw [List.getElem?_map] at hk
              cases hq2 : row'[k]? with
              | none => simp [hq2] at hk
              | some p =>
                simp only [hq2, Option.map_some, Option.some.injEq] at hk
                subst hk
                obtain ⟨v, hv, hv1, hr⟩ := g2.get k p hq2
                exact ⟨v, by rw [← hsz, g1]; exact hv, hv1, by simpa [VRel] using hr⟩)
          refine ⟨l, h1, fun w₁ hh => ?_, h3, h4⟩
          have := load B o l rs.length (by simpa using h1) h2 cap w₁ hh
          simpa using this
      · simp at h
    | _ => simp [srcRows] at h
  | ow j s r len =>
    simp only [srcRows] at h
    cases hg : st.get j with
    | none => simp [hg] at h
    | some so =>
      simp only [hg] at h
      split at h
      · rename_i hcond
        obtain ⟨hso, hle⟩ := hcond
        simp only [Option.some.injEq, Prod.mk.injEq] at h
        obtain ⟨rfl, rfl⟩ := h
        simp only [VRel] at hx
        obtain ⟨B, o, a, cap, hi, rfl, hcap, hca, hq⟩ := hx
        obtain ⟨so', hg', B', o', c, e, hi', hF, hb, hR⟩ := ho j (by simp)
        rw [hg] at hg'
        cases hg'
        rw [hi] at hi'
        simp only [Option.some.injEq, Prod.mk.injEq] at hi'
        obtain ⟨rfl, rfl, hs'⟩ := hi'
        have hlen : ((so.rows.drop r).take len).length = len := by simp; omega
        refine ⟨some ⟨B, a, none⟩, cap, by rw [hlen], ?_⟩
        by_cases hl0 : len = 0
        · subst hl0
          refine ⟨[], by simp, fun w₁ _ => ?_, by simp, by simp⟩
          simp [Builtin.firstCells, loadCells, loadCellsFrom]
        · have ha : a = o + r * s := by
            rcases hca with h0 | h0
            · omega
            · exact h0
          obtain ⟨l, h1, h2, h3, h4⟩ := gen ((so.rows.drop r).take len) B a (fun q row hr => by
            rw [List.getElem?_take] at hr
            split at hr
            · rw [List.getElem?_drop] at hr
              obtain ⟨g1, g2⟩ := hR (r + q) row hr
              refine ⟨by rw [g1, hso], fun k y hk => ?_⟩
              obtain ⟨v, hv, hv1, hvr⟩ := g2 k y hk
              refine ⟨v, ?_, hv1, hvr⟩
              have : o + (r + q) * so.s + k = a + q * size + k := by rw [ha, hs', hso, Nat.add_mul]; omega
              rw [this] at hv
              simp [World.cell?, hb, hv]
            · simp at hr)
          refine ⟨l, h1, fun w₁ hh => ?_, h3, h4⟩
          have := load B a l len (by rw [h1, hlen]) h2 cap w₁ hh
          rw [hlen]
          exact this
      · simp at h
  | _ => simp [srcRows] at h

end

end Go.Proofs.Ytfieppbehmglbaa.Ve
