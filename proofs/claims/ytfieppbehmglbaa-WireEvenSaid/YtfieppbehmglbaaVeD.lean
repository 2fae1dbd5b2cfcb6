import Derived.Test.YtfieppbehmglbaaVeC
/-! Loads, stores and new objects in a world. -/
set_option linter.unusedVariables false
set_option linter.unusedSimpArgs false
namespace Go.Proofs.Ytfieppbehmglbaa.Ve
open Go

section
variable {P : Program} {ρ ρ' : Ren} {F F' : Nat → Prop} {w w' : World}

theorem run_isAgg {t : TypeId} {b : Bool} (h : tyAgg P t = some b) (w : World) : (isAgg t).run P w = .ok b w := by
  unfold tyAgg at h
  unfold isAgg
  rw [Sem.run_bind]
  cases hu : P.underlying t with
  | none => simp [hu] at h
  | some d =>
    rw [run_underlying hu w]
    rw [hu] at h
    cases d <;> simp_all

theorem run_sizeOf {t : TypeId} {n : Nat} (h : tySize P t = some n) (w : World) : (sizeOf t).run P w = .ok n w := by
  unfold tySize at h
  unfold sizeOf typeInfo
  cases hq : P.info? t with
  | none => simp [hq] at h
  | some i => simp [hq] at h; simp [hq, h]

theorem run_typeInfo {t : TypeId} {i : TypeInfo} (h : P.info? t = some i) (w : World) : (typeInfo t).run P w = .ok i w := by
  unfold typeInfo
  simp [h]

theorem run_zeroValue {t : TypeId} {z : V} (h : zeroV P t = some z) : ∃ i x, P.info? t = some i ∧ i.zero = some x ∧ z = ofValue x ∧ ∀ w, (zeroValue t).run P w = .ok x w := by
  unfold zeroV at h
  cases hq : P.info? t with
  | none => simp [hq] at h
  | some i =>
    simp only [hq] at h
    cases hz : i.zero with
    | none => simp [hz] at h
    | some x =>
      simp only [hz, Option.some.injEq] at h
      refine ⟨i, x, rfl, hz, h.symm, fun w => ?_⟩
      unfold zeroValue
      rw [Sem.run_bind, run_typeInfo hq w]
      simp [hz]

theorem part_mem {t : TypeId} {cs : List V} {off : Nat} {v : V} (h : partV P t cs off = some v) (B o : Nat)
    (hc : ∀ (k : Nat) x, cs[k]? = some x → ∃ y, w.cell? ⟨B, o + k, none⟩ = some y ∧ VRel ρ F w x y) :
    ∃ y, (loadVar t ⟨B, o + off, none⟩).run P w = .ok y w ∧ VRel ρ F w v y := by
  unfold partV at h
  split at h
  · rename_i hagg
    split at h
    · rename_i n hn
      split at h
      · rename_i hle
        simp only [Option.some.injEq] at h
        subst h
        have hlen : ((cs.drop off).take n).length = n := by simp; omega
        have ex : ∃ l : List Value, l.length = n ∧ VList ρ F w ((cs.drop off).take n) l ∧ ∀ (j : Nat) y, l[j]? = some y → w.cell? ⟨B, o + off + j, none⟩ = some y := by
          clear hn
          have gen : ∀ (xs : List V) (q : Nat), (∀ (k : Nat) x, xs[k]? = some x → ∃ y, w.cell? ⟨B, q + k, none⟩ = some y ∧ VRel ρ F w x y) → ∃ l : List Value, l.length = xs.length ∧ VList ρ F w xs l ∧ ∀ (j : Nat) y, l[j]? = some y → w.cell? ⟨B, q + j, none⟩ = some y := by
            intro xs
            induction xs with
            | nil => intro q _; exact ⟨[], rfl, by simp [VList], by simp⟩
            | cons x xs ih =>
              intro q hq
              obtain ⟨y, hy, hr⟩ := hq 0 x rfl
              obtain ⟨l, hl, hv, hcell⟩ := ih (q + 1) (fun k x hk => by
                have := hq (k + 1) x (by simpa using hk)
                rwa [show q + (k + 1) = q + 1 + k by omega] at this)
              refine ⟨y :: l, by simp [hl], ?_, ?_⟩
              · simp only [VList]; exact ⟨y, l, rfl, hr, hv⟩
              · intro j z hz
                cases j with
                | zero => simp at hz; subst hz; simpa using hy
                | succ j =>
                  rw [show q + (j + 1) = q + 1 + j by omega]
                  exact hcell j z (by simpa using hz)
          obtain ⟨l, h1, h2, h3⟩ := gen ((cs.drop off).take n) (o + off) (fun k x hk => by
            rw [List.getElem?_take] at hk
            split at hk
            · rw [List.getElem?_drop] at hk
              have := hc (off + k) x hk
              rwa [show o + (off + k) = o + off + k by omega] at this
            · simp at hk)
          exact ⟨l, by rw [h1, hlen], h2, h3⟩
        obtain ⟨l, h1, h2, h3⟩ := ex
        refine ⟨.agg l.toArray, ?_, rel_mkAgg (by simpa using h2)⟩
        have hl := run_loadCells_list (P := P) w ⟨B, o + off, none⟩ l (fun j v hv => by rw [Addr.add_mid]; exact h3 j v hv)
        unfold loadVar
        rw [Sem.run_bind, run_isAgg hagg w]
        simp only [Result.andThen_ok, if_true, Sem.run_bind, run_sizeOf hn w]
        rw [← h1, hl]
        simp
      · simp at h
    · simp at h
  · rename_i hagg
    obtain ⟨y, hy, hr⟩ := hc off v h
    refine ⟨y, ?_, hr⟩
    unfold loadVar
    rw [Sem.run_bind, run_isAgg hagg w]
    simp [hy, run_load]
  · simp at h

theorem part_val {t : TypeId} {cs : List V} {off : Nat} {v : V} (h : partV P t cs off = some v) {a : Array Value} (hc : VList ρ F w cs a.toList) :
    ∃ y, (∀ w₁, (part t a off).run P w₁ = .ok y w₁) ∧ VRel ρ F w v y := by
  unfold partV at h
  split at h
  · rename_i hagg
    split at h
    · rename_i n hn
      split at h
      · rename_i hle
        simp only [Option.some.injEq] at h
        subst h
        refine ⟨.agg (a.extract off (off + n)), fun w₁ => ?_, rel_mkAgg ?_⟩
        · unfold part
          rw [Sem.run_bind, run_isAgg hagg w₁]
          simp [Sem.run_bind, run_sizeOf hn w₁]
        · have e : (a.extract off (off + n)).toList = (a.toList.drop off).take n := by
            rw [Array.toList_extract, List.extract_eq_take_drop]
            congr 1
            omega
          rw [e]
          exact (hc.drop off).take n
      · simp at h
    · simp at h
  · rename_i hagg
    obtain ⟨y, hy, hr⟩ := hc.get off v h
    refine ⟨y, fun w₁ => ?_, hr⟩
    unfold part
    rw [Sem.run_bind, run_isAgg hagg w₁]
    have : a[off]? = some y := by simpa using hy
    simp [this]
  · simp at h

theorem obj_cells {i : Nat} {so : SO} {r : Nat} {row : List V} (ho : ObjRel ρ F w i so) (hr : so.rows[r]? = some row) {B o s : Nat} (hi : ρ i = some (B, o, s)) :
    s = so.s ∧ ∀ (k : Nat) x, row[k]? = some x → ∃ y, w.cell? ⟨B, o + r * s + k, none⟩ = some y ∧ VRel ρ F w x y := by
  obtain ⟨B', o', c, e, hi', hF, hb, hR⟩ := ho
  rw [hi] at hi'
  simp only [Option.some.injEq, Prod.mk.injEq] at hi'
  obtain ⟨rfl, rfl, rfl⟩ := hi'
  refine ⟨rfl, fun k x hk => ?_⟩
  obtain ⟨-, h2⟩ := hR r row hr
  obtain ⟨y, hy, -, hx⟩ := h2 k x hk
  refine ⟨y, ?_, hx⟩
  simp [World.cell?, hb, hy]

theorem load_sound {st : St} {t : TypeId} {x v : V} {R : List Nat} {vx : Value} (h : loadV P st t x = some (v, R)) (hx : VRel ρ F w x vx)
    (ho : ∀ i ∈ R, ∃ so, st.get i = some so ∧ ObjRel ρ F w i so) : ∃ a y, vx = .pointer (some a) ∧ (loadVar t a).run P w = .ok y w ∧ VRel ρ F w v y := by
  cases x with
  | ptr i r off =>
    simp only [loadV] at h
    cases hg : st.get i with
    | none => simp [hg] at h
    | some so =>
      simp only [hg] at h
      cases hr : so.rows[r]? with
      | none => simp [hr] at h
      | some row =>
        simp only [hr] at h
        cases hp : partV P t row off with
        | none => simp [hp] at h
        | some z =>
          simp only [hp, Option.some.injEq, Prod.mk.injEq] at h
          obtain ⟨rfl, rfl⟩ := h
          obtain ⟨so', hg', hobj⟩ := ho i (by simp)
          rw [hg] at hg'
          cases hg'
          simp only [VRel] at hx
          obtain ⟨B, o, s, hi, rfl⟩ := hx
          obtain ⟨-, hc⟩ := obj_cells hobj hr hi
          obtain ⟨y, hy, hv⟩ := part_mem hp B (o + r * s) hc
          exact ⟨_, y, rfl, hy, hv⟩
  | fe cs =>
    simp only [loadV] at h
    cases hp : partV P t (cs.map .pv) 0 with
    | none => simp [hp] at h
    | some z =>
      simp only [hp, Option.some.injEq, Prod.mk.injEq] at h
      obtain ⟨rfl, rfl⟩ := h
      simp only [VRel] at hx
      obtain ⟨B, o, hF, rfl, hc⟩ := hx
      obtain ⟨y, hy, hv⟩ := part_mem (ρ := ρ) (F := F) (w := w) hp B o (fun k x hk => by
        rw [List.getElem?_map] at hk
        cases hq : cs[k]? with
        | none => simp [hq] at hk
        | some p =>
          simp only [hq, Option.map_some, Option.some.injEq] at hk
          subst hk
          obtain ⟨y, hy, -, hr⟩ := hc.get k p hq
          exact ⟨y, hy, by simpa [VRel] using hr⟩)
      exact ⟨_, y, rfl, by simpa using hy, hv⟩
  | _ => simp [loadV] at h

/-! Posts -/

theorem rle_refl (ρ : Ren) : RLe ρ ρ := fun _ _ h => h

theorem shp_same {w₁ : World} (hh : w₁.heap = w.heap) (ho : Outs w w₁) : Shp w w₁ := ⟨ho, fun B c e f h => ⟨c, by rw [hh]; exact h, rfl⟩⟩
theorem shp_new {w₁ : World} {o : Obj} (hh : w₁.heap = w.heap.push o) (ho : Outs w w₁) : Shp w w₁ := ⟨ho, fun B c e f h => ⟨c, by
  have := (Array.getElem?_eq_some_iff.1 h).1
  rw [hh, Array.getElem?_push, if_neg (by omega)]; exact h, rfl⟩⟩
theorem shp_row {w₁ : World} {B : Nat} {c c' : Array Value} {e : TypeId} {f : Nat × Nat} (hb : w.heap[B]? = some (.cells c e f)) (hb' : w₁.heap[B]? = some (.cells c' e f)) (hs : c'.size = c.size) (ho : ∀ B', B' ≠ B → w₁.heap[B']? = w.heap[B']?) (hout : Outs w w₁) : Shp w w₁ := ⟨hout, fun B' c₁ e₁ f₁ h => by
  by_cases e : B' = B
  · subst e
    rw [hb] at h
    simp only [Option.some.injEq, Obj.cells.injEq] at h
    obtain ⟨rfl, rfl, rfl⟩ := h
    exact ⟨c', hb', hs⟩
  · exact ⟨c₁, by rw [ho B' e]; exact h, rfl⟩⟩

theorem post_same {st : St} {R W : List Nat} {n : Nat} (hp : Pre ρ F w st R W n) (hwf : st.WF) {w₁ : World} (hh : w₁.heap = w.heap) (ho : Outs w w₁) : Post ρ F w st ρ F w₁ st [] where
  rle := rle_refl ρ
  rnew := fun i h => absurd rfl h
  fle := fun _ h => h
  fnew := fun _ h => .inl h
  fok := fun B h => by rw [hh]; exact hp.fok B h
  size := by rw [hh]; exact Nat.le_refl _
  shp := shp_same hh ho
  heap := fun B _ _ => by rw [hh]
  obj := fun i so hi hg => by
    rcases hi with ⟨_, hm⟩ | hi
    · cases hm
    · rw [hwf i hi] at hg; cases hg
  inj := fun i j hi hj gi gj hne => by
    rcases hi with ⟨_, hm⟩ | hi
    · cases hm
    · rw [hwf i hi] at gi; cases gi

theorem fine_same {st : St} (hwf : st.WF) : Fine st st [] := ⟨Nat.le_refl _, fun _ _ _ => rfl, hwf⟩

theorem ext_same {w₁ : World} (hh : w₁.heap = w.heap) (ho : Outs w w₁) : Ext F w F w₁ := ⟨fun _ h => h, fun B _ => by rw [hh], shp_same hh ho⟩

def upd (ρ : Ren) (i : Nat) (x : Nat × Nat × Nat) : Ren := fun j => if j = i then some x else ρ j

theorem upd_same (ρ : Ren) (i : Nat) (x : Nat × Nat × Nat) : upd ρ i x i = some x := by simp [upd]
theorem upd_ne {ρ : Ren} {i j : Nat} {x : Nat × Nat × Nat} (h : j ≠ i) : upd ρ i x j = ρ j := by simp [upd, h]
theorem rle_upd {ρ : Ren} {i : Nat} {x : Nat × Nat × Nat} (h : ρ i = none) : RLe ρ (upd ρ i x) := by
  intro j y hj
  by_cases e : j = i
  · subst e; rw [h] at hj; cases hj
  · rw [upd_ne e]; exact hj

theorem ext_new {w₁ : World} {o : Obj} (hf : ∀ B, F B → B < w.heap.size) (hh : w₁.heap = w.heap.push o) (ho : Outs w w₁) : Ext F w F w₁ :=
  ⟨fun _ h => h, fun B hB => by rw [hh, Array.getElem?_push]; have := hf B hB; rw [if_neg (by omega)], shp_new hh ho⟩

theorem fine_new {st : St} (hwf : st.WF) (so : SO) : Fine st (st.new so) [] where
  next := Nat.le_succ _
  same := fun i hi _ => by simp [St.new]; intro h; omega
  wf := fun i hi => by
    have hi' : st.next + 1 ≤ i := hi
    have : i ≠ st.next := by omega
    simp [St.new, this]
    exact hwf i (by omega)

/-- A new object: its cells are said in the old world. -/
theorem post_new {st : St} {R W : List Nat} {n : Nat} (hp : Pre ρ F w st R W n) (hn : st.next < n) (hwf : st.WF) {w₁ : World} {c : Array Value} {e : TypeId} {so : SO}
    (hh : w₁.heap = w.heap.push (.cells c e (0, 0))) (ho : Outs w w₁) (hR : ORows ρ F w c so.s 0 so.rows) :
    Post ρ F w st (upd ρ st.next (w.heap.size, 0, so.s)) F w₁ (st.new so) [] := by
  have hfr : ρ st.next = none := hp.fresh _ (Nat.le_refl _) hn
  have hr := rle_upd (x := (w.heap.size, 0, so.s)) hfr
  have he : Ext F w F w₁ := ext_new hp.fok hh ho
  refine ⟨hr, fun i hi => ?_, fun _ h => h, fun _ h => .inl h, fun B h => ?_, ?_, shp_new hh ho, fun B hB _ => ?_, fun i so' hi hg => ?_, fun i j hi hj gi gj hne => ?_⟩
  · by_cases e : i = st.next
    · subst e; exact ⟨Nat.le_refl _, Nat.lt_succ_self _⟩
    · rw [upd_ne e] at hi; exact absurd rfl hi
  · rw [hh]; have := hp.fok B h; simp; omega
  · rw [hh]; simp
  · rw [hh, Array.getElem?_push, if_neg (by omega)]
  · have hi : st.next ≤ i := by
      rcases hi with ⟨_, hm⟩ | hi
      · cases hm
      · exact hi
    have : i = st.next := by
      by_cases e : i = st.next
      · exact e
      · simp only [St.new, e, if_false] at hg
        rw [hwf i hi] at hg; cases hg
    subst this
    simp only [St.new, if_true, Option.some.injEq] at hg
    subst hg
    refine ⟨⟨w.heap.size, 0, c, e, upd_same _ _ _, fun h => Nat.lt_irrefl _ (hp.fok _ h), by rw [hh]; simp, fun r row hrow => ?_⟩, fun B hB => ?_⟩
    · obtain ⟨h1, h2⟩ := hR r row hrow
      refine ⟨h1, fun k x hx => ?_⟩
      obtain ⟨v, hv, h1, hx⟩ := h2 k x hx
      exact ⟨v, hv, h1, VRel.mono he hr x v hx⟩
    · simp [blk, upd_same] at hB
      exact .inl (by omega)
  · have e1 : i = st.next := by
      by_cases e : i = st.next
      · exact e
      · rcases hi with ⟨_, hm⟩ | hi
        · cases hm
        · simp only [St.new, e, if_false] at gi
          rw [hwf i hi] at gi; cases gi
    have e2 : j = st.next := by
      by_cases e : j = st.next
      · exact e
      · rcases hj with ⟨_, hm⟩ | hj
        · cases hm
        · simp only [St.new, e, if_false] at gj
          rw [hwf j hj] at gj; cases gj
    exact absurd (e1.trans e2.symm) hne

theorem ocells_of {row : List V} {c : List Value} (h : VList ρ F w row c) (h1 : row.all V.cell1 = true) : OCells ρ F w c.toArray 0 row := by
  intro k x hk
  obtain ⟨v, hv, hr⟩ := h.get k x hk
  exact ⟨v, by simpa using hv, rel_cell1 hr (List.all_eq_true.1 h1 x (List.mem_of_getElem? hk)), hr⟩

theorem orows_one {row : List V} {c : Array Value} (h : VList ρ F w row c.toList) (h1 : row.all V.cell1 = true) : ORows ρ F w c row.length 0 [row] := by
  intro r row' hr
  cases r with
  | zero =>
    simp at hr
    subst hr
    have := ocells_of h h1
    simp only [Array.toArray_toList] at this
    exact ⟨rfl, by simpa using this⟩
  | succ r => simp at hr

/-- The cells of one object change. -/
theorem post_store {st : St} {R W : List Nat} {n : Nat} (hp : Pre ρ F w st R W n) (hwf : st.WF) {i B o s : Nat} {so so' : SO} (hlt : i < st.next) (hm : i ∈ W) (hg : st.get i = some so) (hi : ρ i = some (B, o, s))
    {w₁ : World} {c₀ c' : Array Value} {e : TypeId} (hF : ¬ F B) (hw₀ : w.heap[B]? = some (.cells c₀ e (0, 0))) (hcs : c'.size = c₀.size) (hw : w₁.heap[B]? = some (.cells c' e (0, 0))) (hs : so'.s = s) (hsize : w₁.heap.size = w.heap.size) (hB : B < w.heap.size)
    (hother : ∀ B', B' ≠ B → w₁.heap[B']? = w.heap[B']?) (hout : Outs w w₁) (hR : ORows ρ F w c' s o so'.rows) :
    Post ρ F w st ρ F w₁ (st.set i so') [i] := by
  have hshp := shp_row hw₀ hw hcs hother hout
  have he : Ext F w F w₁ := ⟨fun _ h => h, fun B' hB' => hother B' (fun e => hF (e ▸ hB')), hshp⟩
  refine ⟨rle_refl ρ, fun i h => absurd rfl h, fun _ h => h, fun _ h => .inl h, fun B h => by rw [hsize]; exact hp.fok B h, by rw [hsize]; exact Nat.le_refl _, hshp, fun B' _ h => ?_, fun j so'' hj hgj => ?_, fun j k hj hk gj gk hne => ?_⟩
  · refine hother B' (fun e => h i hlt (by simp) ?_)
    simp [blk, hi, e]
  · have : j = i := by
      rcases hj with ⟨_, hm⟩ | hj
      · simpa using hm
      · by_cases e : j = i
        · exact e
        · simp only [St.set, e, if_false] at hgj
          rw [hwf j hj] at hgj; cases hgj
    subst this
    simp only [St.set, if_true, Option.some.injEq] at hgj
    subst hgj
    refine ⟨⟨B, o, c', e, by rw [hi, hs], hF, hw, fun r row hrow => ?_⟩, fun B' hB' => .inr ⟨j, hlt, by simp, hB'⟩⟩
    rw [hs]
    obtain ⟨h1, h2⟩ := hR r row hrow
    refine ⟨h1, fun k x hx => ?_⟩
    obtain ⟨v, hv, h1, hx⟩ := h2 k x hx
    exact ⟨v, hv, h1, VRel.mono he (rle_refl ρ) x v hx⟩
  · have e1 : j = i := by
      rcases hj with ⟨_, hm⟩ | hj
      · simpa using hm
      · by_cases e : j = i
        · exact e
        · simp only [St.set, e, if_false] at gj
          rw [hwf j hj] at gj; cases gj
    have e2 : k = i := by
      rcases hk with ⟨_, hm⟩ | hk
      · simpa using hm
      · by_cases e : k = i
        · exact e
        · simp only [St.set, e, if_false] at gk
          rw [hwf k hk] at gk; cases gk
    exact absurd (e1.trans e2.symm) hne

theorem fine_set {st : St} (hwf : st.WF) {i : Nat} (hi : i < st.next) (so : SO) : Fine st (st.set i so) [i] where
  next := Nat.le_refl _
  same := fun j hj h => by
    have : j ≠ i := by simpa using h
    simp [St.set, this]
  wf := fun j hj => by
    have hj' : st.next ≤ j := hj
    have : j ≠ i := by omega
    simp [St.set, this]
    exact hwf j hj'

theorem get_lt {st : St} (hwf : st.WF) {i : Nat} {so : SO} (h : st.get i = some so) : i < st.next := by
  rcases Nat.lt_or_ge i st.next with h' | h'
  · exact h'
  · rw [hwf i h'] at h; cases h

theorem setAt_get {cs xs : List V} {off k : Nat} (h : off + xs.length ≤ cs.length) :
    (setAt cs off xs)[k]? = if off ≤ k ∧ k < off + xs.length then xs[k - off]? else cs[k]? := by
  unfold setAt
  by_cases h1 : k < off
  · rw [if_neg (by omega), List.append_assoc, List.getElem?_append_left (by simp; omega), List.getElem?_take, if_pos h1]
  · by_cases h2 : k < off + xs.length
    · rw [if_pos ⟨by omega, h2⟩, List.append_assoc, List.getElem?_append_right (by simp; omega), List.getElem?_append_left (by simp; omega)]
      congr 1
      simp; omega
    · rw [if_neg (by omega), List.getElem?_append_right (by simp; omega), List.getElem?_drop]
      congr 1
      simp; omega

theorem setAt_length {cs xs : List V} {off : Nat} (h : off + xs.length ≤ cs.length) : (setAt cs off xs).length = cs.length := by
  unfold setAt
  simp
  omega

/-- The cells of a block with some of them written. -/
def wr (c : Array Value) (q : Nat) (xs : List Value) : Array Value := (c.toList.take q ++ xs ++ c.toList.drop (q + xs.length)).toArray

theorem wr_get {c : Array Value} {q : Nat} {xs : List Value} (h : q + xs.length ≤ c.size) (k : Nat) : (wr c q xs)[k]? = if q ≤ k ∧ k < q + xs.length then xs[k - q]? else c[k]? := by
  unfold wr
  rw [List.getElem?_toArray]
  by_cases h1 : k < q
  · rw [if_neg (by omega), List.append_assoc, List.getElem?_append_left (by simp; omega), List.getElem?_take, if_pos h1]; simp
  · by_cases h2 : k < q + xs.length
    · rw [if_pos ⟨by omega, h2⟩, List.append_assoc, List.getElem?_append_right (by simp; omega), List.getElem?_append_left (by simp; omega)]
      congr 1
      simp; omega
    · rw [if_neg (by omega), List.getElem?_append_right (by simp; omega), List.getElem?_drop]
      simp
      congr 1
      omega

theorem store_run {B q : Nat} {c : Array Value} {e : TypeId} {t : TypeId} {x : Value} (hb : w.heap[B]? = some (.cells c e (0, 0))) (hs : tySize P t = some x.cells.size) (hq : q + x.cells.size ≤ c.size)
    (h1 : ∀ v ∈ x.cells.toList, v.oneCell' = true) : (storeVar t ⟨B, q, none⟩ x).run P w = .ok () (w.setRow B (wr c q x.cells.toList)) := by
  unfold storeVar
  rw [Sem.run_bind, run_sizeOf hs w]
  simp only [Result.andThen_ok, ne_eq, not_true, if_false]
  have := run_storeCells_at P B q e x.cells.toList 0 c w hb (by simpa using hq) h1
  simpa [wr] using this

end

end Go.Proofs.Ytfieppbehmglbaa.Ve
