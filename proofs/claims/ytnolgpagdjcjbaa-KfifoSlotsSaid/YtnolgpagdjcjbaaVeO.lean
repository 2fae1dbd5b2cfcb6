import Derived.Test.YtnolgpagdjcjbaaVeH
/-! append. -/
set_option linter.unusedVariables false
set_option linter.unusedSimpArgs false
namespace Go.Proofs.Ytnolgpagdjcjbaa.Ve
open Go

section
variable {P : Program} {ρ ρ' : Ren} {F F' : Nat → Prop} {w w' : World}

theorem Post.kill {st st' : St} {W : List Nat} (h : Post ρ F w st ρ' F' w' st' W) (i : Nat) : Post ρ F w st ρ' F' w' (st'.kill i) (i :: W) where
  rle := h.rle
  rnew := h.rnew
  fle := h.fle
  fnew := fun B hB => (h.fnew B hB).imp id (Or.imp id fun ⟨j, h1, h2, h3⟩ => ⟨j, h1, by simp [h2], h3⟩)
  fok := h.fok
  size := h.size
  shp := h.shp
  heap := fun B hB hW => h.heap B hB fun j hj hm => hW j hj (by simp [hm])
  obj := fun j so hj hg => by
    have hne : j ≠ i := by
      intro e
      simp [St.kill, e] at hg
    simp only [St.kill, hne, if_false] at hg
    obtain ⟨h1, h2⟩ := h.obj j so (hj.imp (fun ⟨a, b⟩ => ⟨a, by simpa [hne] using b⟩) id) hg
    exact ⟨h1, fun B hB => (h2 B hB).imp id fun ⟨k, k1, k2, k3⟩ => ⟨k, k1, by simp [k2], k3⟩⟩
  inj := fun j k hj hk gj gk hne => by
    have hj' : j ≠ i := by intro e; simp [St.kill, e] at gj
    have hk' : k ≠ i := by intro e; simp [St.kill, e] at gk
    simp only [St.kill, hj', hk', if_false] at gj gk
    exact h.inj j k (hj.imp (fun ⟨a, b⟩ => ⟨a, by simpa [hj'] using b⟩) id) (hk.imp (fun ⟨a, b⟩ => ⟨a, by simpa [hk'] using b⟩) id) gj gk hne

theorem Fine.kill {st st' : St} {W : List Nat} (h : Fine st st' W) (i : Nat) : Fine st (st'.kill i) (i :: W) where
  next := h.next
  same := fun j hj hm => by
    simp at hm
    simp [St.kill, hm.1]
    exact h.same j hj hm.2
  wf := fun j hj => by
    by_cases e : j = i
    · simp [St.kill, e]
    · simp [St.kill, e]; exact h.wf j hj

theorem growBy_le (n : Nat) : ∀ (k c : Nat), c < n → Builtin.growBy n k c ≤ n + (n + 768) / 4
  | 0, c, h => by simp only [Builtin.growBy]; omega
  | k + 1, c, h => by
    simp only [Builtin.growBy]
    rw [if_neg (by omega)]
    by_cases h2 : c + (c + 768) / 4 < n
    · exact growBy_le n k _ h2
    · cases k with
      | zero => simp only [Builtin.growBy]; omega
      | succ k => simp only [Builtin.growBy]; rw [if_pos (by omega)]; omega

theorem nextcap_le {n c : Nat} (h : c < n) : Builtin.nextslicecap n c ≤ 2 * n + 192 := by
  unfold Builtin.nextslicecap
  split
  · omega
  · split
    · omega
    · have := growBy_le n 4 c h
      omega

theorem cap_ok {n b cap : Nat} (hn : n * (b + 1) ≤ 2 ^ 40) (hc : cap < n) : ¬ (Builtin.nextslicecap n cap * b > 2 ^ 48) := by
  have h1 := nextcap_le hc
  have h2 : Builtin.nextslicecap n cap * b ≤ (2 * n + 192) * b := Nat.mul_le_mul_right b h1
  have h3 : (2 * n + 192) * b = 2 * (n * b) + 192 * b := by rw [Nat.add_mul, Nat.mul_assoc]
  have h4 : n * (b + 1) = n * b + n := by rw [Nat.mul_add, Nat.mul_one]
  have h5 : b ≤ n * b := Nat.le_mul_of_pos_left b (by omega)
  omega

theorem run_askRoom (n : Nat) (w₁ : World) : (askRoom n).run P w₁ = .ok () w₁ := by
  unfold askRoom
  split <;> rfl

/-- append grows: a new block. -/
theorem append_grows {t xt ty elem : TypeId} {base : Option Addr} {sLen cap n : Nat} {vx : Value} {old l : List Value} {info : TypeInfo} {z : V}
    (hu : P.underlying t = some (.slice elem)) (hxt : ∃ e, P.underlying xt = some (.slice e)) (hi : P.info? elem = some info) (hz : zeroV P elem = some z)
    (hlen : (Builtin.lenOf vx).run P w = .ok n w) (hold : ∀ w₁ : World, w₁.heap = w.heap → (Builtin.firstCells info.size sLen (.slice base sLen cap)).run P w₁ = .ok old.toArray w₁)
    (hnew : ∀ w₁ : World, w₁.heap = w.heap → (Builtin.firstCells info.size n vx).run P w₁ = .ok l.toArray w₁) (hcap : cap < sLen + n) (hb : (sLen + n) * (info.bytes + 1) ≤ 2 ^ 40) :
    ∃ w₁ c nc x, info.zero = some x ∧ z = ofValue x ∧ (Builtin.append_ #[t, xt] ty #[.slice base sLen cap, vx]).run P w = .ok (.slice (some ⟨w.heap.size, 0, none⟩) (sLen + n) nc) w₁ ∧ w₁.heap = w.heap.push (.cells (old ++ l ++ c).toArray elem (0, 0)) ∧ Outs w w₁ ∧ sLen + n ≤ nc ∧ c.length = (nc - (sLen + n)) * x.cells.size := by
  obtain ⟨i, x0, hi', hiz, rfl, hrun⟩ := run_zeroValue hz
  rw [hi] at hi'
  cases hi'
  obtain ⟨e, hxt⟩ := hxt
  have hnc : ∀ q : Nat, sLen + n ≤ (Question.appendCap (sLen + n) cap elem).cut q := by intro q; simp only [Question.cut]; omega
  have hle : sLen + n ≤ 2 ^ 40 := Nat.le_trans (Nat.le_mul_of_pos_right _ (by omega)) hb
  have t1 : ¬ (sLen + n ≤ cap) := by omega
  have t2 : ¬ ((sLen + n : Nat) : Int) > IntKind.i64.max := by
    have : IntKind.i64.max = 9223372036854775807 := by decide
    rw [this]; omega
  refine ⟨(w.drew).alloc (.cells (old ++ l ++ (Builtin.zeroCells x0.cells ((Question.appendCap (sLen + n) cap elem).cut (w.tape w.drawn (.appendCap (sLen + n) cap elem)) - (sLen + n))).toList).toArray elem), (Builtin.zeroCells x0.cells ((Question.appendCap (sLen + n) cap elem).cut (w.tape w.drawn (.appendCap (sLen + n) cap elem)) - (sLen + n))).toList, (Question.appendCap (sLen + n) cap elem).cut (w.tape w.drawn (.appendCap (sLen + n) cap elem)), x0, hiz, rfl, ?_, rfl, ⟨rfl, rfl, rfl⟩, hnc _, ?_⟩
  · have hz1 : ∀ w₁ : World, (underlying xt).run P w₁ = .ok (.slice e) w₁ := fun w₁ => run_underlying hxt w₁
    have hch : (choose (.appendCap (sLen + n) cap elem)).run P w = .ok ((Question.appendCap (sLen + n) cap elem).cut (w.tape w.drawn (.appendCap (sLen + n) cap elem))) w.drew := rfl
    have t2' : ¬ (((sLen + n : Nat) : Int) > IntKind.i64.max ∧ (False ∨ info.bytes = 0)) := fun h => t2 h.1
    have h63 : ¬ (9223372036854775807 < ((sLen : Int) + (n : Int))) := by omega
    have h48 : ¬ (281474976710656 < Builtin.nextslicecap (sLen + n) cap * info.bytes) := by have := cap_ok hb hcap; omega
    have o1 := hold w.drew rfl
    have o2 := hnew w.drew rfl
    simp [Builtin.append_, run_underlying hu, run_underlying hxt, sizeOf, typeInfo, zeroValue, hi, hiz, hlen, t1, h63, h48, Question.forced, o1, o2, newRow]
    congr 2
    apply Array.ext'
    simp
  · simp [Builtin.zeroCells]

/-- append in place. -/
theorem append_room {t xt ty elem : TypeId} {B a sLen cap n : Nat} {vx : Value} {l : List Value} {info : TypeInfo} {c : Array Value} {e : TypeId}
    (hu : P.underlying t = some (.slice elem)) (hxt : ∃ e, P.underlying xt = some (.slice e)) (hi : P.info? elem = some info)
    (hlen : (Builtin.lenOf vx).run P w = .ok n w) (hnew : (Builtin.firstCells info.size n vx).run P w = .ok l.toArray w) (hl : l.length = n * info.size) (h1 : ∀ v ∈ l, v.oneCell' = true)
    (hcap : sLen + n ≤ cap) (hb : w.heap[B]? = some (.cells c e (0, 0))) (hfit : a + cap * info.size ≤ c.size) :
    (Builtin.append_ #[t, xt] ty #[.slice (some ⟨B, a, none⟩) sLen cap, vx]).run P w = .ok (.slice (some ⟨B, a, none⟩) (sLen + n) cap) (w.setRow B (wr c (a + sLen * info.size) l)) := by
  obtain ⟨e', hxt⟩ := hxt
  have hle : sLen * info.size + l.length ≤ cap * info.size := by
    rw [hl, ← Nat.add_mul]
    exact Nat.mul_le_mul_right _ hcap
  have hst := run_storeCells_at P B (a + sLen * info.size) e l 0 c w hb (by omega) h1
  simp only [Nat.add_zero] at hst
  simp [Builtin.append_, run_underlying hu, run_underlying hxt, sizeOf, typeInfo, hi, hlen, hcap, hnew, Addr.add_mid, hst, wr]

theorem orows_append {c : Array Value} {s : Nat} {old rows : List (List V)} (h1 : ∀ (r : Nat) row, old[r]? = some row → row.length = s ∧ ∀ (k : Nat) y, row[k]? = some y → ∃ v, c[r * s + k]? = some v ∧ v.oneCell' = true ∧ VRel ρ F w y v)
    (h2 : ∀ (r : Nat) row, rows[r]? = some row → row.length = s ∧ ∀ (k : Nat) y, row[k]? = some y → ∃ v, c[(old.length + r) * s + k]? = some v ∧ v.oneCell' = true ∧ VRel ρ F w y v) : ORows ρ F w c s 0 (old ++ rows) := by
  intro r row hr
  by_cases hlt : r < old.length
  · rw [List.getElem?_append_left hlt] at hr
    obtain ⟨g1, g2⟩ := h1 r row hr
    exact ⟨g1, fun k y hk => by simpa using g2 k y hk⟩
  · rw [List.getElem?_append_right (by omega)] at hr
    obtain ⟨g1, g2⟩ := h2 _ row hr
    refine ⟨g1, fun k y hk => ?_⟩
    have := g2 k y hk
    rw [show old.length + (r - old.length) = r by omega] at this
    simpa using this

theorem post_place {st : St} {R W : List Nat} {n : Nat} (hp : Pre ρ F w st R W n) (hn : st.next < n) (hwf : st.WF) {i B o s : Nat} (hlt : i < st.next) (hi : ρ i = some (B, o, s))
    {w₁ : World} {c₀ c' : Array Value} {e : TypeId} (hF : ¬ F B) (hw₀ : w.heap[B]? = some (.cells c₀ e (0, 0))) (hcs : c'.size = c₀.size) (hw : w₁.heap[B]? = some (.cells c' e (0, 0))) (hsize : w₁.heap.size = w.heap.size)
    (hother : ∀ B', B' ≠ B → w₁.heap[B']? = w.heap[B']?) (hout : Outs w w₁) {a : Nat} {so' : SO} (hR : ORows ρ F w c' so'.s a so'.rows) :
    Post ρ F w st (upd ρ st.next (B, a, so'.s)) F w₁ ((st.new so').kill i) [i] := by
  have hfr : ρ st.next = none := hp.fresh _ (Nat.le_refl _) hn
  have hr := rle_upd (x := (B, a, so'.s)) hfr
  have hshp := shp_row hw₀ hw hcs hother hout
  have he : Ext F w F w₁ := ⟨fun _ h => h, fun B' hB' => hother B' (fun e => hF (e ▸ hB')), hshp⟩
  have honly : ∀ j, (j < st.next ∧ j ∈ [i] ∨ st.next ≤ j) → (((st.new so').kill i).get j).isSome → j = st.next := by
    intro j hj hg
    have hne : j ≠ i := by intro e; simp [St.kill, e] at hg
    rcases hj with ⟨_, hm⟩ | hj
    · exact absurd (by simpa using hm) hne
    · by_cases e : j = st.next
      · exact e
      · simp only [St.kill, St.new, hne, e, if_false] at hg
        rw [hwf j hj] at hg
        cases hg
  have hnext : ((st.new so').kill i).get st.next = some so' := by
    have : st.next ≠ i := by omega
    simp [St.kill, St.new, this]
  refine ⟨hr, fun j hj => ?_, fun _ h => h, fun _ h => .inl h, fun B h => by rw [hsize]; exact hp.fok B h, by rw [hsize]; exact Nat.le_refl _, hshp, fun B' _ h => ?_, fun j so'' hj hg => ?_, fun j k hj hk gj gk hne => ?_⟩
  · by_cases e : j = st.next
    · subst e; exact ⟨Nat.le_refl _, Nat.lt_succ_self _⟩
    · rw [upd_ne e] at hj; exact absurd rfl hj
  · exact hother B' (fun e => h i hlt (by simp) (by simp [blk, hi, e]))
  · have := honly j hj (by rw [hg]; rfl)
    subst this
    rw [hnext] at hg
    simp only [Option.some.injEq] at hg
    subst hg
    refine ⟨⟨B, a, c', e, upd_same _ _ _, hF, hw, fun r row hrow => ?_⟩, fun B' hB' => .inr ⟨i, hlt, by simp, ?_⟩⟩
    · obtain ⟨h1, h2⟩ := hR r row hrow
      refine ⟨h1, fun k x hx => ?_⟩
      obtain ⟨v, hv, h1, hx⟩ := h2 k x hx
      exact ⟨v, hv, h1, VRel.mono he hr x v hx⟩
    · simp [blk, upd_same] at hB'
      simp [blk, hi, hB']
  · exact absurd ((honly j hj gj).trans (honly k hk gk).symm) hne

theorem lenOf_slice (a : Option Addr) (n cap : Nat) : (Builtin.lenOf (.slice a n cap)).run P w = .ok n w := by simp [Builtin.lenOf]

theorem append_sound {ev : Operand → Value} {o : Oper} {st st' : St} {R W R' W' : List Nat} {at_ : Array TypeId} {ty : TypeId} {sv xv v : V} {s x : Value}
    (hs : ∃ m : Sem Value, execOp ev o = (do pure (.value (← m))) ∧ m = Builtin.append_ at_ ty #[s, x])
    (h : appendV P st at_ sv xv = some (v, st', R', W')) (hp : Pre ρ F w st R' W' st'.next) (hwf : st.WF) (hsv : VRel ρ F w sv s) (hxv : VRel ρ F w xv x) : OpRes P ev o ρ F w st v st' W' ∧ Fine st st' W' := by
  obtain ⟨m, hm, rfl⟩ := hs
  unfold appendV at h
  split at h
  · rename_i t ht
    split at h
    · rename_i xt hxt
      split at h
      · rename_i elem he
        have hu := sliceElem_eq he
        split at h
        · rename_i xe hxe
          have hux : ∃ e, P.underlying xt = some (.slice e) := ⟨xe, sliceElem_eq hxe⟩
          split at h
          · rename_i info hi
            split at h
            · rename_i z hz
              split at h
              · simp at h
              · rename_i hzl
                have hzl : z.cells.length = info.size := by simpa using hzl
                have eat : Builtin.append_ at_ ty #[s, x] = Builtin.append_ #[t, xt] ty #[s, x] := by
                  unfold Builtin.append_
                  simp only [ht, hxt, List.getElem?_toArray, List.getElem?_cons_zero, List.getElem?_cons_succ]
                split at h
                · rename_i rows R0 hsrc
                  have hsub : ∀ (R1 : List Nat), (∀ i ∈ R1, i ∈ R') → ∀ i ∈ R1, (∃ so, st.get i = some so) → ∃ so, st.get i = some so ∧ ObjRel ρ F w i so := by
                    intro R1 hR1 i hi ⟨so, hso⟩
                    exact hp.obj i (get_lt hwf hso) (.inl (hR1 i hi))
                  have hlive : ∀ (y : V) (q : List (List V)) (R1 : List Nat), srcRows st info.size y = some (q, R1) → ∀ i ∈ R1, ∃ so, st.get i = some so := by
                    intro y q R1 hq i hi
                    unfold srcRows at hq
                    split at hq
                    · simp only [Option.some.injEq, Prod.mk.injEq] at hq; obtain ⟨-, rfl⟩ := hq; cases hi
                    · split at hq
                      · simp only [Option.some.injEq, Prod.mk.injEq] at hq; obtain ⟨-, rfl⟩ := hq; cases hi
                      · simp at hq
                    · split at hq
                      · rename_i so hso
                        split at hq
                        · simp only [Option.some.injEq, Prod.mk.injEq] at hq
                          obtain ⟨-, rfl⟩ := hq
                          simp only [List.mem_singleton] at hi
                          subst hi
                          exact ⟨so, hso⟩
                        · simp at hq
                      · simp at hq
                    · simp at hq
                  split at h
                  · -- nothing is added
                    have hRR : R' = R0 ∧ v = sv ∧ st' = st ∧ W' = [] ∧ (sv = .nl ∨ ∃ i q r len, sv = .ow i q r len) := by
                      split at h
                      · simp only [Option.some.injEq, Prod.mk.injEq] at h; exact ⟨h.2.2.1.symm, h.1.symm, h.2.1.symm, h.2.2.2.symm, .inl rfl⟩
                      · simp only [Option.some.injEq, Prod.mk.injEq] at h; exact ⟨h.2.2.1.symm, h.1.symm, h.2.1.symm, h.2.2.2.symm, .inr ⟨_, _, _, _, rfl⟩⟩
                      · simp at h
                    obtain ⟨rfl, rfl, rfl, rfl, hshape⟩ := hRR
                    obtain ⟨a, cap, rfl, l, hl, hfc, hl1, -⟩ := src_sound (P := P) hsrc hxv (fun i hi => hsub R' (fun _ h => h) i hi (hlive _ _ _ hsrc i hi))
                    simp only [List.length_nil, Nat.zero_mul] at hl
                    have hl0 : l = [] := List.eq_nil_of_length_eq_zero hl
                    subst hl0
                    have hfc0 := hfc w rfl
                    have hrun : (Builtin.append_ at_ ty #[s, .slice a ([] : List (List V)).length cap]).run P w = .ok s w := by
                      rw [eat]
                      obtain ⟨xe', hux⟩ := hux
                      simp only [List.length_nil] at hfc0 ⊢
                      rcases hshape with rfl | ⟨i, q, r, len, rfl⟩
                      · simp only [VRel] at hsv
                        subst hsv
                        simp [Builtin.append_, run_underlying hu, run_underlying hux, sizeOf, typeInfo, hi, Builtin.lenOf, hfc0]
                      · simp only [VRel] at hsv
                        obtain ⟨B, o', a', cap', -, rfl, hle, -⟩ := hsv
                        simp [Builtin.append_, run_underlying hu, run_underlying hux, sizeOf, typeInfo, hi, Builtin.lenOf, hfc0, hle, storeCells]
                    exact ⟨opres_quiet hp hwf (exec_value hm hrun) hsv, fine_same hwf⟩
                  · rename_i row0 rows0
                    split at h
                    · -- to nil
                      split at h
                      · rename_i hb
                        simp only [Option.some.injEq, Prod.mk.injEq] at h
                        obtain ⟨rfl, rfl, rfl, rfl⟩ := h
                        obtain ⟨a, cap, rfl, l, hl, hfc, hl1, hrows⟩ := src_sound (P := P) hsrc hxv (fun i hi => hsub R0 (fun _ h => h) i hi (hlive _ _ _ hsrc i hi))
                        simp only [VRel] at hsv
                        subst hsv
                        obtain ⟨w₁, c, nc, x0, hz0, hzv, hrun, hh, hout, hnc, hcl⟩ := append_grows (ty := ty) (old := []) (sLen := 0) (cap := 0) (base := none) hu hux hi hz (lenOf_slice _ _ _) (fun w₁ _ => by simp [Builtin.firstCells]) hfc (by simp) (by simpa using hb)
                        rw [← eat] at hrun
                        have hx0 : x0.cells.size = info.size := by
                          have := (rel_cells (ρ := ρ) (F := F) (w := w) (rel_ofValue x0)).length
                          rw [← hzv, hzl] at this
                          simpa using this
                        refine ⟨⟨_, _, _, _, .inl (exec_value hm hrun), ?_, post_new hp (Nat.lt_succ_self _) hwf (so := ⟨info.size, row0 :: rows0⟩) hh hout ?_⟩, fine_new hwf _⟩
                        · simp only [Nat.zero_add]
                          refine mem_slice_rel (upd_same _ _ _) (by simpa using hnc) (roomy_new hh (show nc * info.size ≤ _ from ?_))
                          simp only [Nat.zero_add] at hcl hnc
                          simp only [List.nil_append, List.size_toArray, List.length_append, hl, hcl, hx0]
                          rw [← Nat.add_mul]
                          exact Nat.mul_le_mul_right _ (by omega)
                        · have := orows_append (ρ := ρ) (F := F) (w := w) (c := ([] ++ l ++ c).toArray) (s := info.size) (old := []) (rows := row0 :: rows0) (by simp) (fun r row hr => by
                            obtain ⟨g1, g2⟩ := hrows r row hr
                            refine ⟨g1, fun k y hk => ?_⟩
                            obtain ⟨v, hv, hvr⟩ := g2 k y hk
                            have hlt := (List.getElem?_eq_some_iff.1 hv).1
                            refine ⟨v, ?_, hl1 v (List.mem_of_getElem? hv), hvr⟩
                            simp only [List.length_nil, Nat.zero_add, List.nil_append, List.getElem?_toArray]
                            rw [List.getElem?_append_left hlt]
                            exact hv)
                          simpa using this
                      · simp at h
                    · -- to a slice of its own
                      rename_i i q r len
                      split at h
                      · rename_i old R1 hold
                        split at h
                        · rename_i hb
                          simp only [Option.some.injEq, Prod.mk.injEq] at h
                          obtain ⟨rfl, rfl, rfl, rfl⟩ := h
                          obtain ⟨a, cap, rfl, l, hl, hfc, hl1, hrows⟩ := src_sound (P := P) hsrc hxv (fun i hi => hsub R0 (fun _ h => by simp [h]) i hi (hlive _ _ _ hsrc i hi))
                          obtain ⟨a', cap', rfl, l', hl', hfc', hl1', hrows'⟩ := src_sound (P := P) hold hsv (fun i hi => hsub R1 (fun _ h => by simp [h]) i hi (hlive _ _ _ hold i hi))
                          have hsv' := hsv
                          simp only [VRel] at hsv'
                          obtain ⟨B, o', a0, cap0, hρi, heq, hlc, hca, hq⟩ := hsv'
                          simp only [Value.slice.injEq] at heq
                          obtain ⟨rfl, hlen, rfl⟩ := heq
                          have hi1 : i ∈ R1 := by
                            unfold srcRows at hold
                            simp only at hold
                            split at hold
                            · split at hold
                              · simp only [Option.some.injEq, Prod.mk.injEq] at hold; rw [← hold.2]; simp
                              · simp at hold
                            · simp at hold
                          obtain ⟨so, hgi, hobj⟩ := hsub R1 (fun _ h => by simp [h]) i hi1 (hlive _ _ _ hold i hi1)
                          have hlti := get_lt hwf hgi
                          have hqs : q = info.size ∧ so.s = info.size := by
                            unfold srcRows at hold
                            simp only [hgi] at hold
                            split at hold
                            · rename_i hc
                              obtain ⟨B', o'', c', e', hρ', -⟩ := hobj
                              rw [hρi] at hρ'
                              simp only [Option.some.injEq, Prod.mk.injEq] at hρ'
                              exact ⟨hρ'.2.2.trans hc.1, hc.1⟩
                            · simp at hold
                          obtain ⟨rfl, hsos⟩ := hqs
                          subst hlen
                          have hrowsl : (row0 :: rows0).length ≠ 0 := by simp
                          by_cases hroom : old.length + (row0 :: rows0).length ≤ cap'
                          · -- in place
                            obtain ⟨c, e, hbk, hfit⟩ := hq
                            have hrun := append_room (P := P) (ty := ty) (sLen := old.length) hu hux hi (lenOf_slice (w := w) a (row0 :: rows0).length cap) (hfc w rfl) hl hl1 hroom hbk hfit
                            rw [← eat] at hrun
                            have hcap0 : cap' ≠ 0 := by omega
                            have ha0 : a0 = o' + r * info.size := by
                              rcases hca with h0 | h0
                              · exact absurd h0 hcap0
                              · exact h0
                            obtain ⟨B', o'', c2, e2, hρ', hF', hbk', hR'⟩ := hobj
                            rw [hρi] at hρ'
                            simp only [Option.some.injEq, Prod.mk.injEq] at hρ'
                            obtain ⟨rfl, rfl, -⟩ := hρ'
                            rw [hbk] at hbk'
                            simp only [Option.some.injEq, Obj.cells.injEq, and_true] at hbk'
                            obtain ⟨rfl, rfl⟩ := hbk'
                            have hle : old.length * info.size + l.length ≤ cap' * info.size := by
                              rw [hl, ← Nat.add_mul]
                              exact Nat.mul_le_mul_right _ hroom
                            have hwl : a0 + old.length * info.size + l.length ≤ c.size := by omega
                            have hwsz : (wr c (a0 + old.length * info.size) l).size = c.size := by
                              unfold wr
                              simp
                              omega
                            have hold2 : ∀ (r' : Nat) row, old[r']? = some row → so.rows[r + r']? = some row := by
                              intro r' row hr'
                              unfold srcRows at hold
                              simp only [hgi] at hold
                              split at hold
                              · simp only [Option.some.injEq, Prod.mk.injEq] at hold
                                rw [← hold.1, List.getElem?_take] at hr'
                                split at hr'
                                · rwa [List.getElem?_drop] at hr'
                                · simp at hr'
                              · simp at hold
                            refine ⟨⟨_, _, _, _, .inl (exec_value hm hrun), ?_, post_place hp (Nat.lt_succ_self _) hwf (so' := ⟨info.size, old ++ row0 :: rows0⟩) (a := a0) hlti hρi hF' hbk hwsz (setRow_heap w B c _ _ _ hbk) (by simp) (fun B' hB' => setRow_other w B B' _ hB') ⟨rfl, rfl, rfl⟩ ?_⟩, (fine_new hwf _).kill i⟩
                            · simp only [VRel]
                              exact ⟨B, a0, a0, cap', upd_same _ _ _, rfl, hroom, .inr (by simp), _, _, setRow_heap w B c _ _ _ hbk, by rw [hwsz]; exact hfit⟩
                            · show ORows ρ F w _ info.size a0 (old ++ row0 :: rows0)
                              intro r' row hr'
                              by_cases hlt' : r' < old.length
                              · rw [List.getElem?_append_left hlt'] at hr'
                                obtain ⟨g1, g2⟩ := hR' (r + r') row (hold2 r' row hr')
                                refine ⟨by rw [g1, hsos], fun k y hk => ?_⟩
                                obtain ⟨v, hv, hv1, hvr⟩ := g2 k y hk
                                refine ⟨v, ?_, hv1, hvr⟩
                                have hk2 : k < info.size := by have := (List.getElem?_eq_some_iff.1 hk).1; omega
                                have hin : r' * info.size + k < old.length * info.size := by
                                  have : (r' + 1) * info.size ≤ old.length * info.size := Nat.mul_le_mul_right _ hlt'
                                  rw [Nat.add_mul] at this
                                  omega
                                rw [wr_get hwl, if_neg (by omega)]
                                rw [← hv]
                                congr 1
                                rw [ha0, hsos, Nat.add_mul]
                                omega
                              · rw [List.getElem?_append_right (by omega)] at hr'
                                obtain ⟨g1, g2⟩ := hrows _ row hr'
                                refine ⟨g1, fun k y hk => ?_⟩
                                obtain ⟨v, hv, hvr⟩ := g2 k y hk
                                refine ⟨v, ?_, hl1 v (List.mem_of_getElem? hv), hvr⟩
                                have hlt2 := (List.getElem?_eq_some_iff.1 hv).1
                                have hsplit : r' * info.size = old.length * info.size + (r' - old.length) * info.size := by rw [← Nat.add_mul]; congr 1; omega
                                rw [wr_get hwl, if_pos (by omega), ← hv]
                                congr 1
                                omega
                          · -- a new block
                            obtain ⟨w₁, c, nc, x0, hz0, hzv, hrun, hh, hout, hnc, hcl⟩ := append_grows (ty := ty) (old := l') (sLen := old.length) (cap := cap') (base := some ⟨B, a0, none⟩) hu hux hi hz (lenOf_slice _ _ _) hfc' hfc (by omega) hb
                            rw [← eat] at hrun
                            have hx0 : x0.cells.size = info.size := by
                              have := (rel_cells (ρ := ρ) (F := F) (w := w) (rel_ofValue x0)).length
                              rw [← hzv, hzl] at this
                              simpa using this
                            refine ⟨⟨_, _, _, _, .inl (exec_value hm hrun), ?_, (post_new hp (Nat.lt_succ_self _) hwf (so := ⟨info.size, old ++ row0 :: rows0⟩) hh hout ?_).kill i⟩, (fine_new hwf _).kill i⟩
                            · refine mem_slice_rel (upd_same _ _ _) hnc (roomy_new hh (show nc * info.size ≤ _ from ?_))
                              simp only [List.size_toArray, List.length_append, hl, hl', hcl, hx0]
                              rw [← Nat.add_mul, ← Nat.add_mul]
                              exact Nat.mul_le_mul_right _ (by omega)
                            · refine orows_append (fun r' row hr' => ?_) (fun r' row hr' => ?_)
                              · obtain ⟨g1, g2⟩ := hrows' r' row hr'
                                refine ⟨g1, fun k y hk => ?_⟩
                                obtain ⟨v, hv, hvr⟩ := g2 k y hk
                                have hlt := (List.getElem?_eq_some_iff.1 hv).1
                                refine ⟨v, ?_, hl1' v (List.mem_of_getElem? hv), hvr⟩
                                simp only [List.getElem?_toArray]
                                rw [List.append_assoc, List.getElem?_append_left hlt]
                                exact hv
                              · obtain ⟨g1, g2⟩ := hrows r' row hr'
                                refine ⟨g1, fun k y hk => ?_⟩
                                obtain ⟨v, hv, hvr⟩ := g2 k y hk
                                have hlt := (List.getElem?_eq_some_iff.1 hv).1
                                refine ⟨v, ?_, hl1 v (List.mem_of_getElem? hv), hvr⟩
                                simp only [List.getElem?_toArray]
                                rw [List.append_assoc, List.getElem?_append_right (by rw [hl', Nat.add_mul]; omega), List.getElem?_append_left (by rw [hl', Nat.add_mul]; omega), ← hv]
                                congr 1
                                rw [hl', Nat.add_mul]
                                omega
                        · simp at h
                      · simp at h
                    · simp at h
                · simp at h
            · simp at h
          · simp at h
        · simp at h
      · simp at h
    · simp at h
  · simp at h

end

end Go.Proofs.Ytnolgpagdjcjbaa.Ve
/-! Every operation but a call. -/
set_option linter.unusedVariables false
set_option linter.unusedSimpArgs false
namespace Go.Proofs.Ytnolgpagdjcjbaa.Ve
open Go

section
variable {P : Program} {ρ ρ' : Ren} {F F' : Nat → Prop} {w w' : World}

theorem scal_sound {env : Operand → Option V} {ev : Operand → Value} {o : Oper} {x : Value} (h : scal P env o = some x) (he : EnvRel ρ F w env ev o.op.operands.toList) (hs : ∀ cs b, o.op ≠ .select cs b) (w₁ : World) :
    (execOp ev o).run P w₁ = .ok (.value x) w₁ := by
  unfold scal at h
  split at h
  · rename_i hall
    have hc : execOp ev o = execOp (fun x => match env x with
      | some v => v.val?.getD undef
      | none => undef) o := by
      refine execOp_congr o hs fun y hy => ?_
      have hy' : y ∈ o.op.operands.toList := by simpa using hy
      have h1 := List.all_eq_true.1 hall y hy'
      cases hv : env y with
      | none => simp [hv] at h1
      | some v =>
        simp only [hv] at h1 ⊢
        cases hu : v.val? with
        | none => simp [hu] at h1
        | some u => simpa using VRel.val v (ev y) u (he y hy' v hv) hu
    rw [hc]
    split at h
    · rename_i v hv
      simp only [Option.some.injEq] at h
      subst h
      exact run_pureRun P _ _ hv w₁
    · simp at h
  · simp at h

theorem store_sound {st st' : St} {t : TypeId} {v p : V} {R W : List Nat} {vx px : Value} (h : storeV P st t v p = some (st', W)) (hp : Pre ρ F w st R W st'.next) (hwf : st.WF) (hpx : VRel ρ F w p px) (hvx : VRel ρ F w v vx) :
    ∃ w₁, (Instr.storeAt t px vx).run P w = .ok () w₁ ∧ Post ρ F w st ρ F w₁ st' W ∧ Fine st st' W := by
  cases p with
  | ptr i r off =>
    simp only [storeV] at h
    cases hvc : v.cells with
    | nil =>
      simp only [hvc] at h
      split at h
      · rename_i hsz
        simp only [Option.some.injEq, Prod.mk.injEq] at h
        obtain ⟨rfl, rfl⟩ := h
        simp only [VRel] at hpx
        obtain ⟨B, o, s, hρ, rfl⟩ := hpx
        have hcl := rel_cells hvx
        rw [hvc] at hcl
        simp only [VList] at hcl
        have hc0 : vx.cells = #[] := by apply Array.ext'; simpa using hcl
        refine ⟨w, ?_, post_same hp hwf rfl (Outs.refl w), fine_same hwf⟩
        simp [Instr.storeAt, Instr.sureAddr, storeVar, Sem.run_bind, run_sizeOf hsz, hc0, storeCells]
      · simp at h
    | cons y0 ys0 =>
    have hvl : v.cells.length ≠ 0 := by rw [hvc]; simp
    simp only [hvc] at h
    simp only [← hvc] at h
    cases hg : st.get i with
    | none => simp [hg] at h
    | some so =>
      simp only [hg] at h
      cases hr : so.rows[r]? with
      | none => simp [hr] at h
      | some row =>
        simp only [hr] at h
        split at h
        · rename_i hcond
          obtain ⟨hsz, hle, h1⟩ := hcond
          simp only [Option.some.injEq, Prod.mk.injEq] at h
          obtain ⟨rfl, rfl⟩ := h
          have hlt := get_lt hwf hg
          obtain ⟨so', hg', hobj⟩ := hp.obj i hlt (.inr (by simp))
          rw [hg] at hg'
          cases hg'
          simp only [VRel] at hpx
          obtain ⟨B, o, s, hρ, rfl⟩ := hpx
          obtain ⟨B', o', c, e, hρ', hF, hb, hR⟩ := hobj
          rw [hρ] at hρ'
          simp only [Option.some.injEq, Prod.mk.injEq] at hρ'
          obtain ⟨rfl, rfl, hs⟩ := hρ'
          have hcl := rel_cells hvx
          have hclen : vx.cells.size = v.cells.length := by have := hcl.length; simpa using this
          obtain ⟨hrl, hrow⟩ := hR r row hr
          have hcs : o + r * so.s + row.length ≤ c.size := by
            obtain ⟨y, hy⟩ : ∃ y, row[row.length - 1]? = some y := ⟨row[row.length - 1], by rw [List.getElem?_eq_getElem (by omega)]⟩
            obtain ⟨u, hu, -⟩ := hrow _ y hy
            have := (Array.getElem?_eq_some_iff.1 hu).1
            omega
          have hone : ∀ u ∈ vx.cells.toList, u.oneCell' = true := by
            intro u hu
            obtain ⟨k, hk, hku⟩ := List.getElem_of_mem hu
            have hk2 : k < v.cells.length := by simp at hk; omega
            obtain ⟨u', hu', hr'⟩ := hcl.get k v.cells[k] (by simp [hk2])
            have : u' = u := by
              rw [List.getElem?_eq_getElem hk, hku] at hu'
              simpa using hu'.symm
            subst this
            exact rel_cell1 hr' (List.all_eq_true.1 h1 _ (List.getElem_mem hk2))
          have hfit : o + r * s + off + vx.cells.size ≤ c.size := by rw [hs, hclen]; omega
          have hrun := store_run (P := P) hb (t := t) (x := vx) (by rw [hsz, hclen]) hfit hone
          have hfit' : o + r * s + off + vx.cells.toList.length ≤ c.size := by simpa using hfit
          have hwsz : (wr c (o + r * s + off) vx.cells.toList).size = c.size := by
            unfold wr
            simp
            omega
          refine ⟨_, ?_, post_store hp hwf hlt (by simp) hg hρ hF hb hwsz (setRow_heap w B c _ e _ hb) (so' := ⟨so.s, so.rows.set r (setAt row off v.cells)⟩) hs.symm (by simp) (Array.getElem?_eq_some_iff.1 hb).1 (fun B' hB' => setRow_other w B B' _ hB') ⟨rfl, rfl, rfl⟩ ?_, fine_set hwf hlt _⟩
          · simp only [Instr.storeAt, Instr.sureAddr, Sem.run_bind, Sem.run_pure, Result.andThen_ok, hrun]
          · show ORows ρ F w _ s o (so.rows.set r (setAt row off v.cells))
            intro r' row' hr'
            rw [List.getElem?_set] at hr'
            split at hr'
            · rename_i e'
              subst e'
              split at hr'
              · simp only [Option.some.injEq] at hr'
                subst hr'
                refine ⟨by rw [setAt_length hle, hrl, hs], fun k y hk => ?_⟩
                rw [setAt_get hle] at hk
                rw [wr_get hfit']
                split at hk
                · rename_i hkk
                  obtain ⟨u, hu, hur⟩ := hcl.get _ y hk
                  refine ⟨u, ?_, hone u (List.mem_of_getElem? hu), hur⟩
                  rw [if_pos (by simp; omega), ← hu]
                  congr 1
                  omega
                · rename_i hkk
                  obtain ⟨u, hu, hu1, hur⟩ := hrow k y hk
                  refine ⟨u, ?_, hu1, hur⟩
                  rw [if_neg (by simp; omega), ← hu, hs]
              · simp at hr'
            · rename_i hne
              obtain ⟨g1, g2⟩ := hR r' row' hr'
              refine ⟨by rw [g1, hs], fun k y hk => ?_⟩
              obtain ⟨u, hu, hu1, hur⟩ := g2 k y hk
              refine ⟨u, ?_, hu1, hur⟩
              have hk2 : k < s := by have := (List.getElem?_eq_some_iff.1 hk).1; omega
              have hoff : off + v.cells.length ≤ s := by rw [hs, ← hrl]; exact hle
              rw [wr_get hfit']
              rw [if_neg, ← hu, hs]
              simp only [Array.length_toList, hclen]
              rcases Nat.lt_or_ge r' r with hlt' | hge
              · have : (r' + 1) * s ≤ r * s := Nat.mul_le_mul_right _ hlt'
                rw [Nat.add_mul] at this
                omega
              · have hgt : r + 1 ≤ r' := by omega
                have : (r + 1) * s ≤ r' * s := Nat.mul_le_mul_right _ hgt
                rw [Nat.add_mul] at this
                omega
        · simp at h
  | _ => simp [storeV] at h

end

end Go.Proofs.Ytnolgpagdjcjbaa.Ve
/-! Every operation but a call: the whole. -/
set_option linter.unusedVariables false
set_option linter.unusedSimpArgs false
namespace Go.Proofs.Ytnolgpagdjcjbaa.Ve
open Go

section
variable {P : Program} {ρ ρ' : Ren} {F F' : Nat → Prop} {w w' : World}

theorem methodV_some {t : TypeId} {name : String} {f : FuncId} {pr : Bool} (h : methodV P t name = some (f, pr)) :
    ∃ info m, P.info? t = some info ∧ info.methods.find? (·.name == name) = some m ∧ m.path.toList = [] ∧ m.func = some (f, pr) := by
  unfold methodV at h
  split at h
  · rename_i info hi
    split at h
    · rename_i m hm
      split at h
      · rename_i hp
        refine ⟨info, m, hi, hm, ?_, h⟩
        simpa using hp
      · simp at h
    · simp at h
  · simp at h

theorem fuel_pos {t : TypeId} {info : TypeInfo} (h : P.info? t = some info) : ∃ n, P.types.size + Made.depth = n + 1 := by
  have : 0 < Made.depth := by decide
  exact ⟨P.types.size + Made.depth - 1, by omega⟩

theorem nilAhead_ok {t : TypeId} {u : V} {name : String} {y : Value} (h : nilOk P t u name = true) (hu : VRel ρ F w u y) (w₁ : World) : (nilAhead (P.types.size + Made.depth) t y name).run P w₁ = .ok (some false) w₁ := by
  unfold nilOk at h
  split at h
  · rename_i f hm
    obtain ⟨info, m, hi, hf, hp, hfn⟩ := methodV_some hm
    obtain ⟨n, hn⟩ := fuel_pos hi
    rw [hn]
    simp only [nilAhead, Sem.run_bind, run_typeInfo hi, Result.andThen_ok, hf, hp, followBlind, Sem.run_pure, hfn]
  · rename_i f hm
    obtain ⟨info, m, hi, hf, hp, hfn⟩ := methodV_some hm
    obtain ⟨n, hn⟩ := fuel_pos hi
    rw [hn]
    unfold ptrElem at h
    cases hut : P.underlying t with
    | none => simp [hut] at h
    | some d =>
      simp only [nilAhead, Sem.run_bind, run_typeInfo hi, Result.andThen_ok, hf, hp, followBlind, Sem.run_pure, hfn, run_underlying hut]
      cases d <;> first
        | rfl
        | (simp only [hut] at h
           split at h
           · simp only [VRel] at hu; obtain ⟨B, o, s, -, rfl⟩ := hu; rfl
           · simp only [VRel] at hu; obtain ⟨B, o, -, rfl, -⟩ := hu; rfl
           · simp at h)
  · simp at h

theorem nilCheck_sound {ev : Operand → Value} {o : Oper} {a : Operand} {x v : V} (ho : o.op = .nilCheck a) (h : nilCheckV P x = some v) (hx : VRel ρ F w x (ev a)) : (execOp ev o).run P w = .ok (.value (ev a)) w ∧ v = x := by
  unfold execOp
  rw [ho]
  simp only []
  unfold nilCheckV at h
  split at h
  · simp only [Option.some.injEq] at h
    simp only [VRel] at hx
    obtain ⟨B, o', s, -, hx⟩ := hx
    rw [hx]
    exact ⟨rfl, h.symm⟩
  · simp only [Option.some.injEq] at h
    simp only [VRel] at hx
    obtain ⟨B, o', -, hx, -⟩ := hx
    rw [hx]
    exact ⟨rfl, h.symm⟩
  · simp only [Option.some.injEq] at h
    simp only [VRel] at hx
    obtain ⟨a', c', hx, -⟩ := hx
    rw [hx]
    exact ⟨rfl, h.symm⟩
  · rename_i name r rest caps
    split at h
    · rename_i t u hi
      split at h
      · rename_i hn
        simp only [Option.some.injEq] at h
        simp only [VRel] at hx
        obtain ⟨a', c', hx, ha, -⟩ := hx
        simp only [VList] at ha
        obtain ⟨y, ys, hay, hr, -⟩ := ha
        obtain ⟨y', rfl, hu⟩ := rel_iface hr hi
        have h0 : a'[0]? = some (.iface t y') := by rw [← Array.getElem?_toList, hay]; rfl
        rw [hx]
        refine ⟨?_, h.symm⟩
        simp only [h0, Sem.run_bind]
        have hp : (program : Sem Program).run P w = .ok P w := rfl
        simp only [hp, Result.andThen_ok, nilAhead_ok hn hu w]
        rfl
      · simp at h
    · simp at h
  · split at h
    · rename_i p hi
      simp only [Option.some.injEq] at h
      obtain ⟨t, u⟩ := p
      obtain ⟨y, hy, -⟩ := rel_iface hx hi
      rw [hy]
      exact ⟨rfl, h.symm⟩
    · simp at h

theorem eq_ptr_nil {t e : TypeId} {A : Addr} (hu : P.underlying t = some (.pointer e)) : (Op.equal t (.pointer (some A)) (.pointer none)).run P w = .ok false w := by
  show (Op.equalIn (9999 + 1) t _ _).run P w = _
  rw [Op.equalIn]
  simp only [Sem.run_bind, run_underlying hu, Result.andThen_ok]
  rfl
theorem eq_nil_ptr {t e : TypeId} {A : Addr} (hu : P.underlying t = some (.pointer e)) : (Op.equal t (.pointer none) (.pointer (some A))).run P w = .ok false w := by
  show (Op.equalIn (9999 + 1) t _ _).run P w = _
  rw [Op.equalIn]
  simp only [Sem.run_bind, run_underlying hu, Result.andThen_ok]
  rfl
theorem eq_ptr_same {t e : TypeId} {A : Addr} {n : Nat} (hu : P.underlying t = some (.pointer e)) (hs : tySize P e = some n) (hn : n ≠ 0) : (Op.equal t (.pointer (some A)) (.pointer (some A))).run P w = .ok true w := by
  show (Op.equalIn (9999 + 1) t _ _).run P w = _
  rw [Op.equalIn]
  simp only [Sem.run_bind, run_underlying hu, Result.andThen_ok, run_sizeOf hs]
  simp [hn, sameAddr]
theorem eq_slice_nil {t e : TypeId} {A : Addr} {n c : Nat} (hu : P.underlying t = some (.slice e)) : (Op.equal t (.slice (some A) n c) (.slice none 0 0)).run P w = .ok false w := by
  show (Op.equalIn (9999 + 1) t _ _).run P w = _
  rw [Op.equalIn]
  simp only [Sem.run_bind, run_underlying hu, Result.andThen_ok]
  rfl
theorem eq_nil_slice {t e : TypeId} {A : Addr} {n c : Nat} (hu : P.underlying t = some (.slice e)) : (Op.equal t (.slice none 0 0) (.slice (some A) n c)).run P w = .ok false w := by
  show (Op.equalIn (9999 + 1) t _ _).run P w = _
  rw [Op.equalIn]
  simp only [Sem.run_bind, run_underlying hu, Result.andThen_ok]
  rfl
theorem eq_ifc_nil {t t' : TypeId} {ms : Array (String × TypeId)} {y : Value} (hu : P.underlying t = some (.interface ms)) : (Op.equal t (.iface t' y) .nilIface).run P w = .ok false w := by
  show (Op.equalIn (9999 + 1) t _ _).run P w = _
  rw [Op.equalIn]
  simp only [Sem.run_bind, run_underlying hu, Result.andThen_ok]
  rfl
theorem eq_fn_nil {t : TypeId} {ps rs : Array TypeId} {b : Bool} {f : Fn} {x y : Array Value} (hu : P.underlying t = some (.func ps rs b)) : (Op.equal t (.func f x y) .nilFunc).run P w = .ok false w := by
  show (Op.equalIn (9999 + 1) t _ _).run P w = _
  rw [Op.equalIn]
  simp only [Sem.run_bind, run_underlying hu, Result.andThen_ok]
  rfl
theorem eq_nil_fn {t : TypeId} {ps rs : Array TypeId} {b : Bool} {f : Fn} {x y : Array Value} (hu : P.underlying t = some (.func ps rs b)) : (Op.equal t .nilFunc (.func f x y)).run P w = .ok false w := by
  show (Op.equalIn (9999 + 1) t _ _).run P w = _
  rw [Op.equalIn]
  simp only [Sem.run_bind, run_underlying hu, Result.andThen_ok]
  rfl

/-- == and != by the one comparison. -/
def EqRuns (P : Program) (t : TypeId) (a b : Value) (r : Bool) (w : World) : Prop :=
  ∀ p q, (do eqGuard .eql t p q a b; binOp .eql t a b : Sem Value).run P w = .ok (.bool r) w ∧ (do eqGuard .neq t p q a b; binOp .neq t a b : Sem Value).run P w = .ok (.bool (!r)) w

theorem eqRuns {t : TypeId} {a b : Value} {r : Bool} (h : (Op.equal t a b).run P w = .ok r w) (hg : ∀ p q, eqGuard .eql t p q a b = pure () ∧ eqGuard .neq t p q a b = pure ())
    (hb : binOp .eql t a b = (do pure (.bool (← Op.equal t a b))) ∧ binOp .neq t a b = (do pure (.bool (!(← Op.equal t a b))))) : EqRuns P t a b r w := by
  intro p q
  rw [hb.1, hb.2, (hg p q).1, (hg p q).2]
  simp only [Sem.run_bind, h, Result.andThen_ok, Sem.run_pure, and_self]

theorem eq_sound {t : TypeId} {x y : V} {a b : Value} {r : Bool} (h : eqV P t x y = some r) (hx : VRel ρ F w x a) (hy : VRel ρ F w y b) : EqRuns P t a b r w := by
  unfold eqV at h
  split at h
  all_goals try (simp at h; done)
  · rename_i hu
    simp only [Option.some.injEq] at h; subst h
    simp only [VRel, PRel] at hx hy
    obtain ⟨B, o, s, -, rfl⟩ := hx
    subst hy
    exact eqRuns (eq_ptr_nil hu) (fun _ _ => ⟨rfl, rfl⟩) ⟨rfl, rfl⟩
  · rename_i hu
    simp only [Option.some.injEq] at h; subst h
    simp only [VRel, PRel] at hx hy
    obtain ⟨B, o, -, rfl, -⟩ := hx
    subst hy
    exact eqRuns (eq_ptr_nil hu) (fun _ _ => ⟨rfl, rfl⟩) ⟨rfl, rfl⟩
  · rename_i hu
    simp only [Option.some.injEq] at h; subst h
    simp only [VRel, PRel] at hx hy
    obtain ⟨B, o, s, -, rfl⟩ := hy
    subst hx
    exact eqRuns (eq_nil_ptr hu) (fun _ _ => ⟨rfl, rfl⟩) ⟨rfl, rfl⟩
  · rename_i hu
    simp only [Option.some.injEq] at h; subst h
    simp only [VRel, PRel] at hx hy
    obtain ⟨B, o, -, rfl, -⟩ := hy
    subst hx
    exact eqRuns (eq_nil_ptr hu) (fun _ _ => ⟨rfl, rfl⟩) ⟨rfl, rfl⟩
  · rename_i e i r o i' r' o' hu
    split at h
    · rename_i hc
      obtain ⟨rfl, rfl, rfl, hsz⟩ := hc
      simp only [Option.some.injEq] at h; subst h
      simp only [VRel] at hx hy
      obtain ⟨B, q, s, hρ, rfl⟩ := hx
      obtain ⟨B', q', s', hρ', rfl⟩ := hy
      rw [hρ] at hρ'
      simp only [Option.some.injEq, Prod.mk.injEq] at hρ'
      obtain ⟨rfl, rfl, rfl⟩ := hρ'
      cases hts : tySize P e with
      | none => simp [hts] at hsz
      | some n =>
        have hn : n ≠ 0 := by simpa [hts] using hsz
        exact eqRuns (eq_ptr_same hu hts hn) (fun _ _ => ⟨rfl, rfl⟩) ⟨rfl, rfl⟩
    · simp at h
  · rename_i hu
    simp only [Option.some.injEq] at h; subst h
    simp only [VRel] at hx hy
    obtain ⟨B, o, a', cap, -, rfl, -⟩ := hx
    subst hy
    exact eqRuns (eq_slice_nil hu) (fun _ _ => ⟨rfl, rfl⟩) ⟨rfl, rfl⟩
  · rename_i hu
    simp only [Option.some.injEq] at h; subst h
    simp only [VRel] at hx hy
    obtain ⟨B, o, a', cap, -, rfl, -⟩ := hy
    subst hx
    exact eqRuns (eq_nil_slice hu) (fun _ _ => ⟨rfl, rfl⟩) ⟨rfl, rfl⟩
  · rename_i hu
    simp only [Option.some.injEq] at h; subst h
    simp only [VRel, PRel] at hx hy
    obtain ⟨a', cap, rfl, -, hR⟩ := hx
    rcases hR with hR | ⟨B, o, s, rfl, -⟩
    · cases hR
    subst hy
    exact eqRuns (eq_slice_nil hu) (fun _ _ => ⟨rfl, rfl⟩) ⟨rfl, rfl⟩
  · rename_i hu
    simp only [Option.some.injEq] at h; subst h
    simp only [VRel, PRel] at hx hy
    obtain ⟨a', cap, rfl, -, hR⟩ := hy
    rcases hR with hR | ⟨B, o, s, rfl, -⟩
    · cases hR
    subst hx
    exact eqRuns (eq_nil_slice hu) (fun _ _ => ⟨rfl, rfl⟩) ⟨rfl, rfl⟩
  · rename_i ms hu
    split at h
    · rename_i p hi
      simp only [Option.some.injEq] at h; subst h
      obtain ⟨t', u⟩ := p
      obtain ⟨y', rfl, -⟩ := rel_iface hx hi
      simp only [VRel, PRel] at hy
      subst hy
      exact eqRuns (eq_ifc_nil hu) (fun _ _ => ⟨rfl, rfl⟩) ⟨rfl, rfl⟩
    · simp at h
  · rename_i hu
    simp only [Option.some.injEq] at h; subst h
    simp only [VRel, PRel] at hx hy
    obtain ⟨a', c', rfl, -⟩ := hx
    subst hy
    exact eqRuns (eq_fn_nil hu) (fun _ _ => ⟨rfl, rfl⟩) ⟨rfl, rfl⟩
  · rename_i hu
    simp only [Option.some.injEq] at h; subst h
    simp only [VRel, PRel] at hx hy
    obtain ⟨a', c', rfl, -⟩ := hy
    subst hx
    exact eqRuns (eq_nil_fn hu) (fun _ _ => ⟨rfl, rfl⟩) ⟨rfl, rfl⟩

end

end Go.Proofs.Ytnolgpagdjcjbaa.Ve
/-! Every operation but a call: the whole. -/
set_option linter.unusedVariables false
set_option linter.unusedSimpArgs false
namespace Go.Proofs.Ytnolgpagdjcjbaa.Ve
open Go

section
variable {P : Program} {ρ ρ' : Ren} {F F' : Nat → Prop} {w w' : World}

theorem one_some {st st' : St} {x : Option V} {v : V} {R W : List Nat} (h : one st x = some (v, st', R, W)) : x = some v ∧ st' = st ∧ R = [] ∧ W = [] := by
  unfold one at h
  cases x with
  | none => simp at h
  | some y =>
    simp only [Option.some.injEq, Prod.mk.injEq] at h
    obtain ⟨rfl, rfl, rfl, rfl⟩ := h
    exact ⟨rfl, rfl, rfl, rfl⟩

theorem EnvRel.sub {env : Operand → Option V} {ev : Operand → Value} {l m : List Operand} (h : EnvRel ρ F w env ev l) (hm : ∀ x ∈ m, x ∈ l) : EnvRel ρ F w env ev m := fun x hx => h x (hm x hx)

theorem scal_one {env : Operand → Option V} {ev : Operand → Value} {o : Oper} {st st' : St} {v : V} {R W R₀ W₀ : List Nat} (h : one st ((scal P env o).map ofValue) = some (v, st', R, W)) (he : EnvRel ρ F w env ev o.op.operands.toList)
    {n : Nat} (hp : Pre ρ F w st R₀ W₀ n) (hwf : st.WF) (hs : ∀ cs b, o.op ≠ .select cs b) : OpRes P ev o ρ F w st v st' W ∧ Fine st st' W := by
  obtain ⟨h1, rfl, rfl, rfl⟩ := one_some h
  cases hx : scal P env o with
  | none => simp [hx] at h1
  | some x =>
    simp only [hx, Option.map_some, Option.some.injEq] at h1
    subst h1
    exact ⟨opres_quiet hp hwf (scal_sound hx he hs w) (rel_ofValue x), fine_same hwf⟩

set_option maxHeartbeats 1600000 in
theorem vop_sound {env : Operand → Option V} {ev : Operand → Value} {o : Oper} {st st' : St} {v : V} {R W : List Nat} (h : vop P env o st = some (v, st', R, W)) (he : EnvRel ρ F w env ev o.op.operands.toList)
    (hp : Pre ρ F w st R W st'.next) (hwf : st.WF) : OpRes P ev o ρ F w st v st' W ∧ Fine st st' W := by
  have hRobj : ∀ i ∈ R, ∀ so, st.get i = some so → ObjRel ρ F w i so := fun i hi so hg => by
    obtain ⟨so', hg', ho⟩ := hp.obj i (get_lt hwf hg) (.inl hi)
    rw [hg] at hg'
    cases hg'
    exact ho
  unfold vop at h
  split at h
  · -- move
    rename_i x hop
    obtain ⟨h1, rfl, rfl, rfl⟩ := one_some h
    refine ⟨opres_quiet hp hwf (x := ev x) ?_ (he x (by rw [hop]; simp [Op.operands]) v h1), fine_same hwf⟩
    unfold execOp; rw [hop]; rfl
  · -- assign
    rename_i x hop
    obtain ⟨h1, rfl, rfl, rfl⟩ := one_some h
    refine ⟨opres_quiet hp hwf (x := ev x) ?_ (he x (by rw [hop]; simp [Op.operands]) v h1), fine_same hwf⟩
    unfold execOp; rw [hop]; rfl
  · -- pick
    rename_i c a b hop
    split at h
    · rename_i t hc
      have hcv := he c (by rw [hop]; simp [Op.operands]) _ hc
      simp only [VRel, PRel] at hcv
      split at h
      · obtain ⟨h1, rfl, rfl, rfl⟩ := one_some h
        refine ⟨opres_quiet hp hwf (x := ev a) ?_ (he a (by rw [hop]; simp [Op.operands]) v h1), fine_same hwf⟩
        unfold execOp; rw [hop]
        simp [hcv, asBool]
      · obtain ⟨h1, rfl, rfl, rfl⟩ := one_some h
        refine ⟨opres_quiet hp hwf (x := ev b) ?_ (he b (by rw [hop]; simp [Op.operands]) v h1), fine_same hwf⟩
        unfold execOp; rw [hop]
        simp [hcv, asBool]
    · simp at h
  · -- alloc
    rename_i t hop
    split at h
    · rename_i z hz
      split at h
      · rename_i h1
        simp only [Option.some.injEq, Prod.mk.injEq] at h
        obtain ⟨rfl, rfl, rfl, rfl⟩ := h
        obtain ⟨i, x0, hi, hiz, rfl, hrun⟩ := run_zeroValue hz
        have hcells : VList ρ F w (ofValue x0).cells x0.cells.toList := rel_cells (rel_ofValue x0)
        have hs : execOp ev o = (do pure (.value (← Instr.alloc t true (.tuple #[])))) := by unfold execOp; rw [hop]
        have hr : (Instr.alloc t true (.tuple #[])).run P w = .ok (.pointer (some ⟨w.heap.size, 0, none⟩)) (w.alloc (.cells x0.cells t)) := by
          simp [Instr.alloc, hrun, newVar, newRow]
        refine ⟨⟨_, _, _, _, .inl (exec_value hs hr), ?_, post_new hp (Nat.lt_succ_self _) hwf (so := ⟨(ofValue x0).cells.length, [(ofValue x0).cells]⟩) rfl ⟨rfl, rfl, rfl⟩ (orows_one hcells h1)⟩, fine_new hwf _⟩
        simp only [VRel]
        exact ⟨w.heap.size, 0, _, upd_same _ _ _, by simp⟩
      · simp at h
    · simp at h
  · -- box
    rename_i t x hop
    split at h
    · rename_i xv hx
      split at h
      · rename_i h1
        simp only [Option.some.injEq, Prod.mk.injEq] at h
        obtain ⟨rfl, rfl, rfl, rfl⟩ := h
        have hxr := he x (by rw [hop]; simp [Op.operands]) _ hx
        have hcells := rel_cells hxr
        have hs : execOp ev o = (do pure (.value (← Instr.box t (ev x)))) := by unfold execOp; rw [hop]
        have hr : (Instr.box t (ev x)).run P w = .ok (.pointer (some ⟨w.heap.size, 0, none⟩)) (w.alloc (.cells (ev x).cells t)) := by
          simp [Instr.box, newVar, newRow]
        refine ⟨⟨_, _, _, _, .inl (exec_value hs hr), ?_, post_new hp (Nat.lt_succ_self _) hwf (so := ⟨xv.cells.length, [xv.cells]⟩) rfl ⟨rfl, rfl, rfl⟩ (orows_one hcells h1)⟩, fine_new hwf _⟩
        simp only [VRel]
        exact ⟨w.heap.size, 0, _, upd_same _ _ _, by simp⟩
      · simp at h
    · simp at h
  · -- build
    rename_i t parts hop
    split at h
    · rename_i ps hps
      obtain ⟨h1, rfl, rfl, rfl⟩ := one_some h
      have hpr := envParts_rel (ev := ev) (he.sub (by rw [hop]; simp [Op.operands])) hps
      obtain ⟨y, hy, hr⟩ := build_sound h1 hpr
      refine ⟨opres_quiet hp hwf (exec_value (s := Instr.build t (parts.toList.map fun (i, x) => (i, ev x)).toArray) ?_ hy) hr, fine_same hwf⟩
      unfold execOp; rw [hop]
      have e : ∀ q : Array (Nat × Value), q.toList = parts.toList.map (fun (i, x) => (i, ev x)) → q = (parts.toList.map (fun (i, x) => (i, ev x))).toArray := fun q hq => by apply Array.ext'; simpa using hq
      simp only []
      rw [e (parts.map fun (i, x) => (i, ev x)) (by simp)]
    · simp at h
  · -- buildSlice
    rename_i t len parts hop
    split at h
    · rename_i ps hps
      have hpr := envParts_rel (ev := ev) (he.sub (by rw [hop]; simp [Op.operands])) hps
      refine buildSlice_sound ⟨_, ?_, rfl⟩ h hp hwf hpr
      unfold execOp; rw [hop]
      have e : ∀ q : Array (Nat × Value), q.toList = parts.toList.map (fun (i, x) => (i, ev x)) → q = (parts.toList.map (fun (i, x) => (i, ev x))).toArray := fun q hq => by apply Array.ext'; simpa using hq
      simp only []
      rw [e (parts.map fun (i, x) => (i, ev x)) (by simp)]
    · simp at h
  · -- load
    rename_i t a hop
    split at h
    · rename_i x hx
      split at h
      · rename_i v' R' hl
        simp only [Option.some.injEq, Prod.mk.injEq] at h
        obtain ⟨rfl, rfl, rfl, rfl⟩ := h
        have hxr := he a (by rw [hop]; simp [Op.operands]) _ hx
        have hlive : ∀ i ∈ R', ∃ so, st.get i = some so ∧ ObjRel ρ F w i so := by
          intro i hi
          unfold loadV at hl
          split at hl
          · split at hl
            · rename_i so hso
              split at hl
              · split at hl
                · simp only [Option.some.injEq, Prod.mk.injEq] at hl
                  rw [← hl.2] at hi
                  simp only [List.mem_singleton] at hi
                  subst hi
                  exact ⟨so, hso, hRobj _ (by rw [← hl.2]; simp) so hso⟩
                · simp at hl
              · simp at hl
            · simp at hl
          · split at hl
            · simp only [Option.some.injEq, Prod.mk.injEq] at hl
              rw [← hl.2] at hi
              cases hi
            · simp at hl
          · simp at hl
        obtain ⟨b, y, hb, hy, hr⟩ := load_sound hl hxr hlive
        refine ⟨opres_quiet hp hwf (exec_value (s := Instr.loadAt t (ev a)) ?_ (x := y) ?_) hr, fine_same hwf⟩
        · unfold execOp; rw [hop]
        · simp only [Instr.loadAt, hb, Instr.sureAddr, Sem.run_bind, Sem.run_pure, Result.andThen_ok, hy]
      · simp at h
    · simp at h
  · -- store
    rename_i t a x hop
    split at h
    · rename_i p hpv
      split at h
      · rename_i xv hx
        split at h
        · rename_i st1 W1 hs
          simp only [Option.some.injEq, Prod.mk.injEq] at h
          obtain ⟨rfl, rfl, rfl, rfl⟩ := h
          obtain ⟨w₁, hr, hpost, hfine⟩ := store_sound hs hp hwf (he a (by rw [hop]; simp [Op.operands]) _ hpv) (he x (by rw [hop]; simp [Op.operands]) _ hx)
          refine ⟨⟨undef, w₁, ρ, F, .inr ⟨exec_unit (s := Instr.storeAt t (ev a) (ev x)) ?_ hr, rfl⟩, rel_undef, hpost⟩, hfine⟩
          unfold execOp; rw [hop]
        · simp at h
      · simp at h
    · simp at h
  · -- nilCheck
    rename_i x hop
    split at h
    · rename_i xv hx
      obtain ⟨h1, rfl, rfl, rfl⟩ := one_some h
      have hxr := he x (by rw [hop]; simp [Op.operands]) _ hx
      obtain ⟨hr, rfl⟩ := nilCheck_sound hop h1 hxr
      exact ⟨opres_quiet hp hwf hr hxr, fine_same hwf⟩
    · simp at h
  · -- binOp
    rename_i op t x y yt hop
    split at h
    · exact scal_one h he hp hwf (by rw [hop]; simp)
    · split at h
      · rename_i a ha
        split at h
        · rename_i b hb
          have hs : execOp ev o = (do pure (.value (← (do eqGuard op t x y (ev x) (ev y); binOp op t (ev x) (ev y))))) := by unfold execOp; rw [hop]
          have hxr := he x (by rw [hop]; simp [Op.operands]) _ ha
          have hyr := he y (by rw [hop]; simp [Op.operands]) _ hb
          split at h
          · obtain ⟨h1, rfl, rfl, rfl⟩ := one_some h
            cases hq : eqV P t a b with
            | none => simp [hq] at h1
            | some r =>
              simp only [hq, Option.map_some, Option.some.injEq] at h1
              subst h1
              exact ⟨opres_quiet hp hwf (exec_value hs ((eq_sound hq hxr hyr) x y).1) (by simp [VRel, PRel]), fine_same hwf⟩
          · obtain ⟨h1, rfl, rfl, rfl⟩ := one_some h
            cases hq : eqV P t a b with
            | none => simp [hq] at h1
            | some r =>
              simp only [hq, Option.map_some, Option.some.injEq] at h1
              subst h1
              exact ⟨opres_quiet hp hwf (exec_value hs ((eq_sound hq hxr hyr) x y).2) (by simp [VRel, PRel]), fine_same hwf⟩
          · simp at h
        · simp at h
      · simp at h
  · rename_i hop; exact scal_one h he hp hwf (by rw [hop]; simp)
  · rename_i hop; exact scal_one h he hp hwf (by rw [hop]; simp)
  · -- makeInterface
    rename_i t x hop
    split at h
    · rename_i xv hx
      have hxr := he x (by rw [hop]; simp [Op.operands]) _ hx
      split at h
      · simp at h
      · rename_i d hni hu
        simp only [Option.some.injEq, Prod.mk.injEq] at h
        obtain ⟨rfl, rfl, rfl, rfl⟩ := h
        refine ⟨opres_quiet hp hwf (exec_value (s := Instr.makeInterface t (ev x)) ?_ (x := .iface t (ev x)) ?_) (rel_mkIfc hxr), fine_same hwf⟩
        · unfold execOp; rw [hop]
        · simp only [Instr.makeInterface, Sem.run_bind, run_underlying hu, Result.andThen_ok]
          cases d <;> first
            | rfl
            | exact absurd rfl (hni _)
      · simp at h
    · simp at h
  · -- makeFunc
    rename_i fn first caps hop
    split at h
    · rename_i a ha
      split at h
      · rename_i c hc
        simp only [Option.some.injEq, Prod.mk.injEq] at h
        obtain ⟨rfl, rfl, rfl, rfl⟩ := h
        have r1 := envAll_rel (ev := ev) (he.sub (by rw [hop]; simp [Op.operands]; intro x hx; exact .inl hx)) ha
        have r2 := envAll_rel (ev := ev) (he.sub (by rw [hop]; simp [Op.operands]; intro x hx; exact .inr hx)) hc
        refine ⟨opres_quiet hp hwf (exec_value (s := Instr.makeFunc fn (first.map ev) (caps.map ev)) ?_ (x := .func fn (first.map ev) (caps.map ev)) rfl) ?_, fine_same hwf⟩
        · unfold execOp; rw [hop]
        · simp only [VRel]
          exact ⟨_, _, rfl, by simpa using r1, by simpa using r2⟩
      · simp at h
    · simp at h
  · -- makeSlice
    rename_i t l c hop
    split at h
    · rename_i kl ln hl
      split at h
      · rename_i kc cn hc
        have h1 := he l (by rw [hop]; simp [Op.operands]) _ hl
        have h2 := he c (by rw [hop]; simp [Op.operands]) _ hc
        simp only [VRel, PRel] at h1 h2
        refine makeSlice_sound (kl := kl) (kc := kc) ⟨_, ?_, rfl⟩ h hp hwf
        unfold execOp; rw [hop]; simp only [h1, h2]
      · simp at h
    · simp at h
  · -- slice
    rename_i t x lo hi hop
    split at h
    · rename_i xv hx
      split at h
      · exact scal_one h he hp hwf (by rw [hop]; simp)
      · obtain ⟨h1, rfl, rfl, rfl⟩ := one_some h
        have hxr := he x (by rw [hop]; simp [Op.operands]) _ hx
        obtain ⟨y, hy, hr⟩ := slice_sound (ev := ev) h1 hxr (he.sub (by rw [hop]; simp [Op.operands]; intro x hx; exact .inr (.inl hx))) (he.sub (by rw [hop]; simp [Op.operands]; intro x hx; exact .inr (.inr hx)))
        refine ⟨opres_quiet hp hwf (exec_value (s := Instr.sliceAt t (ev x) (lo.map ev) (hi.map ev) none) ?_ hy) hr, fine_same hwf⟩
        unfold execOp; rw [hop]; rfl
    · simp at h
  · -- fieldAddr
    rename_i s x f hop
    split at h
    · rename_i xv hx
      obtain ⟨h1, rfl, rfl, rfl⟩ := one_some h
      obtain ⟨y, hy, hr⟩ := fieldAddr_sound h1 (he x (by rw [hop]; simp [Op.operands]) _ hx)
      refine ⟨opres_quiet hp hwf (exec_value (s := Instr.fieldAt s (ev x) f) ?_ hy) hr, fine_same hwf⟩
      unfold execOp; rw [hop]
    · simp at h
  · -- field
    rename_i t x f hop
    split at h
    · rename_i xv hx
      obtain ⟨h1, rfl, rfl, rfl⟩ := one_some h
      obtain ⟨y, hy, hr⟩ := field_sound h1 (he x (by rw [hop]; simp [Op.operands]) _ hx)
      refine ⟨opres_quiet hp hwf (exec_value (s := Instr.field t (ev x) f) ?_ hy) hr, fine_same hwf⟩
      unfold execOp; rw [hop]
    · simp at h
  · -- indexAddr
    rename_i t x ix hop
    split at h
    · rename_i xv hx
      split at h
      · rename_i kk k hk
        obtain ⟨h1, rfl, rfl, rfl⟩ := one_some h
        have h2 := he ix (by rw [hop]; simp [Op.operands]) _ hk
        simp only [VRel, PRel] at h2
        obtain ⟨y, hy, hr⟩ := indexAddr_sound (kk := kk) h1 (he x (by rw [hop]; simp [Op.operands]) _ hx)
        refine ⟨opres_quiet hp hwf (exec_value (s := Instr.indexAt t (ev x) (ev ix)) ?_ (by rw [h2]; exact hy)) hr, fine_same hwf⟩
        unfold execOp; rw [hop]
      · simp at h
    · simp at h
  · -- index
    rename_i t x ix hop
    split at h
    · rename_i xv hx
      split at h
      · exact scal_one h he hp hwf (by rw [hop]; simp)
      · split at h
        · rename_i kk k hk
          obtain ⟨h1, rfl, rfl, rfl⟩ := one_some h
          have h2 := he ix (by rw [hop]; simp [Op.operands]) _ hk
          simp only [VRel, PRel] at h2
          obtain ⟨y, hy, hr⟩ := index_sound (kk := kk) h1 (he x (by rw [hop]; simp [Op.operands]) _ hx)
          refine ⟨opres_quiet hp hwf (exec_value (s := Instr.index t (ev x) (ev ix)) ?_ (by rw [h2]; exact hy)) hr, fine_same hwf⟩
          unfold execOp; rw [hop]
        · simp at h
    · simp at h
  · -- typeAssert
    rename_i x xt asserted ok hop
    split at h
    · rename_i xv hx
      split at h
      · rename_i t u hi
        split at h
        · simp at h
        · rename_i d hni hu
          split at h
          · rename_i heq
            subst heq
            simp only [Option.some.injEq, Prod.mk.injEq] at h
            obtain ⟨rfl, rfl, rfl, rfl⟩ := h
            have hxr := he x (by rw [hop]; simp [Op.operands]) _ hx
            obtain ⟨y, hy, hur⟩ := rel_iface hxr hi
            have hrun : (Instr.typeAssert (ev x) xt t ok).run P w = .ok (if ok then .tuple #[y, .bool true] else y) w := by
              simp only [Instr.typeAssert, Sem.run_bind, run_underlying hu, Result.andThen_ok, hy]
              cases d <;> first
                | (simp; done)
                | exact absurd rfl (hni _)
            refine ⟨opres_quiet hp hwf (exec_value (s := Instr.typeAssert (ev x) xt t ok) ?_ hrun) ?_, fine_same hwf⟩
            · unfold execOp; rw [hop]
            · cases ok
              · exact hur
              · simp only [if_true, VRel]
                refine ⟨_, rfl, ?_⟩
                simp only [VList]
                exact ⟨y, [.bool true], rfl, hur, .bool true, [], rfl, by simp [VRel, PRel], rfl⟩
          · simp at h
        · simp at h
      · simp at h
    · simp at h
  · -- extract
    rename_i t k hop
    split at h
    · rename_i cs hc
      obtain ⟨h1, rfl, rfl, rfl⟩ := one_some h
      have hr := he t (by rw [hop]; simp [Op.operands]) _ hc
      simp only [VRel] at hr
      obtain ⟨l, hl, hcs⟩ := hr
      obtain ⟨y, hy, hyr⟩ := hcs.get k v h1
      refine ⟨opres_quiet hp hwf (exec_value (s := Instr.extract (ev t) k) ?_ (x := y) ?_) hyr, fine_same hwf⟩
      · unfold execOp; rw [hop]
      · have : l[k]? = some y := by simpa using hy
        simp [Instr.extract, hl, this]
    · simp at h
  · -- append
    rename_i args argTypes hop
    split at h
    · rename_i s x hargs
      split at h
      · rename_i sv hs
        split at h
        · rename_i xv hx
          have ha : args = #[s, x] := by apply Array.ext'; simpa using hargs
          subst ha
          refine append_sound (R := R) (W := W) (at_ := argTypes) (ty := o.type) ⟨_, ?_, rfl⟩ h hp hwf (he s (by rw [hop]; simp [Op.operands, Call.operands]) _ hs) (he x (by rw [hop]; simp [Op.operands, Call.operands]) _ hx)
          unfold execOp; rw [hop]; simp only [resolve, List.map_toArray, List.map_cons, List.map_nil]; rfl
        · simp at h
      · simp at h
    · simp at h
  · -- len
    rename_i args argTypes hop
    split at h
    · rename_i x hargs
      split at h
      · rename_i xv hx
        split at h
        · exact scal_one h he hp hwf (by rw [hop]; simp)
        · split at h
          · rename_i t ht
            obtain ⟨h1, rfl, rfl, rfl⟩ := one_some h
            have ha : args = #[x] := by apply Array.ext'; simpa using hargs
            subst ha
            cases hq : lenV P t xv with
            | none => simp [hq] at h1
            | some n =>
              simp only [hq, Option.map_some, Option.some.injEq] at h1
              subst h1
              have hxr := he x (by rw [hop]; simp [Op.operands, Call.operands]) _ hx
              have hl := len_sound (ty := o.type) hq hxr
              have e : Builtin.len_ argTypes o.type #[ev x] = Builtin.len_ #[t] o.type #[ev x] := by
                unfold Builtin.len_
                simp only [ht, List.getElem?_toArray, List.getElem?_cons_zero]
              refine ⟨opres_quiet hp hwf (exec_value (s := Builtin.len_ argTypes o.type #[ev x]) ?_ (by rw [e]; exact hl)) (by simp [VRel, PRel]), fine_same hwf⟩
              unfold execOp; rw [hop]; simp only [resolve, List.map_toArray, List.map_cons, List.map_nil]; rfl
          · simp at h
      · simp at h
    · simp at h
  · rename_i hop; exact scal_one h he hp hwf (by rw [hop]; simp)
  · simp at h

end

end Go.Proofs.Ytnolgpagdjcjbaa.Ve
/-! One piece behind the other. -/
set_option linter.unusedVariables false
set_option linter.unusedSimpArgs false
namespace Go.Proofs.Ytnolgpagdjcjbaa.Ve
open Go

/-- What is read and written is there. -/
def Live (st : St) (R W : List Nat) : Prop := ∀ i, i ∈ R ∨ i ∈ W → i < st.next → ∃ so, st.get i = some so

/-- Whatever its number is. -/
def LiveA (st : St) (R W : List Nat) : Prop := ∀ i, i ∈ R ∨ i ∈ W → ∃ so, st.get i = some so

theorem LiveA.nil (st : St) : LiveA st [] [] := fun i h => by rcases h with h | h <;> cases h

theorem Live.nil (st : St) : Live st [] [] := fun i h => by rcases h with h | h <;> cases h

section
variable {P : Program}

theorem srcRows_live {st : St} {size : Nat} {y : V} {q : List (List V)} {R : List Nat} (hq : srcRows st size y = some (q, R)) : ∀ i ∈ R, ∃ so, st.get i = some so := by
  intro i hi
  unfold srcRows at hq
  split at hq
  · simp only [Option.some.injEq, Prod.mk.injEq] at hq; obtain ⟨-, rfl⟩ := hq; cases hi
  · split at hq
    · simp only [Option.some.injEq, Prod.mk.injEq] at hq; obtain ⟨-, rfl⟩ := hq; cases hi
    · simp at hq
  · split at hq
    · rename_i so hso
      split at hq
      · simp only [Option.some.injEq, Prod.mk.injEq] at hq
        obtain ⟨-, rfl⟩ := hq
        simp only [List.mem_singleton] at hi
        subst hi
        exact ⟨so, hso⟩
      · simp at hq
    · simp at hq
  · simp at hq

theorem srcRows_own {st : St} {size i s r len : Nat} {q : List (List V)} {R : List Nat} (hq : srcRows st size (.ow i s r len) = some (q, R)) : ∃ so, st.get i = some so := by
  unfold srcRows at hq
  simp only at hq
  split at hq
  · exact ⟨_, by assumption⟩
  · simp at hq

theorem loadV_live {st : St} {t : TypeId} {x v : V} {R : List Nat} (hl : loadV P st t x = some (v, R)) : ∀ i ∈ R, ∃ so, st.get i = some so := by
  intro i hi
  unfold loadV at hl
  split at hl
  · split at hl
    · rename_i so hso
      split at hl
      · split at hl
        · simp only [Option.some.injEq, Prod.mk.injEq] at hl
          rw [← hl.2] at hi
          simp only [List.mem_singleton] at hi
          subst hi
          exact ⟨so, hso⟩
        · simp at hl
      · simp at hl
    · simp at hl
  · split at hl
    · simp only [Option.some.injEq, Prod.mk.injEq] at hl
      rw [← hl.2] at hi
      cases hi
    · simp at hl
  · simp at hl

theorem one_live {st st' : St} {x : Option V} {v : V} {R W : List Nat} (h : one st x = some (v, st', R, W)) : LiveA st R W := by
  obtain ⟨-, -, rfl, rfl⟩ := one_some h
  exact LiveA.nil st

theorem append_live {st st' : St} {at_ : Array TypeId} {s x v : V} {R W : List Nat} (h : appendV P st at_ s x = some (v, st', R, W)) : LiveA st R W := by
  unfold appendV at h
  repeat' split at h
  all_goals try (simp at h; done)
  · simp only [Option.some.injEq, Prod.mk.injEq] at h
    obtain ⟨-, -, rfl, rfl⟩ := h
    intro i hi
    rcases hi with hi | hi
    · exact srcRows_live (by assumption) i hi
    · cases hi
  · simp only [Option.some.injEq, Prod.mk.injEq] at h
    obtain ⟨-, -, rfl, rfl⟩ := h
    intro i hi
    rcases hi with hi | hi
    · exact srcRows_live (by assumption) i hi
    · cases hi
  · rename_i hsrc _ _
    simp only [Option.some.injEq, Prod.mk.injEq] at h
    obtain ⟨-, -, rfl, rfl⟩ := h
    intro i hi
    rcases hi with hi | hi
    · exact srcRows_live (by assumption) i hi
    · cases hi
  · simp only [Option.some.injEq, Prod.mk.injEq] at h
    obtain ⟨-, -, rfl, rfl⟩ := h
    rename_i hold _
    intro i hi
    rcases hi with hi | hi
    · rcases List.mem_append.1 hi with hi | hi
      · exact srcRows_live hold i hi
      · exact srcRows_live (by assumption) i hi
    · simp only [List.mem_singleton] at hi
      subst hi
      exact srcRows_own hold

theorem vop_liveA {env : Operand → Option V} {o : Oper} {st st' : St} {v : V} {R W : List Nat} (h : vop P env o st = some (v, st', R, W)) : LiveA st R W := by
  unfold vop at h
  split at h
  case h_4 => repeat' split at h
              all_goals first
                | (simp at h; done)
                | (simp only [Option.some.injEq, Prod.mk.injEq] at h; obtain ⟨-, -, rfl, rfl⟩ := h; exact LiveA.nil st)
  case h_5 => repeat' split at h
              all_goals first
                | (simp at h; done)
                | (simp only [Option.some.injEq, Prod.mk.injEq] at h; obtain ⟨-, -, rfl, rfl⟩ := h; exact LiveA.nil st)
  case h_7 =>
    split at h
    · unfold buildSliceV at h
      repeat' split at h
      all_goals first
        | (simp at h; done)
        | (simp only [Option.some.injEq, Prod.mk.injEq] at h; obtain ⟨-, -, rfl, rfl⟩ := h; exact LiveA.nil st)
    · simp at h
  case h_8 =>
    split at h
    · split at h
      · rename_i hl
        simp only [Option.some.injEq, Prod.mk.injEq] at h
        obtain ⟨-, -, rfl, rfl⟩ := h
        intro i hi
        rcases hi with hi | hi
        · exact loadV_live hl i hi
        · cases hi
      · simp at h
    · simp at h
  case h_9 =>
    split at h
    · split at h
      · split at h
        · rename_i hs
          simp only [Option.some.injEq, Prod.mk.injEq] at h
          obtain ⟨-, -, rfl, rfl⟩ := h
          unfold storeV at hs
          split at hs
          · split at hs
            · split at hs
              · simp only [Option.some.injEq, Prod.mk.injEq] at hs
                obtain ⟨-, rfl⟩ := hs
                exact LiveA.nil st
              · simp at hs
            · split at hs
              · rename_i so hso
                split at hs
                · split at hs
                  · simp only [Option.some.injEq, Prod.mk.injEq] at hs
                    obtain ⟨-, rfl⟩ := hs
                    intro i hi
                    rcases hi with hi | hi
                    · cases hi
                    · simp only [List.mem_singleton] at hi
                      subst hi
                      exact ⟨so, hso⟩
                  · simp at hs
                · simp at hs
              · simp at hs
          · simp at hs
        · simp at h
      · simp at h
    · simp at h
  case h_16 =>
    split at h
    · split at h
      · unfold makeSliceV at h
        repeat' split at h
        all_goals first
          | (simp at h; done)
          | (simp only [Option.some.injEq, Prod.mk.injEq] at h; obtain ⟨-, -, rfl, rfl⟩ := h; exact LiveA.nil st)
      · simp at h
    · simp at h
  all_goals
    repeat' split at h
    all_goals first
      | (simp at h; done)
      | exact one_live h
      | exact append_live h
      | (simp only [Option.some.injEq, Prod.mk.injEq] at h; obtain ⟨-, -, rfl, rfl⟩ := h; exact LiveA.nil st)

theorem vop_live {env : Operand → Option V} {o : Oper} {st st' : St} {v : V} {R W : List Nat} (h : vop P env o st = some (v, st', R, W)) : Live st R W := fun i hi _ => vop_liveA h i hi

end

section
variable {ρ ρ₁ ρ₂ : Ren} {F F₁ F₂ : Nat → Prop} {w w₁ w₂ : World} {st st₁ st₂ : St} {R W R₁ W₁ R₂ W₂ : List Nat} {n : Nat}

theorem blk_of {i : Nat} {x : Nat × Nat × Nat} (h : ρ i = some x) : blk ρ i = some x.1 := by simp [blk, h]

theorem blk_le (hr : RLe ρ ρ₁) {i B : Nat} (h : blk ρ i = some B) : blk ρ₁ i = some B := by
  unfold blk at h ⊢
  cases hi : ρ i with
  | none => simp [hi] at h
  | some x => rw [hr i x hi]; simpa [hi] using h

theorem blk_back (hr : RLe ρ ρ₁) {i B : Nat} (h : blk ρ₁ i = some B) (hs : ∃ B', blk ρ i = some B') : blk ρ i = some B := by
  obtain ⟨B', hB'⟩ := hs
  have := blk_le hr hB'
  rw [h] at this
  rw [hB', this]

/-- The second piece can start. -/
theorem Pre.next (hp : Pre ρ F w st R W n) (h1 : Post ρ F w st ρ₁ F₁ w₁ st₁ W₁) (f1 : Fine st st₁ W₁) (hlive : Live st₁ R₂ W₂)
    (hW1 : ∀ i, i < st.next → i ∈ W₁ → i ∈ W) (hR2 : ∀ i, i < st.next → i ∈ R₂ → i ∈ R ∨ i ∈ W) (hW2 : ∀ i, i < st.next → i ∈ W₂ → i ∈ W) (hl1 : Live st R₁ W₁) : Pre ρ₁ F₁ w₁ st₁ R₂ W₂ n := by
  have hext : Ext F w F₁ w₁ := ⟨h1.fle, fun B hB => h1.heap B (hp.fok B hB) (fun i hi hm e => by
    obtain ⟨so, hg, B', o, c, e', hρ, hF, -⟩ := hp.obj i hi (.inr (hW1 i hi hm))
    rw [blk_of hρ] at e
    simp only [Option.some.injEq] at e
    exact hF (by rw [e]; exact hB)), h1.shp⟩
  have mem : ∀ i, i < st.next → (i ∈ R₂ ∨ i ∈ W₂) → i ∈ R ∨ i ∈ W := fun i hi hm => hm.elim (hR2 i hi) (fun h => .inr (hW2 i hi h))
  -- the block of an old object that the first piece leaves alone
  have oldblk : ∀ j, j < st.next → j ∉ W₁ → (j ∈ R ∨ j ∈ W) → ∃ B, blk ρ j = some B ∧ B < w.heap.size ∧ (∀ i, i < st.next → i ∈ W₁ → blk ρ i ≠ some B) := by
    intro j hj hnj hm
    obtain ⟨so, hg, ho⟩ := hp.obj j hj hm
    obtain ⟨B, hB, hlt⟩ := ho.lt
    refine ⟨B, hB, hlt, fun i hi him e => ?_⟩
    have hne : i ≠ j := fun e => hnj (e ▸ him)
    exact hp.inj i j hi hj (hW1 i hi him) hm hne (e.trans hB.symm)
  refine ⟨h1.fok, fun i hi hm => ?_, fun i j hi hj him hjm hne => ?_, fun i h1' h2' => ?_⟩
  · obtain ⟨so, hso⟩ := hlive i hm hi
    refine ⟨so, hso, ?_⟩
    by_cases hold : i < st.next
    · by_cases hw : i ∈ W₁
      · exact (h1.obj i so (.inl ⟨hold, hw⟩) hso).1
      · rw [f1.same i hold hw] at hso
        obtain ⟨so', hg, ho⟩ := hp.obj i hold (mem i hold hm)
        rw [hso] at hg
        cases hg
        obtain ⟨B, hB, hlt, hno⟩ := oldblk i hold hw (mem i hold hm)
        refine ho.keep hext h1.rle fun B' hB' => ?_
        rw [hB] at hB'
        cases hB'
        refine ⟨h1.heap B hlt hno, fun hF => ?_⟩
        rcases h1.fnew B hF with hF | hge | ⟨k, hk, hkm, hkb⟩
        · obtain ⟨B'', o, c, e, hρ, hnF, -⟩ := ho
          rw [blk_of hρ] at hB
          simp only [Option.some.injEq] at hB
          exact hnF (hB ▸ hF)
        · omega
        · exact hno k hk hkm hkb
    · exact (h1.obj i so (.inr (by omega)) hso).1
  · have cls : ∀ k, k < st₁.next → (k ∈ R₂ ∨ k ∈ W₂) → (k < st.next ∧ k ∈ W₁ ∨ st.next ≤ k) ∨ (k < st.next ∧ k ∉ W₁) := fun k _ _ => by
      by_cases h : k < st.next
      · by_cases h' : k ∈ W₁
        · exact .inl (.inl ⟨h, h'⟩)
        · exact .inr ⟨h, h'⟩
      · exact .inl (.inr (by omega))
    have some1 : ∀ k, k < st₁.next → (k ∈ R₂ ∨ k ∈ W₂) → (st₁.get k).isSome := fun k hk hm => by obtain ⟨so, h⟩ := hlive k hm hk; rw [h]; rfl
    have mixed : ∀ a b, a < st₁.next → b < st₁.next → (a ∈ R₂ ∨ a ∈ W₂) → (b ∈ R₂ ∨ b ∈ W₂) → (a < st.next ∧ a ∈ W₁ ∨ st.next ≤ a) → (b < st.next ∧ b ∉ W₁) → blk ρ₁ a ≠ blk ρ₁ b := by
      intro a b ha hb ham hbm hca hcb e
      obtain ⟨B, hB, hlt, hno⟩ := oldblk b hcb.1 hcb.2 (mem b hcb.1 hbm)
      have hB1 := blk_le h1.rle hB
      obtain ⟨so, hso⟩ := hlive a ham ha
      obtain ⟨-, hcl⟩ := h1.obj a so hca hso
      rcases hcl B (e.trans hB1) with hge | ⟨k, hk, hkm, hkb⟩
      · omega
      · exact hno k hk hkm hkb
    rcases cls i hi (.inr him) with ci | ci <;> rcases cls j hj hjm with cj | cj
    · exact h1.inj i j ci cj (some1 i hi (.inr him)) (some1 j hj hjm) hne
    · exact mixed i j hi hj (.inr him) hjm ci cj
    · exact fun e => mixed j i hj hi hjm (.inr him) cj ci e.symm
    · obtain ⟨B, hB, -⟩ := oldblk i ci.1 ci.2 (mem i ci.1 (.inr him))
      obtain ⟨B', hB', -⟩ := oldblk j cj.1 cj.2 (mem j cj.1 hjm)
      have := hp.inj i j ci.1 cj.1 (hW2 i ci.1 him) (mem j cj.1 hjm) hne
      intro e
      rw [blk_le h1.rle hB, blk_le h1.rle hB'] at e
      exact this (hB.trans (e.trans hB'.symm))
  · have := hp.fresh i (Nat.le_trans f1.next h1') h2'
    cases hq : ρ₁ i with
    | none => rfl
    | some x =>
      have hne : ρ₁ i ≠ ρ i := by rw [hq, this]; simp
      have := (h1.rnew i hne).2
      omega

/-- The two pieces together. -/
theorem Post.trans (hp : Pre ρ F w st R W n) (h1 : Post ρ F w st ρ₁ F₁ w₁ st₁ W₁) (f1 : Fine st st₁ W₁) (hp2 : Pre ρ₁ F₁ w₁ st₁ R₂ W₂ n) (h2 : Post ρ₁ F₁ w₁ st₁ ρ₂ F₂ w₂ st₂ W₂) (f2 : Fine st₁ st₂ W₂)
    (hW1 : ∀ i, i < st.next → i ∈ W₁ → i ∈ W) (hW2 : ∀ i, i < st.next → i ∈ W₂ → i ∈ W) : Post ρ F w st ρ₂ F₂ w₂ st₂ (W₁ ++ W₂) := by
  -- the block of what the second piece writes
  have w2blk : ∀ k B, k < st₁.next → k ∈ W₂ → blk ρ₁ k = some B → (k < st.next ∧ blk ρ k = some B) ∨ (st.next ≤ k ∧ (w.heap.size ≤ B ∨ ∃ j, j < st.next ∧ j ∈ W₁ ∧ blk ρ j = some B)) := by
    intro k B hk hkm hkb
    by_cases hold : k < st.next
    · obtain ⟨so, hg, ho⟩ := hp.obj k hold (.inr (hW2 k hold hkm))
      obtain ⟨B', hB', -⟩ := ho.lt
      exact .inl ⟨hold, blk_back h1.rle hkb ⟨B', hB'⟩⟩
    · obtain ⟨so, hg, -⟩ := hp2.obj k hk (.inr hkm)
      exact .inr ⟨by omega, (h1.obj k so (.inr (by omega)) hg).2 B hkb⟩
  have hfnew1 : ∀ B, F₁ B → F B ∨ w.heap.size ≤ B ∨ ∃ i, i < st.next ∧ i ∈ W₁ ++ W₂ ∧ blk ρ i = some B := fun B hB =>
    (h1.fnew B hB).imp id (Or.imp id fun ⟨i, h1, h2, h3⟩ => ⟨i, h1, by simp [h2], h3⟩)
  -- an object that the second piece leaves alone
  have alone : ∀ i so, (i < st.next ∧ i ∈ W₁ ∨ st.next ≤ i) → i < st₁.next → i ∉ W₂ → st₁.get i = some so → ∃ B, blk ρ₁ i = some B ∧ B < w₁.heap.size ∧ ∀ j, j < st₁.next → j ∈ W₂ → blk ρ₁ j ≠ some B := by
    intro i so hi hlt hn hso
    obtain ⟨ho, hcl⟩ := h1.obj i so hi hso
    obtain ⟨B, hB, hBlt⟩ := ho.lt
    refine ⟨B, hB, hBlt, fun j hj hjm e => ?_⟩
    have hne : j ≠ i := fun e => hn (e ▸ hjm)
    obtain ⟨soj, hsoj, -⟩ := hp2.obj j hj (.inr hjm)
    by_cases hjc : j < st.next ∧ j ∈ W₁ ∨ st.next ≤ j
    · exact h1.inj j i hjc hi (by rw [hsoj]; rfl) (by rw [hso]; rfl) hne (e.trans hB.symm)
    · have hjo : j < st.next := by omega
      have hjn : j ∉ W₁ := fun h => hjc (.inl ⟨hjo, h⟩)
      obtain ⟨so', hg', ho'⟩ := hp.obj j hjo (.inr (hW2 j hjo hjm))
      obtain ⟨B', hB', hlt'⟩ := ho'.lt
      have : B' = B := by
        have := blk_le h1.rle hB'
        rw [e] at this
        simpa using this.symm
      subst this
      rcases hcl B' hB with hge | ⟨k, hk, hkm, hkb⟩
      · omega
      · have hkj : k ≠ j := fun e => hjn (e ▸ hkm)
        exact hp.inj k j hk hjo (hW1 k hk hkm) (.inr (hW2 j hjo hjm)) hkj (hkb.trans hB'.symm)
  have hext2 : Ext F₁ w₁ F₂ w₂ := ⟨h2.fle, fun B hB => h2.heap B (h1.fok B hB) (fun i hi hm e => by
    obtain ⟨so, hg, B', o, c, e', hρ, hF, -⟩ := hp2.obj i hi (.inr hm)
    rw [blk_of hρ] at e
    simp only [Option.some.injEq] at e
    exact hF (by rw [e]; exact hB)), h2.shp⟩
  have wclaim : ∀ k B, k < st₁.next → k ∈ W₂ → blk ρ₁ k = some B → w.heap.size ≤ B ∨ ∃ j, j < st.next ∧ j ∈ W₁ ++ W₂ ∧ blk ρ j = some B := fun k B hk hkm hkb => by
    rcases w2blk k B hk hkm hkb with ⟨ho, hb⟩ | ⟨hn, hb⟩
    · exact .inr ⟨k, ho, by simp [hkm], hb⟩
    · exact hb.imp id fun ⟨j, h1, h2, h3⟩ => ⟨j, h1, by simp [h2], h3⟩
  have split : ∀ i so, (i < st.next ∧ i ∈ W₁ ++ W₂ ∨ st.next ≤ i) → st₂.get i = some so → (i < st₁.next ∧ i ∈ W₂ ∨ st₁.next ≤ i) ∨ (i < st₁.next ∧ i ∉ W₂ ∧ (i < st.next ∧ i ∈ W₁ ∨ st.next ≤ i) ∧ st₁.get i = some so) := by
    intro i so hi hg
    by_cases h : i < st₁.next
    · by_cases h' : i ∈ W₂
      · exact .inl (.inl ⟨h, h'⟩)
      · refine .inr ⟨h, h', hi.imp (fun ⟨a, b⟩ => ⟨a, ?_⟩) id, by rw [← f2.same i h h']; exact hg⟩
        rcases List.mem_append.1 b with b | b
        · exact b
        · exact absurd b h'
    · exact .inl (.inr (by omega))
  refine ⟨fun i x h => h2.rle i x (h1.rle i x h), fun i hi => ?_, fun B h => h2.fle B (h1.fle B h), fun B hB => ?_, h2.fok, Nat.le_trans h1.size h2.size, h1.shp.trans h2.shp, fun B hB hno => ?_, fun i so hi hg => ?_, fun i j hi hj gi gj hne => ?_⟩
  · by_cases e : ρ₁ i = ρ i
    · rw [← e] at hi
      have := h2.rnew i hi
      exact ⟨Nat.le_trans f1.next this.1, this.2⟩
    · have := h1.rnew i e
      exact ⟨this.1, Nat.lt_of_lt_of_le this.2 f2.next⟩
  · rcases h2.fnew B hB with h | h | ⟨k, hk, hkm, hkb⟩
    · exact hfnew1 B h
    · exact .inr (.inl (Nat.le_trans h1.size h))
    · exact .inr (wclaim k B hk hkm hkb)
  · rw [h2.heap B (Nat.lt_of_lt_of_le hB h1.size) (fun k hk hkm hkb => ?_), h1.heap B hB (fun k hk hkm => hno k hk (by simp [hkm]))]
    rcases w2blk k B hk hkm hkb with ⟨ho, hb⟩ | ⟨hn, hb⟩
    · exact hno k ho (by simp [hkm]) hb
    · rcases hb with hge | ⟨j, hj, hjm, hjb⟩
      · omega
      · exact hno j hj (by simp [hjm]) hjb
  · rcases split i so hi hg with hc | ⟨hlt, hn, hc, hg1⟩
    · obtain ⟨ho, hcl⟩ := h2.obj i so hc hg
      refine ⟨ho, fun B hB => ?_⟩
      rcases hcl B hB with hge | ⟨k, hk, hkm, hkb⟩
      · exact .inl (Nat.le_trans h1.size hge)
      · exact wclaim k B hk hkm hkb
    · obtain ⟨ho, hcl⟩ := h1.obj i so hc hg1
      obtain ⟨B, hB, hBlt, hno⟩ := alone i so hc hlt hn hg1
      refine ⟨ho.keep hext2 h2.rle fun B' hB' => ?_, fun B' hB' => ?_⟩
      · rw [hB] at hB'
        cases hB'
        refine ⟨h2.heap B hBlt hno, fun hF => ?_⟩
        rcases h2.fnew B hF with hF | hge | ⟨k, hk, hkm, hkb⟩
        · obtain ⟨B'', o, c, e, hρ, hnF, -⟩ := ho
          rw [blk_of hρ] at hB
          simp only [Option.some.injEq] at hB
          exact hnF (hB ▸ hF)
        · omega
        · exact hno k hk hkm hkb
      · have := blk_back h2.rle hB' ⟨B, hB⟩
        exact (hcl B' this).imp id fun ⟨j, h1, h2, h3⟩ => ⟨j, h1, by simp [h2], h3⟩
  · cases hgi : st₂.get i with
    | none => rw [hgi] at gi; cases gi
    | some soi =>
    cases hgj : st₂.get j with
    | none => rw [hgj] at gj; cases gj
    | some soj =>
    have mixed : ∀ a b soa sob, (a < st₁.next ∧ a ∈ W₂ ∨ st₁.next ≤ a) → st₂.get a = some soa → (b < st₁.next ∧ b ∉ W₂ ∧ (b < st.next ∧ b ∈ W₁ ∨ st.next ≤ b) ∧ st₁.get b = some sob) → blk ρ₂ a ≠ blk ρ₂ b := by
      intro a b soa sob ha hga ⟨hb1, hb2, hb3, hb4⟩ e
      obtain ⟨B, hB, hBlt, hno⟩ := alone b sob hb3 hb1 hb2 hb4
      have hB2 := blk_le h2.rle hB
      rcases (h2.obj a soa ha hga).2 B (e.trans hB2) with hge | ⟨k, hk, hkm, hkb⟩
      · omega
      · exact hno k hk hkm hkb
    rcases split i soi hi hgi with ci | ci <;> rcases split j soj hj hgj with cj | cj
    · exact h2.inj i j ci cj gi gj hne
    · exact mixed i j soi soj ci hgi cj
    · exact fun e => mixed j i soj soi cj hgj ci e.symm
    · obtain ⟨hi1, hi2, hi3, hi4⟩ := ci
      obtain ⟨hj1, hj2, hj3, hj4⟩ := cj
      obtain ⟨B, hB, -⟩ := alone i soi hi3 hi1 hi2 hi4
      obtain ⟨B', hB', -⟩ := alone j soj hj3 hj1 hj2 hj4
      have := h1.inj i j hi3 hj3 (by rw [hi4]; rfl) (by rw [hj4]; rfl) hne
      intro e
      rw [blk_le h2.rle hB, blk_le h2.rle hB'] at e
      exact this (hB.trans (e.trans hB'.symm))

theorem Fine.trans (f1 : Fine st st₁ W₁) (f2 : Fine st₁ st₂ W₂) : Fine st st₂ (W₁ ++ W₂) where
  next := Nat.le_trans f1.next f2.next
  same := fun i hi hm => by
    simp only [List.mem_append, not_or] at hm
    rw [f2.same i (Nat.lt_of_lt_of_le hi f1.next) hm.2, f1.same i hi hm.1]
  wf := f2.wf

theorem Live.trans (f1 : Fine st st₁ W₁) (l1 : Live st R₁ W₁) (l2 : Live st₁ R₂ W₂) : Live st (R₁ ++ R₂) (W₁ ++ W₂) := fun i hi hlt => by
  by_cases h1 : i ∈ R₁ ∨ i ∈ W₁
  · exact l1 i h1 hlt
  · have h2 : i ∈ R₂ ∨ i ∈ W₂ := by
      simp only [List.mem_append] at hi
      simp only [not_or] at h1
      rcases hi with (h | h) | (h | h)
      · exact absurd h h1.1
      · exact .inl h
      · exact absurd h h1.2
      · exact .inr h
    obtain ⟨so, hso⟩ := l2 i h2 (Nat.lt_of_lt_of_le hlt f1.next)
    rw [f1.same i hlt (fun h => h1 (.inr h))] at hso
    exact ⟨so, hso⟩

theorem Pre.mono {n' : Nat} {R' W' : List Nat} (hp : Pre ρ F w st R W n) (hR : ∀ i, i < st.next → i ∈ R' → i ∈ R ∨ i ∈ W) (hW : ∀ i, i < st.next → i ∈ W' → i ∈ W) (hn : n' ≤ n) : Pre ρ F w st R' W' n' :=
  ⟨hp.fok, fun i hi hm => hp.obj i hi (hm.elim (hR i hi) (fun h => .inr (hW i hi h))), fun i j hi hj him hjm hne => hp.inj i j hi hj (hW i hi him) (hjm.elim (hR j hj) (fun h => .inr (hW j hj h))) hne,
    fun i h1 h2 => hp.fresh i h1 (by omega)⟩

theorem Post.mono {W' : List Nat} (h : Post ρ F w st ρ₁ F₁ w₁ st₁ W) (hW : ∀ i, i < st.next → (i ∈ W ↔ i ∈ W')) : Post ρ F w st ρ₁ F₁ w₁ st₁ W' where
  rle := h.rle
  rnew := h.rnew
  fle := h.fle
  fnew := fun B hB => (h.fnew B hB).imp id (Or.imp id fun ⟨i, h1, h2, h3⟩ => ⟨i, h1, (hW i h1).1 h2, h3⟩)
  fok := h.fok
  size := h.size
  shp := h.shp
  heap := fun B hB hno => h.heap B hB fun i hi hm => hno i hi ((hW i hi).1 hm)
  obj := fun i so hi hg => by
    obtain ⟨h1, h2⟩ := h.obj i so (hi.imp (fun ⟨a, b⟩ => ⟨a, (hW i a).2 b⟩) id) hg
    exact ⟨h1, fun B hB => (h2 B hB).imp id fun ⟨j, h1, h2, h3⟩ => ⟨j, h1, (hW j h1).1 h2, h3⟩⟩
  inj := fun i j hi hj => h.inj i j (hi.imp (fun ⟨a, b⟩ => ⟨a, (hW i a).2 b⟩) id) (hj.imp (fun ⟨a, b⟩ => ⟨a, (hW j a).2 b⟩) id)

/-- What is kept from start to end. -/
theorem Post.ext (hp : Pre ρ F w st R W n) (h : Post ρ F w st ρ₁ F₁ w₁ st₁ W₁) (hW : ∀ i, i < st.next → i ∈ W₁ → i ∈ W) : Ext F w F₁ w₁ :=
  ⟨h.fle, fun B hB => h.heap B (hp.fok B hB) (fun i hi hm e => by
    obtain ⟨so, hg, B', o, c, e', hρ, hF, -⟩ := hp.obj i hi (.inr (hW i hi hm))
    rw [blk_of hρ] at e
    simp only [Option.some.injEq] at e
    exact hF (by rw [e]; exact hB)), h.shp⟩

end

end Go.Proofs.Ytnolgpagdjcjbaa.Ve
/-! Freezing; calls. -/
set_option linter.unusedVariables false
set_option linter.unusedSimpArgs false
namespace Go.Proofs.Ytnolgpagdjcjbaa.Ve
open Go

/-- Frozen besides: the blocks of these objects. -/
def FB (ρ : Ren) (F : Nat → Prop) (I : List Nat) (B : Nat) : Prop := F B ∨ ∃ i ∈ I, blk ρ i = some B

section
variable {ρ ρ₁ ρ₂ : Ren} {F F₁ F₂ : Nat → Prop} {w w₁ w₂ : World} {st st₁ st₂ : St}

theorem frzs_get {f : V → Option (PV × List Nat)} : ∀ {vs : List V} {ps : List PV} {ids : List Nat}, frz.frzs f vs = some (ps, ids) → ps.length = vs.length ∧ ∀ (k : Nat) v, vs[k]? = some v → ∃ p idk, ps[k]? = some p ∧ f v = some (p, idk) ∧ ∀ i ∈ idk, i ∈ ids
  | [], ps, ids, h => by
    simp only [frz.frzs, Option.some.injEq, Prod.mk.injEq] at h
    obtain ⟨rfl, rfl⟩ := h
    exact ⟨rfl, by simp⟩
  | v :: vs, ps, ids, h => by
    simp only [frz.frzs] at h
    split at h
    · rename_i p id1 hp
      split at h
      · rename_i qs id2 hq
        simp only [Option.some.injEq, Prod.mk.injEq] at h
        obtain ⟨rfl, rfl⟩ := h
        obtain ⟨h1, h2⟩ := frzs_get hq
        refine ⟨by simp [h1], fun k u hk => ?_⟩
        cases k with
        | zero =>
          simp at hk
          subst hk
          exact ⟨p, id1, rfl, hp, fun i hi => by simp [hi]⟩
        | succ k =>
          obtain ⟨q, idk, g1, g2, g3⟩ := h2 k u (by simpa using hk)
          exact ⟨q, idk, by simpa using g1, g2, fun i hi => by simp [g3 i hi]⟩
      · simp at h
    · simp at h

theorem frzss_get {f : V → Option (PV × List Nat)} : ∀ {vs : List (List V)} {ps : List (List PV)} {ids : List Nat}, frz.frzss f vs = some (ps, ids) → ps.length = vs.length ∧ ∀ (k : Nat) v, vs[k]? = some v → ∃ p idk, ps[k]? = some p ∧ frz.frzs f v = some (p, idk) ∧ ∀ i ∈ idk, i ∈ ids
  | [], ps, ids, h => by
    simp only [frz.frzss, Option.some.injEq, Prod.mk.injEq] at h
    obtain ⟨rfl, rfl⟩ := h
    exact ⟨rfl, by simp⟩
  | v :: vs, ps, ids, h => by
    simp only [frz.frzss] at h
    split at h
    · rename_i p id1 hp
      split at h
      · rename_i qs id2 hq
        simp only [Option.some.injEq, Prod.mk.injEq] at h
        obtain ⟨rfl, rfl⟩ := h
        obtain ⟨h1, h2⟩ := frzss_get hq
        refine ⟨by simp [h1], fun k u hk => ?_⟩
        cases k with
        | zero =>
          simp at hk
          subst hk
          exact ⟨p, id1, rfl, hp, fun i hi => by simp [hi]⟩
        | succ k =>
          obtain ⟨q, idk, g1, g2, g3⟩ := h2 k u (by simpa using hk)
          exact ⟨q, idk, by simpa using g1, g2, fun i hi => by simp [g3 i hi]⟩
      · simp at h
    · simp at h

theorem PList.intro : ∀ {ps : List PV} {l : List Value}, l.length = ps.length → (∀ (k : Nat) p, ps[k]? = some p → ∃ v, l[k]? = some v ∧ PRel F w p v) → PList F w ps l
  | [], l, hl, _ => by simp only [PList]; exact List.eq_nil_of_length_eq_zero (by simpa using hl)
  | p :: ps, [], hl, _ => by simp at hl
  | p :: ps, v :: vs, hl, h => by
    simp only [PList]
    obtain ⟨u, hu, hr⟩ := h 0 p rfl
    obtain rfl : v = u := by simpa using hu
    exact ⟨v, vs, rfl, hr, PList.intro (by simpa using hl) fun k x hk => by simpa using h (k + 1) x (by simpa using hk)⟩

theorem ext_fb (I : List Nat) : Ext F w (FB ρ F I) w := ⟨fun _ h => .inl h, fun _ _ => rfl, Shp.refl w⟩

theorem frz_sound {I : List Nat} (hI : ∀ i ∈ I, ∀ so, st.get i = some so → ObjRel ρ F w i so) : ∀ (n : Nat) (v : V) (p : PV) (ids : List Nat) (val : Value), frz st n v = some (p, ids) → (∀ i ∈ ids, i ∈ I) → VRel ρ F w v val → PRel (FB ρ F I) w p val := by
  have base1 : ∀ (q p : PV) (ids : List Nat) (val : Value), some (q, ([] : List Nat)) = some (p, ids) → VRel ρ F w (.pv q) val → PRel (FB ρ F I) w p val := by
    intro q p ids val h hv
    simp only [Option.some.injEq, Prod.mk.injEq] at h
    obtain ⟨rfl, rfl⟩ := h
    simp only [VRel] at hv
    exact PRel.mono (ext_fb I) q val hv
  have base2 : ∀ (p : PV) (ids : List Nat) (val : Value), some (PV.fz [], ([] : List Nat)) = some (p, ids) → VRel ρ F w .nl val → PRel (FB ρ F I) w p val := by
    intro p ids val h hv
    simp only [Option.some.injEq, Prod.mk.injEq] at h
    obtain ⟨rfl, rfl⟩ := h
    simp only [VRel] at hv
    subst hv
    simp only [PRel]
    exact ⟨none, 0, rfl, by simp, .inl trivial⟩
  intro n
  induction n with
  | zero =>
    intro v p ids val h hids hv
    cases v with
    | pv q => exact base1 q p ids val (by simpa [frz] using h) hv
    | nl => exact base2 p ids val (by simpa [frz] using h) hv
    | _ => simp [frz] at h
  | succ n ih =>
    intro v p ids val h hids hv
    cases v with
    | pv q => exact base1 q p ids val (by simpa [frz] using h) hv
    | nl => exact base2 p ids val (by simpa [frz] using h) hv
    | agg cs =>
      simp only [frz] at h
      split at h
      · rename_i ps id1 hq
        simp only [Option.some.injEq, Prod.mk.injEq] at h
        obtain ⟨rfl, rfl⟩ := h
        simp only [VRel] at hv
        obtain ⟨l, rfl, hl⟩ := hv
        simp only [PRel]
        obtain ⟨h1, h2⟩ := frzs_get hq
        refine ⟨l, rfl, PList.intro (by rw [hl.length, h1]) fun k q hk => ?_⟩
        have hlt : k < cs.length := by have := (List.getElem?_eq_some_iff.1 hk).1; omega
        obtain ⟨q', idk, g1, g2, g3⟩ := h2 k cs[k] (by simp [hlt])
        rw [hk] at g1
        cases g1
        obtain ⟨u, hu, hur⟩ := hl.get k cs[k] (by simp [hlt])
        exact ⟨u, hu, ih _ _ _ _ g2 (fun i hi => hids i (g3 i hi)) hur⟩
      · simp at h
    | ifc t x =>
      simp only [frz] at h
      split at h
      · rename_i q id1 hq
        simp only [Option.some.injEq, Prod.mk.injEq] at h
        obtain ⟨rfl, rfl⟩ := h
        simp only [VRel] at hv
        obtain ⟨u, rfl, hu⟩ := hv
        simp only [PRel]
        exact ⟨u, rfl, ih _ _ _ _ hq hids hu⟩
      · simp at h
    | ow i s r len =>
      simp only [frz] at h
      split at h
      · rename_i so hso
        split at h
        · rename_i hle
          split at h
          · rename_i rows id1 hq
            simp only [Option.some.injEq, Prod.mk.injEq] at h
            obtain ⟨rfl, rfl⟩ := h
            simp only [VRel] at hv
            obtain ⟨B, o, a, cap, hρ, rfl, hlc, hca, -⟩ := hv
            obtain ⟨h1, h2⟩ := frzss_get hq
            have hlen : rows.length = len := by rw [h1]; simp; omega
            have hiI : i ∈ I := hids i (by simp)
            obtain ⟨B', o', c, e, hρ', hF, hb, hR⟩ := hI i hiI so hso
            rw [hρ] at hρ'
            simp only [Option.some.injEq, Prod.mk.injEq] at hρ'
            obtain ⟨rfl, rfl, hs⟩ := hρ'
            simp only [PRel]
            refine ⟨_, cap, by rw [hlen], by rw [hlen]; exact hlc, ?_⟩
            by_cases h0 : rows = []
            · exact .inl h0
            · right
              have hpos : len ≠ 0 := by
                intro e
                exact h0 (List.eq_nil_of_length_eq_zero (by omega))
              have ha : a = o + r * s := by
                rcases hca with hc | hc
                · omega
                · exact hc
              refine ⟨B, a, s, rfl, .inr ⟨i, hiI, blk_of hρ⟩, PRows.intro fun k row hk => ?_⟩
              have hlt : k < ((so.rows.drop r).take len).length := by have := (List.getElem?_eq_some_iff.1 hk).1; omega
              obtain ⟨q', idk, g1, g2, g3⟩ := h2 k ((so.rows.drop r).take len)[k] (by simp only [List.getElem?_eq_getElem hlt])
              rw [hk] at g1
              cases g1
              have hrow : so.rows[r + k]? = some ((so.rows.drop r).take len)[k] := by
                have := List.getElem?_eq_getElem hlt
                rw [List.getElem?_take] at this
                split at this
                · rwa [List.getElem?_drop] at this
                · cases this
              obtain ⟨m1, m2⟩ := hR (r + k) _ hrow
              obtain ⟨f1, f2⟩ := frzs_get g2
              refine ⟨by rw [f1, m1, hs], PCells.intro fun j pj hj => ?_⟩
              have hjlt : j < ((so.rows.drop r).take len)[k].length := by have := (List.getElem?_eq_some_iff.1 hj).1; omega
              obtain ⟨pj', idj, e1, e2, e3⟩ := f2 j _ (List.getElem?_eq_getElem hjlt)
              rw [hj] at e1
              cases e1
              obtain ⟨u, hu, hu1, hur⟩ := m2 j _ (List.getElem?_eq_getElem hjlt)
              refine ⟨u, ?_, hu1, ih _ _ _ _ e2 (fun i hi => hids i (by simp [g3 i (e3 i hi)])) hur⟩
              have : o + (r + k) * so.s + j = a + k * s + j := by rw [ha, ← hs, Nat.add_mul]; omega
              rw [this] at hu
              simp [World.cell?, hb, hu]
          · simp at h
        · simp at h
      · simp at h
    | _ => simp [frz] at h

theorem frz_live : ∀ (n : Nat) (v : V) (p : PV) (ids : List Nat), frz st n v = some (p, ids) → ∀ i ∈ ids, ∃ so, st.get i = some so := by
  have helper : ∀ (f : V → Option (PV × List Nat)), (∀ v p ids, f v = some (p, ids) → ∀ i ∈ ids, ∃ so, st.get i = some so) → ∀ (vs : List V) (ps : List PV) (ids : List Nat), frz.frzs f vs = some (ps, ids) → ∀ i ∈ ids, ∃ so, st.get i = some so := by
    intro f hf vs
    induction vs with
    | nil => intro ps ids h i hi; simp only [frz.frzs, Option.some.injEq, Prod.mk.injEq] at h; obtain ⟨-, rfl⟩ := h; cases hi
    | cons v vs ih =>
      intro ps ids h i hi
      simp only [frz.frzs] at h
      split at h
      · rename_i p id1 hp
        split at h
        · rename_i qs id2 hq
          simp only [Option.some.injEq, Prod.mk.injEq] at h
          obtain ⟨-, rfl⟩ := h
          rcases List.mem_append.1 hi with hi | hi
          · exact hf v p id1 hp i hi
          · exact ih qs id2 hq i hi
        · simp at h
      · simp at h
  have helper2 : ∀ (f : V → Option (PV × List Nat)), (∀ v p ids, f v = some (p, ids) → ∀ i ∈ ids, ∃ so, st.get i = some so) → ∀ (vs : List (List V)) (ps : List (List PV)) (ids : List Nat), frz.frzss f vs = some (ps, ids) → ∀ i ∈ ids, ∃ so, st.get i = some so := by
    intro f hf vs
    induction vs with
    | nil => intro ps ids h i hi; simp only [frz.frzss, Option.some.injEq, Prod.mk.injEq] at h; obtain ⟨-, rfl⟩ := h; cases hi
    | cons v vs ih =>
      intro ps ids h i hi
      simp only [frz.frzss] at h
      split at h
      · rename_i p id1 hp
        split at h
        · rename_i qs id2 hq
          simp only [Option.some.injEq, Prod.mk.injEq] at h
          obtain ⟨-, rfl⟩ := h
          rcases List.mem_append.1 hi with hi | hi
          · exact helper f hf v p id1 hp i hi
          · exact ih qs id2 hq i hi
        · simp at h
      · simp at h
  intro n
  induction n with
  | zero =>
    intro v p ids h i hi
    cases v <;> simp [frz] at h <;> (obtain ⟨-, rfl⟩ := h; cases hi)
  | succ n ih =>
    intro v p ids h i hi
    cases v with
    | agg cs =>
      simp only [frz] at h
      split at h
      · rename_i ps id1 hq
        simp only [Option.some.injEq, Prod.mk.injEq] at h
        obtain ⟨-, rfl⟩ := h
        exact helper _ ih _ _ _ hq i hi
      · simp at h
    | ifc t x =>
      simp only [frz] at h
      split at h
      · rename_i q id1 hq
        simp only [Option.some.injEq, Prod.mk.injEq] at h
        obtain ⟨-, rfl⟩ := h
        exact ih _ _ _ hq i hi
      · simp at h
    | ow j s r len =>
      simp only [frz] at h
      split at h
      · rename_i so hso
        split at h
        · split at h
          · rename_i rows id1 hq
            simp only [Option.some.injEq, Prod.mk.injEq] at h
            obtain ⟨-, rfl⟩ := h
            rcases List.mem_cons.1 hi with rfl | hi
            · exact ⟨so, hso⟩
            · exact helper2 _ ih _ _ _ hq i hi
          · simp at h
        · simp at h
      · simp at h
    | _ => simp [frz] at h <;> (obtain ⟨-, rfl⟩ := h; cases hi)

theorem frzAll_live : ∀ {vs : List V} {ps : List PV} {ids : List Nat}, frzAll st vs = some (ps, ids) → ∀ i ∈ ids, ∃ so, st.get i = some so
  | [], ps, ids, h => by simp only [frzAll, Option.some.injEq, Prod.mk.injEq] at h; obtain ⟨-, rfl⟩ := h; simp
  | v :: vs, ps, ids, h => by
    simp only [frzAll] at h
    split at h
    · rename_i p id1 hp
      split at h
      · rename_i qs id2 hq
        simp only [Option.some.injEq, Prod.mk.injEq] at h
        obtain ⟨-, rfl⟩ := h
        intro i hi
        rcases List.mem_append.1 hi with hi | hi
        · exact frz_live _ _ _ _ hp i hi
        · exact frzAll_live hq i hi
      · simp at h
    · simp at h

theorem frzAll_sound {I : List Nat} (hI : ∀ i ∈ I, ∀ so, st.get i = some so → ObjRel ρ F w i so) : ∀ {vs : List V} {ps : List PV} {ids : List Nat} {l : List Value}, frzAll st vs = some (ps, ids) → (∀ i ∈ ids, i ∈ I) → VList ρ F w vs l → PList (FB ρ F I) w ps l
  | [], ps, ids, l, h, _, hl => by
    simp only [frzAll, Option.some.injEq, Prod.mk.injEq] at h
    obtain ⟨rfl, -⟩ := h
    simp only [VList] at hl
    simp [PList, hl]
  | v :: vs, ps, ids, l, h, hids, hl => by
    simp only [frzAll] at h
    split at h
    · rename_i p id1 hp
      split at h
      · rename_i qs id2 hq
        simp only [Option.some.injEq, Prod.mk.injEq] at h
        obtain ⟨rfl, rfl⟩ := h
        simp only [VList] at hl
        obtain ⟨x, xs, rfl, hx, hxs⟩ := hl
        simp only [PList]
        exact ⟨x, xs, rfl, frz_sound hI _ _ _ _ _ hp (fun i hi => hids i (by simp [hi])) hx, frzAll_sound hI hq (fun i hi => hids i (by simp [hi])) hxs⟩
      · simp at h
    · simp at h

theorem frzArgs_live : ∀ {vs : List V}, ∀ i ∈ (frzArgs st vs).2, ∃ so, st.get i = some so
  | [] => by simp [frzArgs]
  | v :: vs => by
    simp only [frzArgs]
    split
    · rename_i p id1 hp
      intro i hi
      rcases List.mem_append.1 hi with hi | hi
      · exact frz_live _ _ _ _ hp i hi
      · exact frzArgs_live i hi
    · exact frzArgs_live

theorem frzArgs_sound {I : List Nat} (hI : ∀ i ∈ I, ∀ so, st.get i = some so → ObjRel ρ F w i so) : ∀ {vs : List V} {l : List Value}, (∀ i ∈ (frzArgs st vs).2, i ∈ I) → VList ρ F w vs l → VList ρ (FB ρ F I) w (frzArgs st vs).1 l
  | [], l, _, hl => by simp only [VList] at hl; simp [frzArgs, VList, hl]
  | v :: vs, l, hids, hl => by
    simp only [VList] at hl
    obtain ⟨x, xs, rfl, hx, hxs⟩ := hl
    simp only [frzArgs] at hids ⊢
    cases hf : frz st 4 v with
    | some q =>
      obtain ⟨p, id1⟩ := q
      simp only [hf] at hids ⊢
      simp only [VList]
      exact ⟨x, xs, rfl, by simp only [VRel]; exact frz_sound hI _ _ _ _ _ hf (fun i hi => hids i (by simp [hi])) hx, frzArgs_sound hI (fun i hi => hids i (by simp [hi])) hxs⟩
    | none =>
      simp only [hf] at hids ⊢
      simp only [VList]
      exact ⟨x, xs, rfl, VRel.mono (ext_fb I) (rle_refl ρ) _ _ (rel_norm v x hx), frzArgs_sound hI hids hxs⟩

theorem kills_next : ∀ (I : List Nat) (st : St), (st.kills I).next = st.next
  | [], _ => rfl
  | i :: I, st => by simp only [St.kills]; rw [kills_next I]; rfl
theorem kills_get : ∀ (I : List Nat) (st : St) (j : Nat), (st.kills I).get j = if j ∈ I then none else st.get j
  | [], _, j => by simp [St.kills]
  | i :: I, st, j => by
    simp only [St.kills]
    rw [kills_get I]
    by_cases h1 : j ∈ I
    · simp [h1]
    · by_cases h2 : j = i
      · simp [h1, h2, St.kill]
      · simp [h1, h2, St.kill]

theorem fine_kills (hwf : st.WF) (I : List Nat) : Fine st (st.kills I) I where
  next := by rw [kills_next]; exact Nat.le_refl _
  same := fun i hi hm => by rw [kills_get, if_neg hm]
  wf := fun i hi => by
    rw [kills_next] at hi
    rw [kills_get]
    split
    · rfl
    · exact hwf i hi

theorem post_freeze {R W : List Nat} {n : Nat} (hp : Pre ρ F w st R W n) (hwf : st.WF) {I : List Nat} (hI : ∀ i ∈ I, i ∈ W) (hlive : ∀ i ∈ I, ∃ so, st.get i = some so) : Post ρ F w st ρ (FB ρ F I) w (st.kills I) I where
  rle := rle_refl ρ
  rnew := fun i h => absurd rfl h
  fle := fun B h => .inl h
  fnew := fun B h => by
    rcases h with h | ⟨i, hi, hb⟩
    · exact .inl h
    · obtain ⟨so, hso⟩ := hlive i hi
      exact .inr (.inr ⟨i, get_lt hwf hso, hi, hb⟩)
  fok := fun B h => by
    rcases h with h | ⟨i, hi, hb⟩
    · exact hp.fok B h
    · obtain ⟨so, hso⟩ := hlive i hi
      obtain ⟨so', hg, ho⟩ := hp.obj i (get_lt hwf hso) (.inr (hI i hi))
      obtain ⟨B', hB', hlt⟩ := ho.lt
      rw [hb] at hB'
      cases hB'
      exact hlt
  size := Nat.le_refl _
  shp := Shp.refl w
  heap := fun _ _ _ => rfl
  obj := fun i so hi hg => by
    rw [kills_get] at hg
    split at hg
    · cases hg
    · rename_i hn
      rcases hi with ⟨_, hm⟩ | hi
      · exact absurd hm hn
      · rw [hwf i hi] at hg; cases hg
  inj := fun i j hi hj gi gj hne => by
    rw [kills_get] at gi
    split at gi
    · cases gi
    · rename_i hn
      rcases hi with ⟨_, hm⟩ | hi
      · exact absurd hm hn
      · rw [hwf i hi] at gi; cases gi

end

end Go.Proofs.Ytnolgpagdjcjbaa.Ve
/-! Calls of Go functions. -/
set_option linter.unusedVariables false
set_option linter.unusedSimpArgs false
namespace Go.Proofs.Ytnolgpagdjcjbaa.Ve
open Go

def exOf : Ex → Exit
  | .norm => .normal
  | .exit id => .exit id
  | .ret => .ret

/-- What a call of the evaluator says of the model. -/
def CallSound (P : Program) (E : Task → Option Out) : Prop :=
  ∀ f args st o, E (.call f args st) = some o → st.WF → Fine st o.st o.W ∧ (Live st o.R o.W ∧ ∀ i ∈ o.W, i < st.next) ∧
    ∀ ρ F w (vals : Array Value), Pre ρ F w st o.R o.W o.st.next → VList ρ F w args vals.toList →
      Calls P f vals w fun e w' => ∃ x v ρ' F', e = .returned x ∧ o.tm = [v] ∧ VRel ρ' F' w' v x ∧ Post ρ F w st ρ' F' w' o.st o.W

/-- And a loop. -/
def LoopSound (P : Program) (E : Task → Option Out) : Prop :=
  ∀ c tm st o, E (.loop c tm st) = some o → codeStat c = true → st.WF → Fine st o.st o.W ∧ Live st o.R o.W ∧
    ∀ ρ F w (a : Act) (Q : Exit → Act → World → Prop), Pre ρ F w st o.R o.W o.st.next → VList ρ F w tm a.tmps.toList → a.defers = [] →
      (∀ a' w' ρ' F', Post ρ F w st ρ' F' w' o.st o.W → VList ρ' F' w' o.tm a'.tmps.toList → a'.defers = [] → Q (exOf o.ex) a' w') → (Code.loop c).wp P Q a w

/-- What is asked of a contract that was proved elsewhere. -/
def OrcSound (P : Program) (C : Cfg) : Prop :=
  ∀ f ps v, C.orc f ps = some v → ∀ (F : Nat → Prop) (w : World) (vals : Array Value), (∀ B, F B → B < w.heap.size) → PList F w ps vals.toList →
    Calls P f vals w fun e w' => ∃ x F', e = .returned x ∧ VRel (fun _ => none) F' w' v x ∧ (∀ B, F B → F' B) ∧ (∀ B, F' B → F B ∨ w.heap.size ≤ B) ∧ (∀ B, F' B → B < w'.heap.size) ∧ w.heap.size ≤ w'.heap.size ∧ Shp w w' ∧ ∀ B, B < w.heap.size → w'.heap[B]? = w.heap[B]?

section
variable {P : Program} {C : Cfg} {E : Task → Option Out} {ρ ρ₁ ρ₂ : Ren} {F F₁ F₂ : Nat → Prop} {w w₁ w₂ : World} {st st₁ st₂ : St}

theorem load_obj {t : TypeId} {x v : V} {R : List Nat} {vx : Value} (h : loadV P st t x = some (v, R)) (hx : VRel ρ F w x vx) (ho : ∀ i ∈ R, ∀ so, st.get i = some so → ObjRel ρ F w i so) :
    ∃ a y, vx = .pointer (some a) ∧ (loadVar t a).run P w = .ok y w ∧ VRel ρ F w v y :=
  load_sound h hx fun i hi => by
    obtain ⟨so, hso⟩ := loadV_live h i hi
    exact ⟨so, hso, ho i hi so hso⟩

theorem callFunc_run {g : FuncId} (hb : hasBody P g = true) (vals : Array Value) (w : World) : (callFunc g vals).run P w = .ok (.enter g vals) w := by
  unfold hasBody at hb
  split at hb
  · rename_i fn hf
    simp only [Bool.and_eq_true] at hb
    obtain ⟨h1, h2⟩ := hb
    have h3 : fn.body.isNone = false := by cases h : fn.body <;> simp_all
    have h4 : (fn.name == "runtime.NumGoroutine") = false := by
      simpa [bne] using h2
    unfold callFunc
    have hp : (program : Sem Program).run P w = .ok P w := rfl
    simp only [Sem.run_bind, hp, Result.andThen_ok, hf, h3, h4, Bool.false_eq_true, if_false]
    rfl
  · simp at hb

theorem recv_sound {t : TypeId} {u x : V} {name : String} {g : FuncId} {R : List Nat} {y : Value} (h : recvV P st t u name = some (g, x, R)) (hu : VRel ρ F w u y) (ho : ∀ i ∈ R, ∀ so, st.get i = some so → ObjRel ρ F w i so) :
    ∃ z, (method (P.types.size + Made.depth) t y name).run P w = .ok (g, z) w ∧ VRel ρ F w x z := by
  unfold recvV at h
  split at h
  · rename_i g' pr hm
    obtain ⟨info, m, hi, hf, hp, hfn⟩ := methodV_some hm
    obtain ⟨n, hn⟩ := fuel_pos hi
    rw [hn]
    have hpe : m.path.isEmpty = true := by
      have : m.path = #[] := by apply Array.ext'; simpa using hp
      rw [this]; rfl
    have base : ∀ z, (receiverAt t (.val y) pr (some ((name.splitOn ".").getLastD name))).run P w = .ok z w → (method (n + 1) t y name).run P w = .ok (g', z) w := by
      intro z hz
      simp only [method, Sem.run_bind, run_typeInfo hi, Result.andThen_ok, hf, hp, follow, Sem.run_pure, hfn, hpe, if_true, hz]
    unfold ptrElem at h
    cases hut : P.underlying t with
    | none => simp [hut] at h
    | some d =>
      simp only [hut] at h
      split at h
      · rename_i hd
        split at h
        · simp at h
        · rename_i hpr
          have hpr : pr = false := by simpa using hpr
          subst hpr
          simp only [Option.some.injEq, Prod.mk.injEq] at h
          obtain ⟨rfl, rfl, rfl⟩ := h
          refine ⟨y, base y ?_, hu⟩
          unfold receiverAt
          simp only [Sem.run_bind, run_underlying hut, Result.andThen_ok]
          cases d <;> first
            | rfl
            | (simp at hd; done)
      · rename_i e hd
        have hde : d = .pointer e := by
          cases d <;> simp at hd
          rw [hd]
        subst hde
        split at h
        · rename_i hpr
          have hpr : pr = true := by simpa using hpr
          subst hpr
          simp only [Option.some.injEq, Prod.mk.injEq] at h
          obtain ⟨rfl, rfl, rfl⟩ := h
          refine ⟨y, base y ?_, hu⟩
          unfold receiverAt
          simp only [Sem.run_bind, run_underlying hut, Result.andThen_ok]
          rfl
        · rename_i hpr
          have hpr : pr = false := by simpa using hpr
          subst hpr
          split at h
          · rename_i x' R' hl
            simp only [Option.some.injEq, Prod.mk.injEq] at h
            obtain ⟨rfl, rfl, rfl⟩ := h
            obtain ⟨a, z, rfl, hz, hzr⟩ := load_obj hl hu ho
            refine ⟨z, base z ?_, hzr⟩
            unfold receiverAt
            have hchk : ∀ q s' m' : ByteArray, Builtin.ssaWrapNilChk_ #[t] t #[.pointer (some a), .string s', .string m'] = pure (.pointer (some a)) := fun _ _ _ => rfl
            simp only [Sem.run_bind, run_underlying hut, Result.andThen_ok, Place.get, Sem.run_pure, strVal, hchk default, asAddr, hz]
          · simp at h
      · simp at h
  · simp at h

theorem target_sound {env : Operand → Option V} {ev : Operand → Value} {c : Call} {ty : TypeId} {g : FuncId} {args : List V} {R : List Nat} (h : targetV P env st c = some (g, args, R)) (he : EnvRel ρ F w env ev c.operands.toList)
    (hb : hasBody P g = true) (ho : ∀ i ∈ R, ∀ so, st.get i = some so → ObjRel ρ F w i so) : ∃ vals : Array Value, (do let d ← resolve ev c ty; invoke d.target d.args).run P w = .ok (.enter g vals) w ∧ VList ρ F w args vals.toList := by
  unfold targetV at h
  split at h
  · rename_i as has
    have hargs := envAll_rel (ev := ev) (he.sub (by intro x hx; simp [Call.operands] at hx ⊢; exact .inr hx)) has
    have hpr : (program : Sem Program).run P w = .ok P w := rfl
    split at h
    · rename_i f hf
      have hfv : ∀ v, env f = some v → VRel ρ F w v (ev f) := fun v hv => he f (by simp [Call.operands, hf]) v hv
      split at h
      · rename_i g' first caps hef
        simp only [Option.some.injEq, Prod.mk.injEq] at h
        obtain ⟨rfl, rfl, rfl⟩ := h
        have := hfv _ hef
        simp only [VRel] at this
        obtain ⟨a', c', hv, ha, hc⟩ := this
        refine ⟨a' ++ c.args.map ev ++ c', ?_, ?_⟩
        · simp only [resolve, hf, hv, Deferred.ofValue, Sem.run_bind, Sem.run_pure, Result.andThen_ok, invoke, callFunc_run hb]
        · simp only [Array.toList_append]
          exact (ha.append (by simpa using hargs)).append hc
      · rename_i name first caps hef
        split at h
        · rename_i r rest hrr
          split at h
          · rename_i t u hi
            split at h
            · rename_i g' x R' hrec
              simp only [Option.some.injEq, Prod.mk.injEq] at h
              obtain ⟨rfl, rfl, rfl⟩ := h
              have := hfv _ hef
              simp only [VRel] at this
              obtain ⟨a', c', hv, ha, hc⟩ := this
              have hall : VList ρ F w (first ++ as) (a' ++ c.args.map ev).toList := by
                simp only [Array.toList_append]
                exact ha.append (by simpa using hargs)
              rw [hrr] at hall
              simp only [VList] at hall
              obtain ⟨y, ys, hys, hry, hrest⟩ := hall
              obtain ⟨y', rfl, hur⟩ := rel_iface hry hi
              obtain ⟨z, hz, hzr⟩ := recv_sound hrec hur ho
              have h0 : (a' ++ c.args.map ev)[0]? = some (.iface t y') := by rw [← Array.getElem?_toList, hys]; rfl
              have hex : (a' ++ c.args.map ev).extract 1 (a' ++ c.args.map ev).size = ys.toArray := by
                apply Array.ext'
                rw [Array.toList_extract, List.extract_eq_take_drop, hys]
                simp
                have : (a' ++ c.args.map ev).size = ys.length + 1 := by rw [← Array.length_toList, hys]; rfl
                simp at this
                rw [List.take_of_length_le (by omega)]
              refine ⟨#[z] ++ ys.toArray, ?_, ?_⟩
              · simp only [resolve, hf, hv, Deferred.ofValue, Sem.run_bind, Sem.run_pure, Result.andThen_ok, invoke, h0, callMethod, hpr, hz, hex, callFunc_run hb]
              · simp only [Array.toList_append, List.cons_append, List.nil_append, VList]
                exact ⟨z, ys, rfl, hzr, hrest⟩
            · simp at h
          · simp at h
        · simp at h
      · simp at h
    · rename_i r name hf
      split at h
      · rename_i rv hrv
        split at h
        · rename_i t u hi
          split at h
          · rename_i g' x R' hrec
            simp only [Option.some.injEq, Prod.mk.injEq] at h
            obtain ⟨rfl, rfl, rfl⟩ := h
            have hry := he r (by simp [Call.operands, hf]) _ hrv
            obtain ⟨y', hy, hur⟩ := rel_iface hry hi
            obtain ⟨z, hz, hzr⟩ := recv_sound hrec hur ho
            have h0 : (#[ev r] ++ c.args.map ev)[0]? = some (.iface t y') := by rw [hy, Array.getElem?_append_left (by simp)]; rfl
            have hex : (#[ev r] ++ c.args.map ev).extract 1 (#[ev r] ++ c.args.map ev).size = c.args.map ev := by
              apply Array.ext'
              simp [Array.toList_extract, List.extract_eq_take_drop]
              rw [List.take_of_length_le (by simp)]
            refine ⟨#[z] ++ c.args.map ev, ?_, ?_⟩
            · simp only [resolve, hf, Sem.run_bind, Sem.run_pure, Result.andThen_ok, invoke, h0, callMethod, hpr, hz, hex, callFunc_run hb]
            · simp only [Array.toList_append, List.cons_append, List.nil_append, VList]
              exact ⟨z, _, rfl, hzr, by simpa using hargs⟩
          · simp at h
        · simp at h
      · simp at h
    · simp at h
  · simp at h

end

end Go.Proofs.Ytnolgpagdjcjbaa.Ve
