import Derived.Test.YtfieppbehmglbaaVeH
/-! append. -/
set_option linter.unusedVariables false
set_option linter.unusedSimpArgs false
namespace Go.Proofs.Ytfieppbehmglbaa.Ve
open Go

section
variable {P : Program} {ρ ρ' : Ren} {F F' : Nat → Prop} {w w' : World}

theorem Post.kill {st st' : St} {W : List Nat} (h : Post ρ F w st ρ' F' w' st' W) (i : Nat) : Post ρ F w st ρ' F' w' (st'.kill i) (i :: W) where
  rle := h.rle
  rnew := h.rnew
  fle := h.fle
  fnew := fun B hB => (h.fnew B hB).imp id (Or.imp id fun ⟨j, h1, h2, h3⟩ => ⟨j, h1, by simp [h2], h3⟩)
  fok := h.fok
  size := h.size
  shp := h.shp
  heap := fun B hB hW => h.heap B hB fun j hj hm => hW j hj (by simp [hm])
  obj := fun j so hj hg => by
    have hne : j ≠ i := by
      intro e
      simp [St.kill, e] at hg
    simp only [St.kill, hne, if_false] at hg
    obtain ⟨h1, h2⟩ := h.obj j so (hj.imp (fun ⟨a, b⟩ => ⟨a, by simpa [hne] using b⟩) id) hg
    exact ⟨h1, fun B hB => (h2 B hB).imp id fun ⟨k, k1, k2, k3⟩ => ⟨k, k1, by simp [k2], k3⟩⟩
  inj := fun j k hj hk gj gk hne => by
    have hj' : j ≠ i := by intro e; simp [St.kill, e] at gj
    have hk' : k ≠ i := by intro e; simp [St.kill, e] at gk
    simp only [St.kill, hj', hk', if_false] at gj gk
    exact h.inj j k (hj.imp (fun ⟨a, b⟩ => ⟨a, by simpa [hj'] using b⟩) id) (hk.imp (fun ⟨a, b⟩ => ⟨a, by simpa [hk'] using b⟩) id) gj gk hne

theorem Fine.kill {st st' : St} {W : List Nat} (h : Fine st st' W) (i : Nat) : Fine st (st'.kill i) (i :: W) where
  next := h.next
  same := fun j hj hm => by
    simp at hm
    simp [St.kill, hm.1]
    exact h.same j hj hm.2
  wf := fun j hj => by
    by_cases e : j = i
    · simp [St.kill, e]
    · simp [St.kill, e]; exact h.wf j hj

theorem growBy_le (n : Nat) : ∀ (k c : Nat), c < n → Builtin.growBy n k c ≤ n + (n + 768) / 4
  | 0, c, h => by simp only [Builtin.growBy]; omega
  | k + 1, c, h => by
    simp only [Builtin.growBy]
    rw [if_neg (by omega)]
    by_cases h2 : c + (c + 768) / 4 < n
    · exact growBy_le n k _ h2
    · cases k with
      | zero => simp only [Builtin.growBy]; omega
      | succ k => simp only [Builtin.growBy]; rw [if_pos (by omega)]; omega

theorem nextcap_le {n c : Nat} (h : c < n) : Builtin.nextslicecap n c ≤ 2 * n + 192 := by
  unfold Builtin.nextslicecap
  split
  · omega
  · split
    · omega
    · have := growBy_le n 4 c h
      omega

theorem cap_ok {n b cap : Nat} (hn : n * (b + 1) ≤ 2 ^ 40) (hc : cap < n) : ¬ (Builtin.nextslicecap n cap * b > 2 ^ 48) := by
  have h1 := nextcap_le hc
  have h2 : Builtin.nextslicecap n cap * b ≤ (2 * n + 192) * b := Nat.mul_le_mul_right b h1
  have h3 : (2 * n + 192) * b = 2 * (n * b) + 192 * b := by rw [Nat.add_mul, Nat.mul_assoc]
  have h4 : n * (b + 1) = n * b + n := by rw [Nat.mul_add, Nat.mul_one]
  have h5 : b ≤ n * b := Nat.le_mul_of_pos_left b (by omega)
  omega

theorem run_askRoom (n : Nat) (w₁ : World) : (askRoom n).run P w₁ = .ok () w₁ := by
  unfold askRoom
  split <;> rfl

/-- append grows: a new block. -/
theorem append_grows {t xt ty elem : TypeId} {base : Option Addr} {sLen cap n : Nat} {vx : Value} {old l : List Value} {info : TypeInfo} {z : V}
    (hu : P.underlying t = some (.slice elem)) (hxt : ∃ e, P.underlying xt = some (.slice e)) (hi : P.info? elem = some info) (hz : zeroV P elem = some z)
    (hlen : (Builtin.lenOf vx).run P w = .ok n w) (hold : ∀ w₁ : World, w₁.heap = w.heap → (Builtin.firstCells info.size sLen (.slice base sLen cap)).run P w₁ = .ok old.toArray w₁)
    (hnew : ∀ w₁ : World, w₁.heap = w.heap → (Builtin.firstCells info.size n vx).run P w₁ = .ok l.toArray w₁) (hcap : cap < sLen + n) (hb : (sLen + n) * (info.bytes + 1) ≤ 2 ^ 40) :
    ∃ w₁ c nc x, info.zero = some x ∧ z = ofValue x ∧ (Builtin.append_ #[t, xt] ty #[.slice base sLen cap, vx]).run P w = .ok (.slice (some ⟨w.heap.size, 0, none⟩) (sLen + n) nc) w₁ ∧ w₁.heap = w.heap.push (.cells (old ++ l ++ c).toArray elem (0, 0)) ∧ Outs w w₁ ∧ sLen + n ≤ nc ∧ c.length = (nc - (sLen + n)) * x.cells.size := by
  obtain ⟨i, x0, hi', hiz, rfl, hrun⟩ := run_zeroValue hz
  rw [hi] at hi'
  cases hi'
  obtain ⟨e, hxt⟩ := hxt
  have hnc : ∀ q : Nat, sLen + n ≤ (Question.appendCap (sLen + n) cap elem).cut q := by intro q; simp only [Question.cut]; omega
  have hle : sLen + n ≤ 2 ^ 40 := Nat.le_trans (Nat.le_mul_of_pos_right _ (by omega)) hb
  have t1 : ¬ (sLen + n ≤ cap) := by omega
  have t2 : ¬ ((sLen + n : Nat) : Int) > IntKind.i64.max := by
    have : IntKind.i64.max = 9223372036854775807 := by decide
    rw [this]; omega
  refine ⟨(w.drew).alloc (.cells (old ++ l ++ (Builtin.zeroCells x0.cells ((Question.appendCap (sLen + n) cap elem).cut (w.tape w.drawn (.appendCap (sLen + n) cap elem)) - (sLen + n))).toList).toArray elem), (Builtin.zeroCells x0.cells ((Question.appendCap (sLen + n) cap elem).cut (w.tape w.drawn (.appendCap (sLen + n) cap elem)) - (sLen + n))).toList, (Question.appendCap (sLen + n) cap elem).cut (w.tape w.drawn (.appendCap (sLen + n) cap elem)), x0, hiz, rfl, ?_, rfl, ⟨rfl, rfl, rfl⟩, hnc _, ?_⟩
  · have hz1 : ∀ w₁ : World, (underlying xt).run P w₁ = .ok (.slice e) w₁ := fun w₁ => run_underlying hxt w₁
    have hch : (choose (.appendCap (sLen + n) cap elem)).run P w = .ok ((Question.appendCap (sLen + n) cap elem).cut (w.tape w.drawn (.appendCap (sLen + n) cap elem))) w.drew := rfl
    have t2' : ¬ (((sLen + n : Nat) : Int) > IntKind.i64.max ∧ (False ∨ info.bytes = 0)) := fun h => t2 h.1
    have h63 : ¬ (9223372036854775807 < ((sLen : Int) + (n : Int))) := by omega
    have h48 : ¬ (281474976710656 < Builtin.nextslicecap (sLen + n) cap * info.bytes) := by have := cap_ok hb hcap; omega
    have o1 := hold w.drew rfl
    have o2 := hnew w.drew rfl
    simp [Builtin.append_, run_underlying hu, run_underlying hxt, sizeOf, typeInfo, zeroValue, hi, hiz, hlen, t1, h63, h48, Question.forced, o1, o2, newRow]
    congr 2
    apply Array.ext'
    simp
  · simp [Builtin.zeroCells]

/-- append in place. -/
theorem append_room {t xt ty elem : TypeId} {B a sLen cap n : Nat} {vx : Value} {l : List Value} {info : TypeInfo} {c : Array Value} {e : TypeId}
    (hu : P.underlying t = some (.slice elem)) (hxt : ∃ e, P.underlying xt = some (.slice e)) (hi : P.info? elem = some info)
    (hlen : (Builtin.lenOf vx).run P w = .ok n w) (hnew : (Builtin.firstCells info.size n vx).run P w = .ok l.toArray w) (hl : l.length = n * info.size) (h1 : ∀ v ∈ l, v.oneCell' = true)
    (hcap : sLen + n ≤ cap) (hb : w.heap[B]? = some (.cells c e (0, 0))) (hfit : a + cap * info.size ≤ c.size) :
    (Builtin.append_ #[t, xt] ty #[.slice (some ⟨B, a, none⟩) sLen cap, vx]).run P w = .ok (.slice (some ⟨B, a, none⟩) (sLen + n) cap) (w.setRow B (wr c (a + sLen * info.size) l)) := by
  obtain ⟨e', hxt⟩ := hxt
  have hle : sLen * info.size + l.length ≤ cap * info.size := by
    rw [hl, ← Nat.add_mul]
    exact Nat.mul_le_mul_right _ hcap
  have hst := run_storeCells_at P B (a + sLen * info.size) e l 0 c w hb (by omega) h1
  simp only [Nat.add_zero] at hst
  simp [Builtin.append_, run_underlying hu, run_underlying hxt, sizeOf, typeInfo, hi, hlen, hcap, hnew, Addr.add_mid, hst, wr]

theorem orows_append {c : Array Value} {s : Nat} {old rows : List (List V)} (h1 : ∀ (r : Nat) row, old[r]? = some row → row.length = s ∧ ∀ (k : Nat) y, row[k]? = some y → ∃ v, c[r * s + k]? = some v ∧ v.oneCell' = true ∧ VRel ρ F w y v)
    (h2 : ∀ (r : Nat) row, rows[r]? = some row → row.length = s ∧ ∀ (k : Nat) y, row[k]? = some y → ∃ v, c[(old.length + r) * s + k]? = some v ∧ v.oneCell' = true ∧ VRel ρ F w y v) : ORows ρ F w c s 0 (old ++ rows) := by
  intro r row hr
  by_cases hlt : r < old.length
  · rw [List.getElem?_append_left hlt] at hr
    obtain ⟨g1, g2⟩ := h1 r row hr
    exact ⟨g1, fun k y hk => by simpa using g2 k y hk⟩
  · rw [List.getElem?_append_right (by omega)] at hr
    obtain ⟨g1, g2⟩ := h2 _ row hr
    refine ⟨g1, fun k y hk => ?_⟩
    have := g2 k y hk
    rw [show old.length + (r - old.length) = r by omega] at this
    simpa using this

theorem post_place {st : St} {R W : List Nat} {n : Nat} (hp : Pre ρ F w st R W n) (hn : st.next < n) (hwf : st.WF) {i B o s : Nat} (hlt : i < st.next) (hi : ρ i = some (B, o, s))
    {w₁ : World} {c₀ c' : Array Value} {e : TypeId} (hF : ¬ F B) (hw₀ : w.heap[B]? = some (.cells c₀ e (0, 0))) (hcs : c'.size = c₀.size) (hw : w₁.heap[B]? = some (.cells c' e (0, 0))) (hsize : w₁.heap.size = w.heap.size)
    (hother : ∀ B', B' ≠ B → w₁.heap[B']? = w.heap[B']?) (hout : Outs w w₁) {a : Nat} {so' : SO} (hR : ORows ρ F w c' so'.s a so'.rows) :
    Post ρ F w st (upd ρ st.next (B, a, so'.s)) F w₁ ((st.new so').kill i) [i] := by
  have hfr : ρ st.next = none := hp.fresh _ (Nat.le_refl _) hn
  have hr := rle_upd (x := (B, a, so'.s)) hfr
  have hshp := shp_row hw₀ hw hcs hother hout
  have he : Ext F w F w₁ := ⟨fun _ h => h, fun B' hB' => hother B' (fun e => hF (e ▸ hB')), hshp⟩
  have honly : ∀ j, (j < st.next ∧ j ∈ [i] ∨ st.next ≤ j) → (((st.new so').kill i).get j).isSome → j = st.next := by
    intro j hj hg
    have hne : j ≠ i := by intro e; simp [St.kill, e] at hg
    rcases hj with ⟨_, hm⟩ | hj
    · exact absurd (by simpa using hm) hne
    · by_cases e : j = st.next
      · exact e
      · simp only [St.kill, St.new, hne, e, if_false] at hg
        rw [hwf j hj] at hg
        cases hg
  have hnext : ((st.new so').kill i).get st.next = some so' := by
    have : st.next ≠ i := by omega
    simp [St.kill, St.new, this]
  refine ⟨hr, fun j hj => ?_, fun _ h => h, fun _ h => .inl h, fun B h => by rw [hsize]; exact hp.fok B h, by rw [hsize]; exact Nat.le_refl _, hshp, fun B' _ h => ?_, fun j so'' hj hg => ?_, fun j k hj hk gj gk hne => ?_⟩
  · by_cases e : j = st.next
    · subst e; exact ⟨Nat.le_refl _, Nat.lt_succ_self _⟩
    · rw [upd_ne e] at hj; exact absurd rfl hj
  · exact hother B' (fun e => h i hlt (by simp) (by simp [blk, hi, e]))
  · have := honly j hj (by rw [hg]; rfl)
    subst this
    rw [hnext] at hg
    simp only [Option.some.injEq] at hg
    subst hg
    refine ⟨⟨B, a, c', e, upd_same _ _ _, hF, hw, fun r row hrow => ?_⟩, fun B' hB' => .inr ⟨i, hlt, by simp, ?_⟩⟩
    · obtain ⟨h1, h2⟩ := hR r row hrow
      refine ⟨h1, fun k x hx => ?_⟩
      obtain ⟨v, hv, h1, hx⟩ := h2 k x hx
      exact ⟨v, hv, h1, VRel.mono he hr x v hx⟩
    · simp [blk, upd_same] at hB'
      simp [blk, hi, hB']
  · exact absurd ((honly j hj gj).trans (honly k hk gk).symm) hne

theorem lenOf_slice (a : Option Addr) (n cap : Nat) : (Builtin.lenOf (.slice a n cap)).run P w = .ok n w := by simp [Builtin.lenOf]

theorem append_sound {ev : Operand → Value} {o : Oper} {st st' : St} {R W R' W' : List Nat} {at_ : Array TypeId} {ty : TypeId} {sv xv v : V} {s x : Value}
    (hs : ∃ m : Sem Value, execOp ev o = (do pure (.value (← m))) ∧ m = Builtin.append_ at_ ty #[s, x])
    (h : appendV P st at_ sv xv = some (v, st', R', W')) (hp : Pre ρ F w st R' W' st'.next) (hwf : st.WF) (hsv : VRel ρ F w sv s) (hxv : VRel ρ F w xv x) : OpRes P ev o ρ F w st v st' W' ∧ Fine st st' W' := by
  obtain ⟨m, hm, rfl⟩ := hs
  unfold appendV at h
  split at h
  · rename_i t ht
    split at h
    · rename_i xt hxt
      split at h
      · rename_i elem he
        have hu := sliceElem_eq he
        split at h
        · rename_i xe hxe
          have hux : ∃ e, P.underlying xt = some (.slice e) := ⟨xe, sliceElem_eq hxe⟩
          split at h
          · rename_i info hi
            split at h
            · rename_i z hz
              split at h
              · simp at h
              · rename_i hzl
                have hzl : z.cells.length = info.size := by simpa using hzl
                have eat : Builtin.append_ at_ ty #[s, x] = Builtin.append_ #[t, xt] ty #[s, x] := by
                  unfold Builtin.append_
                  simp only [ht, hxt, List.getElem?_toArray, List.getElem?_cons_zero, List.getElem?_cons_succ]
                split at h
                · rename_i rows R0 hsrc
                  have hsub : ∀ (R1 : List Nat), (∀ i ∈ R1, i ∈ R') → ∀ i ∈ R1, (∃ so, st.get i = some so) → ∃ so, st.get i = some so ∧ ObjRel ρ F w i so := by
                    intro R1 hR1 i hi ⟨so, hso⟩
                    exact hp.obj i (get_lt hwf hso) (.inl (hR1 i hi))
                  have hlive : ∀ (y : V) (q : List (List V)) (R1 : List Nat), srcRows st info.size y = some (q, R1) → ∀ i ∈ R1, ∃ so, st.get i = some so := by
                    intro y q R1 hq i hi
                    unfold srcRows at hq
                    split at hq
                    · simp only [Option.some.injEq, Prod.mk.injEq] at hq; obtain ⟨-, rfl⟩ := hq; cases hi
                    · split at hq
                      · simp only [Option.some.injEq, Prod.mk.injEq] at hq; obtain ⟨-, rfl⟩ := hq; cases hi
                      · simp at hq
                    · split at hq
                      · rename_i so hso
                        split at hq
                        · simp only [Option.some.injEq, Prod.mk.injEq] at hq
                          obtain ⟨-, rfl⟩ := hq
                          simp only [List.mem_singleton] at hi
                          subst hi
                          exact ⟨so, hso⟩
                        · simp at hq
                      · simp at hq
                    · simp at hq
                  split at h
                  · -- nothing is added
                    have hRR : R' = R0 ∧ v = sv ∧ st' = st ∧ W' = [] ∧ (sv = .nl ∨ ∃ i q r len, sv = .ow i q r len) := by
                      split at h
                      · simp only [Option.some.injEq, Prod.mk.injEq] at h; exact ⟨h.2.2.1.symm, h.1.symm, h.2.1.symm, h.2.2.2.symm, .inl rfl⟩
                      · simp only [Option.some.injEq, Prod.mk.injEq] at h; exact ⟨h.2.2.1.symm, h.1.symm, h.2.1.symm, h.2.2.2.symm, .inr ⟨_, _, _, _, rfl⟩⟩
                      · simp at h
                    obtain ⟨rfl, rfl, rfl, rfl, hshape⟩ := hRR
                    obtain ⟨a, cap, rfl, l, hl, hfc, hl1, -⟩ := src_sound (P := P) hsrc hxv (fun i hi => hsub R' (fun _ h => h) i hi (hlive _ _ _ hsrc i hi))
                    simp only [List.length_nil, Nat.zero_mul] at hl
                    have hl0 : l = [] := List.eq_nil_of_length_eq_zero hl
                    subst hl0
                    have hfc0 := hfc w rfl
                    have hrun : (Builtin.append_ at_ ty #[s, .slice a ([] : List (List V)).length cap]).run P w = .ok s w := by
                      rw [eat]
                      obtain ⟨xe', hux⟩ := hux
                      simp only [List.length_nil] at hfc0 ⊢
                      rcases hshape with rfl | ⟨i, q, r, len, rfl⟩
                      · simp only [VRel] at hsv
                        subst hsv
                        simp [Builtin.append_, run_underlying hu, run_underlying hux, sizeOf, typeInfo, hi, Builtin.lenOf, hfc0]
                      · simp only [VRel] at hsv
                        obtain ⟨B, o', a', cap', -, rfl, hle, -⟩ := hsv
                        simp [Builtin.append_, run_underlying hu, run_underlying hux, sizeOf, typeInfo, hi, Builtin.lenOf, hfc0, hle, storeCells]
                    exact ⟨opres_quiet hp hwf (exec_value hm hrun) hsv, fine_same hwf⟩
                  · rename_i row0 rows0
                    split at h
                    · -- to nil
                      split at h
                      · rename_i hb
                        simp only [Option.some.injEq, Prod.mk.injEq] at h
                        obtain ⟨rfl, rfl, rfl, rfl⟩ := h
                        obtain ⟨a, cap, rfl, l, hl, hfc, hl1, hrows⟩ := src_sound (P := P) hsrc hxv (fun i hi => hsub R0 (fun _ h => h) i hi (hlive _ _ _ hsrc i hi))
                        simp only [VRel] at hsv
                        subst hsv
                        obtain ⟨w₁, c, nc, x0, hz0, hzv, hrun, hh, hout, hnc, hcl⟩ := append_grows (ty := ty) (old := []) (sLen := 0) (cap := 0) (base := none) hu hux hi hz (lenOf_slice _ _ _) (fun w₁ _ => by simp [Builtin.firstCells]) hfc (by simp) (by simpa using hb)
                        rw [← eat] at hrun
                        have hx0 : x0.cells.size = info.size := by
                          have := (rel_cells (ρ := ρ) (F := F) (w := w) (rel_ofValue x0)).length
                          rw [← hzv, hzl] at this
                          simpa using this
                        refine ⟨⟨_, _, _, _, .inl (exec_value hm hrun), ?_, post_new hp (Nat.lt_succ_self _) hwf (so := ⟨info.size, row0 :: rows0⟩) hh hout ?_⟩, fine_new hwf _⟩
                        · simp only [Nat.zero_add]
                          refine mem_slice_rel (upd_same _ _ _) (by simpa using hnc) (roomy_new hh (show nc * info.size ≤ _ from ?_))
                          simp only [Nat.zero_add] at hcl hnc
                          simp only [List.nil_append, List.size_toArray, List.length_append, hl, hcl, hx0]
                          rw [← Nat.add_mul]
                          exact Nat.mul_le_mul_right _ (by omega)
                        · have := orows_append (ρ := ρ) (F := F) (w := w) (c := ([] ++ l ++ c).toArray) (s := info.size) (old := []) (rows := row0 :: rows0) (by simp) (fun r row hr => by
                            obtain ⟨g1, g2⟩ := hrows r row hr
                            refine ⟨g1, fun k y hk => ?_⟩
                            obtain ⟨v, hv, hvr⟩ := g2 k y hk
                            have hlt := (List.getElem?_eq_some_iff.1 hv).1
                            refine ⟨v, ?_, hl1 v (List.mem_of_getElem? hv), hvr⟩
                            simp only [List.length_nil, Nat.zero_add, List.nil_append, List.getElem?_toArray]
                            rw [List.getElem?_append_left hlt]
                            exact hv)
                          simpa using this
                      · simp at h
                    · -- to a slice of its own
                      rename_i i q r len
                      split at h
                      · rename_i old R1 hold
                        split at h
                        · rename_i hb
                          simp only [Option.some.injEq, Prod.mk.injEq] at h
                          obtain ⟨rfl, rfl, rfl, rfl⟩ := h
                          obtain ⟨a, cap, rfl, l, hl, hfc, hl1, hrows⟩ := src_sound (P := P) hsrc hxv (fun i hi => hsub R0 (fun _ h => by simp [h]) i hi (hlive _ _ _ hsrc i hi))
                          obtain ⟨a', cap', rfl, l', hl', hfc', hl1', hrows'⟩ := src_sound (P := P) hold hsv (fun i hi => hsub R1 (fun _ h => by simp [h]) i hi (hlive _ _ _ hold i hi))
                          have hsv' := hsv
                          simp only [VRel] at hsv'
                          obtain ⟨B, o', a0, cap0, hρi, heq, hlc, hca, hq⟩ := hsv'
                          simp only [Value.slice.injEq] at heq
                          obtain ⟨rfl, hlen, rfl⟩ := heq
                          have hi1 : i ∈ R1 := by
                            unfold srcRows at hold
                            simp only at hold
                            split at hold
                            · split at hold
                              · simp only [Option.some.injEq, Prod.mk.injEq] at hold; rw [← hold.2]; simp
                              · simp at hold
                            · simp at hold
                          obtain ⟨so, hgi, hobj⟩ := hsub R1 (fun _ h => by simp [h]) i hi1 (hlive _ _ _ hold i hi1)
                          have hlti := get_lt hwf hgi
                          have hqs : q = info.size ∧ so.s = info.size := by
                            unfold srcRows at hold
                            simp only [hgi] at hold
                            split at hold
                            · rename_i hc
                              obtain ⟨B', o'', c', e', hρ', -⟩ := hobj
                              rw [hρi] at hρ'
                              simp only [Option.some.injEq, Prod.mk.injEq] at hρ'
                              exact ⟨hρ'.2.2.trans hc.1, hc.1⟩
                            · simp at hold
                          obtain ⟨rfl, hsos⟩ := hqs
                          subst hlen
                          have hrowsl : (row0 :: rows0).length ≠ 0 := by simp
                          by_cases hroom : old.length + (row0 :: rows0).length ≤ cap'
                          · -- in place
                            obtain ⟨c, e, hbk, hfit⟩ := hq
                            have hrun := append_room (P := P) (ty := ty) (sLen := old.length) hu hux hi (lenOf_slice (w := w) a (row0 :: rows0).length cap) (hfc w rfl) hl hl1 hroom hbk hfit
                            rw [← eat] at hrun
                            have hcap0 : cap' ≠ 0 := by omega
                            have ha0 : a0 = o' + r * info.size := by
                              rcases hca with h0 | h0
                              · exact absurd h0 hcap0
                              · exact h0
                            obtain ⟨B', o'', c2, e2, hρ', hF', hbk', hR'⟩ := hobj
                            rw [hρi] at hρ'
                            simp only [Option.some.injEq, Prod.mk.injEq] at hρ'
                            obtain ⟨rfl, rfl, -⟩ := hρ'
                            rw [hbk] at hbk'
                            simp only [Option.some.injEq, Obj.cells.injEq, and_true] at hbk'
                            obtain ⟨rfl, rfl⟩ := hbk'
                            have hle : old.length * info.size + l.length ≤ cap' * info.size := by
                              rw [hl, ← Nat.add_mul]
                              exact Nat.mul_le_mul_right _ hroom
                            have hwl : a0 + old.length * info.size + l.length ≤ c.size := by omega
                            have hwsz : (wr c (a0 + old.length * info.size) l).size = c.size := by
                              unfold wr
                              simp
                              omega
                            have hold2 : ∀ (r' : Nat) row, old[r']? = some row → so.rows[r + r']? = some row := by
                              intro r' row hr'
                              unfold srcRows at hold
                              simp only [hgi] at hold
                              split at hold
                              · simp only [Option.some.injEq, Prod.mk.injEq] at hold
                                rw [← hold.1, List.getElem?_take] at hr'
                                split at hr'
                                · rwa [List.getElem?_drop] at hr'
                                · simp at hr'
                              · simp at hold
                            refine ⟨⟨_, _, _, _, .inl (exec_value hm hrun), ?_, post_place hp (Nat.lt_succ_self _) hwf (so' := ⟨info.size, old ++ row0 :: rows0⟩) (a := a0) hlti hρi hF' hbk hwsz (setRow_heap w B c _ _ _ hbk) (by simp) (fun B' hB' => setRow_other w B B' _ hB') ⟨rfl, rfl, rfl⟩ ?_⟩, (fine_new hwf _).kill i⟩
                            · simp only [VRel]
                              exact ⟨B, a0, a0, cap', upd_same _ _ _, rfl, hroom, .inr (by simp), _, _, setRow_heap w B c _ _ _ hbk, by rw [hwsz]; exact hfit⟩
                            · show ORows ρ F w _ info.size a0 (old ++ row0 :: rows0)
                              intro r' row hr'
                              by_cases hlt' : r' < old.length
                              · rw [List.getElem?_append_left hlt'] at hr'
                                obtain ⟨g1, g2⟩ := hR' (r + r') row (hold2 r' row hr')
                                refine ⟨by rw [g1, hsos], fun k y hk => ?_⟩
                                obtain ⟨v, hv, hv1, hvr⟩ := g2 k y hk
                                refine ⟨v, ?_, hv1, hvr⟩
                                have hk2 : k < info.size := by have := (List.getElem?_eq_some_iff.1 hk).1; omega
                                have hin : r' * info.size + k < old.length * info.size := by
                                  have : (r' + 1) * info.size ≤ old.length * info.size := Nat.mul_le_mul_right _ hlt'
                                  rw [Nat.add_mul] at this
                                  omega
                                rw [wr_get hwl, if_neg (by omega)]
                                rw [← hv]
                                congr 1
                                rw [ha0, hsos, Nat.add_mul]
                                omega
                              · rw [List.getElem?_append_right (by omega)] at hr'
                                obtain ⟨g1, g2⟩ := hrows _ row hr'
                                refine ⟨g1, fun k y hk => ?_⟩
                                obtain ⟨v, hv, hvr⟩ := g2 k y hk
                                refine ⟨v, ?_, hl1 v (List.mem_of_getElem? hv), hvr⟩
                                have hlt2 := (List.getElem?_eq_some_iff.1 hv).1
                                have hsplit : r' * info.size = old.length * info.size + (r' - old.length) * info.size := by rw [← Nat.add_mul]; congr 1; omega
                                rw [wr_get hwl, if_pos (by omega), ← hv]
                                congr 1
                                omega
                          · -- a new block
                            obtain ⟨w₁, c, nc, x0, hz0, hzv, hrun, hh, hout, hnc, hcl⟩ := append_grows (ty := ty) (old := l') (sLen := old.length) (cap := cap') (base := some ⟨B, a0, none⟩) hu hux hi hz (lenOf_slice _ _ _) hfc' hfc (by omega) hb
                            rw [← eat] at hrun
                            have hx0 : x0.cells.size = info.size := by
                              have := (rel_cells (ρ := ρ) (F := F) (w := w) (rel_ofValue x0)).length
                              rw [← hzv, hzl] at this
                              simpa using this
                            refine ⟨⟨_, _, _, _, .inl (exec_value hm hrun), ?_, (post_new hp (Nat.lt_succ_self _) hwf (so := ⟨info.size, old ++ row0 :: rows0⟩) hh hout ?_).kill i⟩, (fine_new hwf _).kill i⟩
                            · refine mem_slice_rel (upd_same _ _ _) hnc (roomy_new hh (show nc * info.size ≤ _ from ?_))
                              simp only [List.size_toArray, List.length_append, hl, hl', hcl, hx0]
                              rw [← Nat.add_mul, ← Nat.add_mul]
                              exact Nat.mul_le_mul_right _ (by omega)
                            · refine orows_append (fun r' row hr' => ?_) (fun r' row hr' => ?_)
                              · obtain ⟨g1, g2⟩ := hrows' r' row hr'
                                refine ⟨g1, fun k y hk => ?_⟩
                                obtain ⟨v, hv, hvr⟩ := g2 k y hk
                                have hlt := (List.getElem?_eq_some_iff.1 hv).1
                                refine ⟨v, ?_, hl1' v (List.mem_of_getElem? hv), hvr⟩
                                simp only [List.getElem?_toArray]
                                rw [List.append_assoc, List.getElem?_append_left hlt]
                                exact hv
                              · obtain ⟨g1, g2⟩ := hrows r' row hr'
                                refine ⟨g1, fun k y hk => ?_⟩
                                obtain ⟨v, hv, hvr⟩ := g2 k y hk
                                have hlt := (List.getElem?_eq_some_iff.1 hv).1
                                refine ⟨v, ?_, hl1 v (List.mem_of_getElem? hv), hvr⟩
                                simp only [List.getElem?_toArray]
                                rw [List.append_assoc, List.getElem?_append_right (by rw [hl', Nat.add_mul]; omega), List.getElem?_append_left (by rw [hl', Nat.add_mul]; omega), ← hv]
                                congr 1
                                rw [hl', Nat.add_mul]
                                omega
                        · simp at h
                      · simp at h
                    · simp at h
                · simp at h
            · simp at h
          · simp at h
        · simp at h
      · simp at h
    · simp at h
  · simp at h

end

end Go.Proofs.Ytfieppbehmglbaa.Ve
