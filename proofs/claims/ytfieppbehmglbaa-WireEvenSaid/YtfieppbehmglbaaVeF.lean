import Derived.Test.YtfieppbehmglbaaVeE
import Derived.Great.BuildSlice
/-! Slices: literals, make, addresses of elements, cuts. -/
set_option linter.unusedVariables false
set_option linter.unusedSimpArgs false
namespace Go.Proofs.Ytfieppbehmglbaa.Ve
open Go

section
variable {P : Program} {ρ ρ' : Ren} {F F' : Nat → Prop} {w w' : World}

theorem sliceElem_eq {t e : TypeId} (h : sliceElem P t = some e) : P.underlying t = some (.slice e) := by
  unfold sliceElem at h
  split at h
  · simp only [Option.some.injEq] at h; subst h; assumption
  · simp at h

theorem tySize_info {t : TypeId} {n : Nat} (h : tySize P t = some n) : ∃ i, P.info? t = some i ∧ i.size = n := by
  unfold tySize at h
  cases hq : P.info? t with
  | none => simp [hq] at h
  | some i => exact ⟨i, rfl, by simpa [hq] using h⟩

theorem chunk_get (s : Nat) : ∀ (n : Nat) (cs : List V) (r : Nat), (chunk s n cs)[r]? = if r < n then some ((cs.drop (r * s)).take s) else none
  | 0, cs, r => by simp [chunk]
  | n + 1, cs, 0 => by simp [chunk]
  | n + 1, cs, r + 1 => by
    simp only [chunk, List.getElem?_cons_succ]
    rw [chunk_get s n (cs.drop s) r]
    simp only [List.drop_drop, Nat.add_lt_add_iff_right]
    rw [show s + r * s = (r + 1) * s by rw [Nat.add_mul]; omega]

theorem orows_chunk {s n : Nat} {cs : List V} {c : Array Value} (h : VList ρ F w cs c.toList) (h1 : cs.all V.cell1 = true) (hl : cs.length = n * s) : ORows ρ F w c s 0 (chunk s n cs) := by
  intro r row hr
  rw [chunk_get] at hr
  split at hr
  · rename_i hlt
    simp only [Option.some.injEq] at hr
    subst hr
    have hle : (r + 1) * s ≤ n * s := Nat.mul_le_mul_right s hlt
    rw [Nat.add_mul] at hle
    refine ⟨by simp; omega, fun k x hk => ?_⟩
    rw [List.getElem?_take] at hk
    split at hk
    · rw [List.getElem?_drop] at hk
      obtain ⟨v, hv, hx⟩ := h.get _ x hk
      exact ⟨v, by simpa using hv, rel_cell1 hx (List.all_eq_true.1 h1 x (List.mem_of_getElem? hk)), hx⟩
    · simp at hk
  · simp at hr

theorem mem_slice_rel {ρ : Ren} {i B s len cap : Nat} (h : ρ i = some (B, 0, s)) (hl : len ≤ cap) (hq : HoldsN w B (cap * s)) : VRel ρ F w (.ow i s 0 len) (.slice (some ⟨B, 0, none⟩) len cap) := by
  simp only [VRel]
  exact ⟨B, 0, 0, cap, h, rfl, hl, .inr (by simp), by simpa using hq⟩
theorem roomy_new {w₁ : World} {c : Array Value} {e : TypeId} {n : Nat} (hh : w₁.heap = w.heap.push (.cells c e (0, 0))) (hn : n ≤ c.size) : HoldsN w₁ w.heap.size n := ⟨c, e, by rw [hh]; simp, hn⟩

theorem zeros_rel {z : V} {x0 : Value} (hz : VList ρ F w z.cells x0.cells.toList) (n : Nat) (hpos : n ≠ 0 → z.cells.length ≠ 0) :
    VList ρ F w ((List.range n).map fun k => z.cells.getD (k % z.cells.length) .nl) ((Array.range n).map (x0.cells[· % x0.cells.size]!)).toList := by
  have hlen : x0.cells.size = z.cells.length := by have := hz.length; simpa using this
  refine VList.intro (by simp) fun k y hk => ?_
  rw [List.getElem?_map] at hk
  cases hq : (List.range n)[k]? with
  | none => simp [hq] at hk
  | some j =>
    have hj : j = k ∧ k < n := by
      by_cases hkn : k < n
      · rw [List.getElem?_range hkn] at hq
        simp only [Option.some.injEq] at hq
        exact ⟨hq.symm, hkn⟩
      · rw [List.getElem?_eq_none (by simp; omega)] at hq
        simp at hq
    obtain ⟨rfl, hjn⟩ := hj
    simp only [hq, Option.map_some, Option.some.injEq] at hk
    have hlt : j % z.cells.length < z.cells.length := Nat.mod_lt _ (Nat.pos_of_ne_zero (hpos (by omega)))
    have hg : z.cells[j % z.cells.length]? = some y := by
      rw [← hk, List.getD_eq_getElem?_getD, List.getElem?_eq_getElem hlt]
      rfl
    obtain ⟨v, hv, hr⟩ := hz.get _ y hg
    refine ⟨v, ?_, hr⟩
    have hv' : x0.cells[j % x0.cells.size]? = some v := by rw [hlen]; simpa using hv
    simp only [Array.toList_map, List.getElem?_map, Array.getElem?_toList, Array.getElem?_range, hjn, if_true, Option.map_some]
    rw [getElem!_def, hv']

theorem buildSlice_sound {ev : Operand → Value} {o : Oper} {st st' : St} {R W R' W' : List Nat} {t : TypeId} {len : Nat} {ps : List (Nat × V)} {l : List (Nat × Value)} {v : V}
    (hs : ∃ s : Sem Value, execOp ev o = (do pure (.value (← s))) ∧ s = Instr.buildSlice t len l.toArray)
    (h : buildSliceV P st t len ps = some (v, st', R', W')) (hp : Pre ρ F w st R W st'.next) (hwf : st.WF) (hps : PartsRel ρ F w ps l) : OpRes P ev o ρ F w st v st' W' ∧ Fine st st' W' := by
  unfold buildSliceV at h
  split at h
  · rename_i elem he
    split at h
    · rename_i size hsz
      split at h
      · rename_i z hz
        split at h
        · rename_i hsmall'
          split at h
          · rename_i cs hf
            split at h
            · rename_i h1
              simp only [Option.some.injEq, Prod.mk.injEq] at h
              obtain ⟨rfl, rfl, rfl, rfl⟩ := h
              obtain ⟨i, x0, hi, hiz, rfl, hrun⟩ := run_zeroValue hz
              obtain ⟨hsmall, hzlen⟩ := hsmall'
              obtain ⟨i', hi', hisz⟩ := tySize_info hsz
              rw [hi] at hi'
              cases hi'
              have hu := sliceElem_eq he
              have hc : VList ρ F w (ofValue x0).cells x0.cells.toList := rel_cells (rel_ofValue x0)
              obtain ⟨s, hs1, rfl⟩ := hs
              have key : ∃ b : Array Value, (Instr.buildSlice t len l.toArray).run P w = .ok (.slice (some ⟨w.heap.size, 0, none⟩) len len) (w.alloc (.cells b elem)) ∧ VList ρ F w cs b.toList ∧ cs.length = len * size := by
                by_cases hz0 : len * size = 0
                · simp only [hz0, List.range_zero, List.map_nil] at hf
                  obtain ⟨b, hb, hb2, hb3⟩ := fill_same _ (partsRel_norm hps) (a := #[]) (by simp [VList]) hf
                  refine ⟨b, ?_, hb2, by rw [hb3, hz0]; rfl⟩
                  simp [Instr.buildSlice, run_underlying hu, run_sizeOf hsz, hz0, show Array.range 0 = #[] from rfl, hb, newRow]
                · have hzl : (ofValue x0).cells.length ≠ 0 := by rw [hzlen]; intro e; rw [e] at hz0; simp at hz0
                  obtain ⟨b, hb, hb2, hb3⟩ := fill_same _ (partsRel_norm hps) (zeros_rel hc (len * size) (fun _ => hzl)) hf
                  refine ⟨b, ?_, hb2, by rw [hb3]; simp⟩
                  subst hisz
                  exact run_buildSlice w t elem len l.toArray b i x0 hu hi hiz (by omega) hz0 (by simpa using hb)
              obtain ⟨b, hrunb, hb, hbl⟩ := key
              refine ⟨⟨_, _, _, _, .inl (exec_value hs1 hrunb), ?_, post_new hp (Nat.lt_succ_self _) hwf (so := ⟨size, chunk size len cs⟩) rfl ⟨rfl, rfl, rfl⟩ (orows_chunk hb h1 hbl)⟩, fine_new hwf _⟩
              exact mem_slice_rel (upd_same _ _ _) (Nat.le_refl _) (roomy_new rfl (show len * size ≤ b.size by have := hb.length; simp at this; omega))
            · simp at h
          · simp at h
        · simp at h
      · simp at h
    · simp at h
  · simp at h

end

end Go.Proofs.Ytfieppbehmglbaa.Ve
