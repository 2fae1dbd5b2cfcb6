import Derived.Test.YtfieppbehmglbaaVeB
import Derived.Laws.Entries
/-! The evaluator's data operations, as the model sees them. -/
set_option linter.unusedVariables false
set_option linter.unusedSimpArgs false
namespace Go.Proofs.Ytfieppbehmglbaa.Ve
open Go

section
variable {ρ ρ' : Ren} {F F' : Nat → Prop} {w w' : World}

mutual
theorem PRel.val : ∀ (p : PV) (v u : Value), PRel F w p v → p.val? = some u → v = u
  | .sc x, v, u, h, hu => by simp only [PRel] at h; simp only [PV.val?, Option.some.injEq] at hu; exact h.trans hu
  | .fz _, v, u, h, hu => by simp [PV.val?] at hu
  | .agg cs, v, u, h, hu => by
    simp only [PRel] at h
    obtain ⟨l, rfl, hl⟩ := h
    simp only [PV.val?] at hu
    split at hu
    · rename_i l' hl'
      have := PList.val cs l.toList l' hl hl'
      simp only [Option.some.injEq] at hu
      subst hu
      rw [← this]
    · simp at hu
  | .ifc t p, v, u, h, hu => by
    simp only [PRel] at h
    obtain ⟨x, rfl, hx⟩ := h
    simp only [PV.val?] at hu
    split at hu
    · rename_i y hy
      have := PRel.val p x y hx hy
      simp only [Option.some.injEq] at hu
      rw [← hu, this]
    · simp at hu
theorem PList.val : ∀ (ps : List PV) (l m : List Value), PList F w ps l → PV.vals? ps = some m → l = m
  | [], l, m, h, hm => by simp only [PList] at h; simp only [PV.vals?, Option.some.injEq] at hm; rw [h, hm]
  | p :: ps, l, m, h, hm => by
    simp only [PList] at h
    obtain ⟨v, vs, rfl, hv, hvs⟩ := h
    simp only [PV.vals?] at hm
    split at hm
    · rename_i y hy
      split at hm
      · rename_i ys hys
        simp only [Option.some.injEq] at hm
        rw [← hm, PRel.val p v y hv hy, PList.val ps vs ys hvs hys]
      · simp at hm
    · simp at hm
end

mutual
theorem VRel.val : ∀ (x : V) (v u : Value), VRel ρ F w x v → x.val? = some u → v = u
  | .pv p, v, u, h, hu => by simp only [VRel] at h; simp only [V.val?] at hu; exact PRel.val p v u h hu
  | .nl, v, u, h, hu => by simp only [VRel] at h; simp only [V.val?, Option.some.injEq] at hu; exact h.trans hu
  | .agg cs, v, u, h, hu => by
    simp only [VRel] at h
    obtain ⟨l, rfl, hl⟩ := h
    simp only [V.val?] at hu
    split at hu
    · rename_i l' hl'
      have := VList.val cs l.toList l' hl hl'
      simp only [Option.some.injEq] at hu
      subst hu
      rw [← this]
    · simp at hu
  | .tup cs, v, u, h, hu => by
    simp only [VRel] at h
    obtain ⟨l, rfl, hl⟩ := h
    simp only [V.val?] at hu
    split at hu
    · rename_i l' hl'
      have := VList.val cs l.toList l' hl hl'
      simp only [Option.some.injEq] at hu
      subst hu
      rw [← this]
    · simp at hu
  | .ifc t p, v, u, h, hu => by
    simp only [VRel] at h
    obtain ⟨x, rfl, hx⟩ := h
    simp only [V.val?] at hu
    split at hu
    · rename_i y hy
      have := VRel.val p x y hx hy
      simp only [Option.some.injEq] at hu
      rw [← hu, this]
    · simp at hu
  | .fn f a c, v, u, h, hu => by
    simp only [VRel] at h
    obtain ⟨a', c', rfl, ha, hc⟩ := h
    simp only [V.val?] at hu
    split at hu
    · rename_i x hx
      split at hu
      · rename_i y hy
        have h1 := VList.val a a'.toList x ha hx
        have h2 := VList.val c c'.toList y hc hy
        simp only [Option.some.injEq] at hu
        subst hu
        rw [← h1, ← h2]
      · simp at hu
    · simp at hu
  | .ptr _ _ _, v, u, h, hu => by simp [V.val?] at hu
  | .fe _, v, u, h, hu => by simp [V.val?] at hu
  | .ow _ _ _ _, v, u, h, hu => by simp [V.val?] at hu
theorem VList.val : ∀ (ps : List V) (l m : List Value), VList ρ F w ps l → V.vals? ps = some m → l = m
  | [], l, m, h, hm => by simp only [VList] at h; simp only [V.vals?, Option.some.injEq] at hm; rw [h, hm]
  | p :: ps, l, m, h, hm => by
    simp only [VList] at h
    obtain ⟨v, vs, rfl, hv, hvs⟩ := h
    simp only [V.vals?] at hm
    split at hm
    · rename_i y hy
      split at hm
      · rename_i ys hys
        simp only [Option.some.injEq] at hm
        rw [← hm, VRel.val p v y hv hy, VList.val ps vs ys hvs hys]
      · simp at hm
    · simp at hm
end

theorem rel_ofCell (x : Value) : VRel ρ F w (ofCell x) x := by
  unfold ofCell
  split <;> simp [VRel, PRel]

theorem rel_ofCells : ∀ (l : List Value), VList ρ F w (l.map ofCell) l
  | [] => by simp [VList]
  | x :: l => by simp only [List.map_cons, VList]; exact ⟨x, l, rfl, rel_ofCell x, rel_ofCells l⟩

theorem allPv_eq : ∀ (cs : List V) ps, allPv cs = some ps → cs = ps.map .pv
  | [], ps, h => by simp only [allPv, Option.some.injEq] at h; simp [← h]
  | .pv p :: r, ps, h => by
    simp only [allPv] at h
    split at h
    · rename_i qs hqs
      simp only [Option.some.injEq] at h
      rw [← h, allPv_eq r qs hqs]; rfl
    · simp at h
  | .ptr _ _ _ :: _, ps, h | .fe _ :: _, ps, h | .ow _ _ _ _ :: _, ps, h | .nl :: _, ps, h | .agg _ :: _, ps, h | .tup _ :: _, ps, h | .ifc _ _ :: _, ps, h | .fn _ _ _ :: _, ps, h => by simp [allPv] at h

theorem rel_mkAgg {cs : List V} {l : Array Value} (h : VList ρ F w cs l.toList) : VRel ρ F w (mkAgg cs) (.agg l) := by
  unfold mkAgg
  split
  · rename_i ps hps
    have := allPv_eq _ _ hps
    subst this
    simp only [VRel, PRel]
    exact ⟨l, rfl, PList.of_VList h⟩
  · simp only [VRel]
    exact ⟨l, rfl, h⟩

theorem rel_mkIfc {t : TypeId} {x : V} {v : Value} (h : VRel ρ F w x v) : VRel ρ F w (mkIfc t x) (.iface t v) := by
  cases x <;> first
    | (simp only [mkIfc, VRel, PRel] at h ⊢; exact ⟨v, rfl, h⟩)
    | (simp only [mkIfc]; unfold VRel; exact ⟨v, rfl, h⟩)

theorem rel_ofVal1 (x : Value) : VRel ρ F w (ofVal1 x) x := by
  unfold ofVal1
  split
  · exact rel_mkAgg (rel_ofCells _)
  · exact rel_ofCell x

theorem rel_ofVals1 : ∀ (l : List Value), VList ρ F w (l.map ofVal1) l
  | [] => by simp [VList]
  | x :: l => by simp only [List.map_cons, VList]; exact ⟨x, l, rfl, rel_ofVal1 x, rel_ofVals1 l⟩

theorem rel_ofValue (x : Value) : VRel ρ F w (ofValue x) x := by
  unfold ofValue
  split
  · rename_i vs
    simp only [VRel]
    exact ⟨vs, rfl, rel_ofVals1 _⟩
  · exact rel_ofVal1 x

theorem rel_undef : VRel ρ F w undefV undef := by simp [undefV, VRel, PRel]

theorem rel_cells {x : V} {v : Value} (h : VRel ρ F w x v) : VList ρ F w x.cells v.cells.toList := by
  have one : ∀ (y : V) (u : Value), VRel ρ F w y u → (∀ a, u ≠ .agg a) → VList ρ F w [y] u.cells.toList := by
    intro y u hy hu
    have : u.cells = #[u] := by cases u <;> first | rfl | exact absurd rfl (hu _)
    rw [this]
    simp only [VList]
    exact ⟨u, [], rfl, hy, rfl⟩
  cases x with
  | pv p =>
    cases p with
    | sc y =>
      simp only [VRel, PRel] at h
      subst h
      cases v with
      | agg a => exact rel_ofCells _
      | _ => exact one _ _ (by simp [VRel, PRel]) (by simp)
    | fz rows =>
      have h' := h
      simp only [VRel, PRel] at h
      obtain ⟨a, cap, rfl, -⟩ := h
      exact one _ _ h' (by simp)
    | agg ps =>
      simp only [VRel, PRel] at h
      obtain ⟨l, rfl, hl⟩ := h
      exact VList.of_PList hl
    | ifc t p =>
      have h' := h
      simp only [VRel, PRel] at h
      obtain ⟨u, rfl, -⟩ := h
      exact one _ _ h' (by simp)
  | ptr i r off =>
    have h' := h
    simp only [VRel] at h
    obtain ⟨B, o, s, -, rfl⟩ := h
    exact one _ _ h' (by simp)
  | fe cs =>
    have h' := h
    simp only [VRel] at h
    obtain ⟨B, o, -, rfl, -⟩ := h
    exact one _ _ h' (by simp)
  | ow i s r len =>
    have h' := h
    simp only [VRel] at h
    obtain ⟨B, o, a, cap, -, rfl, -, -⟩ := h
    exact one _ _ h' (by simp)
  | nl =>
    have h' := h
    simp only [VRel] at h
    subst h
    exact one _ _ h' (by simp)
  | agg cs =>
    simp only [VRel] at h
    obtain ⟨l, rfl, hl⟩ := h
    exact hl
  | tup cs =>
    have h' := h
    simp only [VRel] at h
    obtain ⟨l, rfl, -⟩ := h
    exact one _ _ h' (by simp)
  | ifc t y =>
    have h' := h
    simp only [VRel] at h
    obtain ⟨u, rfl, -⟩ := h
    exact one _ _ h' (by simp)
  | fn f a c =>
    have h' := h
    simp only [VRel] at h
    obtain ⟨a', c', rfl, -⟩ := h
    exact one _ _ h' (by simp)

theorem rel_cell1 {x : V} {v : Value} (h : VRel ρ F w x v) (h1 : x.cell1 = true) : v.oneCell' = true := by
  cases x with
  | pv p =>
    cases p <;> simp only [VRel, PRel] at h
    · subst h; simpa [V.cell1] using h1
    · obtain ⟨a, cap, rfl, -⟩ := h; rfl
    · simp [V.cell1] at h1
    · obtain ⟨u, rfl, -⟩ := h; rfl
  | ptr i r off => simp only [VRel] at h; obtain ⟨B, o, s, -, rfl⟩ := h; rfl
  | fe cs => simp only [VRel] at h; obtain ⟨B, o, -, rfl, -⟩ := h; rfl
  | ow i s r len => simp only [VRel] at h; obtain ⟨B, o, a, cap, -, rfl, -, -⟩ := h; rfl
  | nl => simp only [VRel] at h; subst h; rfl
  | agg cs => simp [V.cell1] at h1
  | tup cs => simp [V.cell1] at h1
  | ifc t y => simp only [VRel] at h; obtain ⟨u, rfl, -⟩ := h; rfl
  | fn f a c => simp only [VRel] at h; obtain ⟨a', c', rfl, -⟩ := h; rfl

theorem rel_iface {x : V} {v : Value} {t : TypeId} {u : V} (h : VRel ρ F w x v) (hi : x.iface? = some (t, u)) : ∃ y, v = .iface t y ∧ VRel ρ F w u y := by
  cases x with
  | pv p =>
    cases p with
    | sc y =>
      simp only [VRel, PRel] at h
      subst h
      cases v <;> simp [V.iface?] at hi
      obtain ⟨rfl, rfl⟩ := hi
      exact ⟨_, rfl, rel_ofVal1 _⟩
    | ifc t' p =>
      simp only [VRel, PRel] at h
      obtain ⟨y, rfl, hy⟩ := h
      simp [V.iface?] at hi
      obtain ⟨rfl, rfl⟩ := hi
      exact ⟨y, rfl, by simpa [VRel] using hy⟩
    | _ => simp [V.iface?] at hi
  | ifc t' y =>
    simp only [VRel] at h
    obtain ⟨u', rfl, hu⟩ := h
    simp [V.iface?] at hi
    obtain ⟨rfl, rfl⟩ := hi
    exact ⟨u', rfl, hu⟩
  | _ => simp [V.iface?] at hi

theorem isAgg_agg {x : V} {v : Value} (h : VRel ρ F w x v) (ha : x.isAgg = true) : ∃ a, v = .agg a := by
  cases x with
  | pv p =>
    cases p with
    | sc y => simp only [VRel, PRel] at h; subst h; cases v <;> simp [V.isAgg] at ha; exact ⟨_, rfl⟩
    | agg ps => simp only [VRel, PRel] at h; obtain ⟨l, rfl, -⟩ := h; exact ⟨l, rfl⟩
    | _ => simp [V.isAgg] at ha
  | agg cs => simp only [VRel] at h; obtain ⟨l, rfl, -⟩ := h; exact ⟨l, rfl⟩
  | _ => simp [V.isAgg] at ha

mutual
theorem rel_norm : ∀ (x : V) (v : Value), VRel ρ F w x v → VRel ρ F w x.norm v
  | .nl, v, h => by
    simp only [VRel] at h
    subst h
    simp only [V.norm, VRel, PRel]
    exact ⟨none, 0, rfl, by simp, .inl trivial⟩
  | .agg cs, v, h => by
    simp only [VRel] at h
    obtain ⟨l, rfl, hl⟩ := h
    simp only [V.norm]
    exact rel_mkAgg (rel_norms cs _ hl)
  | .ifc t x, v, h => by
    simp only [VRel] at h
    obtain ⟨u, rfl, hu⟩ := h
    simp only [V.norm]
    exact rel_mkIfc (rel_norm x u hu)
  | .tup cs, v, h => by
    simp only [VRel] at h
    obtain ⟨l, rfl, hl⟩ := h
    simp only [V.norm, VRel]
    exact ⟨l, rfl, rel_norms cs _ hl⟩
  | .pv p, v, h => by simpa [V.norm] using h
  | .ptr _ _ _, v, h => by simpa [V.norm] using h
  | .fe _, v, h => by simpa [V.norm] using h
  | .ow _ _ _ _, v, h => by simpa [V.norm] using h
  | .fn _ _ _, v, h => by simpa [V.norm] using h
theorem rel_norms : ∀ (xs : List V) (l : List Value), VList ρ F w xs l → VList ρ F w (V.norm.V.norms xs) l
  | [], l, h => by simpa [V.norm.V.norms] using h
  | x :: xs, l, h => by
    simp only [VList] at h
    obtain ⟨v, vs, rfl, hv, hvs⟩ := h
    simp only [V.norm.V.norms, VList]
    exact ⟨v, vs, rfl, rel_norm x v hv, rel_norms xs vs hvs⟩
end

theorem rel_map_norm : ∀ {xs : List V} {l : List Value}, VList ρ F w xs l → VList ρ F w (xs.map V.norm) l
  | [], l, h => by simpa using h
  | x :: xs, l, h => by
    simp only [VList] at h
    obtain ⟨v, vs, rfl, hv, hvs⟩ := h
    simp only [List.map_cons, VList]
    exact ⟨v, vs, rfl, rel_norm x v hv, rel_map_norm hvs⟩

mutual
theorem PRel.flat : ∀ (p : PV) (v : Value), p.flat = true → PRel F w p v → PRel F' w' p v
  | .sc x, v, _, h => by simpa [PRel] using h
  | .fz _, v, hf, h => by simp [PV.flat] at hf
  | .agg cs, v, hf, h => by
    simp only [PRel] at h ⊢
    obtain ⟨l, hv, hl⟩ := h
    exact ⟨l, hv, PList.flat cs _ (by simpa [PV.flat] using hf) hl⟩
  | .ifc t p, v, hf, h => by
    simp only [PRel] at h ⊢
    obtain ⟨u, hv, hu⟩ := h
    exact ⟨u, hv, PRel.flat p _ (by simpa [PV.flat] using hf) hu⟩
theorem PList.flat : ∀ (ps : List PV) (l : List Value), PV.flats ps = true → PList F w ps l → PList F' w' ps l
  | [], l, _, h => by simpa [PList] using h
  | p :: ps, l, hf, h => by
    simp only [PV.flats, Bool.and_eq_true] at hf
    simp only [PList] at h ⊢
    obtain ⟨v, vs, hl, hv, hvs⟩ := h
    exact ⟨v, vs, hl, PRel.flat p v hf.1 hv, PList.flat ps vs hf.2 hvs⟩
end

theorem VRel.flat {x : V} {v : Value} (hf : x.flat = true) (h : VRel ρ F w x v) : VRel ρ' F' w' x v := by
  cases x with
  | pv p => simp only [VRel] at h ⊢; exact PRel.flat p v (by simpa [V.flat] using hf) h
  | tup cs =>
    simp only [VRel] at h ⊢
    obtain ⟨l, hv, hl⟩ := h
    refine ⟨l, hv, ?_⟩
    simp only [V.flat] at hf
    generalize l.toList = m at hl
    clear hv l
    induction cs generalizing m with
    | nil => simpa [VList] using hl
    | cons y ys ih =>
      simp only [VList] at hl ⊢
      obtain ⟨u, us, rfl, hu, hus⟩ := hl
      cases y with
      | pv p =>
        simp only [V.flat.flats, Bool.and_eq_true] at hf
        refine ⟨u, us, rfl, ?_, ih hf.2 us hus⟩
        simp only [VRel] at hu ⊢
        exact PRel.flat p u hf.1 hu
      | _ => simp [V.flat.flats] at hf
  | _ => simp [V.flat] at hf

end

theorem run_pureRun (P : Program) {α : Type} : ∀ (s : Sem α) (x : α), pureRun P s = some x → ∀ w, s.run P w = .ok x w
  | .pure a, x, h, w => by simp only [pureRun, Option.some.injEq] at h; subst h; rfl
  | .program k, x, h, w => by simp only [pureRun] at h; simpa [Sem.run] using run_pureRun P (k P) x h w
  | .mark m k, x, h, w => by simp only [pureRun] at h; simpa [Sem.run] using run_pureRun P k x h w
  | .load .., x, h, w | .store .., x, h, w | .new .., x, h, w | .shape .., x, h, w | .freeze .., x, h, w | .frozen .., x, h, w | .getObj .., x, h, w | .setObj .., x, h, w | .choose .., x, h, w | .sys .., x, h, w | .halt .., x, h, w => by simp [pureRun] at h

end Go.Proofs.Ytfieppbehmglbaa.Ve
