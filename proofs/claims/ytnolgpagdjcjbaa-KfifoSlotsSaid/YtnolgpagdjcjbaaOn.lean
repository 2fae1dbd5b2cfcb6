import Derived.Test.YtnolgpagdjcjbaaVeH
import Derived.Test.YtnolgpagdjcjbaaProg
import Derived.ProofKit
import Derived.SizedLaws
import Derived.ChangeSlices
import Derived.DataReads
/-! How an argument's data opens as frozen data: numbers, bools, texts, structs, slices of these, nested. -/
set_option linter.unusedVariables false
set_option linter.unusedSimpArgs false
namespace Go.Proofs.Ytnolgpagdjcjbaa.Ve
open Go Go.RowKit Go.ChangeShapes Go.WideShapes
/-- Data of a type reads as frozen cells that meet Wf. -/
def OpensP (T : TypeId) (Wf : List PV → Prop) : Prop :=
  ∀ {H : Type} (enc : TypeId × Value → H) (w : World) (n : Nat) (cs : List Value) (y : DataW H × List MemPlace), DataW.trod enc Try.prog w 0 (fun _ => true) true n T cs = some y → ∃ ps : List PV, PList (fun B => B < w.heap.size) w ps cs ∧ (∀ v ∈ cs, v.oneCell' = true) ∧ Wf ps
theorem OpensP.mono {T : TypeId} {Wf Wf' : List PV → Prop} (h : OpensP T Wf) (hw : ∀ ps, Wf ps → Wf' ps) : OpensP T Wf' := fun enc w n cs y hy => by
  obtain ⟨ps, h1, h2, h3⟩ := h enc w n cs y hy
  exact ⟨ps, h1, h2, hw ps h3⟩
theorem op_int {T : TypeId} {k : IntKind} (hu : Try.prog.underlying T = some (.int k)) : OpensP T (fun ps => ∃ x : Int, ps = [.sc (.int k x)] ∧ (Lit.int k x).wf = true) := by
  intro H enc w n cs y h
  cases n with
  | zero => cases h
  | succ n =>
    unfold DataW.trod at h
    rw [hu] at h
    split at h <;> simp_all
    rename_i k' kk x hk
    subst hk
    exact ⟨[.sc (.int k x)], by simp [PList, PRel, h.1.1], by simp [Value.oneCell'], x, rfl, h.1.2⟩
theorem op_bool {T : TypeId} (hu : Try.prog.underlying T = some .bool) : OpensP T (fun ps => ∃ b : Bool, ps = [.sc (.bool b)]) := by
  intro H enc w n cs y h
  cases n with
  | zero => cases h
  | succ n =>
    unfold DataW.trod at h
    rw [hu] at h
    split at h
    all_goals first | (simp_all; done) | skip
    rename_i b hq
    exact ⟨[.sc (.bool b)], by simp [PList, PRel], by simp [Value.oneCell'], b, rfl⟩
theorem plist_len {F : Nat → Prop} {w : World} : ∀ {ps : List PV} {l : List Value}, PList F w ps l → l.length = ps.length
  | [], l, h => by simp only [PList] at h; simp [h]
  | p :: ps, l, h => by
    simp only [PList] at h
    obtain ⟨v, vs, rfl, -, h⟩ := h
    simp [plist_len h]
theorem plist_get {F : Nat → Prop} {w : World} : ∀ {ps : List PV} {l : List Value}, PList F w ps l → ∀ (k : Nat) p, ps[k]? = some p → ∃ v, l[k]? = some v ∧ PRel F w p v
  | [], l, _, k, p, hk => by simp at hk
  | q :: ps, l, h, k, p, hk => by
    simp only [PList] at h
    obtain ⟨v, vs, rfl, hv, h⟩ := h
    cases k with
    | zero => simp at hk; subst hk; exact ⟨v, rfl, hv⟩
    | succ k => exact plist_get h k p (by simpa using hk)
theorem addr_add {B o n : Nat} : (⟨B, o, none⟩ : Addr).add n = ⟨B, o + n, none⟩ := by
  unfold Addr.add
  by_cases h : n = 0
  · simp [h]
  · simp [h]
theorem cell_addr {w : World} {a : Addr} {v : Value} (h : w.cell? a = some v) : a.spot = none ∧ a.block < w.heap.size := by
  unfold World.cell? at h
  split at h
  · rename_i c _ _ hb
    split at h
    · cases h
    · rename_i hs
      refine ⟨by cases hq : a.spot <;> simp_all, (Array.getElem?_eq_some_iff.1 hb).1⟩
  · cases h
theorem op_slice {Wf : List PV → Prop} {T E : TypeId} {sz : Nat} (hu : Try.prog.underlying T = some (.slice E)) (hs : Try.prog.cellsOf E = sz) (h0 : 0 < sz) (ho : OpensP E Wf) :
    OpensP T (fun ps => ∃ rows : List (List PV), ps = [.fz rows] ∧ rows.length ≤ maxLen ∧ ∀ r ∈ rows, Wf r) := by
  intro H enc w n cs y h
  cases n with
  | zero => cases h
  | succ n =>
    unfold DataW.trod at h
    rw [hu] at h
    have key : cs = [.slice none 0 0] ∨ ∃ a len cap, cs = [.slice (some a) len cap] ∧ len ≤ cap ∧ cap ≤ maxLen ∧ ∀ i, i < len → ∃ c y', w.cells? 0 (a.add (i * sz)) sz = some c ∧ DataW.trod enc Try.prog w 0 (fun _ => true) true n E c = some y' := by
      split at h
      any_goals (first | (exfalso; simp at h; done) | skip)
      all_goals first | (rename_i e; injection e with e; injection e; done) | skip
      · exact .inl rfl
      · rename_i e a len cap he
        injection he with he
        injection he with he
        subst he
        refine .inr ⟨a, len, cap, rfl, ?_⟩
        dsimp only at h
        split at h
        · rename_i hc
          refine ⟨hc.2.1, hc.2.2, ?_⟩
          obtain ⟨elems, he, _⟩ := Option.bind_eq_some_iff.1 h
          intro i hi
          have hlen := mapM_some_length he
          rw [List.length_range] at hlen
          have hg := mapM_some_get he i i (by rw [List.getElem?_range hi])
          rw [List.getElem?_eq_getElem (by omega), hs] at hg
          obtain ⟨c, hc1, hc2⟩ := Option.bind_eq_some_iff.1 hg
          exact ⟨c, _, hc1, hc2⟩
        · cases h
    rcases key with rfl | ⟨a, len, cap, rfl, hl, hm, hx⟩
    · refine ⟨[.fz []], ?_, by simp [Value.oneCell'], [], rfl, by simp, by simp⟩
      simp only [PList]
      exact ⟨_, _, rfl, by simp only [PRel]; exact ⟨none, 0, rfl, Nat.le_refl _, by simp⟩, rfl⟩
    · have hx2 : ∀ i : Fin len, ∃ r : List PV, ∃ c, w.cells? 0 (a.add (i.1 * sz)) sz = some c ∧ PList (fun B => B < w.heap.size) w r c ∧ (∀ v ∈ c, v.oneCell' = true) ∧ Wf r := by
        intro i
        obtain ⟨c, y', h1, h2⟩ := hx i.1 i.2
        obtain ⟨r, h3, h4, h5⟩ := ho enc w n c y' h2
        exact ⟨r, c, h1, h3, h4, h5⟩
      let f : Fin len → List PV := fun i => Classical.choose (hx2 i)
      have hf : ∀ i, ∃ c, w.cells? 0 (a.add (i.1 * sz)) sz = some c ∧ PList (fun B => B < w.heap.size) w (f i) c ∧ (∀ v ∈ c, v.oneCell' = true) ∧ Wf (f i) := fun i => Classical.choose_spec (hx2 i)
      have hlen : (List.ofFn f).length = len := List.length_ofFn
      refine ⟨[.fz (List.ofFn f)], ?_, by simp [Value.oneCell'], List.ofFn f, rfl, by rw [hlen]; omega, fun r hr => ?_⟩
      · simp only [PList]
        refine ⟨_, _, rfl, ?_, rfl⟩
        simp only [PRel]
        refine ⟨some a, cap, by rw [hlen], by rw [hlen]; exact hl, ?_⟩
        by_cases hz : len = 0
        · left
          exact List.eq_nil_of_length_eq_zero (by rw [hlen, hz])
        right
        obtain ⟨c0, h1, -, -, -⟩ := hf ⟨0, by omega⟩
        obtain ⟨-, hcl, hcc⟩ := World.cells?_some h1
        have h00 := hcc 0 h0
        obtain ⟨v0, hv0⟩ : ∃ v0, c0[0]? = some v0 := ⟨c0[0]'(by omega), List.getElem?_eq_getElem _⟩
        rw [hv0] at h00
        have ha0 : (a.add (0 * sz)).add 0 = a := by simp [Addr.add]
        rw [ha0] at h00
        obtain ⟨hsp, hbl⟩ := cell_addr h00
        have hae : a = ⟨a.block, a.off, none⟩ := by cases a; simp_all
        refine ⟨a.block, a.off, sz, by rw [← hae], hbl, PRows.intro fun k r hr => ?_⟩
        rw [List.getElem?_ofFn] at hr
        split at hr
        · rename_i hk
          have hr' : f ⟨k, hk⟩ = r := Option.some.inj hr
          subst hr'
          obtain ⟨c, h1, h2, h3, -⟩ := hf ⟨k, hk⟩
          obtain ⟨-, hcl, hcc⟩ := World.cells?_some h1
          refine ⟨(plist_len h2).symm.trans hcl, PCells.intro fun i p hp => ?_⟩
          obtain ⟨v, hv, hr⟩ := plist_get h2 i p hp
          have hi : i < sz := by rw [← hcl]; exact (List.getElem?_eq_some_iff.1 hv).1
          have hc := hcc i hi
          rw [hv, hae, addr_add, addr_add] at hc
          exact ⟨v, hc, h3 v (List.mem_of_getElem? hv), hr⟩
        · cases hr
      · obtain ⟨i, rfl⟩ := (List.mem_ofFn).1 hr
        exact (hf i).choose_spec.2.2.2

/-- The fields from a place on. -/
def OpensPF (Wf : List PV → Prop) (off n0 : Nat) (fs : List Field) : Prop :=
  ∀ {H : Type} (enc : TypeId × Value → H) (w : World) (n : Nat) (cs : List Value) (ys : List (DataW H × List MemPlace)),
    (fs.mapM fun f => DataW.trod enc Try.prog w 0 (fun _ => true) true n f.type ((cs.drop f.offset).take (Try.prog.cellsOf f.type))) = some ys → ∃ ps : List PV, PList (fun B => B < w.heap.size) w ps ((cs.drop off).take n0) ∧ (∀ v ∈ (cs.drop off).take n0, v.oneCell' = true) ∧ Wf ps
theorem opF_nil {off : Nat} : OpensPF (fun ps => ps = []) off 0 [] := by
  intro H enc w n cs ys hy
  exact ⟨[], by simp [PList], by simp, rfl⟩
theorem plist_app {F : Nat → Prop} {w : World} : ∀ {ps qs : List PV} {l m : List Value}, PList F w ps l → PList F w qs m → PList F w (ps ++ qs) (l ++ m)
  | [], qs, l, m, h, h' => by simp only [PList] at h; simpa [h] using h'
  | p :: ps, qs, l, m, h, h' => by
    simp only [PList] at h
    obtain ⟨v, vs, rfl, hv, h⟩ := h
    simp only [List.cons_append, PList]
    exact ⟨v, vs ++ m, rfl, hv, plist_app h h'⟩
theorem opF_cons {Wf We : List PV → Prop} {off sz n0 : Nat} {f : Field} {fs : List Field} (ho : f.offset = off) (hs : Try.prog.cellsOf f.type = sz) (h : OpensP f.type Wf) (hr : OpensPF We (off + sz) n0 fs) :
    OpensPF (fun ps => ∃ a b, ps = a ++ b ∧ Wf a ∧ We b) off (sz + n0) (f :: fs) := by
  intro H enc w n cs ys hy
  rw [List.mapM_cons] at hy
  obtain ⟨y, h1, h2⟩ := Option.bind_eq_some_iff.1 hy
  obtain ⟨ys', h3, h4⟩ := Option.bind_eq_some_iff.1 h2
  rw [ho, hs] at h1
  obtain ⟨p1, k1, o1, w1⟩ := h enc w n _ y h1
  obtain ⟨p2, k2, o2, w2⟩ := hr enc w n cs ys' h3
  have e : (cs.drop off).take (sz + n0) = (cs.drop off).take sz ++ (cs.drop (off + sz)).take n0 := by rw [List.take_add, List.drop_drop]
  rw [e]
  refine ⟨p1 ++ p2, plist_app k1 k2, fun v hv => ?_, p1, p2, rfl, w1, w2⟩
  rcases List.mem_append.1 hv with hv | hv
  · exact o1 v hv
  · exact o2 v hv
theorem op_struct {Wf : List PV → Prop} {T : TypeId} {fs : Array Field} {n0 : Nat} (hu : Try.prog.underlying T = some (.struct fs)) (hs : Try.prog.cellsOf T = n0) (hf : OpensPF Wf 0 n0 fs.toList) : OpensP T Wf := by
  intro H enc w n cs y h
  cases n with
  | zero => cases h
  | succ n =>
    unfold DataW.trod at h
    rw [hu] at h
    have h' : (if cs.length = Try.prog.cellsOf T then (fs.toList.mapM fun f => DataW.trod enc Try.prog w 0 (fun _ => true) true n f.type ((cs.drop f.offset).take (Try.prog.cellsOf f.type))).map fun xs => (DataW.agg (xs.map (·.1)), xs.flatMap (·.2)) else none) = some y := by
      cases cs with
      | nil => exact h
      | cons a l => exact h
    split at h'
    · rename_i hl
      obtain ⟨ys, hys, -⟩ := Option.map_eq_some_iff.1 h'
      obtain ⟨ps, h1, h2, h3⟩ := hf enc w n cs ys hys
      rw [hs] at hl
      have e : (cs.drop 0).take n0 = cs := by rw [List.drop_zero]; exact List.take_of_length_le (by omega)
      rw [e] at h1 h2
      exact ⟨ps, h1, h2, h3⟩
    · cases h'
/-- A list of rows that each are of a form. -/
theorem list_of {α : Type} {f : α → List PV} {Wf : α → Prop} : ∀ {rows : List (List PV)}, (∀ r ∈ rows, ∃ x, r = f x ∧ Wf x) → ∃ xs : List α, rows = xs.map f ∧ ∀ x ∈ xs, Wf x
  | [], _ => ⟨[], rfl, by simp⟩
  | r :: rows, h => by
    obtain ⟨x, rfl, hx⟩ := h r (by simp)
    obtain ⟨xs, rfl, hxs⟩ := list_of (rows := rows) fun r hr => h r (List.mem_cons_of_mem _ hr)
    refine ⟨x :: xs, rfl, fun y hy => ?_⟩
    rcases List.mem_cons.1 hy with rfl | hy
    · exact hx
    · exact hxs y hy
end Go.Proofs.Ytnolgpagdjcjbaa.Ve
