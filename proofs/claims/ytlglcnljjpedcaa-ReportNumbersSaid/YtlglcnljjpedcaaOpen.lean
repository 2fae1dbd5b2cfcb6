/-
  How an argument's data opens as a value of a kind (Kd): whole numbers, bools, texts, structs, slices of such, nested. For the rows of laws over any of these.
-/
import Derived.Test.YtlglcnljjpedcaaProg
import Derived.Test.YtlglcnljjpedcaaWWords
import Derived.ProofKit
import Derived.SizedLaws
import Derived.ChangeSlices
set_option linter.unusedVariables false
namespace Go.Proofs.Ytlglcnljjpedcaa
open Go.RowKit Go.Proofs.YtlglcnljjpedcaaW.PrintWords
open Go.ChangeShapes Go.WideShapes
namespace XOpen

/-- Data of type T reads as a value of kind d, which meets Wf. -/
def Opens {α : Type} (d : Kd α) (Wf : α → Prop) (T : TypeId) : Prop :=
  ∀ {H : Type} (enc : TypeId × Value → H) (w : World) (n : Nat) (cs : List Value) (y : DataW H × List MemPlace), DataW.trod enc Try.prog w 0 (fun _ => true) true n T cs = some y → ∃ x : α, d.K w x cs ∧ Wf x

theorem opens_int {T : TypeId} {k : IntKind} (hu : Try.prog.underlying T = some (.int k)) : Opens (Kd.int k) (fun x => (Lit.int k x).wf = true) T := by
  intro H enc w n cs y h
  cases n with
  | zero => cases h
  | succ n =>
    unfold DataW.trod at h
    rw [hu] at h
    split at h <;> simp_all
    · rename_i h1 h2 h3
      exact ⟨_, rfl, h.1.2⟩

theorem opens_bool {T : TypeId} (hu : Try.prog.underlying T = some .bool) : Opens Kd.bool (fun _ => True) T := by
  intro H enc w n cs y h
  cases n with
  | zero => cases h
  | succ n =>
    unfold DataW.trod at h
    rw [hu] at h
    split at h
    all_goals first | (exact ⟨_, rfl, trivial⟩) | (simp_all; done)

theorem opens_string {T : TypeId} (hu : Try.prog.underlying T = some .string) : Opens Kd.string (fun s => s.size ≤ maxLen) T := by
  intro H enc w n cs y h
  cases n with
  | zero => cases h
  | succ n =>
    unfold DataW.trod at h
    rw [hu] at h
    split at h <;> simp_all
    exact ⟨_, rfl, h.1⟩

theorem add_of_add (a : Addr) (i j : Nat) : (a.add i).add j = a.add (i + j) := by
  unfold Addr.add
  by_cases hi : i = 0 <;> by_cases hj : j = 0 <;> simp [hi, hj, Nat.add_assoc]

theorem opens_slice {α : Type} {d : Kd α} {Wf : α → Prop} {T E : TypeId} (hu : Try.prog.underlying T = some (.slice E)) (hs : Try.prog.cellsOf E = d.sz) (ho : Opens d Wf E) :
    Opens (Kd.slice E d) (fun xs => xs.length ≤ maxLen ∧ ∀ x ∈ xs, Wf x) T := by
  intro H enc w n cs y h
  cases n with
  | zero => cases h
  | succ n =>
    unfold DataW.trod at h
    rw [hu] at h
    have key : cs = [.slice none 0 0] ∨ ∃ a len cap, cs = [.slice (some a) len cap] ∧ len ≤ cap ∧ cap ≤ maxLen ∧ ∀ i, i < len → ∃ c y', w.cells? 0 (a.add (i * d.sz)) d.sz = some c ∧ DataW.trod enc Try.prog w 0 (fun _ => true) true n E c = some y' := by
      split at h
      any_goals (first | (exfalso; simp at h; done) | skip)
      all_goals first | (rename_i e; injection e with e; injection e; done) | skip
      · exact .inl rfl
      · rename_i e a len cap he
        injection he with he
        injection he with he
        subst he
        refine .inr ⟨a, len, cap, rfl, ?_⟩
        dsimp only at h
        split at h
        · rename_i hc
          refine ⟨hc.2.1, hc.2.2, ?_⟩
          obtain ⟨elems, he, _⟩ := Option.bind_eq_some_iff.1 h
          intro i hi
          have hlen := mapM_some_length he
          rw [List.length_range] at hlen
          have hg := mapM_some_get he i i (by rw [List.getElem?_range hi])
          rw [List.getElem?_eq_getElem (by omega), hs] at hg
          obtain ⟨c, hc1, hc2⟩ := Option.bind_eq_some_iff.1 hg
          exact ⟨c, _, hc1, hc2⟩
        · cases h
    rcases key with rfl | ⟨a, len, cap, rfl, hl, hm, hx⟩
    · exact ⟨[], ⟨none, 0, rfl, Nat.le_refl _, Kd.C_nil d w⟩, by simp, fun x hx => by cases hx⟩
    · have hx2 : ∀ i : Fin len, ∃ x : α, ∃ c, w.cells? 0 (a.add (i.1 * d.sz)) d.sz = some c ∧ d.K w x c ∧ Wf x := by
        intro i
        obtain ⟨c, y', h1, h2⟩ := hx i.1 i.2
        obtain ⟨x, h3, h4⟩ := ho enc w n c y' h2
        exact ⟨x, c, h1, h3, h4⟩
      let f : Fin len → α := fun i => Classical.choose (hx2 i)
      have hf : ∀ i, ∃ c, w.cells? 0 (a.add (i.1 * d.sz)) d.sz = some c ∧ d.K w (f i) c ∧ Wf (f i) := fun i => Classical.choose_spec (hx2 i)
      have hlen : (List.ofFn f).length = len := List.length_ofFn
      refine ⟨List.ofFn f, ⟨some a, cap, by rw [hlen], by rw [hlen]; exact hl, ?_⟩, by rw [hlen]; omega, ?_⟩
      · refine ⟨rfl, by rw [hlen]; unfold maxLen at hm; omega, fun _ => ⟨a, rfl, fun j p hj => ?_⟩⟩
        rw [List.getElem?_ofFn] at hj
        split at hj
        · rename_i hlt
          have hp : f ⟨j, hlt⟩ = p := Option.some.inj hj
          subst hp
          obtain ⟨c, h1, h2, _⟩ := hf ⟨j, hlt⟩
          obtain ⟨_, hcl, hcc⟩ := World.cells?_some h1
          refine ⟨c, hcl, h2, fun i u hu => ?_⟩
          have hi : i < d.sz := by rw [← hcl]; exact (List.getElem?_eq_some_iff.1 hu).1
          have := hcc i hi
          rw [hu, add_of_add] at this
          exact this
        · cases hj
      · intro x hx
        obtain ⟨i, rfl⟩ := (List.mem_ofFn).1 hx
        exact (hf i).choose_spec.2.2

/-! Structs: the fields, one behind the other -/
/-- The fields from a place on read as a value of kind d; together they have d.sz cells. -/
def OpensF {α : Type} (d : Kd α) (Wf : α → Prop) (off : Nat) (fs : List Field) : Prop :=
  ∀ {H : Type} (enc : TypeId × Value → H) (w : World) (n : Nat) (cs : List Value) (ys : List (DataW H × List MemPlace)),
    (fs.mapM fun f => DataW.trod enc Try.prog w 0 (fun _ => true) true n f.type ((cs.drop f.offset).take (Try.prog.cellsOf f.type))) = some ys → ∃ x : α, d.K w x ((cs.drop off).take d.sz) ∧ Wf x

theorem opensF_one {α : Type} {d : Kd α} {Wf : α → Prop} {off : Nat} {f : Field} (ho : f.offset = off) (hs : Try.prog.cellsOf f.type = d.sz) (h : Opens d Wf f.type) : OpensF d Wf off [f] := by
  intro H enc w n cs ys hy
  have hg := mapM_some_get hy 0 f rfl
  rw [ho, hs] at hg
  have hl := mapM_some_length hy
  obtain ⟨y, hy0⟩ : ∃ y, ys[0]? = some y := ⟨ys[0]'(by rw [hl]; exact Nat.one_pos), List.getElem?_eq_getElem _⟩
  rw [hy0] at hg
  exact h enc w n _ y hg
theorem opensF_cons {α β : Type} {d : Kd α} {e : Kd β} {Wf : α → Prop} {We : β → Prop} {off : Nat} {f : Field} {fs : List Field} (ho : f.offset = off) (hs : Try.prog.cellsOf f.type = d.sz) (h : Opens d Wf f.type) (hr : OpensF e We (off + d.sz) fs) :
    OpensF (Kd.pair d e) (fun x => Wf x.1 ∧ We x.2) off (f :: fs) := by
  intro H enc w n cs ys hy
  rw [List.mapM_cons] at hy
  obtain ⟨y, h1, h2⟩ := Option.bind_eq_some_iff.1 hy
  obtain ⟨ys', h3, h4⟩ := Option.bind_eq_some_iff.1 h2
  rw [ho, hs] at h1
  obtain ⟨x1, k1, w1⟩ := h enc w n _ y h1
  obtain ⟨x2, k2, w2⟩ := hr enc w n cs ys' h3
  refine ⟨(x1, x2), ⟨_, _, ?_, k1, k2⟩, w1, w2⟩
  rw [show (Kd.pair d e).sz = d.sz + e.sz from rfl, List.take_add, List.drop_drop]
theorem opens_struct {α β : Type} {d : Kd α} {Wf : α → Prop} {T : TypeId} {fs : Array Field} {g : β → α} {k : α → β} (hu : Try.prog.underlying T = some (.struct fs)) (hs : Try.prog.cellsOf T = d.sz) (hf : OpensF d Wf 0 fs.toList) (hk : ∀ a, g (k a) = a) :
    Opens (Kd.iso d g) (fun x => Wf (g x)) T := by
  intro H enc w n cs y h
  cases n with
  | zero => cases h
  | succ n =>
    unfold DataW.trod at h
    rw [hu] at h
    have h' : (if cs.length = Try.prog.cellsOf T then (fs.toList.mapM fun f => DataW.trod enc Try.prog w 0 (fun _ => true) true n f.type ((cs.drop f.offset).take (Try.prog.cellsOf f.type))).map fun xs => (DataW.agg (xs.map (·.1)), xs.flatMap (·.2)) else none) = some y := by
      cases cs with
      | nil => exact h
      | cons a l => exact h
    split at h'
    · rename_i hl
      obtain ⟨ys, hy, _⟩ := Option.map_eq_some_iff.1 h'
      obtain ⟨x, hx, hw⟩ := hf enc w n cs ys hy
      rw [List.drop_zero, List.take_of_length_le (by rw [hl, hs]; exact Nat.le_refl _)] at hx
      refine ⟨k x, ?_, ?_⟩
      · show d.K w (g (k x)) cs
        rw [hk]; exact hx
      · show Wf (g (k x))
        rw [hk]; exact hw
    · cases h'

/-- A slice that came in. -/
theorem open_arg {α : Type} {d : Kd α} {Wf : List α → Prop} {T E : TypeId} {H : Type} {enc : TypeId × Value → H} {w : World} {a : Option Addr} {len cap : Nat} {dd : DataW H} {p : List MemPlace} (ho : Opens (Kd.slice E d) Wf T)
    (h : DataW.Trod enc Try.prog w 0 (fun _ => true) true T (.slice a len cap) dd p) : ∃ xs : List α, xs.length = len ∧ len ≤ cap ∧ d.C w a xs.length xs ∧ Wf xs := by
  obtain ⟨n, hn⟩ := h
  obtain ⟨xs, ⟨A, c, e, hl, hc⟩, hw⟩ := ho enc w n _ _ hn
  have e' : Value.slice a len cap = Value.slice A xs.length c := by
    have := congrArg List.head? e
    simpa [Value.cells] using this
  injection e' with e1 e2 e3
  subst e1 e3
  exact ⟨xs, e2.symm, by rw [e2]; exact hl, hc, hw⟩

end XOpen
end Go.Proofs.Ytlglcnljjpedcaa
