import Derived.Test.YtefgpelodpggkaaHi
import Derived.Test.YtefgpelodpggkaaWh
set_option linter.unusedVariables false
set_option linter.unusedSimpArgs false
namespace Go.Proofs.Ytefgpelodpggkaa.Ve
open Go XFlt
set_option maxRecDepth 4000
/-- Items whose priorities are canonical. -/
def Cnl (l : List IV) : Prop := ∀ x ∈ l, canonB x.1 = x.1 ∧ x.1 < 2 ^ 64
theorem ivC_eq {x y : IV} (hx : canonB x.1 = x.1 ∧ x.1 < 2 ^ 64) (hy : canonB y.1 = y.1 ∧ y.1 < 2 ^ 64) (h : ivC x y = 0) : x = y := by
  obtain ⟨h1, h2⟩ := (cmpV_zero hx.2 hy.2).1 h
  rw [hx.1, hy.1] at h1
  exact Prod.ext h1 h2
theorem cnl_map {l : List IV} (h : ∀ x ∈ l, x.1 < 2 ^ 64) : Cnl (l.map cn) := by
  intro x hx
  obtain ⟨y, hy, rfl⟩ := List.mem_map.1 hx
  exact ⟨canonB_idem _, cn_lt (h y hy)⟩
theorem Cnl.perm {l l' : List IV} (h : Cnl l) (hp : l'.Perm l) : Cnl l' := fun x hx => h x (hp.subset hx)
/-- The least of two piles is the least of one of both. -/
theorem merge_eq {lp lq la : List IV} {z w : IV} (hc : Cnl la) (hP : (lp ++ lq).Perm la) (hz : z ∈ lp ++ lq) (hzm : ∀ y ∈ lp ++ lq, ivC z y ≤ 0) (hw : w ∈ la) (hwm : ∀ y ∈ la, ivC w y ≤ 0) : z = w := by
  have h1 := hzm w (hP.symm.subset hw)
  have h2 := hwm z (hP.subset hz)
  have h3 := ivC_swap z w
  exact ivC_eq (hc z (hP.subset hz)) (hc w hw) (by omega)
theorem heap_all {l : List IV} (h : HeapF l l.length 0) {x : IV} (hx : l[0]? = some x) : ∀ y ∈ l, ivC x y ≤ 0 := by
  intro y hy
  obtain ⟨k, hk, rfl⟩ := List.getElem_of_mem hy
  exact heap_min h hx k _ hk (List.getElem?_eq_getElem hk)
-- the list in order --------------------------------------------------------------------
theorem withL_perm (l : List IV) (x : IV) : (withL l x).Perm (x :: l) := by
  induction l with
  | nil => exact List.Perm.refl _
  | cons y l ih =>
    unfold withL
    split
    · exact List.Perm.refl _
    · exact (List.Perm.cons y ih).trans (List.Perm.swap x y l)
theorem withL_len (l : List IV) (x : IV) : (withL l x).length = l.length + 1 := by
  simpa using (withL_perm l x).length_eq
theorem withL_srt {l : List IV} {x : IV} (h : Srt l) : Srt (withL l x) := by
  induction l with
  | nil => exact List.pairwise_singleton _ _
  | cons y l ih =>
    unfold withL
    obtain ⟨h1, h2⟩ := List.pairwise_cons.1 h
    split
    next c =>
      refine List.pairwise_cons.2 ⟨fun z hz => ?_, h⟩
      rcases List.mem_cons.1 hz with rfl | hz
      · omega
      · exact ivC_trans (y := y) (by omega) (h1 z hz)
    next c =>
      refine List.pairwise_cons.2 ⟨fun z hz => ?_, ih h2⟩
      rcases List.mem_cons.1 ((withL_perm l x).subset hz) with rfl | hz
      · have := ivC_swap z y
        omega
      · exact h1 z hz
theorem srt_eq : ∀ {l m : List IV}, Cnl l → Srt l → Srt m → l.Perm m → l = m
  | [], m, _, _, _, hp => hp.nil_eq
  | x :: l, [], _, _, _, hp => absurd hp.length_eq (by simp)
  | x :: l, y :: m, hc, hl, hm, hp => by
    have hy : y ∈ x :: l := hp.symm.subset (by simp)
    have hx : x ∈ y :: m := hp.subset (by simp)
    obtain ⟨l1, l2⟩ := List.pairwise_cons.1 hl
    obtain ⟨m1, m2⟩ := List.pairwise_cons.1 hm
    have hxy : ivC x y ≤ 0 := by
      rcases List.mem_cons.1 hy with rfl | h
      · exact ivC_refl _
      · exact l1 y h
    have hyx : ivC y x ≤ 0 := by
      rcases List.mem_cons.1 hx with rfl | h
      · exact ivC_refl _
      · exact m1 x h
    have e : x = y := ivC_eq (hc x (by simp)) (hc y hy) (by have := ivC_swap x y; omega)
    subst e
    rw [srt_eq (fun z hz => hc z (List.mem_cons_of_mem _ hz)) l2 m2 (List.Perm.cons_inv hp)]
theorem foldW_perm : ∀ (l o : List IV), (l.foldl withL o).Perm (l ++ o)
  | [], o => List.Perm.refl _
  | x :: l, o => by
    rw [List.foldl_cons]
    refine (foldW_perm l (withL o x)).trans ?_
    refine (List.Perm.append_left l (withL_perm o x)).trans ?_
    exact List.perm_middle
theorem foldW_srt : ∀ (l : List IV) {o : List IV}, Srt o → Srt (l.foldl withL o)
  | [], _, h => h
  | x :: l, o, h => by
    rw [List.foldl_cons]
    exact foldW_srt l (withL_srt h)
/-- Items made canonical, in order. -/
def sortL (l : List IV) : List IV := (l.map cn).foldl withL []
theorem sortL_perm (l : List IV) : (sortL l).Perm (l.map cn) := (foldW_perm (l.map cn) []).trans (List.Perm.of_eq (List.append_nil _))
theorem sortL_srt (l : List IV) : Srt (sortL l) := foldW_srt _ List.Pairwise.nil
theorem sortL_len (l : List IV) : (sortL l).length = l.length := by simpa using (sortL_perm l).length_eq
theorem sortL_snoc {l : List IV} {k : Nat} {x : IV} (h : l[k]? = some x) : sortL (l.take (k + 1)) = withL (sortL (l.take k)) (cn x) := by
  have h1 := List.take_add_one (l := l) (i := k)
  rw [h] at h1
  unfold sortL
  rw [h1]
  simp
theorem cnl_sort {l : List IV} (h : ∀ x ∈ l, x.1 < 2 ^ 64) : Cnl (sortL l) := (cnl_map h).perm (sortL_perm l)
/-- What comes in order of the same items is the document's list. -/
theorem all_eq {l out lp : List IV} (h : ∀ x ∈ l, x.1 < 2 ^ 64) (hp : out.Perm lp) (hq : lp.Perm (l.map cn)) (hs : Srt out) : out = sortL l :=
  srt_eq ((cnl_map h).perm (hp.trans hq)) hs (sortL_srt l) ((hp.trans hq).trans (sortL_perm l).symm)
end Go.Proofs.Ytefgpelodpggkaa.Ve
