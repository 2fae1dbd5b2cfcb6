import Derived.Test.YtnolgpagdjcjbaaTa
set_option linter.unusedVariables false
set_option linter.unusedSimpArgs false
namespace Go.Proofs.Ytnolgpagdjcjbaa.Ve
open Go
/-- An item: the bits of its priority, its value. -/
structure It where
  pri : Nat
  val : Int
  deriving DecidableEq
structure Vl where
  n : Int
  l : List It
structure Pt where
  at_ : Int
  v : Vl
abbrev Pts := List Pt
def gIt (x : It) : List PV := [.sc (.float .f64 x.pri), .sc (.int .i64 x.val)]
def rIt (x : It) : List PV := [.sc (.int .u64 x.pri), .sc (.int .i64 x.val)]
def gVl (v : Vl) : List PV := [.sc (.int .i64 v.n), .fz (v.l.map gIt)]
def rVl (v : Vl) : List PV := [.sc (.int .i64 v.n), .fz (v.l.map rIt)]
def gCl (c : Nat × Vl) : List PV := [.sc (.int .u64 c.1), .sc (.int .i64 c.2.n), .fz (c.2.l.map gIt)]
def rPt (p : Pt) : List PV := [.sc (.int .i64 p.at_), .sc (.int .i64 p.v.n), .fz (p.v.l.map rIt)]
def rMem (ps : Pts) : PV := .agg [.fz (ps.map rPt)]

def rdGo (i : Int) : Nat → Pts → Nat × Vl → Nat × Vl
  | _, [], a => a
  | k, p :: ps, a => rdGo i (k + 1) ps (if p.at_ = i then (k + 1, p.v) else a)
/-- What a cell has: by which write, what. -/
def rd (ps : Pts) (i : Int) : Nat × Vl := rdGo i 0 ps (0, ⟨0, []⟩)
def ln : Pts → Int := fun ps => ps.foldl (fun n p => max n (p.at_ + 1)) 0
theorem rdGo_snoc (i : Int) (p : Pt) : ∀ (ps : Pts) (k : Nat) (a : Nat × Vl), rdGo i k (ps ++ [p]) a = if p.at_ = i then (k + ps.length + 1, p.v) else rdGo i k ps a
  | [], k, a => by simp [rdGo]
  | q :: ps, k, a => by
    simp only [List.cons_append, rdGo, List.length_cons]
    rw [rdGo_snoc i p ps]
    split
    · congr 1; omega
    · rfl
theorem rd_snoc (ps : Pts) (p : Pt) (i : Int) : rd (ps ++ [p]) i = if p.at_ = i then (ps.length + 1, p.v) else rd ps i := by
  unfold rd
  rw [rdGo_snoc]
  simp
theorem ln_snoc (ps : Pts) (p : Pt) : ln (ps ++ [p]) = max (ln ps) (p.at_ + 1) := by
  unfold ln
  rw [List.foldl_append]
  rfl
theorem snoc_ind {α : Type} {p : List α → Prop} (h0 : p []) (h1 : ∀ l a, p l → p (l ++ [a])) : ∀ l, p l := by
  intro l
  have : ∀ m : List α, p m.reverse := by
    intro m
    induction m with
    | nil => exact h0
    | cons a m ih => rw [List.reverse_cons]; exact h1 _ _ ih
  have h := this l.reverse
  rwa [List.reverse_reverse] at h
theorem ln_nonneg : ∀ ps : Pts, 0 ≤ ln ps := by
  refine snoc_ind (by decide) fun l a ih => ?_
  rw [ln_snoc]
  omega
theorem ln_ge : ∀ (ps : Pts), ∀ p ∈ ps, p.at_ + 1 ≤ ln ps := by
  refine snoc_ind (by simp) fun l a ih p hp => ?_
  rw [ln_snoc]
  rcases List.mem_append.mp hp with h | h
  · have := ih p h
    omega
  · simp only [List.mem_singleton] at h
    subst h
    omega
theorem rd_none (i : Int) : ∀ (ps : Pts), (∀ p ∈ ps, p.at_ ≠ i) → rd ps i = (0, ⟨0, []⟩) := by
  refine snoc_ind (fun _ => rfl) fun l a ih h => ?_
  rw [rd_snoc, if_neg (h a (by simp))]
  exact ih fun p hp => h p (by simp [hp])
theorem rd_ver (i : Int) : ∀ (ps : Pts), (rd ps i).1 ≤ ps.length := by
  refine snoc_ind (Nat.le_refl 0) fun l a ih => ?_
  rw [rd_snoc, List.length_append, List.length_singleton]
  split
  · exact Nat.le_refl _
  · omega
/-- Writes that may be. -/
structure Wf (ps : Pts) : Prop where
  at_ : ∀ p ∈ ps, 0 ≤ p.at_ ∧ p.at_ < 1000
  l : ∀ p ∈ ps, p.v.l.length < 2 ^ 20
  n : ps.length < 2 ^ 30
theorem rd_all {q : Vl → Prop} (h0 : q ⟨0, []⟩) (i : Int) : ∀ (ps : Pts), (∀ p ∈ ps, q p.v) → q (rd ps i).2 := by
  refine snoc_ind (fun _ => h0) fun l a ih h => ?_
  rw [rd_snoc]
  split
  · exact h a (by simp)
  · exact ih fun p hp => h p (by simp [hp])
theorem rd_l {ps : Pts} (h : Wf ps) (i : Int) : (rd ps i).2.l.length < 2 ^ 20 := rd_all (q := fun v => v.l.length < 2 ^ 20) (by decide) i ps h.l
theorem rd_out {ps : Pts} (h : Wf ps) {i : Int} (hi : i < 0 ∨ ln ps ≤ i) : rd ps i = (0, ⟨0, []⟩) := by
  refine rd_none i ps fun p hp e => ?_
  have h1 := h.at_ p hp
  have h2 := ln_ge ps p hp
  omega

/-- A memory. -/
structure MemAt (st : St) (i : Nat) (I : List Nat) (ps : Pts) : Prop where
  wf : Wf ps
  lt : i < st.next
  out : i ∉ I
  obj : ∃ l rows, st.get i = some ⟨2, [[l, .pv (.sc (.int .u64 ps.length))]]⟩ ∧ SlE st 3 l rows I ∧ (rows.length : Int) = ln ps ∧ ∀ k : Nat, k < rows.length → rows[k]? = some ((gCl (rd ps k)).map .pv)
theorem MemAt.move {st st' : St} {i : Nat} {I J : List Nat} {ps : Pts} (h : MemAt st i I ps) (hf : Frm st st' J) (hi : i ∉ J) (hI : ∀ x ∈ I, x ∉ J) : MemAt st' i I ps := by
  obtain ⟨h1, h2, h3, l, rows, h4, h5, h6, h7⟩ := h
  exact ⟨h1, Nat.lt_of_lt_of_le h2 hf.next, h3, l, rows, (hf.get i h2 hi).trans h4, h5.move hf.next fun x hx => hf.get x (h5.lt x hx) (hI x hx), h6, h7⟩
theorem MemAt.ltI {st : St} {i : Nat} {I : List Nat} {ps : Pts} (h : MemAt st i I ps) : ∀ x ∈ I, x < st.next := by
  obtain ⟨h1, h2, h3, l, rows, h4, h5, h6, h7⟩ := h
  exact h5.lt

set_option maxRecDepth 4000
theorem rows_len2 (l : List It) : (l.map gIt).all (·.length == 2) = true := by
  simp [gIt]
theorem sp_clone (v : Vl) (hl : v.l.length < 2 ^ 20) : pcall (Ew Try.prog cfg) 57 [.agg (gVl v)] = some (.pv (.agg (gVl v))) := by
  refine pcall_wc Try.func57 rfl (by decide) ?_ rfl
  show wc _ _ _ (.pv (.agg (gVl v)) :: List.replicate 8 undefV) _ _
  have hr := rows_len2 v.l
  unfold gVl
  cases hv : v.l with
  | nil =>
    (repeat (first | refine w_seq ?_ | refine w_regionL ?_ | refine w_norm ?_ | refine w_ret ?_ | refine wo_nil ⟨rfl, ?_⟩ | ((first | apply o_box | apply o_alloc | apply o_fieldAddr | apply o_load | apply o_buildP | apply o_storep) <;> first | refine wo_id ?_ | ((with_reducible apply look_id); (exact look_by); done) | ((with_reducible apply load_id); ((first | (apply ldp; (focus exact get_by); (focus first | exact rfl))); (first | exact part_sc (by first | exact ag2) rfl)); done) | ((with_reducible apply cells_id); (exact cells_by); done) | ((with_reducible apply next_id); (exact next_by); done) | ((with_reducible apply get_id); (exact get_by); done) | ((with_reducible apply setAt_id); (exact setat_by); done) | ((with_reducible apply parts_id); (exact parts_by); done) | exact ze75 | exact fa75_0 _ _ _ | exact bp75 | exact sz75 | exact rfl) | (apply o_append0 <;> first | refine wo_id ?_ | ((with_reducible apply look_id); (exact look_by); done) | exact appTy_of el73 el73 by73 ze35 rfl | exact src_fz rfl | exact rfl)))
    (apply ends_ret; (focus exact (e_cela ag75 sz75 res_nil)))
    exact ⟨_, rfl⟩
  | cons x xs =>
    rw [hv] at hr hl
    simp only [List.length_cons] at hl
    (repeat (first | refine w_seq ?_ | refine w_regionL ?_ | refine w_norm ?_ | refine w_ret ?_ | refine wo_nil ⟨rfl, ?_⟩ | ((first | apply o_box | apply o_alloc | apply o_fieldAddr | apply o_load | apply o_buildP | apply o_storep) <;> first | refine wo_id ?_ | ((with_reducible apply look_id); (exact look_by); done) | ((with_reducible apply load_id); ((first | (apply ldp; (focus exact get_by); (focus first | exact rfl))); (first | exact part_sc (by first | exact ag2) rfl)); done) | ((with_reducible apply cells_id); (exact cells_by); done) | ((with_reducible apply next_id); (exact next_by); done) | ((with_reducible apply get_id); (exact get_by); done) | ((with_reducible apply setAt_id); (exact setat_by); done) | ((with_reducible apply parts_id); (exact parts_by); done) | exact ze75 | exact fa75_0 _ _ _ | exact bp75 | exact sz75 | exact rfl) | (apply o_append1 <;> first | refine wo_id ?_ | ((with_reducible apply look_id); (exact look_by); done) | ((with_reducible apply next_id); (exact next_by); done) | exact appTy_of el73 el73 by73 ze35 rfl | exact src_fz (by assumption) | (simp; omega) | exact rfl)))
    (apply ends_ret; (focus exact (e_cela ag75 sz75 res_nil)))
    exact ⟨_, by exact fz_by⟩
theorem fn_read {st : St} {i : Nat} {I : List Nat} {ps : Pts} (hM : MemAt st i I ps) (k : Int) : Fn Try.prog cfg 31 [.ptr i 0 0, .pv (.sc (.int .i64 k))] st (fun v st' _ W => v = .pv (.agg (gCl (rd ps k))) ∧ Frm st st' [] ∧ W = []) := by
  obtain ⟨hwf, hlt, hout, l, rows, hg, hs, hlen, hrow⟩ := hM
  obtain ⟨nx, hnx⟩ : ∃ x, st.next = x := ⟨_, rfl⟩
  refine fn_keep (.inr rfl) Try.func31 rfl ?_
  show wc _ _ _ (.ptr i 0 0 :: .pv (.sc (.int .i64 k)) :: List.replicate 29 undefV) st _
  by_cases hk : k < 0 ∨ ln ps ≤ k
  · rw [rd_out hwf hk]
    by_cases hk0 : k < 0
    · (repeat (first | refine w_seq ?_ | refine w_regionL ?_ | refine w_norm ?_ | refine w_ret' ?_ | refine w_ret ?_ | refine wo_nil ⟨rfl, ?_⟩ | ((first | apply o_alloc | apply o_move | apply o_bin | apply o_buildP | apply o_storep) <;> first | refine wo_id ?_ | ((with_reducible apply look_id); (exact look_by); done) | ((with_reducible apply bin_id); (exact bin_by); done) | ((with_reducible apply cells_id); (exact cells_by); done) | ((with_reducible apply next_id); (exact next_by); done) | ((with_reducible apply get_id); (exact get_by); done) | ((with_reducible apply setAt_id); (exact setat_by); done) | ((with_reducible apply parts_id); (exact parts_by); done) | exact ze77 | exact bp77 | exact sz77 | exact rfl) | ((first | apply b_cond | apply b_pick | apply b_in) <;> first | refine wo_id ?_ | refine wc_id ?_ | ((with_reducible apply look_id); (exact look_by); done) | ((with_reducible apply yield_id); ((apply yield_of; (focus exact rfl); (focus exact lk_by))); done) | (first | exact tt | exact decide_eq_true (by omega))) | (apply b_out <;> first | refine wo_id ?_ | ((with_reducible apply yield_id); ((apply yield_of; (focus exact rfl); (focus exact lk_by))); done) | (first | exact tt | exact decide_eq_true (by omega)))))
      (apply ends_ret; (focus exact (e_cela ag77 sz77 res_nil)))
      exact ⟨_, _, _, Leaves.frz (by decide) _ _ (by exact fz_by), rfl, by exact frm_by, by exact wnil_by⟩
    · (repeat (first | refine w_seq ?_ | refine w_regionL ?_ | refine w_norm ?_ | refine w_ret' ?_ | refine w_ret ?_ | refine wo_nil ⟨rfl, ?_⟩ | ((first | apply o_alloc | apply o_move | apply o_bin | apply o_nil | apply o_fieldAddr | apply o_load | apply o_len | apply o_buildP | apply o_storep) <;> first | refine wo_id ?_ | ((with_reducible apply look_id); (exact look_by); done) | ((with_reducible apply bin_id); (exact bin_by); done) | ((with_reducible apply load_id); ((first | (apply ldp; (focus exact get_by); (focus first | exact rfl))); (first | exact part_sc (by first | exact ag40) rfl)); done) | ((with_reducible apply cells_id); (exact cells_by); done) | ((with_reducible apply next_id); (exact next_by); done) | ((with_reducible apply get_id); (exact get_by); done) | ((with_reducible apply setAt_id); (exact setat_by); done) | ((with_reducible apply parts_id); (exact parts_by); done) | exact ze77 | exact fa106_0 _ _ _ | exact bp77 | exact sz77 | (intro a h; cases h) | exact rfl) | ((first | apply b_cond | apply b_pick | apply b_in) <;> first | refine wo_id ?_ | refine wc_id ?_ | ((with_reducible apply look_id); (exact look_by); done) | ((with_reducible apply yield_id); ((apply yield_of; (focus exact rfl); (focus exact lk_by))); done) | (first | exact ff | exact decide_eq_true (by omega) | exact decide_eq_false (by omega))) | (apply o_lenS; (focus (exact look_by; done)); (focus exact hs.at); (focus exact rfl); (focus exact Try.underlying104))))
      (apply ends_ret; (focus exact (e_cela ag77 sz77 res_nil)))
      exact ⟨_, _, _, Leaves.frz (by decide) _ _ (by exact fz_by), rfl, by exact frm_by, by exact wnil_by⟩
  · rcases hs with ⟨rfl, rfl, rfl⟩ | ⟨j, rfl, hj, hgj, rfl⟩
    · simp only [List.length_nil] at hlen
      omega
    have hk' : rows[0 + k.toNat]? = some ((gCl (rd ps k)).map .pv) := by
      rw [Nat.zero_add, hrow k.toNat (by omega)]
      congr 4
      omega
    have hl := rd_l hwf k
    (repeat (first | refine w_seq ?_ | refine w_regionL ?_ | refine w_norm ?_ | refine w_skip ?_ | refine w_ret ?_ | refine wo_nil ⟨rfl, ?_⟩ | ((first | apply o_alloc | apply o_move | apply o_bin | apply o_nil | apply o_fieldAddr | apply o_load | apply o_len | apply o_buildP | apply o_storep | apply o_indexAddr) <;> first | refine wo_id ?_ | ((with_reducible apply look_id); (exact look_by); done) | ((with_reducible apply bin_id); (exact bin_by); done) | ((with_reducible apply load_id); ((first | (apply ldp; (focus exact get_by); (focus first | exact rfl | assumption))); (first | exact part_sc (by first | exact ag40) rfl | (apply part_agg; (focus first | exact ag75); (focus first | exact sz75 | exact sz77); (focus exact rfl); (focus exact rfl)))); done) | ((with_reducible apply cells_id); (exact cells_by); done) | ((with_reducible apply next_id); (exact next_by); done) | ((with_reducible apply get_id); (exact get_by); done) | ((with_reducible apply setAt_id); (exact setat_by); done) | ((with_reducible apply parts_id); (exact parts_by); done) | exact ze77 | exact fa106_0 _ _ _ | exact lnO104 _ _ _ _ | exact bp77 | exact sz77 | exact ia_ow (iaO104 _ _ _ _ _) (by omega) (by omega) rfl | (intro a h; cases h) | exact rfl) | (refine wo_nil ⟨dyn_draw (bs := [0, 1, 0, 1, 1, 0, 3]) ?_ ?_, ?_⟩; (focus ((repeat (first | exact Flags.nil | (apply Flags.cons Flag.dry) | (apply Flags.cons Flag.read) | (apply Flags.cons Flag.free))); done)); (focus decide +kernel)) | (apply o_pcall; (focus exact args_by); (focus exact hb57); (focus exact rfl); (focus ((repeat (first | exact frzAll_nil | apply frzAll_pv)); done)); (focus exact sp_clone (rd ps k).2 hl)) | ((first | apply b_cond | apply b_pick | apply b_in) <;> first | refine wo_id ?_ | refine wc_id ?_ | ((with_reducible apply look_id); (exact look_by); done) | ((with_reducible apply yield_id); ((apply yield_of; (focus exact rfl); (focus exact lk_by))); done) | (first | exact ff | exact decide_eq_false (by omega)))))
    (apply ends_ret; (focus exact (e_cela ag77 sz77 res_nil)))
    exact ⟨_, _, _, Leaves.frz (by decide) _ _ (by exact fz_by), rfl, by exact frm_by, by exact wnil_by⟩
theorem fn_len {st : St} {i : Nat} {I : List Nat} {ps : Pts} (hM : MemAt st i I ps) : Fn Try.prog cfg 32 [.ptr i 0 0] st (fun v st' _ W => v = .pv (.sc (.int .i64 (ln ps))) ∧ Frm st st' [] ∧ W = []) := by
  obtain ⟨hwf, hlt, hout, l, rows, hg, hs, hlen, hrow⟩ := hM
  refine fn_keep (.inr rfl) Try.func32 rfl ?_
  show wc _ _ _ (.ptr i 0 0 :: List.replicate 7 undefV) st _
  (repeat (first | refine w_seq ?_ | refine w_regionL ?_ | refine w_norm ?_ | refine w_ret ?_ | refine wo_nil ⟨rfl, ?_⟩ | ((first | apply o_assign | apply o_move | apply o_nil | apply o_fieldAddr | apply o_load | apply o_len) <;> first | refine wo_id ?_ | ((with_reducible apply look_id); (exact look_by); done) | ((with_reducible apply load_id); ((first | (apply ldp; (focus exact get_by); (focus first | exact rfl))); (first | exact part_sc (by first | exact ag104) rfl)); done) | exact fa106_0 _ _ _ | (intro a h; cases h) | exact rfl) | (apply o_lenS; (focus (exact look_by; done)); (focus exact hs.at); (focus exact rfl); (focus exact Try.underlying104))))
  (apply ends_ret; (focus exact (e_tmp res_nil)))
  exact ⟨_, _, _, Leaves.frz (by decide) _ _ (by exact fz_by), by rw [hlen], by exact frm_by, by exact wnil_by⟩
theorem fn_clock {st : St} {i : Nat} {I : List Nat} {ps : Pts} (hM : MemAt st i I ps) : Fn Try.prog cfg 74 [.ptr i 0 0] st (fun v st' _ W => v = .pv (.sc (.int .u64 ps.length)) ∧ Frm st st' [] ∧ W = []) := by
  obtain ⟨hwf, hlt, hout, l, rows, hg, hs, hlen, hrow⟩ := hM
  refine fn_keep (.inr rfl) Try.func74 rfl ?_
  show wc _ _ _ (.ptr i 0 0 :: List.replicate 6 undefV) st _
  (repeat (first | refine w_seq ?_ | refine w_regionL ?_ | refine w_norm ?_ | refine w_ret ?_ | refine wo_nil ⟨rfl, ?_⟩ | ((first | apply o_assign | apply o_move | apply o_nil | apply o_fieldAddr | apply o_load) <;> first | refine wo_id ?_ | ((with_reducible apply look_id); (exact look_by); done) | ((with_reducible apply load_id); ((first | (apply ldp; (focus exact get_by); (focus first | exact rfl))); (first | exact part_sc (by first | exact ag40) rfl)); done) | exact fa106_1 _ _ _ | exact rfl)))
  (apply ends_ret; (focus exact (e_tmp res_nil)))
  exact ⟨_, _, _, Leaves.frz (by decide) _ _ (by exact fz_by), rfl, by exact frm_by, by exact wnil_by⟩
theorem fn_new {st : St} : Fn Try.prog cfg 16 [] st (fun v st' _ _ => ∃ i, v = .ptr i 0 0 ∧ MemAt st' i [] [] ∧ Frm st st' [] ∧ st.next ≤ i) := by
  obtain ⟨nx, hnx⟩ : ∃ x, st.next = x := ⟨_, rfl⟩
  refine fn_keep (.inr rfl) Try.func16 rfl ?_
  show wc _ _ _ (List.replicate 3 undefV) st _
  (repeat (first | refine w_seq ?_ | refine w_regionL ?_ | refine w_norm ?_ | refine w_ret ?_ | refine wo_nil ⟨rfl, ?_⟩ | ((first | apply o_assign | apply o_buildP | apply o_box) <;> first | refine wo_id ?_ | ((with_reducible apply look_id); (exact look_by); done) | ((with_reducible apply cells_id); (exact cells_by); done) | ((with_reducible apply next_id); (exact next_by); done) | ((with_reducible apply parts_id); (exact parts_by); done) | exact bp106 | exact rfl)))
  (apply ends_ret; (focus exact (e_tmp res_nil)))
  refine ⟨_, _, _, Leaves.norm (.inr rfl) rfl, nx, rfl, ⟨⟨by simp, by simp, by decide⟩, ?_, by simp, .nl, [], ?_, .inl ⟨rfl, rfl, rfl⟩, rfl, by simp⟩, by exact frm_by, by omega⟩
  · simp [St.new]; omega
  · exact get_new_hit hnx

/-- A write that may be. -/
def may (ps : Pts) (k ver : Int) : Prop := 0 ≤ k ∧ k < 1000 ∧ ((rd ps k).1 : Int) = ver
instance (ps : Pts) (k ver : Int) : Decidable (may ps k ver) := by unfold may; infer_instance
def wr' (ps : Pts) (k ver : Int) (v : Vl) : Pts := if may ps k ver then ps ++ [⟨k, v⟩] else ps
theorem rows_put {ps : Pts} {rows : List (List V)} {k : Nat} {v : Vl} (hwf : Wf ps) (hk : k < rows.length) (hlen : ln ps ≤ rows.length) (hrow : ∀ k : Nat, k < rows.length → rows[k]? = some ((gCl (rd ps k)).map .pv)) :
    ∀ j : Nat, j < (rows.set k ((gCl (ps.length + 1, v)).map .pv)).length → (rows.set k ((gCl (ps.length + 1, v)).map .pv))[j]? = some ((gCl (rd (ps ++ [⟨k, v⟩]) j)).map .pv) := by
  intro j hj
  rw [List.length_set] at hj
  rw [rd_snoc]
  by_cases e : k = j
  · subst e
    rw [List.getElem?_set_self hk, if_pos rfl]
  · rw [List.getElem?_set_ne e, hrow j hj, if_neg (by show ¬ ((k : Int) = j); omega)]
theorem frm_kills : ∀ (ids : List Nat) (st : St), Frm st (st.kills ids) ids
  | [], st => Frm.refl
  | i :: ids, st => by
    have h1 : Frm st (st.kill i) [i] := ⟨Nat.le_refl _, fun x hx hn => by
      simp only [St.kill]
      rw [if_neg (by simpa using hn)]⟩
    have h2 := frm_kills ids (st.kill i)
    simp only [St.kills]
    exact (h1.wide (J := i :: ids) (by simp)).trans h2 (fun x hx _ => List.mem_cons_of_mem _ hx)
theorem frzArgs_write {st : St} {i : Nat} {k ver : Int} {av : V} {p : PV} {ids : List Nat} (hz : frz st 4 av = some (p, ids)) : frzArgs st [.ptr i 0 0, .pv (.sc (.int .i64 k)), .pv (.sc (.int .u64 ver)), av] = ([.ptr i 0 0, .pv (.sc (.int .i64 k)), .pv (.sc (.int .u64 ver)), .pv p], ids) := by
  have h0 : frz st 4 (.ptr i 0 0) = none := rfl
  simp [frzArgs, h0, frz_pv, hz, V.norm]
set_option maxHeartbeats 2000000 in
theorem fn_write {st0 : St} {i : Nat} {I : List Nat} {ps : Pts} (hM0 : MemAt st0 i I ps) (k ver : Int) (v : Vl) (hv : v.l.length < 2 ^ 20) (hn : ps.length + 1 < 2 ^ 30) {av : V} {ids : List Nat} (hz : frz st0 4 av = some (.agg (gVl v), ids)) (hd : ∀ x ∈ ids, x ≠ i ∧ x ∉ I) :
    Fn Try.prog cfg 80 [.ptr i 0 0, .pv (.sc (.int .i64 k)), .pv (.sc (.int .u64 ver)), av] st0 (fun r st' _ _ => r = .pv (.sc (.bool (decide (may ps k ver)))) ∧ ∃ I', MemAt st' i I' (wr' ps k ver v) ∧ Frm st0 st' (i :: I ++ ids) ∧ ∀ x ∈ I', x ∈ I ∨ st0.next ≤ x) := by
  refine fn_std rfl (frzArgs_write hz) Try.func80 rfl ?_
  have hF0 := frm_kills ids st0
  obtain ⟨st, hst⟩ : ∃ s, st0.kills ids = s := ⟨_, rfl⟩
  have hnst : st0.next = st.next := by rw [← hst, kills_next]
  rw [hst] at hF0 ⊢
  have hM := hM0.move hF0 (fun h => (hd i h).1 rfl) (fun x hx h => (hd x h).2 hx)
  clear hst
  suffices hs : wc Try.prog cfg _ (.ptr i 0 0 :: .pv (.sc (.int .i64 k)) :: .pv (.sc (.int .u64 ver)) :: .pv (.agg (gVl v)) :: List.replicate 56 undefV) st (Ends Try.prog cfg Try.f80.results.toList fun v1 st1 R W => ∃ v' st' ids, Leaves (cfg.pol 80) st v1 st1 v' st' ids ∧ v' = .pv (.sc (.bool (decide (may ps k ver)))) ∧ ∃ I', MemAt st' i I' (wr' ps k ver v) ∧ Frm st st' (i :: I) ∧ ∀ x ∈ I', x ∈ I ∨ st.next ≤ x) by
    refine wc_mono hs ?_
    intro ex tm s R W h
    exact ends_mono (fun v1 st1 R W ⟨v', st', ids', h1, h2, I', h3, h4, h5⟩ => ⟨v', st', ids', h1, h2, I', h3, (hF0.wide (J := i :: I ++ ids) (by simp; exact fun x hx => .inr (.inr hx))).trans h4 (fun x hx _ => List.mem_append_left _ hx), fun x hx => by rw [hnst]; exact h5 x hx⟩) h
  clear hF0 hM0 hnst hz hd
  have hlt := hM.lt
  have hI := hM.ltI
  obtain ⟨nx, hnx⟩ : ∃ x, st.next = x := ⟨_, rfl⟩
  by_cases h0 : 0 ≤ k ∧ k < 1000
  · (repeat (first | refine w_seq ?_ | refine w_regionL ?_ | refine w_norm ?_ | refine wo_nil ⟨rfl, ?_⟩ | ((first | apply o_box | apply o_assign | apply o_move | apply o_bin) <;> first | refine wo_id ?_ | ((with_reducible apply look_id); (exact look_by); done) | ((with_reducible apply bin_id); (exact bin_by); done) | ((with_reducible apply cells_id); (exact cells_by); done) | ((with_reducible apply next_id); (exact next_by); done) | exact rfl) | ((first | apply b_pick | apply b_in) <;> first | refine wo_id ?_ | ((with_reducible apply look_id); (exact look_by); done) | ((with_reducible apply yield_id); ((apply yield_of; (focus exact rfl); (focus exact lk_by))); done) | (first | exact ff | exact decide_eq_false (by omega)))))
    have hM1 := hM.move (frm_new (o := ⟨2, [(gVl v).map .pv]⟩)) (by simp) (by simp)
    refine o_call (by exact args_by) hb39 (fn_read hM1 k) ?_
    rintro _ st1 R1 W1 ⟨rfl, hf1, rfl⟩
    have hn1 : nx < st1.next := by have := hf1.next; simp only [St.new] at this; omega
    have hb1 : st1.get nx = some ⟨2, [(gVl v).map .pv]⟩ := by exact get_by
    have hM2 := hM1.move hf1 (by simp) (by simp)
    have hF1 : Frm st st1 (i :: I) := (frm_new.trans hf1 (by simp)).wide (by simp)
    clear hf1 hM1
    by_cases hver : ((rd ps k).1 : Int) = ver
    · have hm : may ps k ver := ⟨h0.1, h0.2, hver⟩
      simp only [wr', if_pos hm, decide_eq_true hm]
      (repeat (first | refine w_seq ?_ | refine w_norm ?_ | refine w_block ?_ | refine w_skip ?_ | refine wo_nil ⟨rfl, ?_⟩ | ((first | apply o_move | apply o_bin | apply o_field) <;> first | refine wo_id ?_ | ((with_reducible apply look_id); (exact look_by); done) | ((with_reducible apply bin_id); (exact bin_by); done) | exact fv77_0 _ _ _ | exact rfl) | ((first | apply b_cond | apply b_pick | apply b_in) <;> first | refine wo_id ?_ | refine wc_id ?_ | ((with_reducible apply look_id); (exact look_by); done) | ((with_reducible apply yield_id); ((apply yield_of; (focus exact rfl); (focus exact lk_by))); done) | (first | exact ff | exact decide_eq_false (by omega) | ((apply uf); (simp; omega))))))
      obtain ⟨hwf, hlt1, hout, l, rows, hg, hs, hlen, hrow⟩ := hM2
      refine w_loopK (fun m tm s => ∃ l rows J, s.get i = some ⟨2, [[l, .pv (.sc (.int .u64 ps.length))]]⟩ ∧ SlE s 3 l rows J ∧ i ∉ J ∧ (∀ x ∈ J, x ∈ I ∨ nx < x) ∧ ln ps ≤ rows.length ∧ (rows.length : Int) ≤ max (ln ps) (k + 1) ∧ (∀ j : Nat, j < rows.length → rows[j]? = some ((gCl (rd ps j)).map .pv)) ∧ s.get nx = some ⟨2, [(gVl v).map .pv]⟩ ∧ Frm st s (i :: I) ∧ nx < s.next ∧ m = (k + 1 - rows.length).toNat) (k + 1 - rows.length).toNat rfl
        ⟨l, rows, I, hg, hs, hout, fun x hx => .inl hx, by omega, by omega, hrow, hb1, hF1, hn1, rfl⟩ ?_
      clear hg hs hlen hrow hb1 hF1 hn1 hlt1 l rows
      rintro m tm1 s ⟨l, rows, J, hg, hs, hoJ, hJ, hle, hle2, hrow, hb, hF, hn1, hm2⟩ hK
      have hi1 : i < s.next := Nat.lt_of_lt_of_le hlt hF.next
      by_cases hc : (rows.length : Int) ≤ k
      · (repeat (first | refine w_seq ?_ | refine w_regionL ?_ | refine w_norm ?_ | refine w_block ?_ | refine w_skip ?_ | refine wo_nil ⟨rfl, ?_⟩ | ((first | apply o_move | apply o_bin | apply o_nil | apply o_fieldAddr | apply o_load | apply o_len | apply o_buildP | apply o_buildSlice) <;> first | refine wo_id ?_ | ((with_reducible apply look_id); (exact look_by); done) | ((with_reducible apply bin_id); (exact bin_by); done) | ((with_reducible apply load_id); ((first | (apply ldp; (focus exact get_by); (focus first | exact rfl))); (first | exact part_sc (by first | exact ag40) rfl)); done) | ((with_reducible apply cells_id); (exact cells_by); done) | ((with_reducible apply next_id); (exact next_by); done) | ((with_reducible apply parts_id); (exact parts_by); done) | exact fa106_0 _ _ _ | exact bp77 | exact el104 | exact sz77 | exact ze77 | (intro a h; cases h) | exact rfl) | ((first | apply b_cond) <;> first | refine wc_id ?_ | ((with_reducible apply look_id); (exact look_by); done) | (first | exact decide_eq_true (by omega))) | (apply o_lenS; (focus (exact look_by; done)); (focus exact hs.at); (focus exact rfl); (focus exact Try.underlying104))))
        have hnJ : nx ∉ J := fun h => by
          rcases hJ nx h with h | h
          · have := hI nx h
            omega
          · omega
        refine o_appendX (old := rows) (new := [(gCl (0, ⟨0, []⟩)).map .pv]) rfl (by exact look_by) (by exact look_by) rfl rfl (appTy_of el104 el104 by104 ze77 rfl) (hs.frm frm_new (by simp)).at (src_own (by exact get_by) rfl) (by simp) (by simp; omega) ?_
        intro s2 j R' W hf2 hj1 hj2 hj3
        have hj1' : s.next < j := hj1
        have hn2 := hf2.next
        simp only [St.new] at hn2
        have hg2 : s2.get i = some ⟨2, [[l, .pv (.sc (.int .u64 ps.length))]]⟩ := by exact get_by
        have hb2 : s2.get nx = some ⟨2, [(gVl v).map .pv]⟩ := by exact get_by
        have hF2 : Frm st s2 (i :: I) := (hF.trans frm_new (by simp)).trans hf2 (fun x hx hx2 => by
          rcases hJ x hx with h | h
          · exact List.mem_cons_of_mem _ h
          · omega)
        (repeat (first | refine wo_nil ⟨rfl, ?_⟩ | ((first | apply o_nil | apply o_fieldAddr | apply o_storep) <;> first | refine wo_id ?_ | ((with_reducible apply look_id); (exact look_by); done) | ((with_reducible apply cells_id); (exact cells_by); done) | ((with_reducible apply get_id); (exact get_by); done) | ((with_reducible apply setAt_id); (exact setat_by); done) | exact fa106_0 _ _ _ | exact sz104 | exact rfl) | (apply l_norm (k + 1 - (rows ++ [(gCl (0, ⟨0, []⟩)).map V.pv]).length).toNat (by simp; omega))))
        refine ⟨_, _, [j], by exact get_by, .inr ⟨j, rfl, hj2, by exact get_by, rfl⟩, by simp; omega, by simp; omega, by simp; omega, by simp; omega, ?_, by exact get_by, ?_, ?_, rfl⟩
        · intro q hq
          simp only [List.length_append, List.length_singleton] at hq
          by_cases e : q < rows.length
          · rw [List.getElem?_append_left e]
            exact hrow q e
          · have e2 : q = rows.length := by omega
            subst e2
            rw [List.getElem?_append_right (Nat.le_refl _), Nat.sub_self, rd_out hwf (by omega)]
            rfl
        · refine hF2.trans (J := [i]) ?_ (by simp)
          exact frm_by
        · simp only [St.set]
          omega
      · rcases hs with ⟨rfl, rfl, rfl⟩ | ⟨j, rfl, hj, hgj, rfl⟩
        · simp only [List.length_nil] at hc
          omega
        have hrk : rows[0 + k.toNat]? = some ((gCl (rd ps k)).map .pv) := by
          rw [Nat.zero_add, hrow k.toNat (by omega)]
          congr 4
          omega
        have hij : i ≠ j := by simpa using hoJ
        have hw : IntKind.u64.wrap ((ps.length : Int) + 1) = ((ps ++ [(⟨k, v⟩ : Pt)]).length : Int) := by
          rw [wrap_u64 (by omega) (by omega)]
          simp
        (repeat (first | refine w_seq ?_ | refine w_regionL ?_ | refine w_norm ?_ | refine w_exit' ?_ | refine w_ret ?_ | refine w_exit ?_ | refine wo_nil ⟨rfl, ?_⟩ | ((first | apply o_assign | apply o_move | apply o_bin | apply o_nil | apply o_fieldAddr | apply o_load | apply o_len | apply o_buildP | apply o_storep | apply o_indexAddr) <;> first | refine wo_id ?_ | ((with_reducible apply look_id); (exact look_by); done) | ((with_reducible apply bin_id); (exact bin_by); done) | ((with_reducible apply load_id); ((first | (apply ldp; (focus exact get_by); (focus first | exact rfl))); (first | exact part_sc (by first | exact ag40) rfl | (apply part_agg; (focus first | exact ag75); (focus first | exact sz75); (focus exact rfl); (focus exact rfl)))); done) | ((with_reducible apply cells_id); (exact cells_by); done) | ((with_reducible apply get_id); (exact get_by); done) | ((with_reducible apply setAt_id); (exact setat_by); done) | ((with_reducible apply parts_id); (exact parts_by); done) | exact fa106_0 _ _ _ | exact lnO104 _ _ _ _ | exact bp77 | exact sz77 | exact sz104 | exact ia_ow (iaO104 _ _ _ _ _) (by omega) (by omega) rfl | assumption | (intro a h; cases h) | exact rfl) | (refine wo_nil ⟨dyn_draw (bs := [0, 0, 0, 1, 0, 0, 0, 0, 1, 1, 1, 0, 0, 3]) ?_ ?_, ?_⟩; (focus ((repeat (first | exact Flags.nil | (apply Flags.cons Flag.dry) | (apply Flags.cons Flag.read) | (apply Flags.cons Flag.free))); done)); (focus decide +kernel)) | (apply o_pcall; (focus exact args_by); (focus exact hb57); (focus exact rfl); (focus ((repeat (first | exact frzAll_nil | apply frzAll_pv)); done)); (focus exact sp_clone v hv)) | ((first | apply b_cond) <;> first | refine wc_id ?_ | ((with_reducible apply look_id); (exact look_by); done) | (first | exact decide_eq_false (by omega))) | (refine l_exit ?_; intro R2 W2)))
        (apply ends_ret; (focus exact (e_tmp res_nil)))
        refine ⟨_, _, _, Leaves.frz (by decide) _ _ (by exact fz_by), rfl, ?_⟩
        refine ⟨[j], ⟨⟨fun p hp => ?_, fun p hp => ?_, by simp; omega⟩, hi1, by simpa using hij, _, rows.set k.toNat ((gCl (ps.length + 1, v)).map .pv), ?_, .inr ⟨j, rfl, hj, ?_, rfl⟩, ?_, ?_⟩, ?_, ?_⟩
        · rcases List.mem_append.mp hp with h | h
          · exact hwf.at_ p h
          · simp only [List.mem_singleton] at h
            subst h
            exact h0
        · rcases List.mem_append.mp hp with h | h
          · exact hwf.l p h
          · simp only [List.mem_singleton] at h
            subst h
            exact hv
        · refine (get_set_miss hij get_set_hit).trans ?_
          simp only [hw]
          simp
        · refine get_set_hit.trans ?_
          simp only [hw, Nat.zero_add]
          simp [gCl]
        · rw [List.length_set, ln_snoc]
          show (rows.length : Int) = max (ln ps) (k + 1)
          omega
        · have h := rows_put (v := v) hwf (show k.toNat < rows.length by omega) hle hrow
          have e : ((k.toNat : Nat) : Int) = k := by omega
          rw [e] at h
          exact h
        · refine hF.trans (J := [i, j]) ?_ (fun x hx hx2 => ?_)
          · exact frm_by
          · simp only [List.mem_cons, List.not_mem_nil, or_false] at hx
            rcases hx with rfl | rfl
            · simp
            · rcases hJ x (by simp) with h | h
              · exact List.mem_cons_of_mem _ h
              · omega
        · intro x hx
          rcases hJ x hx with h | h
          · exact .inl h
          · exact .inr (by omega)
    · have hm : ¬ may ps k ver := fun h => hver h.2.2
      simp only [wr', if_neg hm, decide_eq_false hm]
      (repeat (first | refine w_seq ?_ | refine w_regionL ?_ | refine w_norm ?_ | refine w_ret' ?_ | refine w_ret ?_ | refine wo_nil ⟨rfl, ?_⟩ | ((first | apply o_assign | apply o_move | apply o_bin | apply o_field) <;> first | refine wo_id ?_ | ((with_reducible apply look_id); (exact look_by); done) | ((with_reducible apply bin_id); (exact bin_by); done) | exact fv77_0 _ _ _ | exact rfl) | ((first | apply b_cond | apply b_pick | apply b_in) <;> first | refine wo_id ?_ | refine wc_id ?_ | ((with_reducible apply look_id); (exact look_by); done) | ((with_reducible apply yield_id); ((apply yield_of; (focus exact rfl); (focus exact lk_by))); done) | (first | exact ff | exact decide_eq_false (by omega) | ((apply ut); (simp; omega))))))
      (apply ends_ret; (focus exact (e_tmp res_nil)))
      refine ⟨_, _, _, Leaves.frz (by decide) _ _ (by exact fz_by), rfl, I, ?_, ?_, fun x hx => .inl hx⟩
      · exact hM2
      · exact hF1
  · have hm : ¬ may ps k ver := fun h => h0 ⟨h.1, h.2.1⟩
    simp only [wr', if_neg hm, decide_eq_false hm]
    by_cases h1 : k < 0
    · (repeat (first | refine w_seq ?_ | refine w_regionL ?_ | refine w_norm ?_ | refine w_ret' ?_ | refine w_ret ?_ | refine wo_nil ⟨rfl, ?_⟩ | ((first | apply o_box | apply o_assign | apply o_move | apply o_bin) <;> first | refine wo_id ?_ | ((with_reducible apply look_id); (exact look_by); done) | ((with_reducible apply bin_id); (exact bin_by); done) | ((with_reducible apply cells_id); (exact cells_by); done) | ((with_reducible apply next_id); (exact next_by); done) | exact rfl) | ((first | apply b_cond | apply b_pick | apply b_in) <;> first | refine wo_id ?_ | refine wc_id ?_ | ((with_reducible apply look_id); (exact look_by); done) | ((with_reducible apply yield_id); ((apply yield_of; (focus exact rfl); (focus exact lk_by))); done) | (first | exact tt | exact decide_eq_true (by omega))) | (apply b_out <;> first | refine wo_id ?_ | ((with_reducible apply yield_id); ((apply yield_of; (focus exact rfl); (focus exact lk_by))); done) | (first | exact tt | exact decide_eq_true (by omega)))))
      (apply ends_ret; (focus exact (e_tmp res_nil)))
      exact ⟨_, _, _, Leaves.frz (by decide) _ _ (by exact fz_by), rfl, I, hM.move frm_new (by simp) (by simp), by exact frm_by, fun x hx => .inl hx⟩
    · (repeat (first | refine w_seq ?_ | refine w_regionL ?_ | refine w_norm ?_ | refine w_ret' ?_ | refine w_ret ?_ | refine wo_nil ⟨rfl, ?_⟩ | ((first | apply o_box | apply o_assign | apply o_move | apply o_bin) <;> first | refine wo_id ?_ | ((with_reducible apply look_id); (exact look_by); done) | ((with_reducible apply bin_id); (exact bin_by); done) | ((with_reducible apply cells_id); (exact cells_by); done) | ((with_reducible apply next_id); (exact next_by); done) | exact rfl) | ((first | apply b_cond | apply b_pick | apply b_in) <;> first | refine wo_id ?_ | refine wc_id ?_ | ((with_reducible apply look_id); (exact look_by); done) | ((with_reducible apply yield_id); ((apply yield_of; (focus exact rfl); (focus exact lk_by))); done) | (first | exact tt | exact ff | exact decide_eq_true (by omega) | exact decide_eq_false (by omega))) | (apply b_out <;> first | refine wo_id ?_ | ((with_reducible apply yield_id); ((apply yield_of; (focus exact rfl); (focus exact lk_by))); done) | (first | exact tt | exact decide_eq_true (by omega)))))
      (apply ends_ret; (focus exact (e_tmp res_nil)))
      exact ⟨_, _, _, Leaves.frz (by decide) _ _ (by exact fz_by), rfl, I, hM.move frm_new (by simp) (by simp), by exact frm_by, fun x hx => .inl hx⟩
end Go.Proofs.Ytnolgpagdjcjbaa.Ve
