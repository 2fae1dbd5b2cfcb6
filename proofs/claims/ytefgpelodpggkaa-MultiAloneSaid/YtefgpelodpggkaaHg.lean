import Derived.Test.YtefgpelodpggkaaHf
set_option linter.unusedVariables false
set_option linter.unusedSimpArgs false
namespace Go.Proofs.Ytefgpelodpggkaa.Ve
open Go XFlt
set_option maxRecDepth 4000
set_option maxHeartbeats 8000000
/-- An item made canonical. -/
def cn (x : IV) : IV := (canonB x.1, x.2)
/-- A pile in a store: its items, in the order of a heap. -/
structure PAt (st : St) (p : Nat) (l : List IV) (I : List Nat) : Prop where
  h : HX st p l I
  heap : HeapF l l.length 0
theorem PAt.move {st st' : St} {p : Nat} {l : List IV} {I J : List Nat} (h : PAt st p l I) (hf : Frm st st' J) (hp : p ∉ J) (hI : ∀ y ∈ I, y ∉ J) : PAt st' p l I := ⟨h.h.move hf hp hI, h.heap⟩
theorem HX.ltI {st : St} {p : Nat} {l : List IV} {I : List Nat} (h : HX st p l I) : ∀ y ∈ I, y < st.next := by
  rcases h with ⟨-, -, -, rfl⟩ | ⟨a, rest, hH, rfl⟩
  · simp
  · simpa using hH.an
theorem cn_lt {x : IV} (h : x.1 < 2 ^ 64) : (cn x).1 < 2 ^ 64 := canon_lt h
theorem fn_pPut {st : St} {p : Nat} {l : List IV} {I : List Nat} (h : PAt st p l I) {x : IV} (hx : (cn x).1 < 2 ^ 64) (hl : l.length + 1 < 2 ^ 30) :
    Fn Try.prog cfg 90 [.ptr p 0 0, .pv (.agg (ivP x))] st (fun v st' _ _ => ∃ a l', PAt st' p l' [a] ∧ l'.Perm (l ++ [cn x]) ∧ st.next ≤ a ∧ Frm st st' (p :: I)) := by
  have hc := sp_itemCanon x.1 x.2
  obtain ⟨S, hS⟩ : ∃ y, st.next = y := ⟨_, rfl⟩
  have hpn := h.h.sl.1
  have hIl := h.h.ltI
  refine fn_keep (.inr rfl) Try.func90 rfl ?_
  show wc _ _ _ (.ptr p 0 0 :: .pv (.agg (ivP x)) :: List.replicate 10 undefV) st _
  (repeat (first | refine w_seq ?_ | refine w_regionL ?_ | refine w_norm ?_ | refine wo_nil ⟨rfl, ?_⟩ | ((first | apply o_box | apply o_move | apply o_nil | apply o_fieldAddr | apply o_iface | apply o_load) <;> first | refine wo_id ?_ | ((with_reducible apply look_id); (exact look_by); done) | ((with_reducible apply load_id); ((first | (apply ldp; (focus exact get_by); (focus first | exact rfl))); (first | (apply part_agg; (focus first | exact ag36); (focus first | exact sz36); (focus exact rfl); (focus exact rfl)))); done) | ((with_reducible apply cells_id); (exact cells_by); done) | ((with_reducible apply next_id); (exact next_by); done) | exact fa166_0 _ _ _ | exact ni168 | exact rfl) | (apply o_pcall; (focus exact args_by); (focus exact hb85); (focus exact rfl); (focus ((repeat (first | exact frzAll_nil | apply frzAll_pv)); done)); (focus exact hc))))
  refine o_call (by exact args_by) hb96 (fn_hPush (x := cn x) (h.h.move frm_new (by simp) (by simp)) h.heap hx hl) ?_
  rintro v1 s1 R1 W1 ⟨a, l', hH, hP, hF, ha, hFr⟩
  simp only [St.new] at ha
  (repeat (first | (refine wo_nil ⟨dyn_draw (bs := [0, 0, 0, 0, 1, 1, 0, 3]) ?_ ?_, ?_⟩; (focus ((repeat (first | exact Flags.nil | (apply Flags.cons Flag.dry) | (apply Flags.cons Flag.read) | (apply Flags.cons Flag.free))); done)); (focus decide +kernel))))
  refine ends_norm (vs := []) (R' := []) rfl ?_
  exact ⟨_, _, _, leaves_pur (by decide) (by exact fz_by), a, l', ⟨.inr ⟨a, [], hH, rfl⟩, hF⟩, hP, by omega, (frm_new.wide (J := p :: I) (by simp)).trans hFr (fun y hy _ => hy)⟩
theorem fn_pTake0 {st : St} {p : Nat} {I : List Nat} (h : PAt st p [] I) : Fn Try.prog cfg 94 [.ptr p 0 0] st (fun v st' _ W => v = .tup [.pv (.agg (ivP (0, 0))), .pv (.sc (.bool false))] ∧ Frm st st' [] ∧ W = []) := by
  obtain ⟨hp, hpI, hwf, sv, hg, hsl⟩ := h.h.sl
  obtain ⟨S, hS⟩ : ∃ y, st.next = y := ⟨_, rfl⟩
  have hsl' := hsl.move (st' := st.new ⟨2, [[.pv (.sc (.float .f64 0)), .pv (.sc (.int .i64 0))]]⟩) (by simp [St.new]) (fun i hi => by have := hsl.lt i hi; simp only [St.new]; rw [if_neg (by omega)])
  refine fn_keep (.inr rfl) Try.func94 rfl ?_
  show wc _ _ _ (.ptr p 0 0 :: List.replicate 16 undefV) st _
  (repeat (first | refine w_seq ?_ | refine w_regionL ?_ | refine w_norm ?_ | refine wo_nil ⟨rfl, ?_⟩ | ((first | apply o_alloc | apply o_assign | apply o_move | apply o_nil | apply o_fieldAddr | apply o_load | apply o_len) <;> first | refine wo_id ?_ | ((with_reducible apply look_id); (exact look_by); done) | ((with_reducible apply load_id); ((first | (apply ldp; (focus exact get_by); (focus first | exact rfl))); (first | exact part_sc (by first | exact ag164) rfl)); done) | ((with_reducible apply cells_id); (exact cells_by); done) | ((with_reducible apply next_id); (exact next_by); done) | exact ze36 | exact fa166_0 _ _ _ | exact ni168 | (intro a h; cases h) | exact rfl)))
  refine o_lenS (by exact look_by) hsl rfl Try.underlying164 ?_
  (repeat (first | refine w_seq ?_ | refine w_regionL ?_ | refine w_norm ?_ | refine w_ret' ?_ | refine w_ret ?_ | refine wo_nil ⟨rfl, ?_⟩ | ((first | apply o_assign | apply o_bin | apply o_buildP | apply o_storep) <;> first | refine wo_id ?_ | ((with_reducible apply look_id); (exact look_by); done) | ((with_reducible apply bin_id); (exact bin_by); done) | ((with_reducible apply cells_id); (exact cells_by); done) | ((with_reducible apply get_id); (exact get_by); done) | ((with_reducible apply setAt_id); (exact setat_by); done) | ((with_reducible apply parts_id); (exact parts_by); done) | exact bp36 | exact sz36 | exact ni168 | exact rfl) | ((first | apply b_cond) <;> first | refine wc_id ?_ | ((with_reducible apply look_id); (exact look_by); done) | (first | exact tt))))
  (apply ends_ret; (focus exact (e_cela ag36 sz36 (e_tmp res_nil))))
  exact ⟨_, _, _, leaves_pur (by decide) (by exact fz_by), rfl, by exact frm_by, by simp [entW]; try omega⟩
theorem fn_pTake {st : St} {p : Nat} {l : List IV} {I : List Nat} (h : PAt st p l I) {x : IV} (hx : l[0]? = some x) : Fn Try.prog cfg 94 [.ptr p 0 0] st (fun v st' _ W => v = .tup [.pv (.agg (ivP x)), .pv (.sc (.bool true))] ∧ ∃ l', PAt st' p l' I ∧ (l' ++ [x]).Perm l ∧ Frm st st' (p :: I) ∧ ∀ z ∈ W, z ∈ p :: I) := by
  obtain ⟨hp, hpI, hwf, sv, hg, hsl⟩ := h.h.sl
  obtain ⟨S, hS⟩ : ∃ y, st.next = y := ⟨_, rfl⟩
  have h0 : 0 < l.length := (List.getElem?_eq_some_iff.1 hx).1
  obtain ⟨a, rest, hH, rfl⟩ : ∃ a rest, HAt st p a l rest ∧ I = [a] := by
    rcases h.h with ⟨rfl, -⟩ | h
    · simp at h0
    · exact h
  have hlm : (l.map ivV).length = l.length := List.length_map _
  have hne : ¬ ((l.map ivV).length : Int) = 0 := by omega
  have hpa := hH.ne
  have han := hH.an
  refine fn_keep (.inr rfl) Try.func94 rfl ?_
  show wc _ _ _ (.ptr p 0 0 :: List.replicate 16 undefV) st _
  (repeat (first | refine w_seq ?_ | refine w_regionL ?_ | refine w_norm ?_ | refine wo_nil ⟨rfl, ?_⟩ | ((first | apply o_alloc | apply o_assign | apply o_move | apply o_nil | apply o_fieldAddr | apply o_load | apply o_len) <;> first | refine wo_id ?_ | ((with_reducible apply look_id); (exact look_by); done) | ((with_reducible apply load_id); ((first | (apply ldp; (focus exact get_by); (focus first | exact rfl))); (first | exact part_sc (by first | exact ag164) rfl)); done) | ((with_reducible apply cells_id); (exact cells_by); done) | ((with_reducible apply next_id); (exact next_by); done) | exact ze36 | exact fa166_0 _ _ _ | exact ni168 | (intro a h; cases h) | exact rfl)))
  refine o_lenS (by exact look_by) hsl rfl Try.underlying164 ?_
  (repeat (first | refine w_seq ?_ | refine w_regionL ?_ | refine w_norm ?_ | refine w_skip ?_ | refine wo_nil ⟨rfl, ?_⟩ | ((first | apply o_move | apply o_nil | apply o_fieldAddr | apply o_bin | apply o_iface) <;> first | refine wo_id ?_ | ((with_reducible apply look_id); (exact look_by); done) | ((with_reducible apply bin_id); (exact bin_by); done) | exact fa166_0 _ _ _ | exact ni168 | exact rfl) | ((first | apply b_cond) <;> first | refine wc_id ?_ | ((with_reducible apply look_id); (exact look_by); done) | (first | exact decide_eq_false hne))))
  refine o_call (by exact args_by) hb98 (fn_hPop (hH.move frm_new (by simp) (by simp)) h.heap hx) ?_
  rintro _ s1 R1 W1 ⟨rfl, l', rest', hH1, hP, hF, hFr, hW1⟩
  have hn1 := hFr.next
  simp only [St.new] at hn1
  have hgS : s1.get S = some ⟨2, [[.pv (.sc (.float .f64 0)), .pv (.sc (.int .i64 0))]]⟩ := hFr.getq (by exact lt_by) (by simp; omega) (by exact get_by)
  (repeat (first | refine w_norm ?_ | refine w_ret ?_ | refine wo_nil ⟨rfl, ?_⟩ | ((first | apply o_assign | apply o_storep | apply o_assert) <;> first | refine wo_id ?_ | ((with_reducible apply look_id); (exact look_by); done) | ((with_reducible apply cells_id); (exact cells_by); done) | ((with_reducible apply get_id); (exact get_by); done) | ((with_reducible apply setAt_id); (exact setat_by); done) | exact sz36 | exact ni168 | exact rfl)))
  (apply ends_ret; (focus exact (e_cela ag36 sz36 (e_tmp res_nil))))
  refine ⟨_, _, _, leaves_pur (by decide) (by exact fz_by), rfl, l', ⟨.inr ⟨a, rest', hH1.move (J := [S]) (by exact frm_by) (by simp; omega) (by simp; omega), rfl⟩, hF⟩, hP, ?_, by (intro z hz; simp [entW] at hz ⊢; first | done | omega | grind)⟩
  exact ((frm_new.wide (J := [p, a]) (by simp)).trans hFr (fun y hy _ => hy)).trans (J := [S]) (by exact frm_by) (by simp; omega)
end Go.Proofs.Ytefgpelodpggkaa.Ve
