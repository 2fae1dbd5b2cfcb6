import Derived.Test.YtlglcnljjpedcaaHg
set_option linter.unusedVariables false
set_option linter.unusedSimpArgs false
namespace Go.Proofs.Ytlglcnljjpedcaa.Ve
open Go XFlt
set_option maxRecDepth 4000
set_option maxHeartbeats 8000000
theorem fn_pCount {st : St} {p : Nat} {l : List IV} {I : List Nat} (h : PAt st p l I) : Fn Try.prog cfg 46 [.ptr p 0 0] st (fun v st' _ _ => v = .pv (.sc (.int .i64 l.length)) ∧ st' = st) := by
  obtain ⟨hp, hpI, hwf, sv, hg, hsl⟩ := h.h.sl
  have hlm : (l.map ivV).length = l.length := List.length_map _
  refine fn_keep (.inr rfl) Try.func46 rfl ?_
  show wc _ _ _ (.ptr p 0 0 :: List.replicate 7 undefV) st _
  (repeat (first | refine w_seq ?_ | refine w_regionL ?_ | refine w_norm ?_ | refine w_exit' ?_ | refine w_ret' ?_ | refine w_block ?_ | refine w_scope ?_ | refine w_skip ?_ | refine w_ret ?_ | refine w_exit ?_ | refine w_label ?_ | refine wo_nil ⟨rfl, ?_⟩ | ((first | apply o_assign | apply o_move | apply o_nil | apply o_nilN | apply o_fieldAddr | apply o_load | apply o_len) <;> first | refine wo_id ?_ | refine wc_id ?_ | ((with_reducible apply look_id); (exact look_by); done) | ((with_reducible apply load_id); ((first | (apply ldp; (focus exact get_by); (focus first | exact rfl | assumption)) | apply ldf); (first | exact part_sc (by first | exact ag98) rfl)); done) | exact fa100_0 _ _ _ | exact fe100_0 _ | exact lnF98 _ | exact lnO98 _ _ _ _ | exact lnN98 | (intro a h; cases h) | exact rfl)))
  refine o_lenS (by exact look_by) hsl rfl Try.underlying98 ?_
  (repeat (first | refine w_seq ?_ | refine w_regionL ?_ | refine w_norm ?_ | refine w_exit' ?_ | refine w_ret' ?_ | refine w_block ?_ | refine w_scope ?_ | refine w_skip ?_ | refine w_ret ?_ | refine w_exit ?_ | refine w_label ?_ | refine wo_nil ⟨rfl, ?_⟩ | ((first | apply o_assign | apply o_move | apply o_nil | apply o_nilN | apply o_fieldAddr | apply o_load | apply o_len) <;> first | refine wo_id ?_ | refine wc_id ?_ | ((with_reducible apply look_id); (exact look_by); done) | ((with_reducible apply load_id); ((first | (apply ldp; (focus exact get_by); (focus first | exact rfl | assumption)) | apply ldf); (first | exact part_sc (by first | exact ag98) rfl)); done) | exact fa100_0 _ _ _ | exact fe100_0 _ | exact lnF98 _ | exact lnO98 _ _ _ _ | exact lnN98 | (intro a h; cases h) | exact rfl)))
  (apply ends_ret; (focus exact (e_tmp res_nil)))
  rw [hlm]
  exact ⟨_, _, _, leaves_pur (by decide) (by exact fz_by), rfl, rfl⟩
theorem fn_pFirst0 {st : St} {p : Nat} {I : List Nat} (h : PAt st p [] I) : Fn Try.prog cfg 47 [.ptr p 0 0] st (fun v st' _ _ => v = .tup [.pv (.agg (ivP (0, 0))), .pv (.sc (.bool false))] ∧ Frm st st' []) := by
  obtain ⟨hp, hpI, hwf, sv, hg, hsl⟩ := h.h.sl
  refine fn_keep (.inr rfl) Try.func47 rfl ?_
  show wc _ _ _ (.ptr p 0 0 :: List.replicate 16 undefV) st _
  (repeat (first | refine w_seq ?_ | refine w_regionL ?_ | refine w_norm ?_ | refine w_exit' ?_ | refine w_ret' ?_ | refine w_block ?_ | refine w_scope ?_ | refine w_skip ?_ | refine w_ret ?_ | refine w_exit ?_ | refine w_label ?_ | refine wo_nil ⟨rfl, ?_⟩ | ((first | apply o_alloc | apply o_assign | apply o_move | apply o_nil | apply o_nilN | apply o_fieldAddr | apply o_load | apply o_len | apply o_bin | apply o_buildP | apply o_storep | apply o_indexAddr) <;> first | refine wo_id ?_ | refine wc_id ?_ | ((with_reducible apply look_id); (exact look_by); done) | ((with_reducible apply bin_id); (exact bin_by); done) | ((with_reducible apply load_id); ((first | (apply ldp; (focus exact get_by); (focus first | exact rfl | assumption)) | apply ldf); (first | exact part_sc (by first | exact ag98) rfl | (apply part_agg; (focus first | exact ag44); (focus first | exact sz44); (focus exact rfl); (focus exact rfl)))); done) | ((with_reducible apply cells_id); (exact cells_by); done) | ((with_reducible apply next_id); (exact next_by); done) | ((with_reducible apply get_id); (exact get_by); done) | ((with_reducible apply setAt_id); (exact setat_by); done) | ((with_reducible apply parts_id); (exact parts_by); done) | exact ze44 | exact fa100_0 _ _ _ | exact fe100_0 _ | exact lnF98 _ | exact lnO98 _ _ _ _ | exact lnN98 | exact bp44 | exact sz44 | exact ia_fz (iaF98 _ _) (by omega) (by assumption) rfl | exact ia_ow (iaO98 _ _ _ _ _) (by omega) (by omega) rfl | assumption | (intro a h; cases h) | exact rfl) | ((first | apply b_cond) <;> first | refine wo_id ?_ | refine wc_id ?_ | ((with_reducible apply look_id); (exact look_by); done) | (first | exact tt | exact ff | assumption))))
  refine o_lenS (by exact look_by) hsl rfl Try.underlying98 ?_
  (repeat (first | refine w_seq ?_ | refine w_regionL ?_ | refine w_norm ?_ | refine w_exit' ?_ | refine w_ret' ?_ | refine w_block ?_ | refine w_scope ?_ | refine w_skip ?_ | refine w_ret ?_ | refine w_exit ?_ | refine w_label ?_ | refine wo_nil ⟨rfl, ?_⟩ | ((first | apply o_alloc | apply o_assign | apply o_move | apply o_nil | apply o_nilN | apply o_fieldAddr | apply o_load | apply o_len | apply o_bin | apply o_buildP | apply o_storep | apply o_indexAddr) <;> first | refine wo_id ?_ | refine wc_id ?_ | ((with_reducible apply look_id); (exact look_by); done) | ((with_reducible apply bin_id); (exact bin_by); done) | ((with_reducible apply load_id); ((first | (apply ldp; (focus exact get_by); (focus first | exact rfl | assumption)) | apply ldf); (first | exact part_sc (by first | exact ag98) rfl | (apply part_agg; (focus first | exact ag44); (focus first | exact sz44); (focus exact rfl); (focus exact rfl)))); done) | ((with_reducible apply cells_id); (exact cells_by); done) | ((with_reducible apply next_id); (exact next_by); done) | ((with_reducible apply get_id); (exact get_by); done) | ((with_reducible apply setAt_id); (exact setat_by); done) | ((with_reducible apply parts_id); (exact parts_by); done) | exact ze44 | exact fa100_0 _ _ _ | exact fe100_0 _ | exact lnF98 _ | exact lnO98 _ _ _ _ | exact lnN98 | exact bp44 | exact sz44 | exact ia_fz (iaF98 _ _) (by omega) (by assumption) rfl | exact ia_ow (iaO98 _ _ _ _ _) (by omega) (by omega) rfl | assumption | (intro a h; cases h) | exact rfl) | ((first | apply b_cond) <;> first | refine wo_id ?_ | refine wc_id ?_ | ((with_reducible apply look_id); (exact look_by); done) | (first | exact tt | exact ff | assumption | ((apply ut); decide) | ((apply uf); decide)))))
  (apply ends_ret; (focus exact (e_cela ag44 sz44 (e_tmp res_nil))))
  exact ⟨_, _, _, leaves_pur (by decide) (by exact fz_by), rfl, by exact frm_by⟩
theorem fn_pFirst {st : St} {p : Nat} {l : List IV} {I : List Nat} (h : PAt st p l I) {x : IV} (hx : l[0]? = some x) : Fn Try.prog cfg 47 [.ptr p 0 0] st (fun v st' _ _ => v = .tup [.pv (.agg (ivP x)), .pv (.sc (.bool true))] ∧ Frm st st' []) := by
  obtain ⟨hp, hpI, hwf, sv, hg, hsl⟩ := h.h.sl
  have h0 : 0 < l.length := (List.getElem?_eq_some_iff.1 hx).1
  obtain ⟨a, rest, hH, rfl⟩ : ∃ a rest, HAt st p a l rest ∧ I = [a] := by
    rcases h.h with ⟨rfl, -⟩ | h
    · simp at h0
    · exact h
  have hgp := hH.gp
  have hga := hH.ga
  rw [hgp] at hg
  obtain rfl : V.ow a 2 0 l.length = sv := by
    injection hg with hg
    injection hg with _ hg
    injection hg with hg
    injection hg
  have hrow : (l.map ivV ++ rest)[0 + (0 : Int).toNat]? = some (ivV x) := by
    have e : 0 + (0 : Int).toNat = 0 := rfl
    rw [e, List.getElem?_append_left (by simpa using h0), List.getElem?_map, hx]
    rfl
  have hpa := hH.ne
  have han := hH.an
  refine fn_keep (.inr rfl) Try.func47 rfl ?_
  show wc _ _ _ (.ptr p 0 0 :: List.replicate 16 undefV) st _
  (repeat (first | refine w_seq ?_ | refine w_regionL ?_ | refine w_norm ?_ | refine w_exit' ?_ | refine w_ret' ?_ | refine w_block ?_ | refine w_scope ?_ | refine w_skip ?_ | refine w_ret ?_ | refine w_exit ?_ | refine w_label ?_ | refine wo_nil ⟨rfl, ?_⟩ | ((first | apply o_alloc | apply o_assign | apply o_move | apply o_nil | apply o_nilN | apply o_fieldAddr | apply o_load | apply o_len | apply o_bin | apply o_buildP | apply o_storep | apply o_indexAddr) <;> first | refine wo_id ?_ | refine wc_id ?_ | ((with_reducible apply look_id); (exact look_by); done) | ((with_reducible apply bin_id); (exact bin_by); done) | ((with_reducible apply load_id); ((first | (apply ldp; (focus exact get_by); (focus first | exact rfl | assumption)) | apply ldf); (first | exact part_sc (by first | exact ag98) rfl | (apply part_agg; (focus first | exact ag44); (focus first | exact sz44); (focus exact rfl); (focus exact rfl)))); done) | ((with_reducible apply cells_id); (exact cells_by); done) | ((with_reducible apply next_id); (exact next_by); done) | ((with_reducible apply get_id); (exact get_by); done) | ((with_reducible apply setAt_id); (exact setat_by); done) | ((with_reducible apply parts_id); (exact parts_by); done) | exact ze44 | exact fa100_0 _ _ _ | exact fe100_0 _ | exact lnF98 _ | exact lnO98 _ _ _ _ | exact lnN98 | exact bp44 | exact sz44 | exact ia_fz (iaF98 _ _) (by omega) (by assumption) rfl | exact ia_ow (iaO98 _ _ _ _ _) (by omega) (by omega) rfl | assumption | (intro a h; cases h) | exact rfl) | ((first | apply b_cond) <;> first | refine wo_id ?_ | refine wc_id ?_ | ((with_reducible apply look_id); (exact look_by); done) | (first | exact tt | exact ff | assumption | exact decide_eq_false (by omega)))))
  (apply ends_ret; (focus exact (e_cela ag44 sz44 (e_tmp res_nil))))
  exact ⟨_, _, _, leaves_pur (by decide) (by exact fz_by), rfl, by exact frm_by⟩
end Go.Proofs.Ytlglcnljjpedcaa.Ve
