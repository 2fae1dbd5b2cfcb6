import Derived.Test.YtefgpelodpggkaaMs
set_option linter.unusedVariables false
set_option linter.unusedSimpArgs false
namespace Go.Proofs.Ytefgpelodpggkaa.Ve
open Go XFlt
set_option maxRecDepth 4000
set_option maxHeartbeats 8000000
theorem sp_ref8e {n : Int} {ps : Pts} {f : RF} (ok : MOk n ps f) (hk2 : f.k = 2) (h2 : f.pc = 2) {x y : It} {xs ys : List It} (hc0 : f.c0.l = x :: xs) (hc1 : f.c1.l = y :: ys) (c : ¬ cmpV y.pri y.val x.pri x.val < 0) : pcall (Ew Try.prog cfg) 51 [rMem ps, .agg (rRF f), .sc (.int .i64 n)] = some (mRes (multiR n ps f)) := by
  have hn := ok.nn
  have hf := ok.fr
  have hl := ok.len
  have hin0 := into_range f.d0 n (by omega)
  have hin1 := into_range f.d1 n (by omega)
  have hi0 := sp_into6 f.d0 n hf.d0 (by omega)
  have hi1 := sp_into6 f.d1 n hf.d1 (by omega)
  have hk : ¬ f.k = 1 := by omega
  have h0 : ¬ f.pc = 0 := by omega
  have h1 : ¬ f.pc = 1 := by omega
  have hG0 := hf.c0
  have hG1 := hf.c1
  have hl0 : (f.c0.l.map rIt).length = f.c0.l.length := List.length_map _
  have hl1 : (f.c1.l.map rIt).length = f.c1.l.length := List.length_map _
  have hA0 := rit_all f.c0.l
  have hA1 := rit_all f.c1.l
  have hx := hG0.cnl (ivI x) (by rw [hc0]; simp)
  have hy := hG1.cnl (ivI y) (by rw [hc1]; simp)
  have hcm := sp_r4Cmp y.pri x.pri y.val x.val hy.2 hx.2
  have e1 : secB (x :: xs) (y :: ys) = false := decide_eq_false (show ¬ ivC (ivI y) (ivI x) < 0 from c)
  refine pcall_wc Try.func51 rfl (by decide) ?_ rfl
  show wc _ _ _ (.pv (.agg [.fz (ps.map rPt)]) :: .pv (.agg (rRF f)) :: .pv (.sc (.int .i64 n)) :: List.replicate 129 undefV) _ _
  unfold multiR delR mRes
  simp only [if_neg hk, if_neg h0, if_neg h1]
  rw [hc0, hc1]
  simp only [e1, if_true, Bool.false_eq_true, if_false]
  show wc _ _ _ (.pv (.agg [.fz (ps.map rPt)]) :: .pv (.agg (rRF f)) :: .pv (.sc (.int .i64 n)) :: List.replicate 129 undefV) _ _
  have hn0 : f.c0.l.length = xs.length + 1 := by rw [hc0]; rfl
  have hn1 : f.c1.l.length = ys.length + 1 := by rw [hc1]; rfl
  have r0 : (f.c0.l.map rIt)[(0 : Int).toNat]? = some (rIt x) := by rw [hc0]; rfl
  have r1 : (f.c1.l.map rIt)[(0 : Int).toNat]? = some (rIt y) := by rw [hc1]; rfl
  have hdr : (f.c0.l.map rIt).drop (1 : Int).toNat = xs.map rIt := by rw [hc0]; rfl
  have hwr := sp_r5write ps (into f.d0 n) f.v0 ⟨0, xs⟩ (by omega)
  (repeat (first | refine w_seq ?_ | refine w_regionL ?_ | refine w_norm ?_ | refine w_block ?_ | refine w_skip ?_ | refine wo_nil ⟨rfl, ?_⟩ | ((first | apply o_box | apply o_alloc | apply o_assign | apply o_fieldAddr | apply o_load | apply o_bin | apply o_move | apply o_storep | apply o_len | apply o_indexAddr) <;> first | refine wo_id ?_ | ((with_reducible apply look_id); (exact look_by); done) | ((with_reducible apply bin_id); (exact bin_by); done) | ((with_reducible apply load_id); ((first | (apply ldp; (focus exact get_by); (focus first | exact rfl)) | apply ldf); (first | exact part_sc (by first | exact ag3) rfl | (apply part_agg; (focus first | exact ag49); (focus first | exact sz49 | exact sz72); (focus exact rfl); (focus exact rfl)))); done) | ((with_reducible apply cells_id); (exact cells_by); done) | ((with_reducible apply next_id); (exact next_by); done) | ((with_reducible apply get_id); (exact get_by); done) | ((with_reducible apply setAt_id); (exact setat_by); done) | exact ze49 | exact ze107 | exact ze109 | exact fa107_0 _ _ _ | exact sz49 | exact lnF75 _ | exact ia_fz (iaF75 _ _) (by omega) (by assumption) rfl | (intro a h; cases h) | exact rfl) | (apply o_pcall; (focus exact args_by); (focus exact hb16); (focus exact rfl); (focus ((repeat (first | exact frzAll_nil | apply frzAll_pv)); done)); (focus (first | exact hi0 | exact hi1))) | (apply o_pcall; (focus exact args_by); (focus exact hb30); (focus exact rfl); (focus ((repeat (first | exact frzAll_nil | apply frzAll_pv)); done)); (focus exact hcm)) | ((first | apply b_cond | apply b_pick | apply b_in) <;> first | refine wo_id ?_ | refine wc_id ?_ | ((with_reducible apply look_id); (exact look_by); done) | ((with_reducible apply yield_id); ((apply yield_of; (focus exact rfl); (focus exact lk_by))); done) | (first | exact tt | exact ff | assumption | exact decide_eq_false h1 | exact decide_eq_false h0 | exact decide_eq_false hk | exact decide_eq_true (by omega) | exact decide_eq_false (by omega)))))
  refine o_drop_fz (by exact look_by) el75 sz72 (by exact look_by) ⟨by decide, by omega⟩ hA0 hdr ?_
  (repeat (first | ((first | apply o_buildP) <;> first | refine wo_id ?_ | ((with_reducible apply parts_id); (exact parts_by); done) | exact bp105 | exact rfl)))
  refine o_pcall (ps := [rMem ps, .sc (.int .i64 (into f.d0 n)), .sc (.int .i64 f.v0), .agg (rVl ⟨0, xs⟩)]) (by exact args_by) hb55 rfl rfl hwr ?_
  unfold wrR
  by_cases hmay : may ps (into f.d0 n) f.v0
  · have e : wr' ps (into f.d0 n) f.v0 ⟨0, xs⟩ = ps ++ [⟨into f.d0 n, ⟨0, xs⟩⟩] := if_pos hmay
    simp only [if_pos hmay, decide_eq_true hmay, e]
    (repeat (first | refine w_seq ?_ | refine w_regionL ?_ | refine w_norm ?_ | refine w_skip ?_ | refine w_ret ?_ | refine wo_nil ⟨rfl, ?_⟩ | ((first | apply o_alloc | apply o_assign | apply o_load | apply o_move | apply o_extract | apply o_storep | apply o_buildP | apply o_indexAddr | apply o_not) <;> first | refine wo_id ?_ | ((with_reducible apply look_id); (exact look_by); done) | ((with_reducible apply load_id); ((first | (apply ldp; (focus exact get_by); (focus first | exact rfl)) | apply ldf); (first | (apply part_agg; (focus first | exact ag49); (focus first | exact sz49 | exact sz72 | exact sz107); (focus exact rfl); (focus exact rfl)))); done) | ((with_reducible apply cells_id); (exact cells_by); done) | ((with_reducible apply next_id); (exact next_by); done) | ((with_reducible apply get_id); (exact get_by); done) | ((with_reducible apply setAt_id); (exact setat_by); done) | ((with_reducible apply parts_id); (exact parts_by); done) | exact ze49 | exact sz49 | exact sz107 | exact sz109 | exact bp109 | exact ia_fz (iaF75 _ _) (by omega) (by assumption) rfl | exact rfl) | ((first | apply b_cond) <;> first | refine wc_id ?_ | ((with_reducible apply look_id); (exact look_by); done) | (first | exact ff))))
    (apply ends_ret; (focus exact (e_cela ag49 sz49 (e_cela ag107 sz107 (e_cela ag109 sz109 (e_tmp res_nil))))))
    exact ⟨_, by exact fz_by⟩
  · have e : wr' ps (into f.d0 n) f.v0 ⟨0, xs⟩ = ps := if_neg hmay
    simp only [if_neg hmay, decide_eq_false hmay, e]
    (repeat (first | refine w_seq ?_ | refine w_regionL ?_ | refine w_norm ?_ | refine w_ret' ?_ | refine w_ret ?_ | refine wo_nil ⟨rfl, ?_⟩ | ((first | apply o_alloc | apply o_assign | apply o_load | apply o_move | apply o_extract | apply o_storep | apply o_buildP | apply o_not) <;> first | refine wo_id ?_ | ((with_reducible apply look_id); (exact look_by); done) | ((with_reducible apply load_id); ((first | (apply ldp; (focus exact get_by); (focus first | exact rfl))); (first | (apply part_agg; (focus first | exact ag49); (focus first | exact sz49 | exact sz107); (focus exact rfl); (focus exact rfl)))); done) | ((with_reducible apply cells_id); (exact cells_by); done) | ((with_reducible apply next_id); (exact next_by); done) | ((with_reducible apply get_id); (exact get_by); done) | ((with_reducible apply setAt_id); (exact setat_by); done) | ((with_reducible apply parts_id); (exact parts_by); done) | exact ze49 | exact sz49 | exact sz107 | exact sz109 | exact bp109 | exact rfl) | ((first | apply b_cond) <;> first | refine wc_id ?_ | ((with_reducible apply look_id); (exact look_by); done) | (first | exact tt))))
    (apply ends_ret; (focus exact (e_cela ag49 sz49 (e_cela ag107 sz107 (e_cela ag109 sz109 (e_tmp res_nil))))))
    exact ⟨_, by exact fz_by⟩
end Go.Proofs.Ytefgpelodpggkaa.Ve
