import Derived.Test.YtefgpelodpggkaaMp
set_option linter.unusedVariables false
set_option linter.unusedSimpArgs false
namespace Go.Proofs.Ytefgpelodpggkaa.Ve
open Go XFlt
set_option maxRecDepth 4000
set_option maxHeartbeats 8000000
theorem sp_withI {l : List It} {x : It} (hG : GL l) (hx : CI x) : pcall (Ew Try.prog cfg) 29 [.fz (l.map rIt), .agg (rIt x)] = some (.pv (.fz ((withI l x).map rIt))) := by
  have h := sp_with (l := l.map ivI) (x := ivI x) (fun y hy => (hG.cnl y hy).2) hx.2 (by rw [List.length_map]; have := hG.len; omega)
  rw [rIt_iv, rIt_iv]
  unfold withI
  rw [iv_it]
  exact h
def mRes (r : Pts × RF × An × Bool) : V := .tup [.pv (rMem r.1), .pv (.agg (rRF r.2.1)), .pv (.agg (rAn r.2.2.1)), .pv (.sc (.bool r.2.2.2))]
theorem sp_rmins {n : Int} {ps : Pts} {f : RF} (ok : MOk n ps f) (hk : f.k = 1) : pcall (Ew Try.prog cfg) 61 [rMem ps, .agg (rRF f), .sc (.int .i64 n)] = some (mRes (insR n ps f)) := by
  have hn := ok.nn
  have hf := ok.fr
  have hl := ok.len
  have hin := into_range f.d0 n (by omega)
  have hi := sp_into6 f.d0 n hf.d0 (by omega)
  have hr := sp_r5read ps (into f.d0 n) (by omega)
  refine pcall_wc Try.func61 rfl (by decide) ?_ rfl
  show wc _ _ _ (.pv (.agg [.fz (ps.map rPt)]) :: .pv (.agg (rRF f)) :: .pv (.sc (.int .i64 n)) :: List.replicate 60 undefV) _ _
  unfold insR
  by_cases h0 : f.pc = 0
  · simp only [if_pos h0]
    obtain ⟨C, hC⟩ : ∃ x, rd ps (into f.d0 n) = x := ⟨_, rfl⟩
    rw [hC] at hr ⊢
    have hCl : (C.2.l.map rIt).length = C.2.l.length := List.length_map _
    have ed : decide (61 < C.2.l.length) = decide (61 < ((C.2.l.map rIt).length : Int)) := by
      rw [hCl]
      by_cases h : 61 < C.2.l.length
      · rw [decide_eq_true h, decide_eq_true (by omega)]
      · rw [decide_eq_false h, decide_eq_false (by omega)]
    rw [ed]
    (repeat (first | refine w_seq ?_ | refine w_regionL ?_ | refine w_norm ?_ | refine w_ret' ?_ | refine w_ret ?_ | refine wo_nil ⟨rfl, ?_⟩ | ((first | apply o_box | apply o_alloc | apply o_assign | apply o_fieldAddr | apply o_load | apply o_move | apply o_bin | apply o_extract | apply o_storep | apply o_buildP | apply o_len) <;> first | refine wo_id ?_ | ((with_reducible apply look_id); (exact look_by); done) | ((with_reducible apply bin_id); (exact bin_by); done) | ((with_reducible apply load_id); ((first | (apply ldp; (focus exact get_by); (focus first | exact rfl))); (first | exact part_sc (by first | exact ag3) rfl | (apply part_agg; (focus first | exact ag49); (focus first | exact sz49 | exact sz107); (focus exact rfl); (focus exact rfl)))); done) | ((with_reducible apply cells_id); (exact cells_by); done) | ((with_reducible apply next_id); (exact next_by); done) | ((with_reducible apply get_id); (exact get_by); done) | ((with_reducible apply setAt_id); (exact setat_by); done) | ((with_reducible apply parts_id); (exact parts_by); done) | exact ze49 | exact ze107 | exact ze109 | exact fa107_2 _ _ _ | exact sz3 | exact sz105 | exact bp109 | exact lnF75 _ | exact sz107 | exact sz109 | (intro a h; cases h) | exact rfl) | (apply o_pcall; (focus exact args_by); (focus exact hb45); (focus exact rfl); (focus ((repeat (first | exact frzAll_nil | apply frzAll_pv)); done)); (focus exact hr)) | (apply o_pcall; (focus exact args_by); (focus exact hb16); (focus exact rfl); (focus ((repeat (first | exact frzAll_nil | apply frzAll_pv)); done)); (focus exact hi)) | ((first | apply b_cond) <;> first | refine wc_id ?_ | ((with_reducible apply look_id); (exact look_by); done) | (first | exact decide_eq_true h0))))
    (apply ends_ret; (focus exact (e_cela ag49 sz49 (e_cela ag107 sz107 (e_cela ag109 sz109 (e_tmp res_nil))))))
    exact ⟨_, by exact fz_by⟩
  · simp only [if_neg h0]
    have h1 : f.pc = 1 := by
      rcases hf.pc with h | h | ⟨-, h⟩
      · exact absurd h h0
      · exact h
      · omega
    have hwi := sp_withI hf.c0 hf.it
    have hwl := withI_len f.c0.l f.it
    have hwr := sp_r5write ps (into f.d0 n) f.v0 ⟨0, withI f.c0.l f.it⟩ (by omega)
    obtain ⟨L, hL⟩ : ∃ x, withI f.c0.l f.it = x := ⟨_, rfl⟩
    rw [hL] at hwi hwr ⊢
    (repeat (first | refine w_seq ?_ | refine w_regionL ?_ | refine w_norm ?_ | refine w_skip ?_ | refine wo_nil ⟨rfl, ?_⟩ | ((first | apply o_box | apply o_alloc | apply o_assign | apply o_fieldAddr | apply o_load | apply o_move | apply o_bin | apply o_storep | apply o_buildP) <;> first | refine wo_id ?_ | ((with_reducible apply look_id); (exact look_by); done) | ((with_reducible apply bin_id); (exact bin_by); done) | ((with_reducible apply load_id); ((first | (apply ldp; (focus exact get_by); (focus first | exact rfl))); (first | exact part_sc (by first | exact ag3) rfl | (apply part_agg; (focus first | exact ag49); (focus first | exact sz49 | exact sz72); (focus exact rfl); (focus exact rfl)))); done) | ((with_reducible apply cells_id); (exact cells_by); done) | ((with_reducible apply next_id); (exact next_by); done) | ((with_reducible apply get_id); (exact get_by); done) | ((with_reducible apply setAt_id); (exact setat_by); done) | ((with_reducible apply parts_id); (exact parts_by); done) | exact ze49 | exact ze107 | exact ze109 | exact fa107_2 _ _ _ | exact sz3 | exact fa105_1 _ _ _ | exact bp105 | exact rfl) | (apply o_pcall; (focus exact args_by); (focus exact hb16); (focus exact rfl); (focus ((repeat (first | exact frzAll_nil | apply frzAll_pv)); done)); (focus exact hi)) | (apply o_pcall; (focus exact args_by); (focus exact hb29); (focus exact rfl); (focus ((repeat (first | exact frzAll_nil | apply frzAll_pv)); done)); (focus exact hwi)) | ((first | apply b_cond) <;> first | refine wc_id ?_ | ((with_reducible apply look_id); (exact look_by); done) | (first | exact decide_eq_false h0))))
    refine o_pcall (ps := [rMem ps, .sc (.int .i64 (into f.d0 n)), .sc (.int .i64 f.v0), .agg (rVl ⟨0, L⟩)]) (by exact args_by) hb55 rfl rfl hwr ?_
    unfold wrR
    by_cases hmay : may ps (into f.d0 n) f.v0
    · have e : wr' ps (into f.d0 n) f.v0 ⟨0, L⟩ = ps ++ [⟨into f.d0 n, ⟨0, L⟩⟩] := if_pos hmay
      simp only [if_pos hmay, decide_eq_true hmay, e]
      (repeat (first | refine w_seq ?_ | refine w_regionL ?_ | refine w_norm ?_ | refine w_skip ?_ | refine w_ret ?_ | refine wo_nil ⟨rfl, ?_⟩ | ((first | apply o_alloc | apply o_assign | apply o_fieldAddr | apply o_load | apply o_move | apply o_extract | apply o_storep | apply o_buildP | apply o_not) <;> first | refine wo_id ?_ | ((with_reducible apply look_id); (exact look_by); done) | ((with_reducible apply load_id); ((first | (apply ldp; (focus exact get_by); (focus first | exact rfl))); (first | (apply part_agg; (focus first | exact ag49); (focus first | exact sz49 | exact sz72 | exact sz107); (focus exact rfl); (focus exact rfl)))); done) | ((with_reducible apply cells_id); (exact cells_by); done) | ((with_reducible apply next_id); (exact next_by); done) | ((with_reducible apply get_id); (exact get_by); done) | ((with_reducible apply setAt_id); (exact setat_by); done) | ((with_reducible apply parts_id); (exact parts_by); done) | exact ze49 | exact sz3 | exact bp109 | exact fa105_1 _ _ _ | exact sz107 | exact sz109 | exact rfl) | ((first | apply b_cond) <;> first | refine wc_id ?_ | ((with_reducible apply look_id); (exact look_by); done) | (first | exact ff))))
      (apply ends_ret; (focus exact (e_cela ag49 sz49 (e_cela ag107 sz107 (e_cela ag109 sz109 (e_tmp res_nil))))))
      exact ⟨_, by exact fz_by⟩
    · have e : wr' ps (into f.d0 n) f.v0 ⟨0, L⟩ = ps := if_neg hmay
      simp only [if_neg hmay, decide_eq_false hmay, e]
      (repeat (first | refine w_seq ?_ | refine w_regionL ?_ | refine w_norm ?_ | refine w_ret' ?_ | refine w_ret ?_ | refine wo_nil ⟨rfl, ?_⟩ | ((first | apply o_alloc | apply o_assign | apply o_load | apply o_move | apply o_extract | apply o_storep | apply o_buildP | apply o_not) <;> first | refine wo_id ?_ | ((with_reducible apply look_id); (exact look_by); done) | ((with_reducible apply load_id); ((first | (apply ldp; (focus exact get_by); (focus first | exact rfl))); (first | (apply part_agg; (focus first | exact ag49); (focus first | exact sz49 | exact sz107); (focus exact rfl); (focus exact rfl)))); done) | ((with_reducible apply cells_id); (exact cells_by); done) | ((with_reducible apply next_id); (exact next_by); done) | ((with_reducible apply get_id); (exact get_by); done) | ((with_reducible apply setAt_id); (exact setat_by); done) | ((with_reducible apply parts_id); (exact parts_by); done) | exact ze49 | exact sz3 | exact bp109 | exact sz107 | exact sz109 | exact rfl) | ((first | apply b_cond) <;> first | refine wc_id ?_ | ((with_reducible apply look_id); (exact look_by); done) | (first | exact tt))))
      (apply ends_ret; (focus exact (e_cela ag49 sz49 (e_cela ag107 sz107 (e_cela ag109 sz109 (e_tmp res_nil))))))
      exact ⟨_, by exact fz_by⟩
end Go.Proofs.Ytefgpelodpggkaa.Ve
