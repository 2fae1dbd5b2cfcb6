import Derived.Test.YtnolgpagdjcjbaaMc
set_option linter.unusedVariables false
set_option linter.unusedSimpArgs false
namespace Go.Proofs.Ytnolgpagdjcjbaa.Ve
open Go
set_option maxRecDepth 4000
set_option maxHeartbeats 4000000
/-- The error of a parameter, but for a network. -/
def legal3 (p : Int) : Int := if 1 ≤ p ∧ p ≤ 16 then 0 else 5
theorem sp_legal (k p : Int) (hk : 1 ≤ k ∧ k ≤ 3) : pcall (Ew Try.prog cfg) 46 [.sc (.int .i64 k), .sc (.int .i64 p)] = some (.pv (.sc (.int .i64 (legal3 p)))) := by
  refine pcall_wc Try.func46 rfl (by decide) ?_ rfl
  show wc _ _ _ (.pv (.sc (.int .i64 k)) :: .pv (.sc (.int .i64 p)) :: List.replicate 28 undefV) _ _
  unfold legal3
  by_cases h1 : 1 ≤ p
  · by_cases h2 : p ≤ 16
    · rw [if_pos ⟨h1, h2⟩]
      (repeat (first | refine w_seq ?_ | refine w_regionL ?_ | refine w_norm ?_ | refine w_exit' ?_ | refine w_ret' ?_ | refine w_block ?_ | refine w_scope ?_ | refine w_skip ?_ | refine w_ret ?_ | refine w_exit ?_ | refine w_label ?_ | refine wo_nil ⟨rfl, ?_⟩ | ((first | apply o_assign | apply o_move | apply o_bin) <;> first | refine wo_id ?_ | refine wc_id ?_ | ((with_reducible apply look_id); (exact look_by); done) | ((with_reducible apply bin_id); (exact bin_by); done) | exact rfl) | ((first | apply b_cond | apply b_pick | apply b_in) <;> first | refine wo_id ?_ | refine wc_id ?_ | ((with_reducible apply look_id); (exact look_by); done) | ((with_reducible apply yield_id); ((apply yield_of; (focus exact rfl); (focus exact lk_by))); done) | (first | exact tt | exact ff | assumption | exact decide_eq_true (by omega) | exact decide_eq_false (by omega))) | (apply b_out <;> first | refine wo_id ?_ | ((with_reducible apply yield_id); ((apply yield_of; (focus exact rfl); (focus exact lk_by))); done) | (first | exact tt | exact ff | assumption | exact decide_eq_true (by omega) | exact decide_eq_false (by omega))) | (apply g_undef; (focus (apply yield_none; (focus exact rfl); (focus exact lk_by))))))
      (apply ends_ret; (focus exact (e_tmp res_nil)))
      exact ⟨_, by exact fz_by⟩
    · rw [if_neg (fun h => h2 h.2)]
      (repeat (first | refine w_seq ?_ | refine w_regionL ?_ | refine w_norm ?_ | refine w_exit' ?_ | refine w_ret' ?_ | refine w_block ?_ | refine w_scope ?_ | refine w_skip ?_ | refine w_ret ?_ | refine w_exit ?_ | refine w_label ?_ | refine wo_nil ⟨rfl, ?_⟩ | ((first | apply o_assign | apply o_move | apply o_bin) <;> first | refine wo_id ?_ | refine wc_id ?_ | ((with_reducible apply look_id); (exact look_by); done) | ((with_reducible apply bin_id); (exact bin_by); done) | exact rfl) | ((first | apply b_cond | apply b_pick | apply b_in) <;> first | refine wo_id ?_ | refine wc_id ?_ | ((with_reducible apply look_id); (exact look_by); done) | ((with_reducible apply yield_id); ((apply yield_of; (focus exact rfl); (focus exact lk_by))); done) | (first | exact tt | exact ff | assumption | exact decide_eq_true (by omega) | exact decide_eq_false (by omega))) | (apply b_out <;> first | refine wo_id ?_ | ((with_reducible apply yield_id); ((apply yield_of; (focus exact rfl); (focus exact lk_by))); done) | (first | exact tt | exact ff | assumption | exact decide_eq_true (by omega) | exact decide_eq_false (by omega))) | (apply g_undef; (focus (apply yield_none; (focus exact rfl); (focus exact lk_by))))))
      (apply ends_ret; (focus exact (e_tmp res_nil)))
      exact ⟨_, by exact fz_by⟩
  · rw [if_neg (fun h => h1 h.1)]
    (repeat (first | refine w_seq ?_ | refine w_regionL ?_ | refine w_norm ?_ | refine w_exit' ?_ | refine w_ret' ?_ | refine w_block ?_ | refine w_scope ?_ | refine w_skip ?_ | refine w_ret ?_ | refine w_exit ?_ | refine w_label ?_ | refine wo_nil ⟨rfl, ?_⟩ | ((first | apply o_assign | apply o_move | apply o_bin) <;> first | refine wo_id ?_ | refine wc_id ?_ | ((with_reducible apply look_id); (exact look_by); done) | ((with_reducible apply bin_id); (exact bin_by); done) | exact rfl) | ((first | apply b_cond | apply b_pick | apply b_in) <;> first | refine wo_id ?_ | refine wc_id ?_ | ((with_reducible apply look_id); (exact look_by); done) | ((with_reducible apply yield_id); ((apply yield_of; (focus exact rfl); (focus exact lk_by))); done) | (first | exact tt | exact ff | assumption | exact decide_eq_true (by omega) | exact decide_eq_false (by omega))) | (apply b_out <;> first | refine wo_id ?_ | ((with_reducible apply yield_id); ((apply yield_of; (focus exact rfl); (focus exact lk_by))); done) | (first | exact tt | exact ff | assumption | exact decide_eq_true (by omega) | exact decide_eq_false (by omega))) | (apply g_undef; (focus (apply yield_none; (focus exact rfl); (focus exact lk_by))))))
    (apply ends_ret; (focus exact (e_tmp res_nil)))
    exact ⟨_, by exact fz_by⟩
theorem sp_legal6 (k p : Int) (hk : 1 ≤ k ∧ k ≤ 3) : pcall (Ew Try.prog cfg) 21 [.sc (.int .i64 k), .sc (.int .i64 p)] = some (.pv (.sc (.int .i64 (legal3 p)))) := by
  refine pcall_wc Try.func21 rfl (by decide) ?_ rfl
  show wc _ _ _ (.pv (.sc (.int .i64 k)) :: .pv (.sc (.int .i64 p)) :: List.replicate 37 undefV) _ _
  unfold legal3
  by_cases h1 : 1 ≤ p
  · by_cases h2 : p ≤ 16
    · rw [if_pos ⟨h1, h2⟩]
      (repeat (first | refine w_seq ?_ | refine w_regionL ?_ | refine w_norm ?_ | refine w_exit' ?_ | refine w_ret' ?_ | refine w_block ?_ | refine w_scope ?_ | refine w_skip ?_ | refine w_ret ?_ | refine w_exit ?_ | refine w_label ?_ | refine wo_nil ⟨rfl, ?_⟩ | ((first | apply o_assign | apply o_move | apply o_bin) <;> first | refine wo_id ?_ | refine wc_id ?_ | ((with_reducible apply look_id); (exact look_by); done) | ((with_reducible apply bin_id); (exact bin_by); done) | exact rfl) | ((first | apply b_cond | apply b_pick | apply b_in) <;> first | refine wo_id ?_ | refine wc_id ?_ | ((with_reducible apply look_id); (exact look_by); done) | ((with_reducible apply yield_id); ((apply yield_of; (focus exact rfl); (focus exact lk_by))); done) | (first | exact tt | exact ff | assumption | exact decide_eq_true (by omega) | exact decide_eq_false (by omega))) | (apply b_out <;> first | refine wo_id ?_ | ((with_reducible apply yield_id); ((apply yield_of; (focus exact rfl); (focus exact lk_by))); done) | (first | exact tt | exact ff | assumption | exact decide_eq_true (by omega) | exact decide_eq_false (by omega))) | (apply g_undef; (focus (apply yield_none; (focus exact rfl); (focus exact lk_by))))))
      (apply ends_ret; (focus exact (e_tmp res_nil)))
      exact ⟨_, by exact fz_by⟩
    · rw [if_neg (fun h => h2 h.2)]
      (repeat (first | refine w_seq ?_ | refine w_regionL ?_ | refine w_norm ?_ | refine w_exit' ?_ | refine w_ret' ?_ | refine w_block ?_ | refine w_scope ?_ | refine w_skip ?_ | refine w_ret ?_ | refine w_exit ?_ | refine w_label ?_ | refine wo_nil ⟨rfl, ?_⟩ | ((first | apply o_assign | apply o_move | apply o_bin) <;> first | refine wo_id ?_ | refine wc_id ?_ | ((with_reducible apply look_id); (exact look_by); done) | ((with_reducible apply bin_id); (exact bin_by); done) | exact rfl) | ((first | apply b_cond | apply b_pick | apply b_in) <;> first | refine wo_id ?_ | refine wc_id ?_ | ((with_reducible apply look_id); (exact look_by); done) | ((with_reducible apply yield_id); ((apply yield_of; (focus exact rfl); (focus exact lk_by))); done) | (first | exact tt | exact ff | assumption | exact decide_eq_true (by omega) | exact decide_eq_false (by omega))) | (apply b_out <;> first | refine wo_id ?_ | ((with_reducible apply yield_id); ((apply yield_of; (focus exact rfl); (focus exact lk_by))); done) | (first | exact tt | exact ff | assumption | exact decide_eq_true (by omega) | exact decide_eq_false (by omega))) | (apply g_undef; (focus (apply yield_none; (focus exact rfl); (focus exact lk_by))))))
      (apply ends_ret; (focus exact (e_tmp res_nil)))
      exact ⟨_, by exact fz_by⟩
  · rw [if_neg (fun h => h1 h.1)]
    (repeat (first | refine w_seq ?_ | refine w_regionL ?_ | refine w_norm ?_ | refine w_exit' ?_ | refine w_ret' ?_ | refine w_block ?_ | refine w_scope ?_ | refine w_skip ?_ | refine w_ret ?_ | refine w_exit ?_ | refine w_label ?_ | refine wo_nil ⟨rfl, ?_⟩ | ((first | apply o_assign | apply o_move | apply o_bin) <;> first | refine wo_id ?_ | refine wc_id ?_ | ((with_reducible apply look_id); (exact look_by); done) | ((with_reducible apply bin_id); (exact bin_by); done) | exact rfl) | ((first | apply b_cond | apply b_pick | apply b_in) <;> first | refine wo_id ?_ | refine wc_id ?_ | ((with_reducible apply look_id); (exact look_by); done) | ((with_reducible apply yield_id); ((apply yield_of; (focus exact rfl); (focus exact lk_by))); done) | (first | exact tt | exact ff | assumption | exact decide_eq_true (by omega) | exact decide_eq_false (by omega))) | (apply b_out <;> first | refine wo_id ?_ | ((with_reducible apply yield_id); ((apply yield_of; (focus exact rfl); (focus exact lk_by))); done) | (first | exact tt | exact ff | assumption | exact decide_eq_true (by omega) | exact decide_eq_false (by omega))) | (apply g_undef; (focus (apply yield_none; (focus exact rfl); (focus exact lk_by))))))
    (apply ends_ret; (focus exact (e_tmp res_nil)))
    exact ⟨_, by exact fz_by⟩
theorem sp_kfifoNew (p : Int) : pcall (Ew Try.prog cfg) 15 [.sc (.int .i64 p)] = some (.tup [.pv (.agg [.sc (.int .i64 (if 1 ≤ p ∧ p ≤ 16 then p else 0))]), .pv (.sc (.int .i64 (legal3 p)))]) := by
  refine pcall_wc Try.func15 rfl (by decide) ?_ rfl
  show wc _ _ _ (.pv (.sc (.int .i64 p)) :: List.replicate 12 undefV) _ _
  have hl := sp_legal 2 p (by omega)
  unfold legal3 at hl ⊢
  by_cases h : 1 ≤ p ∧ p ≤ 16
  · rw [if_pos h] at hl ⊢
    rw [if_pos h]
    (repeat (first | refine w_seq ?_ | refine w_regionL ?_ | refine w_norm ?_ | refine w_exit' ?_ | refine w_ret' ?_ | refine w_block ?_ | refine w_scope ?_ | refine w_skip ?_ | refine w_ret ?_ | refine w_exit ?_ | refine w_label ?_ | refine wo_nil ⟨rfl, ?_⟩ | ((first | apply o_alloc | apply o_assign | apply o_move | apply o_bin | apply o_buildP | apply o_storep) <;> first | refine wo_id ?_ | refine wc_id ?_ | ((with_reducible apply look_id); (exact look_by); done) | ((with_reducible apply bin_id); (exact bin_by); done) | ((with_reducible apply cells_id); (exact cells_by); done) | ((with_reducible apply next_id); (exact next_by); done) | ((with_reducible apply get_id); (exact get_by); done) | ((with_reducible apply setAt_id); (exact setat_by); done) | ((with_reducible apply parts_id); (exact parts_by); done) | exact ze26 | exact bp26 | exact sz26 | assumption | exact rfl) | (apply o_pcall; (focus exact args_by); (focus exact hb46); (focus exact rfl); (focus ((repeat (first | exact frzAll_nil | apply frzAll_pv)); done)); (focus exact hl)) | ((first | apply b_cond) <;> first | refine wo_id ?_ | refine wc_id ?_ | ((with_reducible apply look_id); (exact look_by); done) | (first | exact tt | exact ff | assumption))))
    (apply ends_ret; (focus exact (e_cela ag26 sz26 (e_tmp res_nil))))
    exact ⟨_, by exact fz_by⟩
  · rw [if_neg h] at hl ⊢
    rw [if_neg h]
    (repeat (first | refine w_seq ?_ | refine w_regionL ?_ | refine w_norm ?_ | refine w_exit' ?_ | refine w_ret' ?_ | refine w_block ?_ | refine w_scope ?_ | refine w_skip ?_ | refine w_ret ?_ | refine w_exit ?_ | refine w_label ?_ | refine wo_nil ⟨rfl, ?_⟩ | ((first | apply o_alloc | apply o_assign | apply o_move | apply o_bin | apply o_buildP | apply o_storep) <;> first | refine wo_id ?_ | refine wc_id ?_ | ((with_reducible apply look_id); (exact look_by); done) | ((with_reducible apply bin_id); (exact bin_by); done) | ((with_reducible apply cells_id); (exact cells_by); done) | ((with_reducible apply next_id); (exact next_by); done) | ((with_reducible apply get_id); (exact get_by); done) | ((with_reducible apply setAt_id); (exact setat_by); done) | ((with_reducible apply parts_id); (exact parts_by); done) | exact ze26 | exact bp26 | exact sz26 | assumption | exact rfl) | (apply o_pcall; (focus exact args_by); (focus exact hb46); (focus exact rfl); (focus ((repeat (first | exact frzAll_nil | apply frzAll_pv)); done)); (focus exact hl)) | ((first | apply b_cond) <;> first | refine wo_id ?_ | refine wc_id ?_ | ((with_reducible apply look_id); (exact look_by); done) | (first | exact tt | exact ff | assumption))))
    (apply ends_ret; (focus exact (e_cela ag26 sz26 (e_tmp res_nil))))
    exact ⟨_, by exact fz_by⟩
theorem aw9 : pcall (Ew Try.prog cfg) 13 [] = some (.pv (.sc (.bool true))) := pcall_evN (n := 300) (by kernel_rfl)
end Go.Proofs.Ytnolgpagdjcjbaa.Ve
