import Derived.Test.YtnolgpagdjcjbaaTn
set_option linter.unusedVariables false
set_option linter.unusedSimpArgs false
namespace Go.Proofs.Ytnolgpagdjcjbaa.Ve
open Go
theorem sp_into (a n : Int) (ha : -(2 ^ 63) ≤ a ∧ a < 2 ^ 63) (hn : n < 2 ^ 63) : pcall (Ew Try.prog cfg) 62 [.sc (.int .i64 a), .sc (.int .i64 n)] = some (.pv (.sc (.int .i64 (into a n)))) := by
  refine pcall_wc Try.func62 rfl (by decide) ?_ rfl
  show wc _ _ _ (.pv (.sc (.int .i64 a)) :: .pv (.sc (.int .i64 n)) :: List.replicate 14 undefV) _ _
  by_cases h : n ≤ 0
  · (repeat (first | refine w_seq ?_ | refine w_regionL ?_ | refine w_norm ?_ | refine w_exit' ?_ | refine w_ret' ?_ | refine w_block ?_ | refine w_scope ?_ | refine w_skip ?_ | refine w_ret ?_ | refine w_exit ?_ | refine w_label ?_ | refine wo_nil ⟨rfl, ?_⟩ | ((first | apply o_assign | apply o_move | apply o_bin) <;> first | refine wo_id ?_ | refine wc_id ?_ | ((with_reducible apply look_id); (exact look_by); done) | ((with_reducible apply bin_id); (exact bin_by); done) | exact rfl) | ((first | apply b_cond) <;> first | refine wo_id ?_ | refine wc_id ?_ | ((with_reducible apply look_id); (exact look_by); done) | (first | exact tt | exact ff | assumption | exact decide_eq_true (by omega) | exact decide_eq_false (by omega)))))
    (apply ends_ret; (focus exact (e_tmp res_nil)))
    exact ⟨[], by unfold into; rw [if_pos h]; rfl⟩
  · have hne : n ≠ 0 := by omega
    have hi := into_emod a n (by omega) ha hn
    by_cases h2 : a.tmod n < 0
    · rw [if_pos h2] at hi
      (repeat (first | refine w_seq ?_ | refine w_regionL ?_ | refine w_norm ?_ | refine w_exit' ?_ | refine w_ret' ?_ | refine w_block ?_ | refine w_scope ?_ | refine w_skip ?_ | refine w_ret ?_ | refine w_exit ?_ | refine w_label ?_ | refine wo_nil ⟨rfl, ?_⟩ | ((first | apply o_assign | apply o_move | apply o_bin) <;> first | refine wo_id ?_ | refine wc_id ?_ | ((with_reducible apply look_id); (exact look_by); done) | ((with_reducible apply bin_id); (exact bin_by); done) | exact rfl) | ((first | apply b_cond) <;> first | refine wo_id ?_ | refine wc_id ?_ | ((with_reducible apply look_id); (exact look_by); done) | (first | exact tt | exact ff | assumption | exact decide_eq_true (by omega) | exact decide_eq_false (by omega)))))
      (apply ends_ret; (focus exact (e_tmp res_nil)))
      exact ⟨[], by rw [hi]; rfl⟩
    · rw [if_neg h2] at hi
      (repeat (first | refine w_seq ?_ | refine w_regionL ?_ | refine w_norm ?_ | refine w_exit' ?_ | refine w_ret' ?_ | refine w_block ?_ | refine w_scope ?_ | refine w_skip ?_ | refine w_ret ?_ | refine w_exit ?_ | refine w_label ?_ | refine wo_nil ⟨rfl, ?_⟩ | ((first | apply o_assign | apply o_move | apply o_bin) <;> first | refine wo_id ?_ | refine wc_id ?_ | ((with_reducible apply look_id); (exact look_by); done) | ((with_reducible apply bin_id); (exact bin_by); done) | exact rfl) | ((first | apply b_cond) <;> first | refine wo_id ?_ | refine wc_id ?_ | ((with_reducible apply look_id); (exact look_by); done) | (first | exact tt | exact ff | assumption | exact decide_eq_true (by omega) | exact decide_eq_false (by omega)))))
      (apply ends_ret; (focus exact (e_tmp res_nil)))
      exact ⟨[], by rw [hi]; rfl⟩
end Go.Proofs.Ytnolgpagdjcjbaa.Ve
