import Derived.Test.YtnolgpagdjcjbaaVeCfg1
import Derived.Test.YtnolgpagdjcjbaaVeZ
set_option linter.unusedVariables false
set_option linter.unusedSimpArgs false
namespace Go.Proofs.Ytnolgpagdjcjbaa.Ve
open Go
theorem wrap_id {n : Int} (h0 : -(2 ^ 63) ≤ n) (h1 : n < 2 ^ 63) : IntKind.i64.wrap n = n := by
  have e : n % 2 ^ IntKind.i64.bits = n % 2 ^ 64 := rfl
  simp only [IntKind.wrap, e]
  have hb : IntKind.i64.bits = 64 := rfl
  have hs : IntKind.i64.signed = true := rfl
  rw [hb, hs]
  simp only [Bool.true_and, decide_eq_true_eq]
  split <;> omega
theorem wrap_u64 {n : Int} (h0 : 0 ≤ n) (h1 : n < 2 ^ 64) : IntKind.u64.wrap n = n := by
  have hb : IntKind.u64.bits = 64 := rfl
  have hs : IntKind.u64.signed = false := rfl
  simp only [IntKind.wrap, hb, hs, Bool.false_and]
  have : n % 2 ^ 64 = n := Int.emod_eq_of_lt h0 h1
  rw [this]
  simp

/-- A draw among so many. -/
def into (draw n : Int) : Int := if n ≤ 0 then 0 else draw % n
theorem into_emod (draw n : Int) (h : 0 < n) (hd : -(2 ^ 63) ≤ draw ∧ draw < 2 ^ 63) (hn : n < 2 ^ 63) : (if draw.tmod n < 0 then IntKind.i64.wrap (draw.tmod n + n) else draw.tmod n) = into draw n := by
  unfold into
  have hn0 : ¬ n ≤ 0 := by omega
  simp only [hn0, if_false]
  have h4 := Int.emod_nonneg draw (show n ≠ 0 by omega)
  have h5 := Int.emod_lt_of_pos draw h
  have h0 : (n.natAbs : Int) = n := by omega
  have h3 := Int.tmod_eq_emod (a := draw) (b := n)
  split at h3
  · have h6 : ¬ draw.tmod n < 0 := by omega
    rw [if_neg h6]
    omega
  · have hd : ¬ n ∣ draw := by
      intro hh
      simp [hh] at *
    have h7 : draw % n ≠ 0 := fun e => hd (Int.dvd_of_emod_eq_zero e)
    have h6 : draw.tmod n < 0 := by omega
    rw [if_pos h6, wrap_id (by omega) (by omega)]
    omega
theorem sp_into (a n : Int) (ha : -(2 ^ 63) ≤ a ∧ a < 2 ^ 63) (hn : n < 2 ^ 63) : pcall (Ew Try.prog cfg) 62 [.sc (.int .i64 a), .sc (.int .i64 n)] = some (.pv (.sc (.int .i64 (into a n)))) := by
  refine pcall_wc Try.func62 rfl (by decide) ?_ rfl
  show wc _ _ _ (.pv (.sc (.int .i64 a)) :: .pv (.sc (.int .i64 n)) :: List.replicate 14 undefV) _ _
  by_cases h : n ≤ 0
  · (repeat (first | refine w_seq ?_ | refine w_regionL ?_ | refine w_norm ?_ | refine w_exit' ?_ | refine w_ret' ?_ | refine w_block ?_ | refine w_scope ?_ | refine w_skip ?_ | refine w_ret ?_ | refine w_exit ?_ | refine w_label ?_ | refine wo_nil ⟨rfl, ?_⟩ | ((first | apply o_assign | apply o_move | apply o_bin) <;> first | refine wo_id ?_ | refine wc_id ?_ | ((with_reducible apply look_id); (exact look_by); done) | ((with_reducible apply bin_id); (exact bin_by); done) | exact rfl) | ((first | apply b_cond) <;> first | refine wo_id ?_ | refine wc_id ?_ | ((with_reducible apply look_id); (exact look_by); done) | (first | exact tt | exact ff | assumption | exact decide_eq_true (by omega) | exact decide_eq_false (by omega)))))
    (apply ends_ret; (focus exact (e_tmp res_nil)))
    exact ⟨[], by unfold into; rw [if_pos h]; rfl⟩
  · have hne : n ≠ 0 := by omega
    have hi := into_emod a n (by omega) ha hn
    by_cases h2 : a.tmod n < 0
    · rw [if_pos h2] at hi
      (repeat (first | refine w_seq ?_ | refine w_regionL ?_ | refine w_norm ?_ | refine w_exit' ?_ | refine w_ret' ?_ | refine w_block ?_ | refine w_scope ?_ | refine w_skip ?_ | refine w_ret ?_ | refine w_exit ?_ | refine w_label ?_ | refine wo_nil ⟨rfl, ?_⟩ | ((first | apply o_assign | apply o_move | apply o_bin) <;> first | refine wo_id ?_ | refine wc_id ?_ | ((with_reducible apply look_id); (exact look_by); done) | ((with_reducible apply bin_id); (exact bin_by); done) | exact rfl) | ((first | apply b_cond) <;> first | refine wo_id ?_ | refine wc_id ?_ | ((with_reducible apply look_id); (exact look_by); done) | (first | exact tt | exact ff | assumption | exact decide_eq_true (by omega) | exact decide_eq_false (by omega)))))
      (apply ends_ret; (focus exact (e_tmp res_nil)))
      exact ⟨[], by rw [hi]; rfl⟩
    · rw [if_neg h2] at hi
      (repeat (first | refine w_seq ?_ | refine w_regionL ?_ | refine w_norm ?_ | refine w_exit' ?_ | refine w_ret' ?_ | refine w_block ?_ | refine w_scope ?_ | refine w_skip ?_ | refine w_ret ?_ | refine w_exit ?_ | refine w_label ?_ | refine wo_nil ⟨rfl, ?_⟩ | ((first | apply o_assign | apply o_move | apply o_bin) <;> first | refine wo_id ?_ | refine wc_id ?_ | ((with_reducible apply look_id); (exact look_by); done) | ((with_reducible apply bin_id); (exact bin_by); done) | exact rfl) | ((first | apply b_cond) <;> first | refine wo_id ?_ | refine wc_id ?_ | ((with_reducible apply look_id); (exact look_by); done) | (first | exact tt | exact ff | assumption | exact decide_eq_true (by omega) | exact decide_eq_false (by omega)))))
      (apply ends_ret; (focus exact (e_tmp res_nil)))
      exact ⟨[], by rw [hi]; rfl⟩
end Go.Proofs.Ytnolgpagdjcjbaa.Ve
