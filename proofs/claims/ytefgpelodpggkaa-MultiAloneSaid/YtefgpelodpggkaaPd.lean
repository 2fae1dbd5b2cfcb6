import Derived.Test.YtefgpelodpggkaaPc
set_option linter.unusedVariables false
set_option linter.unusedSimpArgs false
namespace Go.Proofs.Ytefgpelodpggkaa.Ve
open Go XFlt
set_option maxRecDepth 4000
set_option maxHeartbeats 8000000
theorem sp_rBits (b : Nat) : pcall (Ew Try.prog cfg) 59 [.sc (.int .u64 b)] = some (.pv (.sc (.int .u64 (canonB b)))) := by
  have ht : (b : Int).tmod 9223372036854775808 = ((mag b : Nat) : Int) := rfl
  have hne : (9223372036854775808 : Int) ≠ 0 := by decide
  refine pcall_wc Try.func59 rfl (by decide) ?_ rfl
  show wc _ _ _ (.pv (.sc (.int .u64 b)) :: List.replicate 6 undefV) _ _
  by_cases h : nan b = true
  · have h' : 9218868437227405312 < mag b := of_decide_eq_true h
    rw [canon_nan h]
    (repeat (first | refine w_seq ?_ | refine w_regionL ?_ | refine w_norm ?_ | refine w_ret' ?_ | refine w_ret ?_ | refine wo_nil ⟨rfl, ?_⟩ | ((first | apply o_assign | apply o_move | apply o_bin) <;> first | refine wo_id ?_ | ((with_reducible apply look_id); (exact look_by); done) | ((with_reducible apply bin_id); (exact bin_by); done) | exact rfl) | ((first | apply b_cond) <;> first | refine wc_id ?_ | ((with_reducible apply look_id); (exact look_by); done) | (first | ((apply ut); (rw [ht]; exact decide_eq_true (by omega)))))))
    (apply ends_ret; (focus exact (e_tmp res_nil)))
    exact ⟨_, by exact fz_by⟩
  · have h : nan b = false := by simpa using h
    have h' : ¬ 9218868437227405312 < mag b := of_decide_eq_false h
    rw [canon_num h]
    (repeat (first | refine w_seq ?_ | refine w_regionL ?_ | refine w_norm ?_ | refine w_skip ?_ | refine w_ret ?_ | refine wo_nil ⟨rfl, ?_⟩ | ((first | apply o_assign | apply o_move | apply o_bin) <;> first | refine wo_id ?_ | ((with_reducible apply look_id); (exact look_by); done) | ((with_reducible apply bin_id); (exact bin_by); done) | exact rfl) | ((first | apply b_cond) <;> first | refine wc_id ?_ | ((with_reducible apply look_id); (exact look_by); done) | (first | ((apply uf); (rw [ht]; exact decide_eq_false (by omega)))))))
    (apply ends_ret; (focus exact (e_tmp res_nil)))
    exact ⟨_, by exact fz_by⟩
theorem sp_rKey (b : Nat) (hb : b < 2 ^ 64) : pcall (Ew Try.prog cfg) 60 [.sc (.int .u64 b)] = some (.pv (.sc (.int .u64 (keyB b)))) := by
  have hc := sp_rBits b
  have hl := canon_lt hb
  refine pcall_wc Try.func60 rfl (by decide) ?_ rfl
  show wc _ _ _ (.pv (.sc (.int .u64 b)) :: List.replicate 10 undefV) _ _
  by_cases h : 9223372036854775808 ≤ canonB b
  · have w1 : IntKind.u64.wrap (18446744073709551615 - (canonB b : Int)) = (keyB b : Int) := by
      rw [keyB_hi h, wrap_u64 (by omega) (by omega)]
      omega
    generalize (keyB b : Int) = z at w1 ⊢
    generalize canonB b = c at *
    (repeat (first | refine w_seq ?_ | refine w_regionL ?_ | refine w_norm ?_ | refine w_ret' ?_ | refine w_ret ?_ | refine wo_nil ⟨rfl, ?_⟩ | (apply o_bin; (focus (exact look_by; done)); (focus (exact look_by; done)); (focus exact br_subw w1); (focus exact rfl)) | ((first | apply o_assign | apply o_move | apply o_bin) <;> first | refine wo_id ?_ | ((with_reducible apply look_id); (exact look_by); done) | ((with_reducible apply bin_id); (exact bin_by); done) | exact rfl) | (apply o_pcall; (focus exact args_by); (focus exact hb59); (focus exact rfl); (focus ((repeat (first | exact frzAll_nil | apply frzAll_pv)); done)); (focus exact hc)) | ((first | apply b_cond) <;> first | refine wc_id ?_ | ((with_reducible apply look_id); (exact look_by); done) | (first | exact decide_eq_true (by omega)))))
    (apply ends_ret; (focus exact (e_tmp res_nil)))
    exact ⟨_, by exact fz_by⟩
  · have w1 : IntKind.u64.wrap ((canonB b : Int) + 9223372036854775808) = (keyB b : Int) := by
      rw [keyB_lo h, wrap_u64 (by omega) (by omega)]
      omega
    generalize (keyB b : Int) = z at w1 ⊢
    generalize canonB b = c at *
    (repeat (first | refine w_seq ?_ | refine w_regionL ?_ | refine w_norm ?_ | refine w_skip ?_ | refine w_ret ?_ | refine wo_nil ⟨rfl, ?_⟩ | (apply o_bin; (focus (exact look_by; done)); (focus (exact look_by; done)); (focus exact br_addw w1); (focus exact rfl)) | ((first | apply o_assign | apply o_move | apply o_bin) <;> first | refine wo_id ?_ | ((with_reducible apply look_id); (exact look_by); done) | ((with_reducible apply bin_id); (exact bin_by); done) | exact rfl) | (apply o_pcall; (focus exact args_by); (focus exact hb59); (focus exact rfl); (focus ((repeat (first | exact frzAll_nil | apply frzAll_pv)); done)); (focus exact hc)) | ((first | apply b_cond) <;> first | refine wc_id ?_ | ((with_reducible apply look_id); (exact look_by); done) | (first | exact decide_eq_false (by omega)))))
    (apply ends_ret; (focus exact (e_tmp res_nil)))
    exact ⟨_, by exact fz_by⟩
theorem sp_rCmp (a b : Nat) (ha : a < 2 ^ 64) (hb : b < 2 ^ 64) : pcall (Ew Try.prog cfg) 49 [.sc (.int .u64 a), .sc (.int .u64 b)] = some (.pv (.sc (.int .i64 (cmpB a b)))) := by
  have h1 := sp_rKey a ha
  have h2 := sp_rKey b hb
  refine pcall_wc Try.func49 rfl (by decide) ?_ rfl
  show wc _ _ _ (.pv (.sc (.int .u64 a)) :: .pv (.sc (.int .u64 b)) :: List.replicate 13 undefV) _ _
  unfold cmpB
  generalize keyB a = x at h1 ⊢
  generalize keyB b = y at h2 ⊢
  by_cases c1 : x < y
  · rw [if_pos c1]
    (repeat (first | refine w_seq ?_ | refine w_regionL ?_ | refine w_norm ?_ | refine w_ret' ?_ | refine w_ret ?_ | refine wo_nil ⟨rfl, ?_⟩ | ((first | apply o_assign | apply o_move | apply o_bin) <;> first | refine wo_id ?_ | ((with_reducible apply look_id); (exact look_by); done) | ((with_reducible apply bin_id); (exact bin_by); done) | exact rfl) | (apply o_pcall; (focus exact args_by); (focus exact hb60); (focus exact rfl); (focus ((repeat (first | exact frzAll_nil | apply frzAll_pv)); done)); (focus (first | exact h1 | exact h2))) | ((first | apply b_cond) <;> first | refine wc_id ?_ | ((with_reducible apply look_id); (exact look_by); done) | (first | exact decide_eq_true (by omega)))))
    (apply ends_ret; (focus exact (e_tmp res_nil)))
    exact ⟨_, by exact fz_by⟩
  · rw [if_neg c1]
    by_cases c2 : y < x
    · rw [if_pos c2]
      (repeat (first | refine w_seq ?_ | refine w_regionL ?_ | refine w_norm ?_ | refine w_ret' ?_ | refine w_skip ?_ | refine w_ret ?_ | refine wo_nil ⟨rfl, ?_⟩ | ((first | apply o_assign | apply o_move | apply o_bin) <;> first | refine wo_id ?_ | ((with_reducible apply look_id); (exact look_by); done) | ((with_reducible apply bin_id); (exact bin_by); done) | exact rfl) | (apply o_pcall; (focus exact args_by); (focus exact hb60); (focus exact rfl); (focus ((repeat (first | exact frzAll_nil | apply frzAll_pv)); done)); (focus (first | exact h1 | exact h2))) | ((first | apply b_cond) <;> first | refine wc_id ?_ | ((with_reducible apply look_id); (exact look_by); done) | (first | exact decide_eq_true (by omega) | exact decide_eq_false (by omega)))))
      (apply ends_ret; (focus exact (e_tmp res_nil)))
      exact ⟨_, by exact fz_by⟩
    · rw [if_neg c2]
      (repeat (first | refine w_seq ?_ | refine w_regionL ?_ | refine w_norm ?_ | refine w_skip ?_ | refine w_ret ?_ | refine wo_nil ⟨rfl, ?_⟩ | ((first | apply o_assign | apply o_move | apply o_bin) <;> first | refine wo_id ?_ | ((with_reducible apply look_id); (exact look_by); done) | ((with_reducible apply bin_id); (exact bin_by); done) | exact rfl) | (apply o_pcall; (focus exact args_by); (focus exact hb60); (focus exact rfl); (focus ((repeat (first | exact frzAll_nil | apply frzAll_pv)); done)); (focus (first | exact h1 | exact h2))) | ((first | apply b_cond) <;> first | refine wc_id ?_ | ((with_reducible apply look_id); (exact look_by); done) | (first | exact decide_eq_false (by omega)))))
      (apply ends_ret; (focus exact (e_tmp res_nil)))
      exact ⟨_, by exact fz_by⟩
theorem sp_r4Cmp (p q : Nat) (v w : Int) (hp : p < 2 ^ 64) (hq : q < 2 ^ 64) : pcall (Ew Try.prog cfg) 30 [.agg [.sc (.int .u64 p), .sc (.int .i64 v)], .agg [.sc (.int .u64 q), .sc (.int .i64 w)]] = some (.pv (.sc (.int .i64 (cmpV p v q w)))) := by
  have h1 := sp_rCmp p q hp hq
  refine pcall_wc Try.func30 rfl (by decide) ?_ rfl
  show wc _ _ _ (.pv (.agg [.sc (.int .u64 p), .sc (.int .i64 v)]) :: .pv (.agg [.sc (.int .u64 q), .sc (.int .i64 w)]) :: List.replicate 28 undefV) _ _
  unfold cmpV
  generalize cmpB p q = z at h1 ⊢
  by_cases c0 : z = 0
  · rw [if_pos c0]
    subst c0
    by_cases c1 : v < w
    · rw [if_pos c1]
      (repeat (first | refine w_seq ?_ | refine w_regionL ?_ | refine w_norm ?_ | refine w_skip ?_ | refine w_ret ?_ | refine wo_nil ⟨rfl, ?_⟩ | ((first | apply o_box | apply o_assign | apply o_fieldAddr | apply o_load | apply o_move | apply o_bin) <;> first | refine wo_id ?_ | ((with_reducible apply look_id); (exact look_by); done) | ((with_reducible apply bin_id); (exact bin_by); done) | ((with_reducible apply load_id); ((first | (apply ldp; (focus exact get_by); (focus first | exact rfl))); (first | exact part_sc (by first | exact ag2) rfl)); done) | ((with_reducible apply cells_id); (exact cells_by); done) | ((with_reducible apply next_id); (exact next_by); done) | exact fa72_0 _ _ _ | exact rfl) | (apply o_pcall; (focus exact args_by); (focus exact hb49); (focus exact rfl); (focus ((repeat (first | exact frzAll_nil | apply frzAll_pv)); done)); (focus exact h1)) | ((first | apply b_cond | apply b_pick | apply b_in) <;> first | refine wo_id ?_ | refine wc_id ?_ | ((with_reducible apply look_id); (exact look_by); done) | ((with_reducible apply yield_id); ((apply yield_of; (focus exact rfl); (focus exact lk_by))); done) | (first | exact tt | exact ff | exact decide_eq_true (by omega))) | (apply b_out <;> first | refine wo_id ?_ | ((with_reducible apply yield_id); ((apply yield_of; (focus exact rfl); (focus exact lk_by))); done) | (first | exact ff))))
      (apply ends_ret; (focus exact (e_tmp res_nil)))
      exact ⟨_, by exact fz_by⟩
    · rw [if_neg c1]
      by_cases c2 : w < v
      · rw [if_pos c2]
        (repeat (first | refine w_seq ?_ | refine w_regionL ?_ | refine w_norm ?_ | refine w_skip ?_ | refine w_ret ?_ | refine wo_nil ⟨rfl, ?_⟩ | ((first | apply o_box | apply o_assign | apply o_fieldAddr | apply o_load | apply o_move | apply o_bin) <;> first | refine wo_id ?_ | ((with_reducible apply look_id); (exact look_by); done) | ((with_reducible apply bin_id); (exact bin_by); done) | ((with_reducible apply load_id); ((first | (apply ldp; (focus exact get_by); (focus first | exact rfl))); (first | exact part_sc (by first | exact ag2) rfl)); done) | ((with_reducible apply cells_id); (exact cells_by); done) | ((with_reducible apply next_id); (exact next_by); done) | exact fa72_0 _ _ _ | exact rfl) | (apply o_pcall; (focus exact args_by); (focus exact hb49); (focus exact rfl); (focus ((repeat (first | exact frzAll_nil | apply frzAll_pv)); done)); (focus exact h1)) | ((first | apply b_cond | apply b_pick | apply b_in) <;> first | refine wo_id ?_ | refine wc_id ?_ | ((with_reducible apply look_id); (exact look_by); done) | ((with_reducible apply yield_id); ((apply yield_of; (focus exact rfl); (focus exact lk_by))); done) | (first | exact tt | exact decide_eq_true (by omega) | exact decide_eq_false (by omega)))))
        (apply ends_ret; (focus exact (e_tmp res_nil)))
        exact ⟨_, by exact fz_by⟩
      · rw [if_neg c2]
        (repeat (first | refine w_seq ?_ | refine w_regionL ?_ | refine w_norm ?_ | refine w_skip ?_ | refine w_ret ?_ | refine wo_nil ⟨rfl, ?_⟩ | ((first | apply o_box | apply o_assign | apply o_fieldAddr | apply o_load | apply o_move | apply o_bin) <;> first | refine wo_id ?_ | ((with_reducible apply look_id); (exact look_by); done) | ((with_reducible apply bin_id); (exact bin_by); done) | ((with_reducible apply load_id); ((first | (apply ldp; (focus exact get_by); (focus first | exact rfl))); (first | exact part_sc (by first | exact ag2) rfl)); done) | ((with_reducible apply cells_id); (exact cells_by); done) | ((with_reducible apply next_id); (exact next_by); done) | exact fa72_0 _ _ _ | exact rfl) | (apply o_pcall; (focus exact args_by); (focus exact hb49); (focus exact rfl); (focus ((repeat (first | exact frzAll_nil | apply frzAll_pv)); done)); (focus exact h1)) | ((first | apply b_cond | apply b_pick | apply b_in) <;> first | refine wo_id ?_ | refine wc_id ?_ | ((with_reducible apply look_id); (exact look_by); done) | ((with_reducible apply yield_id); ((apply yield_of; (focus exact rfl); (focus exact lk_by))); done) | (first | exact tt | exact decide_eq_false (by omega)))))
        (apply ends_ret; (focus exact (e_tmp res_nil)))
        exact ⟨_, by exact fz_by⟩
  · rw [if_neg c0]
    (repeat (first | refine w_seq ?_ | refine w_regionL ?_ | refine w_norm ?_ | refine w_skip ?_ | refine w_ret ?_ | refine wo_nil ⟨rfl, ?_⟩ | ((first | apply o_box | apply o_assign | apply o_fieldAddr | apply o_load | apply o_move | apply o_bin) <;> first | refine wo_id ?_ | ((with_reducible apply look_id); (exact look_by); done) | ((with_reducible apply bin_id); (exact bin_by); done) | ((with_reducible apply load_id); ((first | (apply ldp; (focus exact get_by); (focus first | exact rfl))); (first | exact part_sc (by first | exact ag2) rfl)); done) | ((with_reducible apply cells_id); (exact cells_by); done) | ((with_reducible apply next_id); (exact next_by); done) | exact fa72_0 _ _ _ | exact rfl) | (apply o_pcall; (focus exact args_by); (focus exact hb49); (focus exact rfl); (focus ((repeat (first | exact frzAll_nil | apply frzAll_pv)); done)); (focus exact h1)) | ((first | apply b_cond | apply b_pick | apply b_in) <;> first | refine wo_id ?_ | refine wc_id ?_ | ((with_reducible apply look_id); (exact look_by); done) | ((with_reducible apply yield_id); ((apply yield_of; (focus exact rfl); (focus exact lk_by))); done) | (first | exact ff | exact decide_eq_false (by omega))) | (apply b_out <;> first | refine wo_id ?_ | ((with_reducible apply yield_id); ((apply yield_of; (focus exact rfl); (focus exact lk_by))); done) | (first | exact ff | exact decide_eq_false (by omega)))))
    (apply ends_ret; (focus exact (e_tmp res_nil)))
    exact ⟨_, by exact fz_by⟩
-- the order --------------------------------------------------------------------------
theorem keyB_inj {a b : Nat} (ha : a < 2 ^ 64) (hb : b < 2 ^ 64) (h : keyB a = keyB b) : canonB a = canonB b := by
  have h1 := canon_lt ha
  have h2 := canon_lt hb
  unfold keyB at h
  split at h <;> split at h <;> omega
theorem cmpB_zero {a b : Nat} (ha : a < 2 ^ 64) (hb : b < 2 ^ 64) : cmpB a b = 0 ↔ canonB a = canonB b := by
  constructor
  · intro h
    refine keyB_inj ha hb ?_
    unfold cmpB at h
    split at h
    · omega
    · split at h <;> omega
  · intro h
    have e : keyB a = keyB b := by unfold keyB; rw [h]
    unfold cmpB
    rw [e, if_neg (Nat.lt_irrefl _), if_neg (Nat.lt_irrefl _)]
theorem cmpB_swap (a b : Nat) : cmpB b a = - cmpB a b := by
  unfold cmpB
  by_cases h1 : keyB a < keyB b
  · rw [if_neg (by omega), if_pos h1, if_pos h1]
    rfl
  · by_cases h2 : keyB b < keyB a
    · rw [if_pos h2, if_neg h1, if_pos h2]
    · rw [if_neg h2, if_neg h1, if_neg h1, if_neg h2]
      rfl
theorem cmpV_swap (p q : Nat) (v w : Int) : cmpV q w p v = - cmpV p v q w := by
  unfold cmpV
  rw [cmpB_swap p q]
  by_cases h : cmpB p q = 0
  · rw [if_pos (by omega), if_pos h]
    split <;> split <;> omega
  · rw [if_neg (by omega), if_neg h]
theorem cmpV_zero {p q : Nat} {v w : Int} (hp : p < 2 ^ 64) (hq : q < 2 ^ 64) : cmpV p v q w = 0 ↔ canonB p = canonB q ∧ v = w := by
  rw [← cmpB_zero hp hq]
  unfold cmpV
  by_cases h : cmpB p q = 0
  · rw [if_pos h]
    constructor
    · intro h2
      refine ⟨h, ?_⟩
      split at h2
      · omega
      · split at h2 <;> omega
    · rintro ⟨-, rfl⟩
      rw [if_neg (by omega), if_neg (by omega)]
  · rw [if_neg h]
    exact ⟨fun h2 => absurd h2 h, fun h2 => absurd h2.1 h⟩
theorem cmpB_le (a b : Nat) : cmpB a b ≤ 0 ↔ keyB a ≤ keyB b := by
  unfold cmpB
  split
  · omega
  · split <;> omega
theorem cmpV_le (p q : Nat) (v w : Int) : cmpV p v q w ≤ 0 ↔ keyB p < keyB q ∨ keyB p = keyB q ∧ v ≤ w := by
  unfold cmpV cmpB
  by_cases h1 : keyB p < keyB q
  · rw [if_pos h1]
    simp
    omega
  · by_cases h2 : keyB q < keyB p
    · rw [if_neg h1, if_pos h2]
      simp
      omega
    · rw [if_neg h1, if_neg h2, if_pos rfl]
      split
      · omega
      · split <;> omega
theorem cmpV_trans {p q r : Nat} {v w u : Int} (h1 : cmpV p v q w ≤ 0) (h2 : cmpV q w r u ≤ 0) : cmpV p v r u ≤ 0 := by
  rw [cmpV_le] at *
  omega
theorem canonB_idem (b : Nat) : canonB (canonB b) = canonB b := by
  cases h : nan b
  · rw [canon_num h, canon_num h]
  · rw [canon_nan h]
    rfl
theorem keyB_canon (b : Nat) : keyB (canonB b) = keyB b := by
  unfold keyB
  rw [canonB_idem]
theorem cmpV_canon (p q : Nat) (v w : Int) : cmpV (canonB p) v (canonB q) w = cmpV p v q w := by
  unfold cmpV cmpB
  rw [keyB_canon, keyB_canon]
theorem cmpV_rng (p q : Nat) (v w : Int) : -1 ≤ cmpV p v q w ∧ cmpV p v q w ≤ 1 := by
  unfold cmpV cmpB
  split <;> split <;> (try split) <;> omega
end Go.Proofs.Ytefgpelodpggkaa.Ve
