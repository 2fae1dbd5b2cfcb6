import Derived.Test.YtnolgpagdjcjbaaRe
set_option linter.unusedVariables false
set_option linter.unusedSimpArgs false
namespace Go.Proofs.Ytnolgpagdjcjbaa.Ve
open Go
set_option maxRecDepth 4000
set_option maxHeartbeats 4000000
/-- An operation in the making. -/
structure Rw where
  k : Int
  pri : Nat
  val : Int
  d0 : Int
  d1 : Int
def rRw (x : Rw) : List PV := [.sc (.int .i64 x.k), .sc (.int .u64 x.pri), .sc (.int .i64 x.val), .sc (.int .i64 x.d0), .sc (.int .i64 x.d1)]
def i64 (n : Int) : Prop := -(2 ^ 63) ≤ n ∧ n < 2 ^ 63
structure RwOk (x : Rw) : Prop where
  k : i64 x.k
  pri : x.pri < 2 ^ 64
  val : i64 x.val
  d0 : i64 x.d0
  d1 : i64 x.d1
/-- Bits made canonical. -/
def canon (b : Nat) : Nat := if 9218868437227405312 < b % 9223372036854775808 then 9221120237041090560 else b
theorem sp_bits (b : Nat) : pcall (Ew Try.prog cfg) 54 [.sc (.int .u64 b)] = some (.pv (.sc (.int .u64 (canon b)))) := by
  refine pcall_wc Try.func54 rfl (by decide) ?_ rfl
  show wc _ _ _ (.pv (.sc (.int .u64 b)) :: List.replicate 6 undefV) _ _
  have ht : (b : Int).tmod 9223372036854775808 = ((b % 9223372036854775808 : Nat) : Int) := by
    rw [Int.tmod_eq_emod_of_nonneg (by omega)]
    omega
  unfold canon
  by_cases h : 9218868437227405312 < b % 9223372036854775808
  · rw [if_pos h]
    (repeat (first | refine w_seq ?_ | refine w_regionL ?_ | refine w_norm ?_ | refine w_ret' ?_ | refine w_ret ?_ | refine wo_nil ⟨rfl, ?_⟩ | ((first | apply o_assign | apply o_move | apply o_bin) <;> first | refine wo_id ?_ | ((with_reducible apply look_id); (exact look_by); done) | ((with_reducible apply bin_id); (exact bin_by); done) | exact rfl) | ((first | apply b_cond) <;> first | refine wc_id ?_ | ((with_reducible apply look_id); (exact look_by); done) | (first | exact decide_eq_true (by rw [ht]; omega)))))
    (apply ends_ret; (focus exact (e_tmp res_nil)))
    exact ⟨_, by exact fz_by⟩
  · rw [if_neg h]
    (repeat (first | refine w_seq ?_ | refine w_regionL ?_ | refine w_norm ?_ | refine w_skip ?_ | refine w_ret ?_ | refine wo_nil ⟨rfl, ?_⟩ | ((first | apply o_assign | apply o_move | apply o_bin) <;> first | refine wo_id ?_ | ((with_reducible apply look_id); (exact look_by); done) | ((with_reducible apply bin_id); (exact bin_by); done) | exact rfl) | ((first | apply b_cond) <;> first | refine wc_id ?_ | ((with_reducible apply look_id); (exact look_by); done) | (first | exact decide_eq_false (by rw [ht]; omega)))))
    (apply ends_ret; (focus exact (e_tmp res_nil)))
    exact ⟨_, by exact fz_by⟩
theorem sp_make (b : Nat) (v : Int) : pcall (Ew Try.prog cfg) 49 [.sc (.int .u64 b), .sc (.int .i64 v)] = some (.pv (.agg (rIt ⟨canon b, v⟩))) := by
  refine pcall_wc Try.func49 rfl (by decide) ?_ rfl
  show wc _ _ _ (.pv (.sc (.int .u64 b)) :: .pv (.sc (.int .i64 v)) :: List.replicate 7 undefV) _ _
  (repeat (first | refine w_seq ?_ | refine w_regionL ?_ | refine w_norm ?_ | refine w_ret ?_ | refine wo_nil ⟨rfl, ?_⟩ | ((first | apply o_alloc | apply o_move | apply o_buildP | apply o_storep) <;> first | refine wo_id ?_ | ((with_reducible apply look_id); (exact look_by); done) | ((with_reducible apply cells_id); (exact cells_by); done) | ((with_reducible apply next_id); (exact next_by); done) | ((with_reducible apply get_id); (exact get_by); done) | ((with_reducible apply setAt_id); (exact setat_by); done) | ((with_reducible apply parts_id); (exact parts_by); done) | exact ze45 | exact bp45 | exact sz45 | exact rfl) | (apply o_pcall; (focus exact args_by); (focus exact hb54); (focus exact rfl); (focus ((repeat (first | exact frzAll_nil | apply frzAll_pv)); done)); (focus exact sp_bits b))))
  (apply ends_ret; (focus exact (e_cela ag45 sz45 res_nil)))
  exact ⟨_, by exact fz_by⟩
theorem sp_f (b : Nat) : pcall (Ew Try.prog cfg) 66 [.sc (.int .u64 b)] = some (.pv (.sc (.float .f64 b))) := by
  refine pcall_wc Try.func66 rfl (by decide) ?_ rfl
  show wc _ _ _ (.pv (.sc (.int .u64 b)) :: List.replicate 4 undefV) _ _
  (repeat (first | refine w_seq ?_ | refine w_regionL ?_ | refine w_norm ?_ | refine w_ret ?_ | refine wo_nil ⟨rfl, ?_⟩ | ((first | apply o_assign | apply o_move | apply o_ext1) <;> first | refine wo_id ?_ | ((with_reducible apply look_id); (exact look_by); done) | exact nb_from | exact ext_from _ | exact rfl)))
  (apply ends_ret; (focus exact (e_tmp res_nil)))
  exact ⟨_, by exact fz_by⟩
theorem sp_own4 (x : It) : pcall (Ew Try.prog cfg) 48 [.agg (rIt x)] = some (.pv (.agg (gIt x))) := by
  refine pcall_wc Try.func48 rfl (by decide) ?_ rfl
  show wc _ _ _ (.pv (.agg (rIt x)) :: List.replicate 8 undefV) _ _
  (repeat (first | refine w_seq ?_ | refine w_regionL ?_ | refine w_norm ?_ | refine w_ret ?_ | refine wo_nil ⟨rfl, ?_⟩ | ((first | apply o_box | apply o_alloc | apply o_fieldAddr | apply o_load | apply o_buildP | apply o_storep) <;> first | refine wo_id ?_ | ((with_reducible apply look_id); (exact look_by); done) | ((with_reducible apply load_id); ((first | (apply ldp; (focus exact get_by); (focus first | exact rfl))); (first | exact part_sc (by first | exact ag2) rfl)); done) | ((with_reducible apply cells_id); (exact cells_by); done) | ((with_reducible apply next_id); (exact next_by); done) | ((with_reducible apply get_id); (exact get_by); done) | ((with_reducible apply setAt_id); (exact setat_by); done) | ((with_reducible apply parts_id); (exact parts_by); done) | exact ze35 | exact fa42_0 _ _ _ | exact bp35 | exact sz35 | exact rfl) | (apply o_pcall; (focus exact args_by); (focus exact hb66); (focus exact rfl); (focus ((repeat (first | exact frzAll_nil | apply frzAll_pv)); done)); (focus exact sp_f x.pri))))
  (apply ends_ret; (focus exact (e_cela ag35 sz35 res_nil)))
  exact ⟨_, by exact fz_by⟩
theorem sp_is4 (x y : It) : pcall (Ew Try.prog cfg) 20 [.agg (gIt x), .agg (rIt y)] = some (.pv (.sc (.int .i64 (if x = y then 0 else -1)))) := by
  refine pcall_wc Try.func20 rfl (by decide) ?_ rfl
  show wc _ _ _ (.pv (.agg (gIt x)) :: .pv (.agg (rIt y)) :: List.replicate 16 undefV) _ _
  cases x with
  | mk xp xv =>
  cases y with
  | mk yp yv =>
  simp only [It.mk.injEq]
  by_cases h1 : xp = yp
  · by_cases h2 : xv = yv
    · rw [if_pos ⟨h1, h2⟩]
      (repeat (first | refine w_seq ?_ | refine w_regionL ?_ | refine w_norm ?_ | refine w_skip ?_ | refine w_ret ?_ | refine wo_nil ⟨rfl, ?_⟩ | ((first | apply o_box | apply o_assign | apply o_fieldAddr | apply o_load | apply o_ext1 | apply o_bin | apply o_move) <;> first | refine wo_id ?_ | ((with_reducible apply look_id); (exact look_by); done) | ((with_reducible apply bin_id); (exact bin_by); done) | ((with_reducible apply load_id); ((first | (apply ldp; (focus exact get_by); (focus first | exact rfl))); (first | exact part_sc (by first | exact ag2) rfl)); done) | ((with_reducible apply cells_id); (exact cells_by); done) | ((with_reducible apply next_id); (exact next_by); done) | exact fa35_0 _ _ _ | exact nb_bits | exact ext_bits _ | exact rfl) | ((first | apply b_cond | apply b_pick | apply b_in) <;> first | refine wo_id ?_ | refine wc_id ?_ | ((with_reducible apply look_id); (exact look_by); done) | ((with_reducible apply yield_id); ((apply yield_of; (focus exact rfl); (focus exact lk_by))); done) | (first | exact ff | ((apply uf); (simp; omega))))))
      (apply ends_ret; (focus exact (e_tmp res_nil)))
      exact ⟨_, by exact fz_by⟩
    · rw [if_neg (fun h => h2 h.2)]
      (repeat (first | refine w_seq ?_ | refine w_regionL ?_ | refine w_norm ?_ | refine w_ret' ?_ | refine w_ret ?_ | refine wo_nil ⟨rfl, ?_⟩ | ((first | apply o_box | apply o_assign | apply o_fieldAddr | apply o_load | apply o_ext1 | apply o_bin | apply o_move) <;> first | refine wo_id ?_ | ((with_reducible apply look_id); (exact look_by); done) | ((with_reducible apply bin_id); (exact bin_by); done) | ((with_reducible apply load_id); ((first | (apply ldp; (focus exact get_by); (focus first | exact rfl))); (first | exact part_sc (by first | exact ag2) rfl)); done) | ((with_reducible apply cells_id); (exact cells_by); done) | ((with_reducible apply next_id); (exact next_by); done) | exact fa35_0 _ _ _ | exact nb_bits | exact ext_bits _ | exact rfl) | ((first | apply b_cond | apply b_pick | apply b_in) <;> first | refine wo_id ?_ | refine wc_id ?_ | ((with_reducible apply look_id); (exact look_by); done) | ((with_reducible apply yield_id); ((apply yield_of; (focus exact rfl); (focus exact lk_by))); done) | (first | exact ff | ((apply ut); (simp; omega)) | ((apply uf); (simp; omega))))))
      (apply ends_ret; (focus exact (e_tmp res_nil)))
      exact ⟨_, by exact fz_by⟩
  · rw [if_neg (fun h => h1 h.1)]
    (repeat (first | refine w_seq ?_ | refine w_regionL ?_ | refine w_norm ?_ | refine w_ret' ?_ | refine w_ret ?_ | refine wo_nil ⟨rfl, ?_⟩ | ((first | apply o_box | apply o_assign | apply o_fieldAddr | apply o_load | apply o_ext1 | apply o_bin | apply o_move) <;> first | refine wo_id ?_ | ((with_reducible apply look_id); (exact look_by); done) | ((with_reducible apply bin_id); (exact bin_by); done) | ((with_reducible apply load_id); ((first | (apply ldp; (focus exact get_by); (focus first | exact rfl))); (first | exact part_sc (by first | exact ag2) rfl)); done) | ((with_reducible apply cells_id); (exact cells_by); done) | ((with_reducible apply next_id); (exact next_by); done) | exact fa35_0 _ _ _ | exact nb_bits | exact ext_bits _ | exact rfl) | ((first | apply b_cond | apply b_pick | apply b_in) <;> first | refine wo_id ?_ | refine wc_id ?_ | ((with_reducible apply look_id); (exact look_by); done) | ((with_reducible apply yield_id); ((apply yield_of; (focus exact rfl); (focus exact lk_by))); done) | (first | exact tt | ((apply ut); (simp; omega)))) | (apply b_out <;> first | refine wo_id ?_ | ((with_reducible apply yield_id); ((apply yield_of; (focus exact rfl); (focus exact lk_by))); done) | (first | exact tt | ((apply ut); (simp; omega))))))
    (apply ends_ret; (focus exact (e_tmp res_nil)))
    exact ⟨_, by exact fz_by⟩
/-- An answer. -/
structure An where
  ok : Bool
  it : It
  n : Int
def gAn (a : An) : List PV := [.sc (.bool a.ok), .sc (.float .f64 a.it.pri), .sc (.int .i64 a.it.val), .sc (.int .i64 a.n)]
def rAn (a : An) : List PV := [.sc (.bool a.ok), .sc (.int .u64 a.it.pri), .sc (.int .i64 a.it.val), .sc (.int .i64 a.n)]
theorem sp_isAnswer (a : An) : pcall (Ew Try.prog cfg) 73 [.agg (gAn a), .agg (rAn a)] = some (.pv (.sc (.int .i64 0))) := by
  refine pcall_wc Try.func73 rfl (by decide) ?_ rfl
  show wc _ _ _ (.pv (.agg (gAn a)) :: .pv (.agg (rAn a)) :: List.replicate 20 undefV) _ _
  have h := sp_is4 a.it a.it
  rw [if_pos rfl] at h
  (repeat (first | refine w_seq ?_ | refine w_regionL ?_ | refine w_norm ?_ | refine w_skip ?_ | refine w_ret ?_ | refine wo_nil ⟨rfl, ?_⟩ | ((first | apply o_box | apply o_assign | apply o_fieldAddr | apply o_load | apply o_bin | apply o_move) <;> first | refine wo_id ?_ | ((with_reducible apply look_id); (exact look_by); done) | ((with_reducible apply bin_id); (exact bin_by); done) | ((with_reducible apply load_id); ((first | (apply ldp; (focus exact get_by); (focus first | exact rfl))); (first | exact part_sc (by first | exact ag2) rfl | (apply part_agg; (focus first | exact ag35); (focus first | exact sz35); (focus exact rfl); (focus exact rfl)))); done) | ((with_reducible apply cells_id); (exact cells_by); done) | ((with_reducible apply next_id); (exact next_by); done) | exact fa48_0 _ _ _ | exact rfl) | (apply o_pcall; (focus exact args_by); (focus exact hb20); (focus exact rfl); (focus ((repeat (first | exact frzAll_nil | apply frzAll_pv)); done)); (focus exact h)) | ((first | apply b_cond | apply b_pick | apply b_in) <;> first | refine wo_id ?_ | refine wc_id ?_ | ((with_reducible apply look_id); (exact look_by); done) | ((with_reducible apply yield_id); ((apply yield_of; (focus exact rfl); (focus exact lk_by))); done) | (first | exact ff | ((apply uf); (simp; done))))))
  (apply ends_ret; (focus exact (e_tmp res_nil)))
  exact ⟨_, by exact fz_by⟩
end Go.Proofs.Ytnolgpagdjcjbaa.Ve
