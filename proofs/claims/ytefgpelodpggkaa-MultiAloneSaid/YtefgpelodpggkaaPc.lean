import Derived.Test.YtefgpelodpggkaaTn
import Derived.Test.YtefgpelodpggkaaVeZ
import Derived.Test.YtefgpelodpggkaaFa
set_option linter.unusedVariables false
set_option linter.unusedSimpArgs false
namespace Go.Proofs.Ytefgpelodpggkaa.Ve
open Go XFlt
set_option maxRecDepth 4000
set_option maxHeartbeats 8000000
theorem sp_canonP (b : Nat) : pcall (Ew Try.prog cfg) 92 [.sc (.float .f64 b)] = some (.pv (.sc (.float .f64 (canonB b)))) := by
  refine pcall_wc Try.func92 rfl (by decide) ?_ rfl
  show wc _ _ _ (.pv (.sc (.float .f64 b)) :: List.replicate 7 undefV) _ _
  by_cases h : nan b = true
  · rw [canon_nan h]
    (repeat (first | refine w_seq ?_ | refine w_regionL ?_ | refine w_norm ?_ | refine w_ret' ?_ | refine w_ret ?_ | refine wo_nil ⟨rfl, ?_⟩ | ((first | apply o_assign | apply o_move | apply o_bin | apply o_ext1) <;> first | refine wo_id ?_ | ((with_reducible apply look_id); (exact look_by); done) | ((with_reducible apply bin_id); (exact bin_by); done) | exact nb_from | exact ext_from _ | exact rfl) | ((first | apply b_cond) <;> first | refine wc_id ?_ | ((with_reducible apply look_id); (exact look_by); done) | (first | ((apply ut); (rw [neq_self]; exact h))))))
    (apply ends_ret; (focus exact (e_tmp res_nil)))
    exact ⟨_, by exact fz_by⟩
  · have h : nan b = false := by simpa using h
    rw [canon_num h]
    (repeat (first | refine w_seq ?_ | refine w_regionL ?_ | refine w_norm ?_ | refine w_skip ?_ | refine w_ret ?_ | refine wo_nil ⟨rfl, ?_⟩ | ((first | apply o_assign | apply o_move | apply o_bin) <;> first | refine wo_id ?_ | ((with_reducible apply look_id); (exact look_by); done) | ((with_reducible apply bin_id); (exact bin_by); done) | exact rfl) | ((first | apply b_cond) <;> first | refine wc_id ?_ | ((with_reducible apply look_id); (exact look_by); done) | (first | ((apply uf); (rw [neq_self]; exact h))))))
    (apply ends_ret; (focus exact (e_tmp res_nil)))
    exact ⟨_, by exact fz_by⟩
theorem and63 (c : Nat) (h : c < 2 ^ 64) : IntKind.u64.wrap (BitVec.ofInt IntKind.u64.bits (c : Int) &&& BitVec.ofInt IntKind.u64.bits 9223372036854775808).toNat = if 9223372036854775808 ≤ c then 9223372036854775808 else 0 := by
  have h1 : (BitVec.ofInt IntKind.u64.bits (c : Int) &&& BitVec.ofInt IntKind.u64.bits 9223372036854775808).toNat = if 9223372036854775808 ≤ c then 9223372036854775808 else 0 := by
    rw [BitVec.toNat_and, BitVec.toNat_ofInt, BitVec.toNat_ofInt]
    have hb : ((2 ^ IntKind.u64.bits : Nat) : Int) = 18446744073709551616 := rfl
    rw [hb]
    have e1 : ((9223372036854775808 : Int) % 18446744073709551616).toNat = 2 ^ 63 := by decide
    have e2 : ((c : Int) % 18446744073709551616).toNat = c := by omega
    rw [e1, e2]
    refine Nat.eq_of_testBit_eq fun i => ?_
    rw [Nat.testBit_and, Nat.testBit_two_pow]
    by_cases hi : 63 = i
    · subst hi
      by_cases hc : 9223372036854775808 ≤ c
      · have : c / 2 ^ 63 % 2 = 1 := by omega
        rw [if_pos hc, Nat.testBit_eq_decide_div_mod_eq, this]
        rfl
      · have : c / 2 ^ 63 % 2 = 0 := by omega
        rw [if_neg hc, Nat.testBit_eq_decide_div_mod_eq, this]
        rfl
    · rw [decide_eq_false hi, Bool.and_false]
      split
      · rw [show (9223372036854775808 : Nat) = 2 ^ 63 from rfl, Nat.testBit_two_pow, decide_eq_false hi]
      · simp
  rw [h1]
  split <;> exact wrap_u64 (by decide) (by decide)
theorem or63 (c : Nat) (h : c < 2 ^ 63) : IntKind.u64.wrap (BitVec.ofInt IntKind.u64.bits (c : Int) ||| BitVec.ofInt IntKind.u64.bits 9223372036854775808).toNat = ((c + 9223372036854775808 : Nat) : Int) := by
  have h1 : (BitVec.ofInt IntKind.u64.bits (c : Int) ||| BitVec.ofInt IntKind.u64.bits 9223372036854775808).toNat = c + 9223372036854775808 := by
    rw [BitVec.toNat_or, BitVec.toNat_ofInt, BitVec.toNat_ofInt]
    have hb : ((2 ^ IntKind.u64.bits : Nat) : Int) = 18446744073709551616 := rfl
    rw [hb]
    have e1 : ((9223372036854775808 : Int) % 18446744073709551616).toNat = 2 ^ 63 * 1 := by decide
    have e2 : ((c : Int) % 18446744073709551616).toNat = c := by omega
    rw [e1, e2, Nat.or_comm, ← Nat.two_pow_add_eq_or_of_lt h]
    omega
  rw [h1]
  exact wrap_u64 (by omega) (by omega)
theorem xor63 (c : Nat) (h : c < 2 ^ 64) : IntKind.u64.wrap (BitVec.ofInt IntKind.u64.bits (if IntKind.u64.signed then -1 else IntKind.u64.max) ^^^ BitVec.ofInt IntKind.u64.bits (c : Int)).toNat = ((18446744073709551615 - c : Nat) : Int) := by
  have h0 : BitVec.ofInt IntKind.u64.bits (if IntKind.u64.signed then -1 else IntKind.u64.max) = BitVec.allOnes 64 := rfl
  have h1 : (BitVec.ofInt IntKind.u64.bits (if IntKind.u64.signed then -1 else IntKind.u64.max) ^^^ BitVec.ofInt IntKind.u64.bits (c : Int)).toNat = 18446744073709551615 - c := by
    rw [h0]
    have e2 : (BitVec.ofInt 64 (c : Int)).toNat = c := by
      rw [BitVec.toNat_ofInt]
      omega
    show (BitVec.allOnes 64 ^^^ BitVec.ofInt 64 (c : Int)).toNat = _
    rw [BitVec.allOnes_xor, BitVec.toNat_not, e2]
  rw [h1]
  exact wrap_u64 (by omega) (by omega)
theorem br_andP {P : Program} {t : TypeId} {x y : Operand} {k : IntKind} {a b c : Int} (h : k.wrap (BitVec.ofInt k.bits a &&& BitVec.ofInt k.bits b).toNat = c) : binRun P .and t x y (.int k a) (.int k b) = some (.int k c) := by rw [← h]; exact br_and
theorem br_orP {P : Program} {t : TypeId} {x y : Operand} {k : IntKind} {a b c : Int} (h : k.wrap (BitVec.ofInt k.bits a ||| BitVec.ofInt k.bits b).toNat = c) : binRun P .or t x y (.int k a) (.int k b) = some (.int k c) := by rw [← h]; exact br_or
theorem keyB_hi {b : Nat} (h : 9223372036854775808 ≤ canonB b) : keyB b = 18446744073709551615 - canonB b := if_pos h
theorem keyB_lo {b : Nat} (h : ¬ 9223372036854775808 ≤ canonB b) : keyB b = canonB b + 9223372036854775808 := if_neg h
theorem sp_keyP (b : Nat) (hb : b < 2 ^ 64) : pcall (Ew Try.prog cfg) 102 [.sc (.float .f64 b)] = some (.pv (.sc (.int .u64 (keyB b)))) := by
  have hc := sp_canonP b
  have hl := canon_lt hb
  have ha := and63 (canonB b) hl
  refine pcall_wc Try.func102 rfl (by decide) ?_ rfl
  show wc _ _ _ (.pv (.sc (.float .f64 b)) :: List.replicate 13 undefV) _ _
  by_cases h : 9223372036854775808 ≤ canonB b
  · rw [if_pos h] at ha
    have hx := xor63 (canonB b) hl
    have e : IntKind.u64.wrap (BitVec.ofInt IntKind.u64.bits (if IntKind.u64.signed then -1 else IntKind.u64.max) ^^^ BitVec.ofInt IntKind.u64.bits (canonB b : Int)).toNat = (keyB b : Int) := by rw [hx, keyB_hi h]
    (repeat (first | refine w_seq ?_ | refine w_regionL ?_ | refine w_norm ?_ | refine w_ret' ?_ | refine w_ret ?_ | refine wo_nil ⟨rfl, ?_⟩ | (apply o_bin; (focus (exact look_by; done)); (focus (exact look_by; done)); (focus exact br_andP ha); (focus exact rfl)) | ((first | apply o_assign | apply o_move | apply o_ext1 | apply o_bin | apply o_xor) <;> first | refine wo_id ?_ | ((with_reducible apply look_id); (exact look_by); done) | ((with_reducible apply bin_id); (exact bin_by); done) | exact nb_bits | exact ext_bits _ | exact rfl) | (apply o_pcall; (focus exact args_by); (focus exact hb92); (focus exact rfl); (focus ((repeat (first | exact frzAll_nil | apply frzAll_pv)); done)); (focus exact hc)) | ((first | apply b_cond) <;> first | refine wc_id ?_ | ((with_reducible apply look_id); (exact look_by); done) | (first | exact tt))))
    (apply ends_ret; (focus exact (e_tmp res_nil)))
    rw [← e]
    exact ⟨_, by exact fz_by⟩
  · rw [if_neg h] at ha
    have ho := or63 (canonB b) (by omega)
    rw [← keyB_lo h] at ho
    (repeat (first | refine w_seq ?_ | refine w_regionL ?_ | refine w_norm ?_ | refine w_skip ?_ | refine w_ret ?_ | refine wo_nil ⟨rfl, ?_⟩ | (first | (apply o_bin; (focus (exact look_by; done)); (focus (exact look_by; done)); (focus exact br_andP ha); (focus exact rfl)) | (apply o_bin; (focus (exact look_by; done)); (focus (exact look_by; done)); (focus exact br_orP ho); (focus exact rfl))) | ((first | apply o_assign | apply o_move | apply o_ext1 | apply o_bin) <;> first | refine wo_id ?_ | ((with_reducible apply look_id); (exact look_by); done) | ((with_reducible apply bin_id); (exact bin_by); done) | exact nb_bits | exact ext_bits _ | exact rfl) | (apply o_pcall; (focus exact args_by); (focus exact hb92); (focus exact rfl); (focus ((repeat (first | exact frzAll_nil | apply frzAll_pv)); done)); (focus exact hc)) | ((first | apply b_cond) <;> first | refine wc_id ?_ | ((with_reducible apply look_id); (exact look_by); done) | (first | exact ff))))
    (apply ends_ret; (focus exact (e_tmp res_nil)))
    exact ⟨_, by exact fz_by⟩
theorem sp_cmpP (a b : Nat) (ha : a < 2 ^ 64) (hb : b < 2 ^ 64) : pcall (Ew Try.prog cfg) 101 [.sc (.float .f64 a), .sc (.float .f64 b)] = some (.pv (.sc (.int .i64 (cmpB a b)))) := by
  have h1 := sp_keyP a ha
  have h2 := sp_keyP b hb
  refine pcall_wc Try.func101 rfl (by decide) ?_ rfl
  show wc _ _ _ (.pv (.sc (.float .f64 a)) :: .pv (.sc (.float .f64 b)) :: List.replicate 17 undefV) _ _
  unfold cmpB
  generalize keyB a = x at h1 ⊢
  generalize keyB b = y at h2 ⊢
  by_cases c1 : x < y
  · rw [if_pos c1]
    (repeat (first | refine w_seq ?_ | refine w_regionL ?_ | refine w_norm ?_ | refine w_ret' ?_ | refine w_block ?_ | refine w_ret ?_ | refine wo_nil ⟨rfl, ?_⟩ | ((first | apply o_assign | apply o_move | apply o_bin) <;> first | refine wo_id ?_ | ((with_reducible apply look_id); (exact look_by); done) | ((with_reducible apply bin_id); (exact bin_by); done) | exact rfl) | (apply o_pcall; (focus exact args_by); (focus exact hb102); (focus exact rfl); (focus ((repeat (first | exact frzAll_nil | apply frzAll_pv)); done)); (focus (first | exact h1 | exact h2))) | ((first | apply b_cond) <;> first | refine wc_id ?_ | ((with_reducible apply look_id); (exact look_by); done) | (first | exact decide_eq_true (by omega)))))
    (apply ends_ret; (focus exact (e_tmp res_nil)))
    exact ⟨_, by exact fz_by⟩
  · rw [if_neg c1]
    by_cases c2 : y < x
    · rw [if_pos c2]
      (repeat (first | refine w_seq ?_ | refine w_regionL ?_ | refine w_norm ?_ | refine w_ret' ?_ | refine w_block ?_ | refine w_ret ?_ | refine wo_nil ⟨rfl, ?_⟩ | ((first | apply o_assign | apply o_move | apply o_bin) <;> first | refine wo_id ?_ | ((with_reducible apply look_id); (exact look_by); done) | ((with_reducible apply bin_id); (exact bin_by); done) | exact rfl) | (apply o_pcall; (focus exact args_by); (focus exact hb102); (focus exact rfl); (focus ((repeat (first | exact frzAll_nil | apply frzAll_pv)); done)); (focus (first | exact h1 | exact h2))) | ((first | apply b_cond) <;> first | refine wc_id ?_ | ((with_reducible apply look_id); (exact look_by); done) | (first | exact decide_eq_true (by omega) | exact decide_eq_false (by omega)))))
      (apply ends_ret; (focus exact (e_tmp res_nil)))
      exact ⟨_, by exact fz_by⟩
    · rw [if_neg c2]
      (repeat (first | refine w_seq ?_ | refine w_regionL ?_ | refine w_norm ?_ | refine w_block ?_ | refine w_skip ?_ | refine w_ret ?_ | refine wo_nil ⟨rfl, ?_⟩ | ((first | apply o_assign | apply o_move | apply o_bin) <;> first | refine wo_id ?_ | ((with_reducible apply look_id); (exact look_by); done) | ((with_reducible apply bin_id); (exact bin_by); done) | exact rfl) | (apply o_pcall; (focus exact args_by); (focus exact hb102); (focus exact rfl); (focus ((repeat (first | exact frzAll_nil | apply frzAll_pv)); done)); (focus (first | exact h1 | exact h2))) | ((first | apply b_cond) <;> first | refine wc_id ?_ | ((with_reducible apply look_id); (exact look_by); done) | (first | exact decide_eq_false (by omega)))))
      (apply ends_ret; (focus exact (e_tmp res_nil)))
      exact ⟨_, by exact fz_by⟩
/-- Two items: their priorities' words and values. -/
def cmpV (p : Nat) (v : Int) (q : Nat) (w : Int) : Int := if cmpB p q = 0 then (if v < w then -1 else if w < v then 1 else 0) else cmpB p q
theorem sp_itemCmp (p q : Nat) (v w : Int) (hp : p < 2 ^ 64) (hq : q < 2 ^ 64) : pcall (Ew Try.prog cfg) 97 [.agg [.sc (.float .f64 p), .sc (.int .i64 v)], .agg [.sc (.float .f64 q), .sc (.int .i64 w)]] = some (.pv (.sc (.int .i64 (cmpV p v q w)))) := by
  have h1 := sp_cmpP p q hp hq
  refine pcall_wc Try.func97 rfl (by decide) ?_ rfl
  show wc _ _ _ (.pv (.agg [.sc (.float .f64 p), .sc (.int .i64 v)]) :: .pv (.agg [.sc (.float .f64 q), .sc (.int .i64 w)]) :: List.replicate 24 undefV) _ _
  unfold cmpV
  generalize cmpB p q = z at h1 ⊢
  by_cases c0 : z = 0
  · rw [if_pos c0]
    by_cases c1 : v < w
    · rw [if_pos c1]
      (repeat (first | refine w_seq ?_ | refine w_regionL ?_ | refine w_norm ?_ | refine w_ret' ?_ | refine w_block ?_ | refine w_skip ?_ | refine w_ret ?_ | refine wo_nil ⟨rfl, ?_⟩ | ((first | apply o_box | apply o_assign | apply o_fieldAddr | apply o_load | apply o_move | apply o_bin) <;> first | refine wo_id ?_ | ((with_reducible apply look_id); (exact look_by); done) | ((with_reducible apply bin_id); (exact bin_by); done) | ((with_reducible apply load_id); ((first | (apply ldp; (focus exact get_by); (focus first | exact rfl))); (first | exact part_sc (by first | exact ag2) rfl)); done) | ((with_reducible apply cells_id); (exact cells_by); done) | ((with_reducible apply next_id); (exact next_by); done) | exact fa36_0 _ _ _ | exact rfl) | (apply o_pcall; (focus exact args_by); (focus exact hb101); (focus exact rfl); (focus ((repeat (first | exact frzAll_nil | apply frzAll_pv)); done)); (focus exact h1)) | ((first | apply b_cond) <;> first | refine wc_id ?_ | ((with_reducible apply look_id); (exact look_by); done) | (first | exact decide_eq_true (by omega) | ((apply uf); (rw [decide_eq_true c0]; rfl))))))
      (apply ends_ret; (focus exact (e_tmp res_nil)))
      exact ⟨_, by exact fz_by⟩
    · rw [if_neg c1]
      by_cases c2 : w < v
      · rw [if_pos c2]
        (repeat (first | refine w_seq ?_ | refine w_regionL ?_ | refine w_norm ?_ | refine w_ret' ?_ | refine w_block ?_ | refine w_skip ?_ | refine w_ret ?_ | refine wo_nil ⟨rfl, ?_⟩ | ((first | apply o_box | apply o_assign | apply o_fieldAddr | apply o_load | apply o_move | apply o_bin) <;> first | refine wo_id ?_ | ((with_reducible apply look_id); (exact look_by); done) | ((with_reducible apply bin_id); (exact bin_by); done) | ((with_reducible apply load_id); ((first | (apply ldp; (focus exact get_by); (focus first | exact rfl))); (first | exact part_sc (by first | exact ag2) rfl)); done) | ((with_reducible apply cells_id); (exact cells_by); done) | ((with_reducible apply next_id); (exact next_by); done) | exact fa36_0 _ _ _ | exact rfl) | (apply o_pcall; (focus exact args_by); (focus exact hb101); (focus exact rfl); (focus ((repeat (first | exact frzAll_nil | apply frzAll_pv)); done)); (focus exact h1)) | ((first | apply b_cond) <;> first | refine wc_id ?_ | ((with_reducible apply look_id); (exact look_by); done) | (first | exact decide_eq_true (by omega) | exact decide_eq_false (by omega) | ((apply uf); (rw [decide_eq_true c0]; rfl))))))
        (apply ends_ret; (focus exact (e_tmp res_nil)))
        exact ⟨_, by exact fz_by⟩
      · rw [if_neg c2]
        (repeat (first | refine w_seq ?_ | refine w_regionL ?_ | refine w_norm ?_ | refine w_block ?_ | refine w_skip ?_ | refine w_ret ?_ | refine wo_nil ⟨rfl, ?_⟩ | ((first | apply o_box | apply o_assign | apply o_fieldAddr | apply o_load | apply o_move | apply o_bin) <;> first | refine wo_id ?_ | ((with_reducible apply look_id); (exact look_by); done) | ((with_reducible apply bin_id); (exact bin_by); done) | ((with_reducible apply load_id); ((first | (apply ldp; (focus exact get_by); (focus first | exact rfl))); (first | exact part_sc (by first | exact ag2) rfl)); done) | ((with_reducible apply cells_id); (exact cells_by); done) | ((with_reducible apply next_id); (exact next_by); done) | exact fa36_0 _ _ _ | exact rfl) | (apply o_pcall; (focus exact args_by); (focus exact hb101); (focus exact rfl); (focus ((repeat (first | exact frzAll_nil | apply frzAll_pv)); done)); (focus exact h1)) | ((first | apply b_cond) <;> first | refine wc_id ?_ | ((with_reducible apply look_id); (exact look_by); done) | (first | exact decide_eq_false (by omega) | ((apply uf); (rw [decide_eq_true c0]; rfl))))))
        (apply ends_ret; (focus exact (e_tmp res_nil)))
        exact ⟨_, by exact fz_by⟩
  · rw [if_neg c0]
    (repeat (first | refine w_seq ?_ | refine w_regionL ?_ | refine w_norm ?_ | refine w_ret' ?_ | refine w_ret ?_ | refine wo_nil ⟨rfl, ?_⟩ | ((first | apply o_box | apply o_assign | apply o_fieldAddr | apply o_load | apply o_move | apply o_bin) <;> first | refine wo_id ?_ | ((with_reducible apply look_id); (exact look_by); done) | ((with_reducible apply bin_id); (exact bin_by); done) | ((with_reducible apply load_id); ((first | (apply ldp; (focus exact get_by); (focus first | exact rfl))); (first | exact part_sc (by first | exact ag2) rfl)); done) | ((with_reducible apply cells_id); (exact cells_by); done) | ((with_reducible apply next_id); (exact next_by); done) | exact fa36_0 _ _ _ | exact rfl) | (apply o_pcall; (focus exact args_by); (focus exact hb101); (focus exact rfl); (focus ((repeat (first | exact frzAll_nil | apply frzAll_pv)); done)); (focus exact h1)) | ((first | apply b_cond) <;> first | refine wc_id ?_ | ((with_reducible apply look_id); (exact look_by); done) | (first | ((apply ut); (rw [decide_eq_false c0]; rfl))))))
    (apply ends_ret; (focus exact (e_tmp res_nil)))
    exact ⟨_, by exact fz_by⟩
theorem sp_itemCanon (b : Nat) (v : Int) : pcall (Ew Try.prog cfg) 85 [.agg [.sc (.float .f64 b), .sc (.int .i64 v)]] = some (.pv (.agg [.sc (.float .f64 (canonB b)), .sc (.int .i64 v)])) := by
  have hc := sp_canonP b
  refine pcall_wc Try.func85 rfl (by decide) ?_ rfl
  show wc _ _ _ (.pv (.agg [.sc (.float .f64 b), .sc (.int .i64 v)]) :: List.replicate 8 undefV) _ _
  (repeat (first | refine w_seq ?_ | refine w_regionL ?_ | refine w_norm ?_ | refine w_ret ?_ | refine wo_nil ⟨rfl, ?_⟩ | ((first | apply o_box | apply o_alloc | apply o_fieldAddr | apply o_load | apply o_buildP | apply o_storep) <;> first | refine wo_id ?_ | ((with_reducible apply look_id); (exact look_by); done) | ((with_reducible apply load_id); ((first | (apply ldp; (focus exact get_by); (focus first | exact rfl))); (first | exact part_sc (by first | exact ag2) rfl)); done) | ((with_reducible apply cells_id); (exact cells_by); done) | ((with_reducible apply next_id); (exact next_by); done) | ((with_reducible apply get_id); (exact get_by); done) | ((with_reducible apply setAt_id); (exact setat_by); done) | ((with_reducible apply parts_id); (exact parts_by); done) | exact ze36 | exact fa36_0 _ _ _ | exact bp36 | exact sz36 | exact rfl) | (apply o_pcall; (focus exact args_by); (focus exact hb92); (focus exact rfl); (focus ((repeat (first | exact frzAll_nil | apply frzAll_pv)); done)); (focus exact hc))))
  (apply ends_ret; (focus exact (e_cela ag36 sz36 res_nil)))
  exact ⟨_, by exact fz_by⟩
end Go.Proofs.Ytefgpelodpggkaa.Ve
