import Derived.Test.YtnolgpagdjcjbaaOpA
set_option linter.unusedVariables false
set_option linter.unusedSimpArgs false
namespace Go.Proofs.Ytnolgpagdjcjbaa.Ve
open Go
set_option maxRecDepth 4000
set_option maxHeartbeats 4000000
theorem into_range (a n : Int) (h : 0 < n) : 0 ≤ into a n ∧ into a n < n := by
  unfold into
  rw [if_neg (by omega)]
  exact ⟨Int.emod_nonneg a (by omega), Int.emod_lt_of_pos a h⟩
theorem sp_into6 (a n : Int) (ha : i64 a) (hn : n < 2 ^ 63) : pcall (Ew Try.prog cfg) 14 [.sc (.int .i64 a), .sc (.int .i64 n)] = some (.pv (.sc (.int .i64 (into a n)))) := by
  refine pcall_wc Try.func14 rfl (by decide) ?_ rfl
  show wc _ _ _ (.pv (.sc (.int .i64 a)) :: .pv (.sc (.int .i64 n)) :: List.replicate 15 undefV) _ _
  by_cases h : n ≤ 0
  · (repeat (first | refine w_seq ?_ | refine w_regionL ?_ | refine w_norm ?_ | refine w_ret' ?_ | refine w_ret ?_ | refine wo_nil ⟨rfl, ?_⟩ | ((first | apply o_assign | apply o_move | apply o_bin) <;> first | refine wo_id ?_ | ((with_reducible apply look_id); (exact look_by); done) | ((with_reducible apply bin_id); (exact bin_by); done) | exact rfl) | ((first | apply b_cond) <;> first | refine wc_id ?_ | ((with_reducible apply look_id); (exact look_by); done) | (first | exact decide_eq_true (by omega)))))
    (apply ends_ret; (focus exact (e_tmp res_nil)))
    exact ⟨[], by unfold into; rw [if_pos h]; rfl⟩
  · have hne : n ≠ 0 := by omega
    have hi := into_emod a n (by omega) ha hn
    by_cases h2 : a.tmod n < 0
    · rw [if_pos h2] at hi
      (repeat (first | refine w_seq ?_ | refine w_regionL ?_ | refine w_norm ?_ | refine w_skip ?_ | refine w_ret ?_ | refine wo_nil ⟨rfl, ?_⟩ | ((first | apply o_assign | apply o_move | apply o_bin) <;> first | refine wo_id ?_ | ((with_reducible apply look_id); (exact look_by); done) | ((with_reducible apply bin_id); (exact bin_by); done) | exact rfl) | ((first | apply b_cond) <;> first | refine wc_id ?_ | ((with_reducible apply look_id); (exact look_by); done) | (first | exact decide_eq_true (by omega) | exact decide_eq_false (by omega)))))
      (apply ends_ret; (focus exact (e_tmp res_nil)))
      exact ⟨[], by rw [hi]; rfl⟩
    · rw [if_neg h2] at hi
      (repeat (first | refine w_seq ?_ | refine w_regionL ?_ | refine w_norm ?_ | refine w_skip ?_ | refine w_ret ?_ | refine wo_nil ⟨rfl, ?_⟩ | ((first | apply o_assign | apply o_move | apply o_bin) <;> first | refine wo_id ?_ | ((with_reducible apply look_id); (exact look_by); done) | ((with_reducible apply bin_id); (exact bin_by); done) | exact rfl) | ((first | apply b_cond) <;> first | refine wc_id ?_ | ((with_reducible apply look_id); (exact look_by); done) | (first | exact decide_eq_false (by omega)))))
      (apply ends_ret; (focus exact (e_tmp res_nil)))
      exact ⟨[], by rw [hi]; rfl⟩
theorem mask32 (v : Int) (hv : i64 v) : IntKind.i64.wrap (BitVec.ofInt IntKind.i64.bits v &&& BitVec.ofInt IntKind.i64.bits 4294967295).toNat = v % 4294967296 := by
  have h1 : (BitVec.ofInt IntKind.i64.bits v &&& BitVec.ofInt IntKind.i64.bits 4294967295).toNat = (v % 4294967296).toNat := by
    rw [BitVec.toNat_and, BitVec.toNat_ofInt, BitVec.toNat_ofInt]
    have hb : ((2 ^ IntKind.i64.bits : Nat) : Int) = 18446744073709551616 := rfl
    rw [hb]
    have e1 : ((4294967295 : Int) % 18446744073709551616).toNat = 2 ^ 32 - 1 := by decide
    rw [e1, Nat.and_two_pow_sub_one_eq_mod]
    omega
  rw [h1, wrap_id (by omega) (by omega)]
  omega
/-- An operation. -/
structure Opd where
  k : Int
  it : It
  d0 : Int
  d1 : Int
def gOp (o : Opd) : List PV := [.sc (.int .i64 o.k), .sc (.float .f64 o.it.pri), .sc (.int .i64 o.it.val), .sc (.int .i64 o.d0), .sc (.int .i64 o.d1)]
def ownOp (fr to : Int) (x : Rw) : Opd := ⟨fr + into x.k (to - fr + 1), ⟨x.pri, if fr + into x.k (to - fr + 1) = 5 then x.val % 4294967296 else x.val⟩, x.d0, x.d1⟩
theorem sp_own6 (kind fr to : Int) (hof : pcall (Ew Try.prog cfg) 47 [.sc (.int .i64 kind)] = some (.tup [.pv (.sc (.int .i64 fr)), .pv (.sc (.int .i64 to))])) (h1 : 1 ≤ fr ∧ fr ≤ to ∧ to ≤ 7) (x : Rw) (hx : RwOk x) :
    pcall (Ew Try.prog cfg) 17 [.sc (.int .i64 kind), .agg (rRw x)] = some (.pv (.agg (gOp (ownOp fr to x)))) := by
  refine pcall_wc Try.func17 rfl (by decide) ?_ rfl
  show wc _ _ _ (.pv (.sc (.int .i64 kind)) :: .pv (.agg (rRw x)) :: List.replicate 39 undefV) _ _
  have hw1 : IntKind.i64.wrap (to - fr) = to - fr := wrap_id (by omega) (by omega)
  have hw2 : IntKind.i64.wrap (IntKind.i64.wrap (to - fr) + 1) = to - fr + 1 := by rw [hw1]; exact wrap_id (by omega) (by omega)
  have hin := into_range x.k (to - fr + 1) (by omega)
  have hw3 : IntKind.i64.wrap (fr + into x.k (to - fr + 1)) = fr + into x.k (to - fr + 1) := wrap_id (by omega) (by omega)
  have hi : pcall (Ew Try.prog cfg) 14 [.sc (.int .i64 x.k), .sc (.int .i64 (IntKind.i64.wrap (IntKind.i64.wrap (to - fr) + 1)))] = some (.pv (.sc (.int .i64 (into x.k (to - fr + 1))))) := by
    rw [hw2]
    exact sp_into6 x.k _ hx.k (by omega)
  have ho : pcall (Ew Try.prog cfg) 48 [.agg [.sc (.int .u64 x.pri), .sc (.int .i64 x.val)]] = some (.pv (.agg [.sc (.float .f64 x.pri), .sc (.int .i64 x.val)])) := sp_own4 ⟨x.pri, x.val⟩
  unfold ownOp
  by_cases h5 : fr + into x.k (to - fr + 1) = 5
  · rw [if_pos h5]
    (repeat (first | refine w_seq ?_ | refine w_regionL ?_ | refine w_norm ?_ | refine w_ret ?_ | refine wo_nil ⟨rfl, ?_⟩ | ((first | apply o_box | apply o_alloc | apply o_move | apply o_extract | apply o_assign | apply o_fieldAddr | apply o_load | apply o_bin | apply o_buildP | apply o_storep) <;> first | refine wo_id ?_ | ((with_reducible apply look_id); (exact look_by); done) | ((with_reducible apply bin_id); (exact bin_by); done) | ((with_reducible apply load_id); ((first | (apply ldp; (focus exact get_by); (focus first | exact rfl))); (first | exact part_sc (by first | exact ag2) rfl | (apply part_agg; (focus first | exact ag38); (focus first | exact sz38 | exact sz42); (focus exact rfl); (focus exact rfl)))); done) | ((with_reducible apply cells_id); (exact cells_by); done) | ((with_reducible apply next_id); (exact next_by); done) | ((with_reducible apply get_id); (exact get_by); done) | ((with_reducible apply setAt_id); (exact setat_by); done) | ((with_reducible apply parts_id); (exact parts_by); done) | exact ze38 | exact fa44_0 _ _ _ | exact bp36 | exact bp38 | exact sz38 | exact sz2 | exact rfl) | (apply o_pcall; (focus exact args_by); (focus exact hb47); (focus exact rfl); (focus ((repeat (first | exact frzAll_nil | apply frzAll_pv)); done)); (focus exact hof)) | (apply o_pcall; (focus exact args_by); (focus exact hb14); (focus exact rfl); (focus ((repeat (first | exact frzAll_nil | apply frzAll_pv)); done)); (focus exact hi)) | (apply o_pcall; (focus exact args_by); (focus exact hb48); (focus exact rfl); (focus ((repeat (first | exact frzAll_nil | apply frzAll_pv)); done)); (focus exact ho)) | ((first | apply b_cond) <;> first | refine wc_id ?_ | ((with_reducible apply look_id); (exact look_by); done) | (first | exact decide_eq_true (by rw [hw3]; exact h5)))))
    (apply ends_ret; (focus exact (e_cela ag38 sz38 res_nil)))
    have e : gOp ⟨fr + into x.k (to - fr + 1), ⟨x.pri, x.val % 4294967296⟩, x.d0, x.d1⟩ = [.sc (.int .i64 (IntKind.i64.wrap (fr + into x.k (to - fr + 1)))), .sc (.float .f64 x.pri), .sc (.int .i64 (IntKind.i64.wrap (BitVec.ofInt IntKind.i64.bits x.val &&& BitVec.ofInt IntKind.i64.bits 4294967295).toNat)), .sc (.int .i64 x.d0), .sc (.int .i64 x.d1)] := by
      rw [hw3, mask32 x.val hx.val]
      rfl
    exact ⟨_, by rw [e]; exact fz_by⟩
  · rw [if_neg h5]
    (repeat (first | refine w_seq ?_ | refine w_regionL ?_ | refine w_norm ?_ | refine w_skip ?_ | refine w_ret ?_ | refine wo_nil ⟨rfl, ?_⟩ | ((first | apply o_box | apply o_alloc | apply o_move | apply o_extract | apply o_assign | apply o_fieldAddr | apply o_load | apply o_bin | apply o_buildP | apply o_storep) <;> first | refine wo_id ?_ | ((with_reducible apply look_id); (exact look_by); done) | ((with_reducible apply bin_id); (exact bin_by); done) | ((with_reducible apply load_id); ((first | (apply ldp; (focus exact get_by); (focus first | exact rfl))); (first | exact part_sc (by first | exact ag2) rfl | (apply part_agg; (focus first | exact ag38); (focus first | exact sz38 | exact sz42); (focus exact rfl); (focus exact rfl)))); done) | ((with_reducible apply cells_id); (exact cells_by); done) | ((with_reducible apply next_id); (exact next_by); done) | ((with_reducible apply get_id); (exact get_by); done) | ((with_reducible apply setAt_id); (exact setat_by); done) | ((with_reducible apply parts_id); (exact parts_by); done) | exact ze38 | exact fa44_0 _ _ _ | exact bp36 | exact bp38 | exact sz38 | exact rfl) | (apply o_pcall; (focus exact args_by); (focus exact hb47); (focus exact rfl); (focus ((repeat (first | exact frzAll_nil | apply frzAll_pv)); done)); (focus exact hof)) | (apply o_pcall; (focus exact args_by); (focus exact hb14); (focus exact rfl); (focus ((repeat (first | exact frzAll_nil | apply frzAll_pv)); done)); (focus exact hi)) | (apply o_pcall; (focus exact args_by); (focus exact hb48); (focus exact rfl); (focus ((repeat (first | exact frzAll_nil | apply frzAll_pv)); done)); (focus exact ho)) | ((first | apply b_cond) <;> first | refine wc_id ?_ | ((with_reducible apply look_id); (exact look_by); done) | (first | exact decide_eq_false (by rw [hw3]; exact h5)))))
    (apply ends_ret; (focus exact (e_cela ag38 sz38 res_nil)))
    have e : gOp ⟨fr + into x.k (to - fr + 1), ⟨x.pri, x.val⟩, x.d0, x.d1⟩ = [.sc (.int .i64 (IntKind.i64.wrap (fr + into x.k (to - fr + 1)))), .sc (.float .f64 x.pri), .sc (.int .i64 x.val), .sc (.int .i64 x.d0), .sc (.int .i64 x.d1)] := by
      rw [hw3]
      rfl
    exact ⟨_, by rw [e]; exact fz_by⟩
/-- An operation under way, as the document has it. -/
structure RF where
  k : Int
  it : It
  d0 : Int
  d1 : Int
  pc : Int
  at_ : Int
  seen : Int
  seg : Int
  tot : Int
  empty : Bool
  v0 : Nat
  c0 : Vl
  v1 : Nat
  c1 : Vl
def rRF (f : RF) : List PV := [.sc (.int .i64 f.k), .sc (.int .u64 f.it.pri), .sc (.int .i64 f.it.val), .sc (.int .i64 f.d0), .sc (.int .i64 f.d1), .sc (.int .i64 f.pc), .sc (.int .i64 f.at_), .sc (.int .i64 f.seen), .sc (.int .i64 f.seg), .sc (.int .i64 f.tot), .sc (.bool f.empty), .sc (.int .i64 f.v0), .sc (.int .i64 f.v1), .sc (.int .i64 f.c0.n), .fz (f.c0.l.map rIt), .sc (.int .i64 f.c1.n), .fz (f.c1.l.map rIt)]
def toldF (o : Opd) : RF := ⟨o.k, ⟨canon o.it.pri, o.it.val⟩, o.d0, o.d1, 0, 0, 0, 0, 0, false, 0, ⟨0, []⟩, 0, ⟨0, []⟩⟩
theorem sp_told6 (kind fr to : Int) (hof : pcall (Ew Try.prog cfg) 47 [.sc (.int .i64 kind)] = some (.tup [.pv (.sc (.int .i64 fr)), .pv (.sc (.int .i64 to))])) (h1 : 1 ≤ fr ∧ fr ≤ to ∧ to ≤ 7) (x : Rw) (hx : RwOk x) :
    pcall (Ew Try.prog cfg) 72 [.sc (.int .i64 kind), .agg (rRw x)] = some (.pv (.agg (rRF (toldF (ownOp fr to x))))) := by
  refine pcall_wc Try.func72 rfl (by decide) ?_ rfl
  show wc _ _ _ (.pv (.sc (.int .i64 kind)) :: .pv (.agg (rRw x)) :: List.replicate 21 undefV) _ _
  have ho := sp_own6 kind fr to hof h1 x hx
  have hm := sp_make x.pri (ownOp fr to x).it.val
  (repeat (first | refine w_seq ?_ | refine w_regionL ?_ | refine w_norm ?_ | refine w_ret ?_ | refine wo_nil ⟨rfl, ?_⟩ | ((first | apply o_box | apply o_alloc | apply o_move | apply o_load | apply o_storep | apply o_fieldAddr | apply o_buildP) <;> first | refine wo_id ?_ | ((with_reducible apply look_id); (exact look_by); done) | ((with_reducible apply load_id); ((first | (apply ldp; (focus exact get_by); (focus first | exact rfl))); (first | exact part_sc (by first | exact ag2) rfl | (apply part_agg; (focus first | exact ag44); (focus first | exact sz44); (focus exact rfl); (focus exact rfl)))); done) | ((with_reducible apply cells_id); (exact cells_by); done) | ((with_reducible apply next_id); (exact next_by); done) | ((with_reducible apply get_id); (exact get_by); done) | ((with_reducible apply setAt_id); (exact setat_by); done) | ((with_reducible apply parts_id); (exact parts_by); done) | exact ze117 | exact ze38 | exact sz38 | exact fa38_0 _ _ _ | exact bp117 | exact sz117 | exact rfl) | (apply o_pcall; (focus exact args_by); (focus exact hb17); (focus exact rfl); (focus ((repeat (first | exact frzAll_nil | apply frzAll_pv)); done)); (focus exact ho)) | (apply o_pcall; (focus exact args_by); (focus exact hb49); (focus exact rfl); (focus ((repeat (first | exact frzAll_nil | apply frzAll_pv)); done)); (focus exact hm))))
  (apply ends_ret; (focus exact (e_cela ag117 sz117 res_nil)))
  exact ⟨_, by exact fz_by⟩
end Go.Proofs.Ytnolgpagdjcjbaa.Ve
