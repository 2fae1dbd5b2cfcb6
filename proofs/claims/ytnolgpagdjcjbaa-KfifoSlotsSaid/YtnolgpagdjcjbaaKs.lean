import Derived.Test.YtnolgpagdjcjbaaKp
set_option linter.unusedVariables false
set_option linter.unusedSimpArgs false
namespace Go.Proofs.Ytnolgpagdjcjbaa.Ve
open Go
set_option maxRecDepth 4000
set_option maxHeartbeats 8000000
theorem sp_rSlot {n s j : Int} (hn : 1 ≤ n ∧ n ≤ 16) (hs : 0 ≤ s ∧ s ≤ 2 ^ 22) (hj : 0 ≤ j ∧ j ≤ 16) : pcall (Ew Try.prog cfg) 33 [.sc (.int .i64 s), .sc (.int .i64 j), .sc (.int .i64 n)] = some (.pv (.sc (.int .i64 (2 + s * n + j)))) := by
  have h0 : 0 ≤ s * n := Int.mul_nonneg hs.1 (by omega)
  have h1 : s * n ≤ 2 ^ 22 * 16 := Int.mul_le_mul hs.2 hn.2 (by omega) (by decide)
  have w1 : IntKind.i64.wrap (s * n) = s * n := wrap_id (by omega) (by omega)
  have w2 : IntKind.i64.wrap (2 + s * n) = 2 + s * n := wrap_id (by omega) (by omega)
  have w3 : IntKind.i64.wrap (2 + s * n + j) = 2 + s * n + j := wrap_id (by omega) (by omega)
  refine pcall_wc Try.func33 rfl (by decide) ?_ rfl
  show wc _ _ _ (.pv (.sc (.int .i64 s)) :: .pv (.sc (.int .i64 j)) :: .pv (.sc (.int .i64 n)) :: List.replicate 10 undefV) _ _
  (repeat (first | refine w_seq ?_ | refine w_regionL ?_ | refine w_norm ?_ | refine w_exit' ?_ | refine w_ret' ?_ | refine w_block ?_ | refine w_scope ?_ | refine w_skip ?_ | refine w_ret ?_ | refine w_exit ?_ | refine w_label ?_ | refine wo_nil ⟨rfl, ?_⟩ | (apply o_bin; (focus exact look_by); (focus exact look_by); (focus first | exact br_addw (w1) | exact br_subw (w1) | exact br_mulw (w1)); (focus exact rfl)) | (apply o_bin; (focus exact look_by); (focus exact look_by); (focus first | exact br_addw (w2) | exact br_subw (w2) | exact br_mulw (w2)); (focus exact rfl)) | (apply o_bin; (focus exact look_by); (focus exact look_by); (focus first | exact br_addw (w3) | exact br_subw (w3) | exact br_mulw (w3)); (focus exact rfl)) | ((first | apply o_assign | apply o_move | apply o_bin) <;> first | refine wo_id ?_ | refine wc_id ?_ | ((with_reducible apply look_id); (exact look_by); done) | ((with_reducible apply bin_id); (exact bin_by); done) | exact rfl)))
  (apply ends_ret; (focus exact (e_tmp res_nil)))
  exact ⟨_, by exact fz_by⟩
theorem sp_rslot {n : Int} (hn : 1 ≤ n ∧ n ≤ 16) {f : RF} (hf : KFr n f (2 ^ 21)) : pcall (Ew Try.prog cfg) 70 [.agg (rRF f), .sc (.int .i64 n)] = some (.pv (.sc (.int .i64 (kSlot n f)))) := by
  have h1 := hf.at_
  have h2 := hf.seen
  have h3 := Int.emod_nonneg (f.at_ + f.seen) (by omega : n ≠ 0)
  have h4 := Int.emod_lt_of_pos (f.at_ + f.seen) (by omega : 0 < n)
  have w1 : IntKind.i64.wrap (f.at_ + f.seen) = f.at_ + f.seen := wrap_id (by omega) (by omega)
  have w2 : (f.at_ + f.seen).tmod n = (f.at_ + f.seen) % n := Int.tmod_eq_emod_of_nonneg (by omega)
  have hne : n ≠ 0 := by omega
  have hseg := hf.seg
  have hsl := sp_rSlot hn (s := f.seg) (by omega) (j := (f.at_ + f.seen).tmod n) (by rw [w2]; omega)
  refine pcall_wc Try.func70 rfl (by decide) ?_ rfl
  show wc _ _ _ (.pv (.agg (rRF f)) :: .pv (.sc (.int .i64 n)) :: List.replicate 14 undefV) _ _
  (repeat (first | refine w_seq ?_ | refine w_regionL ?_ | refine w_norm ?_ | refine w_exit' ?_ | refine w_ret' ?_ | refine w_block ?_ | refine w_scope ?_ | refine w_skip ?_ | refine w_ret ?_ | refine w_exit ?_ | refine w_label ?_ | refine wo_nil ⟨rfl, ?_⟩ | (apply o_bin; (focus exact look_by); (focus exact look_by); (focus first | exact br_addw (w1) | exact br_subw (w1) | exact br_mulw (w1)); (focus exact rfl)) | ((first | apply o_box | apply o_assign | apply o_fieldAddr | apply o_load | apply o_bin | apply o_move) <;> first | refine wo_id ?_ | refine wc_id ?_ | ((with_reducible apply look_id); (exact look_by); done) | ((with_reducible apply bin_id); (exact bin_by); done) | ((with_reducible apply load_id); ((first | (apply ldp; (focus exact get_by); (focus first | exact rfl | assumption)) | apply ldf); (first | exact part_sc (by first | exact ag3) rfl)); done) | ((with_reducible apply cells_id); (exact cells_by); done) | ((with_reducible apply next_id); (exact next_by); done) | exact fa117_7 _ _ _ | exact fe117_7 _ | exact fa117_5 _ _ _ | exact fe117_5 _ | exact fa117_6 _ _ _ | exact fe117_6 _ | exact rfl) | (refine wo_nil ⟨dyn_draw (bs := [0, 1, 0, 1, 0, 1, 0, 0, 0, 0, 1, 0]) ?_ ?_, ?_⟩; (focus ((repeat (first | exact Flags.nil | (apply Flags.cons Flag.dry) | (apply Flags.cons Flag.read) | (apply Flags.cons Flag.mk) | (apply Flags.cons Flag.free))); done)); (focus decide +kernel)) | (apply o_pcall; (focus exact args_by); (focus exact hb33); (focus exact rfl); (focus ((repeat (first | exact frzAll_nil | apply frzAll_pv)); done)); (focus exact hsl))))
  (apply ends_ret; (focus exact (e_tmp res_nil)))
  exact ⟨_, by unfold kSlot; rw [← w2]; exact fz_by⟩
theorem sp_again (ps : Pts) (f : RF) : pcall (Ew Try.prog cfg) 71 [rMem ps, .agg (rRF f)] = some (.tup [.pv (rMem ps), .pv (.agg (rRF { f with pc := 0 })), .pv (.agg (rAn an00)), .pv (.sc (.bool false))]) := by
  refine pcall_wc Try.func71 rfl (by decide) ?_ rfl
  show wc _ _ _ (.pv (.agg [.fz (ps.map rPt)]) :: .pv (.agg (rRF f)) :: List.replicate 10 undefV) _ _
  (repeat (first | refine w_seq ?_ | refine w_regionL ?_ | refine w_norm ?_ | refine w_exit' ?_ | refine w_ret' ?_ | refine w_block ?_ | refine w_scope ?_ | refine w_skip ?_ | refine w_ret ?_ | refine w_exit ?_ | refine w_label ?_ | refine wo_nil ⟨rfl, ?_⟩ | ((first | apply o_box | apply o_alloc | apply o_assign | apply o_fieldAddr | apply o_storep | apply o_load | apply o_buildP) <;> first | refine wo_id ?_ | refine wc_id ?_ | ((with_reducible apply look_id); (exact look_by); done) | ((with_reducible apply load_id); ((first | (apply ldp; (focus exact get_by); (focus first | exact rfl | assumption)) | apply ldf); (first | (apply part_agg; (focus first | exact ag59 | exact ag117); (focus first | exact sz59 | exact sz117); (focus exact rfl); (focus exact rfl)))); done) | ((with_reducible apply cells_id); (exact cells_by); done) | ((with_reducible apply next_id); (exact next_by); done) | ((with_reducible apply get_id); (exact get_by); done) | ((with_reducible apply setAt_id); (exact setat_by); done) | ((with_reducible apply parts_id); (exact parts_by); done) | exact ze59 | exact ze117 | exact ze119 | exact fa117_4 _ _ _ | exact fe117_4 _ | exact sz3 | exact bp119 | exact sz59 | exact sz117 | exact sz119 | assumption | exact rfl) | (refine wo_nil ⟨dyn_drawE (bs := [1, 5, 0, 3, 3, 3, 0]) [(1, 3)] ?_ ?_ ?_, ?_⟩; (focus (exact flags_by; done)); (focus decide +kernel); (focus (repeat' (first | exact trivial | refine ⟨noclash rfl rfl ?_, ?_⟩)); (all_goals (first | exact nc1 (by omega) | exact nc2 (by omega) | (simp [Ent.clash]; done) | (simp [Ent.clash]; omega) | (apply nc3; intro z hz; grind) | (simp [Ent.clash, St.set, St.new]; omega)))))))
  (apply ends_ret; (focus exact (e_cela ag59 sz59 (e_cela ag117 sz117 (e_cela ag119 sz119 (e_tmp res_nil))))))
  exact ⟨_, by exact fz_by⟩
/-- A step's results, as the document's functions hand them out. -/
def kRes (r : Pts × RF × An × Bool) : V := .tup [.pv (rMem r.1), .pv (.agg (rRF r.2.1)), .pv (.agg (rAn r.2.2.1)), .pv (.sc (.bool r.2.2.2))]
end Go.Proofs.Ytnolgpagdjcjbaa.Ve
