import Derived.Test.YtefgpelodpggkaaHg
set_option linter.unusedVariables false
set_option linter.unusedSimpArgs false
namespace Go.Proofs.Ytefgpelodpggkaa.Ve
open Go XFlt
set_option maxRecDepth 4000
set_option maxHeartbeats 8000000
theorem fn_pNew {st : St} {xs : List IV} (hw : ∀ x ∈ xs, x.1 < 2 ^ 64) (hl : xs.length < 2 ^ 20) : Fn Try.prog cfg 89 [.pv (.fz (xs.map ivP))] st (fun v st' _ _ => ∃ p l I, v = .ptr p 0 0 ∧ PAt st' p l I ∧ l.Perm (xs.map cn) ∧ st.next ≤ p ∧ (∀ y ∈ I, st.next ≤ y) ∧ Frm st st' []) := by
  obtain ⟨S, hS⟩ : ∃ y, st.next = y := ⟨_, rfl⟩
  have hlm : (xs.map ivP).length = xs.length := List.length_map _
  refine fn_keep (.inr rfl) Try.func89 rfl ?_
  show wc _ _ _ (.pv (.fz (xs.map ivP)) :: List.replicate 31 undefV) st _
  (repeat (first | refine w_seq ?_ | refine w_regionL ?_ | refine w_norm ?_ | refine w_block ?_ | refine wo_nil ⟨rfl, ?_⟩ | ((first | apply o_assign | apply o_buildP | apply o_box | apply o_move | apply o_len) <;> first | refine wo_id ?_ | ((with_reducible apply look_id); (exact look_by); done) | ((with_reducible apply cells_id); (exact cells_by); done) | ((with_reducible apply next_id); (exact next_by); done) | ((with_reducible apply parts_id); (exact parts_by); done) | exact bp166 | exact lnF85 _ | exact ni168 | (intro a h; cases h) | exact rfl)))
  refine w_loopK (fun q tm s => ∃ (k : Nat) (I : List Nat), k + q = xs.length ∧ lk tm 10 = .pv (.sc (.int .i64 k)) ∧ HX s S ((xs.take k).map cn) I ∧ (∀ y ∈ I, S < y) ∧ Frm st s [] ∧ S < s.next) xs.length rfl
    ⟨0, [], by omega, by exact lk_by, .inl ⟨rfl, by exact get_by, by exact lt_by, rfl⟩, by simp, by exact frm_by, by exact lt_by⟩ ?_
  rintro q tm1 s ⟨k, I, hkq, h10, hX, hI, hF, hSn⟩ hK
  obtain ⟨T, hT⟩ : ∃ y, s.next = y := ⟨_, rfl⟩
  by_cases hk : k < xs.length
  · obtain ⟨x, hx⟩ : ∃ x, xs[k]? = some x := ⟨_, List.getElem?_eq_getElem hk⟩
    have hrow : (xs.map ivP)[((k : Nat) : Int).toNat]? = some (ivP x) := by
      have e : ((k : Nat) : Int).toNat = k := by omega
      rw [e, List.getElem?_map, hx]
      rfl
    have hwk : IntKind.i64.wrap ((k : Int) + 1) = ((k + 1 : Nat) : Int) := by rw [wrap_id (by omega) (by omega)]; omega
    have hc := sp_itemCanon x.1 x.2
    obtain ⟨hp, hpI, hwf, sv, hg, hsl⟩ := hX.sl
    have hIl := hX.ltI
    have htk : ((xs.take k).map cn).length = k := by simp; omega
    have htk2 : (xs.take (k + 1)).map cn = (xs.take k).map cn ++ [cn x] := by
      have h1 := List.take_add_one (l := xs) (i := k)
      rw [hx] at h1
      rw [h1]
      simp
    (repeat (first | refine w_seq ?_ | refine w_regionL ?_ | refine w_norm ?_ | refine w_block ?_ | refine w_skip ?_ | refine wo_nil ⟨rfl, ?_⟩ | ((first | apply o_move | apply o_bin | apply o_indexAddr | apply o_load | apply o_alloc | apply o_storep | apply o_nil | apply o_fieldAddr | apply o_buildSlice) <;> first | refine wo_id ?_ | ((with_reducible apply look_id); (exact look_by); done) | ((with_reducible apply bin_id); (exact bin_by); done) | ((with_reducible apply load_id); ((first | (apply ldp; (focus exact get_by); (focus first | exact rfl)) | apply ldf); (first | exact part_sc (by first | exact ag164) rfl | (apply part_agg; (focus first | exact ag36); (focus first | exact sz36); (focus exact rfl); (focus exact rfl)))); done) | ((with_reducible apply cells_id); (exact cells_by); done) | ((with_reducible apply next_id); (exact next_by); done) | ((with_reducible apply get_id); (exact get_by); done) | ((with_reducible apply setAt_id); (exact setat_by); done) | ((with_reducible apply parts_id); (exact parts_by); done) | exact ia_fz (iaF85 _ _) (by omega) (by assumption) rfl | exact ze36 | exact sz36 | exact fa166_0 _ _ _ | exact el164 | exact ni168 | exact rfl) | (apply o_pcall; (focus exact args_by); (focus exact hb85); (focus exact rfl); (focus ((repeat (first | exact frzAll_nil | apply frzAll_pv)); done)); (focus exact hc)) | ((first | apply b_cond) <;> first | refine wc_id ?_ | ((with_reducible apply look_id); (exact look_by); done) | (first | exact decide_eq_true (by omega)))))
    have hfT : ∀ {s' : St}, Frm s s' [T] → SlAt s' 2 sv (((xs.take k).map cn).map ivV) I := fun {s'} hf => hsl.move hf.next (fun i hi => hf.get i (hIl i hi) (by have := hIl i hi; simp; omega))
    refine o_appendX (old := ((xs.take k).map cn).map ivV) (new := [ivV (cn x)]) rfl (by exact look_by) (by exact look_by) rfl rfl (appTy_of el164 el164 by164 ze36 rfl) (hfT (by exact frm_by)) (src_own (by exact get_by) rfl) (by simp) (by simp; omega) ?_
    intro s5 j R5 W5 hF5 hj1 hj2 hj3
    have hn5 := hF5.next
    simp only [St.new, St.set] at hj1 hn5
    have hgp5 : s5.get S = some ⟨1, [[sv]]⟩ := hF5.getq (by exact lt_by) hpI (by exact get_by)
    have e1 : (((xs.take k).map cn).map ivV ++ [ivV (cn x)]).length = ((xs.take (k + 1)).map cn).length := by rw [htk2]; simp
    have e2 : ((xs.take k).map cn).map ivV ++ [ivV (cn x)] = ((xs.take (k + 1)).map cn).map ivV ++ [] := by rw [htk2]; simp
    have hF6 : Frm st s5 [] ∧ True := ⟨(hF.trans (J := [T]) (by exact frm_by) (by simp; omega)).trans hF5 (fun y hy hlt => by have := hI y hy; omega), trivial⟩
    rw [e1]
    rw [e2] at hj3
    (repeat (first | refine w_regionL ?_ | refine w_norm ?_ | refine wo_nil ⟨rfl, ?_⟩ | ((first | apply o_move | apply o_bin | apply o_storep | apply o_nil | apply o_fieldAddr) <;> first | refine wo_id ?_ | ((with_reducible apply look_id); (exact look_by); done) | ((with_reducible apply bin_id); (exact bin_by); done) | ((with_reducible apply cells_id); (exact cells_by); done) | ((with_reducible apply get_id); (exact get_by); done) | ((with_reducible apply setAt_id); (exact setat_by); done) | exact fa166_0 _ _ _ | exact sz164 | exact ni168 | exact rfl) | (refine wo_nil ⟨dyn_draw (bs := [0, 0, 0, 0, 1, 1, 1, 2, 3, 0, 0, 3]) ?_ ?_, ?_⟩; (focus ((repeat (first | exact Flags.nil | (apply Flags.cons Flag.dry) | (apply Flags.cons Flag.read) | (apply Flags.cons Flag.mk) | (apply Flags.cons Flag.free))); done)); (focus decide +kernel)) | (apply l_norm (q - 1) (by omega))))
    refine ⟨k + 1, [j], by omega, by rw [← hwk]; exact lk_by, .inr ⟨j, [], ⟨by omega, by simp only [St.set]; omega, by simpa [St.set] using hj2, by exact get_by, by exact get_by, ?_, by simp; omega⟩, rfl⟩, by simp; omega, hF6.1.trans (J := [S]) (by exact frm_by) (by simp; omega), by simp only [St.set]; omega⟩
    intro y hy
    rw [htk2] at hy
    rcases List.mem_append.1 hy with hy | hy
    · exact hwf y hy
    · simp only [List.mem_singleton] at hy
      subst hy
      exact cn_lt (hw x (List.mem_of_getElem? hx))
  · have hk' : xs.take k = xs := List.take_of_length_le (by omega)
    rw [hk'] at hX
    (repeat (first | refine w_seq ?_ | refine w_regionL ?_ | refine w_norm ?_ | refine w_exit' ?_ | refine w_exit ?_ | refine wo_nil ⟨rfl, ?_⟩ | ((first | apply o_move | apply o_bin | apply o_nil | apply o_fieldAddr | apply o_iface) <;> first | refine wo_id ?_ | ((with_reducible apply look_id); (exact look_by); done) | ((with_reducible apply bin_id); (exact bin_by); done) | exact fa166_0 _ _ _ | exact ni168 | exact rfl) | ((first | apply b_cond) <;> first | refine wc_id ?_ | ((with_reducible apply look_id); (exact look_by); done) | (first | exact decide_eq_false (by omega))) | (refine l_exit ?_; intro R2 W2)))
    refine o_call (by exact args_by) hb95 (fn_hInit hX) ?_
    rintro v1 s1 R1 W1 ⟨l', hX1, hP, hH, hFr⟩
    (repeat (first | refine w_seq ?_ | refine w_regionL ?_ | refine w_norm ?_ | refine w_ret ?_ | refine wo_nil ⟨rfl, ?_⟩ | ((first | apply o_assign | apply o_move) <;> first | refine wo_id ?_ | ((with_reducible apply look_id); (exact look_by); done))))
    (apply ends_ret; (focus exact (e_tmp res_nil)))
    exact ⟨_, _, _, Leaves.norm (.inr rfl) rfl, S, l', I, rfl, ⟨hX1, hH⟩, hP, by omega, fun y hy => by have := hI y hy; omega, hF.trans hFr (fun y hy hlt => by have := hI y hy; omega)⟩
end Go.Proofs.Ytefgpelodpggkaa.Ve
