import Derived.Test.YtefgpelodpggkaaHa
set_option linter.unusedVariables false
set_option linter.unusedSimpArgs false
namespace Go.Proofs.Ytefgpelodpggkaa.Ve
open Go XFlt
set_option maxRecDepth 4000
set_option maxHeartbeats 8000000
def rV (x : IV) : List V := (rIV x).map .pv
/-- Items in order, and one more. -/
def withL : List IV → IV → List IV
  | [], x => [x]
  | y :: l, x => if ivC x y < 0 then x :: y :: l else y :: withL l x
theorem sp_with {l : List IV} {x : IV} (hw : ∀ y ∈ l, y.1 < 2 ^ 64) (hx : x.1 < 2 ^ 64) (hl : l.length < 2 ^ 20) : pcall (Ew Try.prog cfg) 29 [.fz (l.map rIV), .agg (rIV x)] = some (.pv (.fz ((withL l x).map rIV))) := by
  have hlm : (l.map rIV).length = l.length := List.length_map _
  refine pcall_wc Try.func29 rfl (by decide) ?_ rfl
  show wc _ _ _ (.pv (.fz (l.map rIV)) :: .pv (.agg (rIV x)) :: List.replicate 38 undefV) _ _
  (repeat (first | refine w_seq ?_ | refine w_regionL ?_ | refine w_norm ?_ | refine w_block ?_ | refine wo_nil ⟨rfl, ?_⟩ | ((first | apply o_box | apply o_assign | apply o_buildSlice | apply o_move | apply o_len) <;> first | refine wo_id ?_ | ((with_reducible apply look_id); (exact look_by); done) | ((with_reducible apply cells_id); (exact cells_by); done) | ((with_reducible apply next_id); (exact next_by); done) | ((with_reducible apply parts_id); (exact parts_by); done) | exact el75 | exact sz72 | exact ze72 | exact lnF75 _ | (intro a h; cases h) | exact rfl)))
  refine w_loopK (fun q tm s => ∃ (k : Nat) (o : List IV) (ov : V) (Jo : List Nat) (dn : Bool), k + q = l.length ∧ lk tm 12 = .pv (.sc (.int .i64 k)) ∧ lk tm 5 = ov ∧ lk tm 6 = .pv (.sc (.bool dn)) ∧ SlE s 2 ov (o.map rV) Jo ∧ s.get 0 = some ⟨2, [rV x]⟩ ∧ 0 ∉ Jo ∧ 1 ≤ s.next ∧ o.length ≤ k + 1 ∧ (dn = true ∧ withL l x = o ++ l.drop k ∨ dn = false ∧ o.length = k ∧ withL l x = o ++ withL (l.drop k) x)) l.length rfl
    ⟨0, [], _, [1], false, by omega, by exact lk_by, by exact lk_by, by exact lk_by, .inr ⟨1, rfl, by exact lt_by, by exact get_by, rfl⟩, by exact get_by, by decide, by exact nle_by, Nat.zero_le _, .inr ⟨rfl, rfl, rfl⟩⟩ ?_
  rintro q tm1 s ⟨k, o, ov, Jo, dn, hkq, h12, h5, h6, hSE, hg0, h0J, hn1, hol, hinv⟩ hK
  obtain ⟨T, hT⟩ : ∃ y, s.next = y := ⟨_, rfl⟩
  have hJl := hSE.lt
  by_cases hk : k < l.length
  · obtain ⟨y, hy⟩ : ∃ y, l[k]? = some y := ⟨_, List.getElem?_eq_getElem hk⟩
    have hrow : (l.map rIV)[((k : Nat) : Int).toNat]? = some (rIV y) := by
      have e : ((k : Nat) : Int).toNat = k := by omega
      rw [e, List.getElem?_map, hy]
      rfl
    have hyw := hw y (List.mem_of_getElem? hy)
    have hc := sp_r4Cmp x.1 y.1 x.2 y.2 hx hyw
    have hdr : l.drop k = y :: l.drop (k + 1) := List.drop_eq_getElem?_toList_append.trans (by rw [hy]; rfl)
    have hwk : IntKind.i64.wrap ((k : Int) + 1) = ((k + 1 : Nat) : Int) := by rw [wrap_id (by omega) (by omega)]; omega
    have hfT : ∀ {s' : St}, Frm s s' [T] → SlE s' 2 ov (o.map rV) Jo := fun {s'} hf => hSE.frm hf (fun y hy => by have := hJl y hy; simp; omega)
    rcases hinv with ⟨rfl, hi⟩ | ⟨rfl, ho, hi⟩
    · (repeat (first | refine w_seq ?_ | refine w_regionL ?_ | refine w_norm ?_ | refine w_block ?_ | refine w_skip ?_ | refine wo_nil ⟨rfl, ?_⟩ | ((first | apply o_buildSlice | apply o_move | apply o_bin | apply o_indexAddr | apply o_load | apply o_alloc | apply o_storep | apply o_not) <;> first | refine wo_id ?_ | ((with_reducible apply look_id); (exact look_by); done) | ((with_reducible apply bin_id); (exact bin_by); done) | ((with_reducible apply load_id); ((first | (apply ldp; (focus exact get_by); (focus first | exact rfl)) | apply ldf); (first | (apply part_agg; (focus first | exact ag72); (focus first | exact sz72); (focus exact rfl); (focus exact rfl)))); done) | ((with_reducible apply cells_id); (exact cells_by); done) | ((with_reducible apply next_id); (exact next_by); done) | ((with_reducible apply get_id); (exact get_by); done) | ((with_reducible apply setAt_id); (exact setat_by); done) | ((with_reducible apply parts_id); (exact parts_by); done) | exact el75 | exact sz72 | exact ze72 | exact ia_fz (iaF75 _ _) (by omega) (by assumption) rfl | exact rfl) | ((first | apply b_cond | apply b_pick | apply b_in) <;> first | refine wo_id ?_ | refine wc_id ?_ | ((with_reducible apply look_id); (exact look_by); done) | ((with_reducible apply yield_id); ((apply yield_of; (focus exact rfl); (focus exact lk_by))); done) | (first | exact ff | exact decide_eq_true (by omega))) | (apply b_out <;> first | refine wo_id ?_ | ((with_reducible apply yield_id); ((apply yield_of; (focus exact rfl); (focus exact lk_by))); done) | (first | exact ff))))
      refine o_appendX (old := o.map rV) (new := [rV y]) rfl (by exact look_by) (by exact look_by) rfl rfl (appTy_of el75 el75 by75 ze72 rfl) (hfT (by exact frm_by)).at (src_own (by exact get_by) rfl) (by simp) (by simp; omega) ?_
      intro s5 j R5 W5 hF5 hj1 hj2 hj3
      simp only [St.new, St.set] at hj1
      (repeat (first | refine w_regionL ?_ | refine w_norm ?_ | refine wo_nil ⟨rfl, ?_⟩ | (apply o_bin; (focus exact look_by); (focus exact look_by); (focus first | exact br_addw (hwk)); (focus exact rfl)) | ((first | apply o_assign | apply o_move) <;> first | refine wo_id ?_ | ((with_reducible apply look_id); (exact look_by); done)) | (apply l_norm (q - 1) (by omega))))
      exact ⟨k + 1, o ++ [y], _, [j], true, by omega, by rw [← hwk]; exact lk_by, by exact lk_by, by exact lk_by, .inr ⟨j, by simp, hj2, by simpa using hj3, rfl⟩, by exact get_by, by simp; omega, by omega, by simp; omega, .inl ⟨rfl, by rw [hi, hdr]; simp⟩⟩
    · by_cases c : cmpV x.1 x.2 y.1 y.2 < 0
      · (repeat (first | refine w_seq ?_ | refine w_regionL ?_ | refine w_norm ?_ | refine w_block ?_ | refine w_skip ?_ | refine wo_nil ⟨rfl, ?_⟩ | ((first | apply o_buildSlice | apply o_move | apply o_bin | apply o_indexAddr | apply o_load | apply o_alloc | apply o_storep | apply o_not) <;> first | refine wo_id ?_ | ((with_reducible apply look_id); (exact look_by); done) | ((with_reducible apply bin_id); (exact bin_by); done) | ((with_reducible apply load_id); ((first | (apply ldp; (focus exact get_by); (focus first | exact rfl)) | apply ldf); (first | (apply part_agg; (focus first | exact ag72); (focus first | exact sz72); (focus exact rfl); (focus exact rfl)))); done) | ((with_reducible apply cells_id); (exact cells_by); done) | ((with_reducible apply next_id); (exact next_by); done) | ((with_reducible apply get_id); (exact get_by); done) | ((with_reducible apply setAt_id); (exact setat_by); done) | ((with_reducible apply parts_id); (exact parts_by); done) | exact el75 | exact sz72 | exact ze72 | exact ia_fz (iaF75 _ _) (by omega) (by assumption) rfl | exact rfl) | (apply o_pcall; (focus exact args_by); (focus exact hb30); (focus exact rfl); (focus ((repeat (first | exact frzAll_nil | apply frzAll_pv)); done)); (focus exact hc)) | ((first | apply b_cond | apply b_pick | apply b_in) <;> first | refine wo_id ?_ | refine wc_id ?_ | ((with_reducible apply look_id); (exact look_by); done) | ((with_reducible apply yield_id); ((apply yield_of; (focus exact rfl); (focus exact lk_by))); done) | (first | exact tt | exact decide_eq_true c | exact decide_eq_true (by omega)))))
        refine o_appendX (old := o.map rV) (new := [rV x]) rfl (by exact look_by) (by exact look_by) rfl rfl (appTy_of el75 el75 by75 ze72 rfl) (hfT (by exact frm_by)).at (src_own (by exact get_by) rfl) (by simp) (by simp; omega) ?_
        intro s5 j R5 W5 hF5 hj1 hj2 hj3
        simp only [St.new, St.set] at hj1
        have hn5 := hF5.next
        simp only [St.new, St.set] at hn5
        obtain ⟨U, hU⟩ : ∃ z, s5.next = z := ⟨_, rfl⟩
        have hSE5 : SlE s5 2 (.ow j 2 0 (o.map rV ++ [rV x]).length) (o.map rV ++ [rV x]) [j] := .inr ⟨j, rfl, hj2, hj3, rfl⟩
        have hgT : s5.get T = some ⟨2, [rV y]⟩ := hF5.getq (by exact lt_by) (fun h => by have := hJl _ h; omega) (by exact get_by)
        (repeat (first | refine w_regionL ?_ | refine w_norm ?_ | refine wo_nil ⟨rfl, ?_⟩ | ((first | apply o_assign | apply o_buildSlice | apply o_move | apply o_load) <;> first | refine wo_id ?_ | ((with_reducible apply look_id); (exact look_by); done) | ((with_reducible apply load_id); ((first | (apply ldp; (focus exact get_by); (focus first | exact rfl))); (first | (apply part_agg; (focus first | exact ag72); (focus first | exact sz72); (focus exact rfl); (focus exact rfl)))); done) | ((with_reducible apply cells_id); (exact cells_by); done) | ((with_reducible apply next_id); (exact next_by); done) | ((with_reducible apply parts_id); (exact parts_by); done) | exact el75 | exact sz72 | exact ze72 | exact rfl)))
        refine o_appendX (old := o.map rV ++ [rV x]) (new := [rV y]) rfl (by exact look_by) (by exact look_by) rfl rfl (appTy_of el75 el75 by75 ze72 rfl) (hSE5.frm (show Frm s5 _ [] by exact frm_by) (by simp)).at (src_own (by exact get_by) rfl) (by simp) (by simp; omega) ?_
        intro s6 j2 R6 W6 hF6 hk1 hk2 hk3
        simp only [St.new, St.set] at hk1
        have hg05 : s5.get 0 = some ⟨2, [rV x]⟩ := hF5.getq (by exact lt_by) h0J (by exact get_by)
        (repeat (first | refine w_regionL ?_ | refine w_norm ?_ | refine wo_nil ⟨rfl, ?_⟩ | (apply o_bin; (focus exact look_by); (focus exact look_by); (focus first | exact br_addw (hwk)); (focus exact rfl)) | ((first | apply o_assign | apply o_move) <;> first | refine wo_id ?_ | ((with_reducible apply look_id); (exact look_by); done)) | (apply l_norm (q - 1) (by omega))))
        refine ⟨k + 1, o ++ [x] ++ [y], _, [j2], true, by omega, by rw [← hwk]; exact lk_by, by exact lk_by, by exact lk_by, .inr ⟨j2, by simp, hk2, by simpa using hk3, rfl⟩, hF6.getq (by exact lt_by) (by simp; omega) (by exact get_by), by simp; omega, by omega, by simp; omega, .inl ⟨rfl, ?_⟩⟩
        rw [hi, hdr, withL, if_pos (show ivC x y < 0 from c)]
        simp
      · (repeat (first | refine w_seq ?_ | refine w_regionL ?_ | refine w_norm ?_ | refine w_block ?_ | refine w_skip ?_ | refine wo_nil ⟨rfl, ?_⟩ | ((first | apply o_buildSlice | apply o_move | apply o_bin | apply o_indexAddr | apply o_load | apply o_alloc | apply o_storep | apply o_not) <;> first | refine wo_id ?_ | ((with_reducible apply look_id); (exact look_by); done) | ((with_reducible apply bin_id); (exact bin_by); done) | ((with_reducible apply load_id); ((first | (apply ldp; (focus exact get_by); (focus first | exact rfl)) | apply ldf); (first | (apply part_agg; (focus first | exact ag72); (focus first | exact sz72); (focus exact rfl); (focus exact rfl)))); done) | ((with_reducible apply cells_id); (exact cells_by); done) | ((with_reducible apply next_id); (exact next_by); done) | ((with_reducible apply get_id); (exact get_by); done) | ((with_reducible apply setAt_id); (exact setat_by); done) | ((with_reducible apply parts_id); (exact parts_by); done) | exact el75 | exact sz72 | exact ze72 | exact ia_fz (iaF75 _ _) (by omega) (by assumption) rfl | exact rfl) | (apply o_pcall; (focus exact args_by); (focus exact hb30); (focus exact rfl); (focus ((repeat (first | exact frzAll_nil | apply frzAll_pv)); done)); (focus exact hc)) | ((first | apply b_cond | apply b_pick | apply b_in) <;> first | refine wo_id ?_ | refine wc_id ?_ | ((with_reducible apply look_id); (exact look_by); done) | ((with_reducible apply yield_id); ((apply yield_of; (focus exact rfl); (focus exact lk_by))); done) | (first | exact tt | exact decide_eq_false c | exact decide_eq_true (by omega)))))
        refine o_appendX (old := o.map rV) (new := [rV y]) rfl (by exact look_by) (by exact look_by) rfl rfl (appTy_of el75 el75 by75 ze72 rfl) (hfT (by exact frm_by)).at (src_own (by exact get_by) rfl) (by simp) (by simp; omega) ?_
        intro s5 j R5 W5 hF5 hj1 hj2 hj3
        simp only [St.new, St.set] at hj1
        (repeat (first | refine w_regionL ?_ | refine w_norm ?_ | refine wo_nil ⟨rfl, ?_⟩ | (apply o_bin; (focus exact look_by); (focus exact look_by); (focus first | exact br_addw (hwk)); (focus exact rfl)) | ((first | apply o_assign | apply o_move) <;> first | refine wo_id ?_ | ((with_reducible apply look_id); (exact look_by); done)) | (apply l_norm (q - 1) (by omega))))
        refine ⟨k + 1, o ++ [y], _, [j], false, by omega, by rw [← hwk]; exact lk_by, by exact lk_by, by exact lk_by, .inr ⟨j, by simp, hj2, by simpa using hj3, rfl⟩, by exact get_by, by simp; omega, by omega, by simp; omega, .inr ⟨rfl, by simp; omega, ?_⟩⟩
        rw [hi, hdr, withL, if_neg (show ¬ ivC x y < 0 from c)]
        simp
  · have hdr : l.drop k = [] := List.drop_eq_nil_of_le (by omega)
    have eV : ∀ z : List IV, z.map rV = (z.map rIV).map (·.map .pv) := fun z => by simp [rV]
    rcases hinv with ⟨rfl, hi⟩ | ⟨rfl, ho, hi⟩
    · rw [hdr, List.append_nil] at hi
      (repeat (first | refine w_seq ?_ | refine w_regionL ?_ | refine w_norm ?_ | refine w_exit' ?_ | refine w_skip ?_ | refine w_ret ?_ | refine w_exit ?_ | refine wo_nil ⟨rfl, ?_⟩ | ((first | apply o_assign | apply o_move | apply o_bin | apply o_not) <;> first | refine wo_id ?_ | ((with_reducible apply look_id); (exact look_by); done) | ((with_reducible apply bin_id); (exact bin_by); done) | exact rfl) | ((first | apply b_cond) <;> first | refine wc_id ?_ | ((with_reducible apply look_id); (exact look_by); done) | (first | exact ff | exact decide_eq_false (by omega))) | (refine l_exit ?_; intro R2 W2)))
      (apply ends_ret; (focus exact (e_tmp res_nil)))
      rw [hi]
      rcases hSE with ⟨rfl, h1, -⟩ | ⟨i, rfl, hi1, hgi, rfl⟩
      · have h2 : o = [] := by simpa using h1
        subst h2
        exact ⟨_, by exact fz_by⟩
      · rw [eV] at hgi ⊢
        have hlr : ((o.map rIV).map (·.map V.pv)).length = (o.map rIV).length := List.length_map _
        rw [hlr]
        exact ⟨_, by exact fz_by⟩
    · rw [hdr] at hi
      have hi : withL l x = o ++ [x] := hi
      (repeat (first | refine w_seq ?_ | refine w_regionL ?_ | refine w_norm ?_ | refine w_exit' ?_ | refine w_exit ?_ | refine wo_nil ⟨rfl, ?_⟩ | ((first | apply o_buildSlice | apply o_move | apply o_bin | apply o_load | apply o_not) <;> first | refine wo_id ?_ | ((with_reducible apply look_id); (exact look_by); done) | ((with_reducible apply bin_id); (exact bin_by); done) | ((with_reducible apply load_id); ((first | (apply ldp; (focus exact get_by); (focus first | exact rfl))); (first | (apply part_agg; (focus first | exact ag72); (focus first | exact sz72); (focus exact rfl); (focus exact rfl)))); done) | ((with_reducible apply cells_id); (exact cells_by); done) | ((with_reducible apply next_id); (exact next_by); done) | ((with_reducible apply parts_id); (exact parts_by); done) | exact el75 | exact sz72 | exact ze72 | exact rfl) | ((first | apply b_cond) <;> first | refine wc_id ?_ | ((with_reducible apply look_id); (exact look_by); done) | (first | exact tt | exact decide_eq_false (by omega))) | (refine l_exit ?_; intro R2 W2)))
      refine o_appendX (old := o.map rV) (new := [rV x]) rfl (by exact look_by) (by exact look_by) rfl rfl (appTy_of el75 el75 by75 ze72 rfl) (hSE.frm (show Frm s _ [] by exact frm_by) (by simp)).at (src_own (by exact get_by) rfl) (by simp) (by simp; omega) ?_
      intro s5 j R5 W5 hF5 hj1 hj2 hj3
      (repeat (first | refine w_seq ?_ | refine w_regionL ?_ | refine w_norm ?_ | refine w_ret ?_ | refine wo_nil ⟨rfl, ?_⟩ | ((first | apply o_assign | apply o_move) <;> first | refine wo_id ?_ | ((with_reducible apply look_id); (exact look_by); done))))
      (apply ends_ret; (focus exact (e_tmp res_nil)))
      have e2 : o.map rV ++ [rV x] = (((o ++ [x]).map rIV).map (·.map V.pv)) := by rw [← eV]; simp
      rw [hi]
      rw [e2] at hj3 ⊢
      have hlr : (((o ++ [x]).map rIV).map (·.map V.pv)).length = ((o ++ [x]).map rIV).length := List.length_map _
      rw [hlr]
      exact ⟨_, by exact fz_by⟩
end Go.Proofs.Ytefgpelodpggkaa.Ve
