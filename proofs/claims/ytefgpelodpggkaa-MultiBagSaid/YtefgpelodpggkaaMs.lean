import Derived.Test.YtefgpelodpggkaaMr
set_option linter.unusedVariables false
set_option linter.unusedSimpArgs false
namespace Go.Proofs.Ytefgpelodpggkaa.Ve
open Go XFlt
set_option maxRecDepth 4000
set_option maxHeartbeats 8000000
section
variable {P : Program} {C : Cfg} {ds : List (Option Tmp)} {os : List Oper} {tm : List V} {st : St} {K : List V → St → List Ent → Prop} {d : Tmp} {ty : TypeId} {pos : String} {af : Array Edge} {x : Operand} {t e : TypeId}
/-- A list from a place on. -/
theorem o_drop_fz {rows rows' : List (List PV)} {k : IntKind} {sz : Nat} {y : Operand} {n : Int} (hx : envOf tm x = some (.pv (.fz rows))) (he : sliceElem P t = some e) (hz : tySize P e = some sz) (hy : envOf tm y = some (.pv (.sc (.int k n)))) (hn : 0 ≤ n ∧ n ≤ rows.length) (hr : (rows.all (·.length == sz)) = true) (hd : rows.drop n.toNat = rows')
    (hk : wo P C ds os (put tm d (.pv (.fz rows'))) st fun tm' st'' l => K tm' st'' (⟨st, st, [], [], .pv (.fz rows')⟩ :: l)) : wo P C ds (⟨some d, .slice t x (some y) none none, ty, pos, af, none⟩ :: os) tm st K := by
  refine o_slice hx (fun a h => by cases h) ?_ hk
  have e1 : boundV (envOf tm) (0 : Int).toNat (some y) = some n := by
    simp only [boundV, hy, asInt?]
  have e2 : boundV (envOf tm) (rows.length : Int).toNat none = some (rows.length : Int) := by
    show some _ = _
    congr 1
  simp only [sliceV, he, hz]
  rw [e1, e2]
  have h1 : 0 ≤ n ∧ n ≤ (rows.length : Int) ∧ (rows.length : Int) ≤ (rows.length : Int) ∧ (n = 0 ∨ (rows.all (·.length == sz)) = true) := ⟨hn.1, hn.2, Int.le_refl _, .inr hr⟩
  simp only [if_pos h1]
  have h2 : ((rows.length : Int)).toNat = rows.length := by omega
  rw [h2, List.take_length, hd]
end
theorem rit_all (l : List It) : ((l.map rIt).all (·.length == 2)) = true := by simp [rIt]
theorem sp_ref8a {n : Int} {ps : Pts} {f : RF} (ok : MOk n ps f) (h2 : ¬ (f.k = 2 ∧ f.pc = 2)) : pcall (Ew Try.prog cfg) 51 [rMem ps, .agg (rRF f), .sc (.int .i64 n)] = some (mRes (multiR n ps f)) := by
  have hn := ok.nn
  have hf := ok.fr
  have hl := ok.len
  have hin0 := into_range f.d0 n (by omega)
  have hin1 := into_range f.d1 n (by omega)
  have hi0 := sp_into6 f.d0 n hf.d0 (by omega)
  have hi1 := sp_into6 f.d1 n hf.d1 (by omega)
  refine pcall_wc Try.func51 rfl (by decide) ?_ rfl
  show wc _ _ _ (.pv (.agg [.fz (ps.map rPt)]) :: .pv (.agg (rRF f)) :: .pv (.sc (.int .i64 n)) :: List.replicate 129 undefV) _ _
  unfold multiR
  by_cases hk : f.k = 1
  · simp only [if_pos hk]
    have he := sp_rmins ok hk
    unfold mRes at he ⊢
    (repeat (first | refine w_seq ?_ | refine w_regionL ?_ | refine w_norm ?_ | refine w_ret' ?_ | refine w_ret ?_ | refine wo_nil ⟨rfl, ?_⟩ | ((first | apply o_box | apply o_alloc | apply o_assign | apply o_fieldAddr | apply o_load | apply o_bin | apply o_move | apply o_extract | apply o_storep) <;> first | refine wo_id ?_ | ((with_reducible apply look_id); (exact look_by); done) | ((with_reducible apply bin_id); (exact bin_by); done) | ((with_reducible apply load_id); ((first | (apply ldp; (focus exact get_by); (focus first | exact rfl))); (first | exact part_sc (by first | exact ag3) rfl | (apply part_agg; (focus first | exact ag49); (focus first | exact sz49 | exact sz107); (focus exact rfl); (focus exact rfl)))); done) | ((with_reducible apply cells_id); (exact cells_by); done) | ((with_reducible apply next_id); (exact next_by); done) | ((with_reducible apply get_id); (exact get_by); done) | ((with_reducible apply setAt_id); (exact setat_by); done) | exact ze49 | exact ze107 | exact ze109 | exact fa107_0 _ _ _ | exact sz49 | exact sz107 | exact sz109 | exact rfl) | (apply o_pcall; (focus exact args_by); (focus exact hb61); (focus exact rfl); (focus ((repeat (first | exact frzAll_nil | apply frzAll_pv)); done)); (focus exact he)) | ((first | apply b_cond) <;> first | refine wc_id ?_ | ((with_reducible apply look_id); (exact look_by); done) | (first | exact decide_eq_true hk))))
    (apply ends_ret; (focus exact (e_cela ag49 sz49 (e_cela ag107 sz107 (e_cela ag109 sz109 (e_tmp res_nil))))))
    exact ⟨_, by exact fz_by⟩
  · simp only [if_neg hk]
    unfold delR mRes
    by_cases h0 : f.pc = 0
    · simp only [if_pos h0]
      have hr := sp_r5read ps (into f.d0 n) (by omega)
      (repeat (first | refine w_seq ?_ | refine w_regionL ?_ | refine w_norm ?_ | refine w_ret' ?_ | refine w_block ?_ | refine w_skip ?_ | refine w_ret ?_ | refine wo_nil ⟨rfl, ?_⟩ | ((first | apply o_box | apply o_alloc | apply o_assign | apply o_fieldAddr | apply o_load | apply o_bin | apply o_move | apply o_extract | apply o_storep | apply o_buildP) <;> first | refine wo_id ?_ | ((with_reducible apply look_id); (exact look_by); done) | ((with_reducible apply bin_id); (exact bin_by); done) | ((with_reducible apply load_id); ((first | (apply ldp; (focus exact get_by); (focus first | exact rfl))); (first | exact part_sc (by first | exact ag3) rfl | (apply part_agg; (focus first | exact ag49); (focus first | exact sz49 | exact sz107); (focus exact rfl); (focus exact rfl)))); done) | ((with_reducible apply cells_id); (exact cells_by); done) | ((with_reducible apply next_id); (exact next_by); done) | ((with_reducible apply get_id); (exact get_by); done) | ((with_reducible apply setAt_id); (exact setat_by); done) | ((with_reducible apply parts_id); (exact parts_by); done) | exact ze49 | exact ze107 | exact ze109 | exact fa107_0 _ _ _ | exact sz49 | exact sz107 | exact sz109 | exact sz105 | exact bp109 | exact rfl) | (apply o_pcall; (focus exact args_by); (focus exact hb45); (focus exact rfl); (focus ((repeat (first | exact frzAll_nil | apply frzAll_pv)); done)); (focus exact hr)) | (apply o_pcall; (focus exact args_by); (focus exact hb16); (focus exact rfl); (focus ((repeat (first | exact frzAll_nil | apply frzAll_pv)); done)); (focus (first | exact hi0 | exact hi1))) | ((first | apply b_cond) <;> first | refine wc_id ?_ | ((with_reducible apply look_id); (exact look_by); done) | (first | exact decide_eq_true h0 | exact decide_eq_false hk))))
      (apply ends_ret; (focus exact (e_cela ag49 sz49 (e_cela ag107 sz107 (e_cela ag109 sz109 (e_tmp res_nil))))))
      exact ⟨_, by exact fz_by⟩
    · simp only [if_neg h0]
      by_cases h1 : f.pc = 1
      · simp only [if_pos h1]
        have hr := sp_r5read ps (into f.d1 n) (by omega)
        have hG0 := hf.c0.len
        have hG1 := (ok.mem (into f.d1 n)).len
        obtain ⟨C, hC⟩ : ∃ x, rd ps (into f.d1 n) = x := ⟨_, rfl⟩
        rw [hC] at hr hG1 ⊢
        have hl0 : (f.c0.l.map rIt).length = f.c0.l.length := List.length_map _
        have hl1 : (C.2.l.map rIt).length = C.2.l.length := List.length_map _
        have w : IntKind.i64.wrap (((f.c0.l.map rIt).length : Int) + ((C.2.l.map rIt).length : Int)) = ((f.c0.l.length + C.2.l.length : Nat) : Int) := by
          rw [hl0, hl1, wrap_id (by omega) (by omega)]
          omega
        have ed : decide (f.c0.l.length + C.2.l.length = 0) = decide (((f.c0.l.length + C.2.l.length : Nat) : Int) = 0) := by
          by_cases h : f.c0.l.length + C.2.l.length = 0
          · rw [decide_eq_true h, decide_eq_true (by omega)]
          · rw [decide_eq_false h, decide_eq_false (by omega)]
        rw [ed]
        (repeat (first | refine w_seq ?_ | refine w_regionL ?_ | refine w_norm ?_ | refine w_ret' ?_ | refine w_block ?_ | refine w_skip ?_ | refine w_ret ?_ | refine wo_nil ⟨rfl, ?_⟩ | (apply o_bin; (focus exact look_by); (focus exact look_by); (focus first | exact br_addw (w)); (focus exact rfl)) | ((first | apply o_box | apply o_alloc | apply o_assign | apply o_fieldAddr | apply o_load | apply o_bin | apply o_move | apply o_extract | apply o_storep | apply o_buildP | apply o_len) <;> first | refine wo_id ?_ | ((with_reducible apply look_id); (exact look_by); done) | ((with_reducible apply bin_id); (exact bin_by); done) | ((with_reducible apply load_id); ((first | (apply ldp; (focus exact get_by); (focus first | exact rfl))); (first | exact part_sc (by first | exact ag3) rfl | (apply part_agg; (focus first | exact ag49); (focus first | exact sz49 | exact sz107); (focus exact rfl); (focus exact rfl)))); done) | ((with_reducible apply cells_id); (exact cells_by); done) | ((with_reducible apply next_id); (exact next_by); done) | ((with_reducible apply get_id); (exact get_by); done) | ((with_reducible apply setAt_id); (exact setat_by); done) | ((with_reducible apply parts_id); (exact parts_by); done) | exact ze49 | exact ze107 | exact ze109 | exact fa107_0 _ _ _ | exact sz49 | exact sz107 | exact sz109 | exact sz105 | exact bp109 | exact lnF75 _ | (intro a h; cases h) | exact rfl) | (apply o_pcall; (focus exact args_by); (focus exact hb45); (focus exact rfl); (focus ((repeat (first | exact frzAll_nil | apply frzAll_pv)); done)); (focus exact hr)) | (apply o_pcall; (focus exact args_by); (focus exact hb16); (focus exact rfl); (focus ((repeat (first | exact frzAll_nil | apply frzAll_pv)); done)); (focus (first | exact hi0 | exact hi1))) | ((first | apply b_cond) <;> first | refine wc_id ?_ | ((with_reducible apply look_id); (exact look_by); done) | (first | exact decide_eq_true h1 | exact decide_eq_false h0 | exact decide_eq_false hk))))
        (apply ends_ret; (focus exact (e_cela ag49 sz49 (e_cela ag107 sz107 (e_cela ag109 sz109 (e_tmp res_nil))))))
        exact ⟨_, by exact fz_by⟩
      · exfalso
        have hk2 : f.k = 2 := hf.k.resolve_left hk
        rcases hf.pc with h | h | ⟨h, -⟩
        · exact h0 h
        · exact h1 h
        · exact h2 ⟨hk2, h⟩
end Go.Proofs.Ytefgpelodpggkaa.Ve
