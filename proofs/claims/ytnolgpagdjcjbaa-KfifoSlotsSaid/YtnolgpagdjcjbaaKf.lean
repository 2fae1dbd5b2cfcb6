import Derived.Test.YtnolgpagdjcjbaaKe
set_option linter.unusedVariables false
set_option linter.unusedSimpArgs false
namespace Go.Proofs.Ytnolgpagdjcjbaa.Ve
open Go
set_option maxRecDepth 4000
set_option maxHeartbeats 8000000
theorem kf_step (n : Int) {st : St} {m : Nat} {I : List Nat} {ps : Pts} {fi : Nat} {row : List V} {f : RF} (hM : MemAt st m I ps) (hfi : fi < st.next) (hfm : fi ≠ m) (hfI : fi ∉ I) (hg : st.get fi = some ⟨17, [row]⟩) (hfr : FR0 row f) (ok : KOk n ps f) :
    Fn Try.prog cfg 103 [.pv (.agg [.sc (.int .i64 n)]), .ptr m 0 0, .ptr fi 0 0] st (KPost n m fi I ps f st (kfR n ps f)) := by
  have hfr' := hfr
  obtain ⟨⟨b, l0, l1, hb, hl0, hl1, rfl⟩⟩ := hfr
  obtain ⟨nx, hnx⟩ : ∃ x, st.next = x := ⟨_, rfl⟩
  have hmx := hM.lt
  have hIx := hM.ltI
  have hmI := hM.out
  refine fn_keep (.inr rfl) Try.func103 rfl ?_
  show wc _ _ _ (.pv (.agg [.sc (.int .i64 n)]) :: .ptr m 0 0 :: .ptr fi 0 0 :: List.replicate 23 undefV) st _
  have hM1 : MemAt ((st.new ⟨1, [[.pv (.sc (.int .i64 n))]]⟩).new ⟨4, [[.pv (.sc (.bool false)), .pv (.sc (.float .f64 0)), .pv (.sc (.int .i64 0)), .pv (.sc (.int .i64 0))]]⟩) m I ps := (hM.move frm_new (by simp) (by simp)).move frm_new (by simp) (by simp)
  unfold KPost kfR
  by_cases hk : f.k = 3
  · simp only [if_pos hk]
    (repeat (first | refine w_seq ?_ | refine w_regionL ?_ | refine w_norm ?_ | refine w_exit' ?_ | refine w_ret' ?_ | refine w_block ?_ | refine w_scope ?_ | refine w_skip ?_ | refine w_ret ?_ | refine w_exit ?_ | refine w_label ?_ | refine wo_nil ⟨rfl, ?_⟩ | ((first | apply o_box | apply o_alloc | apply o_assign | apply o_move | apply o_nil | apply o_nilN | apply o_fieldAddr | apply o_load | apply o_bin | apply o_extract | apply o_storep) <;> first | refine wo_id ?_ | refine wc_id ?_ | ((with_reducible apply look_id); (exact look_by); done) | ((with_reducible apply bin_id); (exact bin_by); done) | ((with_reducible apply load_id); ((first | (apply ldp; (focus exact get_by); (focus first | exact rfl | assumption)) | apply ldf); (first | exact part_sc (by first | exact ag3) rfl | (apply part_agg; (focus first | exact ag26); (focus first | exact sz26); (focus exact rfl); (focus exact rfl)))); done) | ((with_reducible apply cells_id); (exact cells_by); done) | ((with_reducible apply next_id); (exact next_by); done) | ((with_reducible apply get_id); (exact get_by); done) | ((with_reducible apply setAt_id); (exact setat_by); done) | exact ze48 | exact fa97_0 _ _ _ | exact fe97_0 _ | exact fa38_0 _ _ _ | exact fe38_0 _ | exact sz48 | assumption | exact rfl) | ((first | apply b_cond) <;> first | refine wo_id ?_ | refine wc_id ?_ | ((with_reducible apply look_id); (exact look_by); done) | (first | exact tt | exact ff | assumption | exact decide_eq_true hk))))
    refine o_call (by exact args_by) hb104 (fn_kenq n hM1 (by exact lt_by) hfm hfI (by exact get_by) hfr' ok hk) ?_
    rintro _ s1 R1 W1 ⟨rfl, row', I1, hg1, hfr1, hM2, hf1, hI1⟩
    have hn1 := hf1.next
    simp only [St.new] at hn1
    have hgr : s1.get (nx + 1) = some ⟨4, [[.pv (.sc (.bool false)), .pv (.sc (.float .f64 0)), .pv (.sc (.int .i64 0)), .pv (.sc (.int .i64 0))]]⟩ := hf1.getq (by exact lt_by) (by simp; exact ⟨by omega, by omega, fun h => by have := hIx _ h; omega⟩) (by exact get_by)
    have hm2 := hM2.lt
    have hII : ∀ x ∈ I1, x ∈ I ∨ st.next ≤ x := fun x hx => by
      rcases hI1 x hx with h | h
      · exact .inl h
      · simp only [St.new] at h
        exact .inr (by omega)
    have hnr : nx + 1 ∉ I1 := fun h => by
      rcases hI1 _ h with h | h
      · have := hIx _ h
        omega
      · simp only [St.new] at h
        omega
    have hF2 : Frm st s1 (fi :: m :: I) ∧ True := ⟨((frm_new.trans frm_new (by simp)).wide (J := fi :: m :: I) (by simp)).trans hf1 (fun x hx _ => hx), trivial⟩
    (repeat (first | refine w_seq ?_ | refine w_regionL ?_ | refine w_norm ?_ | refine w_exit' ?_ | refine w_ret' ?_ | refine w_block ?_ | refine w_scope ?_ | refine w_skip ?_ | refine w_ret ?_ | refine w_exit ?_ | refine w_label ?_ | refine wo_nil ⟨rfl, ?_⟩ | ((first | apply o_box | apply o_alloc | apply o_assign | apply o_move | apply o_nil | apply o_nilN | apply o_fieldAddr | apply o_load | apply o_bin | apply o_extract | apply o_storep) <;> first | refine wo_id ?_ | refine wc_id ?_ | ((with_reducible apply look_id); (exact look_by); done) | ((with_reducible apply bin_id); (exact bin_by); done) | ((with_reducible apply load_id); ((first | (apply ldp; (focus exact get_by); (focus first | exact rfl | assumption)) | apply ldf); (first | exact part_sc (by first | exact ag3) rfl | (apply part_agg; (focus first | exact ag26); (focus first | exact sz26); (focus exact rfl); (focus exact rfl)))); done) | ((with_reducible apply cells_id); (exact cells_by); done) | ((with_reducible apply next_id); (exact next_by); done) | ((with_reducible apply get_id); (exact get_by); done) | ((with_reducible apply setAt_id); (exact setat_by); done) | exact ze48 | exact fa97_0 _ _ _ | exact fe97_0 _ | exact fa38_0 _ _ _ | exact fe38_0 _ | exact sz48 | assumption | exact rfl) | ((first | apply b_cond) <;> first | refine wo_id ?_ | refine wc_id ?_ | ((with_reducible apply look_id); (exact look_by); done) | (first | exact tt | exact ff | assumption))))
    (apply ends_ret; (focus exact (e_cela ag48 sz48 (e_tmp res_nil))))
    refine ⟨_, _, _, leaves_pur (by decide) (by exact fz_by), rfl, row', I1, by exact get_by, hfr1, ?_, ?_, hII⟩
    · exact hM2.move (J := [nx + 1]) (by exact frm_by) (by simp; omega) (by simp; rintro x hx rfl; exact hnr hx)
    · exact hF2.1.trans (J := [nx + 1]) (by exact frm_by) (by simp; omega)
  · simp only [if_neg hk]
    (repeat (first | refine w_seq ?_ | refine w_regionL ?_ | refine w_norm ?_ | refine w_exit' ?_ | refine w_ret' ?_ | refine w_block ?_ | refine w_scope ?_ | refine w_skip ?_ | refine w_ret ?_ | refine w_exit ?_ | refine w_label ?_ | refine wo_nil ⟨rfl, ?_⟩ | ((first | apply o_box | apply o_alloc | apply o_assign | apply o_move | apply o_nil | apply o_nilN | apply o_fieldAddr | apply o_load | apply o_bin | apply o_extract | apply o_storep) <;> first | refine wo_id ?_ | refine wc_id ?_ | ((with_reducible apply look_id); (exact look_by); done) | ((with_reducible apply bin_id); (exact bin_by); done) | ((with_reducible apply load_id); ((first | (apply ldp; (focus exact get_by); (focus first | exact rfl | assumption)) | apply ldf); (first | exact part_sc (by first | exact ag3) rfl | (apply part_agg; (focus first | exact ag26); (focus first | exact sz26); (focus exact rfl); (focus exact rfl)))); done) | ((with_reducible apply cells_id); (exact cells_by); done) | ((with_reducible apply next_id); (exact next_by); done) | ((with_reducible apply get_id); (exact get_by); done) | ((with_reducible apply setAt_id); (exact setat_by); done) | exact ze48 | exact fa97_0 _ _ _ | exact fe97_0 _ | exact fa38_0 _ _ _ | exact fe38_0 _ | exact sz48 | assumption | exact rfl) | ((first | apply b_cond) <;> first | refine wo_id ?_ | refine wc_id ?_ | ((with_reducible apply look_id); (exact look_by); done) | (first | exact tt | exact ff | assumption | exact decide_eq_false hk))))
    refine o_call (by exact args_by) hb105 (fn_kdeq n hM1 (by exact lt_by) hfm hfI (by exact get_by) hfr' ok hk) ?_
    rintro _ s1 R1 W1 ⟨rfl, row', I1, hg1, hfr1, hM2, hf1, hI1⟩
    have hn1 := hf1.next
    simp only [St.new] at hn1
    have hgr : s1.get (nx + 1) = some ⟨4, [[.pv (.sc (.bool false)), .pv (.sc (.float .f64 0)), .pv (.sc (.int .i64 0)), .pv (.sc (.int .i64 0))]]⟩ := hf1.getq (by exact lt_by) (by simp; exact ⟨by omega, by omega, fun h => by have := hIx _ h; omega⟩) (by exact get_by)
    have hm2 := hM2.lt
    have hII : ∀ x ∈ I1, x ∈ I ∨ st.next ≤ x := fun x hx => by
      rcases hI1 x hx with h | h
      · exact .inl h
      · simp only [St.new] at h
        exact .inr (by omega)
    have hnr : nx + 1 ∉ I1 := fun h => by
      rcases hI1 _ h with h | h
      · have := hIx _ h
        omega
      · simp only [St.new] at h
        omega
    have hF2 : Frm st s1 (fi :: m :: I) ∧ True := ⟨((frm_new.trans frm_new (by simp)).wide (J := fi :: m :: I) (by simp)).trans hf1 (fun x hx _ => hx), trivial⟩
    (repeat (first | refine w_seq ?_ | refine w_regionL ?_ | refine w_norm ?_ | refine w_exit' ?_ | refine w_ret' ?_ | refine w_block ?_ | refine w_scope ?_ | refine w_skip ?_ | refine w_ret ?_ | refine w_exit ?_ | refine w_label ?_ | refine wo_nil ⟨rfl, ?_⟩ | ((first | apply o_box | apply o_alloc | apply o_assign | apply o_move | apply o_nil | apply o_nilN | apply o_fieldAddr | apply o_load | apply o_bin | apply o_extract | apply o_storep) <;> first | refine wo_id ?_ | refine wc_id ?_ | ((with_reducible apply look_id); (exact look_by); done) | ((with_reducible apply bin_id); (exact bin_by); done) | ((with_reducible apply load_id); ((first | (apply ldp; (focus exact get_by); (focus first | exact rfl | assumption)) | apply ldf); (first | exact part_sc (by first | exact ag3) rfl | (apply part_agg; (focus first | exact ag26); (focus first | exact sz26); (focus exact rfl); (focus exact rfl)))); done) | ((with_reducible apply cells_id); (exact cells_by); done) | ((with_reducible apply next_id); (exact next_by); done) | ((with_reducible apply get_id); (exact get_by); done) | ((with_reducible apply setAt_id); (exact setat_by); done) | exact ze48 | exact fa97_0 _ _ _ | exact fe97_0 _ | exact fa38_0 _ _ _ | exact fe38_0 _ | exact sz48 | assumption | exact rfl) | ((first | apply b_cond) <;> first | refine wo_id ?_ | refine wc_id ?_ | ((with_reducible apply look_id); (exact look_by); done) | (first | exact tt | exact ff | assumption))))
    (apply ends_ret; (focus exact (e_cela ag48 sz48 (e_tmp res_nil))))
    refine ⟨_, _, _, leaves_pur (by decide) (by exact fz_by), rfl, row', I1, by exact get_by, hfr1, ?_, ?_, hII⟩
    · exact hM2.move (J := [nx + 1]) (by exact frm_by) (by simp; omega) (by simp; rintro x hx rfl; exact hnr hx)
    · exact hF2.1.trans (J := [nx + 1]) (by exact frm_by) (by simp; omega)
theorem kf_mach (n : Int) : Mach (.pv (.ifc 26 (.agg [.sc (.int .i64 n)]))) 103 (.pv (.agg [.sc (.int .i64 n)])) (kfR n) FR0 (KOk n) where
  iface := ⟨_, _, rfl, fun st => by kernel_rfl⟩
  body := hb103
  step := fun st m I ps fi row f hM hfi hfm hfI hg hfr ok => kf_step n hM hfi hfm hfI hg hfr ok
end Go.Proofs.Ytnolgpagdjcjbaa.Ve
