import Derived.Test.YtefgpelodpggkaaMx
set_option linter.unusedVariables false
set_option linter.unusedSimpArgs false
namespace Go.Proofs.Ytefgpelodpggkaa.Ve
open Go XFlt
set_option maxRecDepth 4000
set_option maxHeartbeats 8000000
theorem lx_nil {v : V} (h : Lx v (([] : List It).map gIt)) : v = .pv (.fz []) ∨ v = .nl := by
  rcases h with h | ⟨h, -⟩
  · exact .inl h
  · exact .inr h
theorem lx_cons {v : V} {x : It} {l : List It} (h : Lx v ((x :: l).map gIt)) : v = .pv (.fz ((x :: l).map gIt)) := by
  rcases h with h | ⟨h, h2⟩
  · exact h
  · cases h2
/-- Which of two shards is the better one; is there an item? -/
theorem fn_better {st : St} {fi : Nat} {b : Nat} {l0 l1 : V} {f : RF} (hfi : fi < st.next) (hg : st.get fi = some ⟨17, [pRow b f l0 l1]⟩) (hl0 : Lx l0 (f.c0.l.map gIt)) (hl1 : Lx l1 (f.c1.l.map gIt)) (hG0 : GL f.c0.l) (hG1 : GL f.c1.l) :
    Fn Try.prog cfg 93 [.ptr fi 0 0] st (fun v st' _ _ => v = .tup [.pv (.sc (.int .i64 (if secB f.c0.l f.c1.l = true then 1 else 0))), .pv (.sc (.bool (!decide (f.c0.l.length + f.c1.l.length = 0))))] ∧ Frm st st' []) := by
  obtain ⟨nx, hnx⟩ : ∃ x, st.next = x := ⟨_, rfl⟩
  unfold pRow at hg
  refine fn_keep (.inr rfl) Try.func93 rfl ?_
  show wc _ _ _ (.ptr fi 0 0 :: List.replicate 40 undefV) st _
  obtain ⟨c0, hc0⟩ : ∃ x, f.c0.l = x := ⟨_, rfl⟩
  obtain ⟨c1, hc1⟩ : ∃ x, f.c1.l = x := ⟨_, rfl⟩
  rw [hc0] at hl0 hG0 ⊢
  rw [hc1] at hl1 hG1 ⊢
  cases c0 with
  | nil =>
    have e1 : secB [] c1 = true := by cases c1 <;> rfl
    rw [e1]
    cases c1 with
    | nil =>
      rcases lx_nil hl0 with rfl | rfl <;> rcases lx_nil hl1 with rfl | rfl
      all_goals
        (repeat (first | refine w_seq ?_ | refine w_regionL ?_ | refine w_norm ?_ | refine w_ret' ?_ | refine w_block ?_ | refine w_ret ?_ | refine wo_nil ⟨rfl, ?_⟩ | ((first | apply o_assign | apply o_move | apply o_nil | apply o_fieldAddr | apply o_indexAddr | apply o_load | apply o_len | apply o_bin) <;> first | refine wo_id ?_ | ((with_reducible apply look_id); (exact look_by); done) | ((with_reducible apply bin_id); (exact bin_by); done) | ((with_reducible apply load_id); ((first | (apply ldp; (focus exact get_by); (focus first | exact rfl))); (first | exact part_sc (by first | exact ag85) rfl)); done) | exact fa102_7 _ _ _ | exact lnF85 _ | exact lnN85 | (intro a h; cases h) | exact rfl) | (refine wo_nil ⟨dyn_draw (bs := [0, 0, 0, 0, 0, 0, 1, 0, 0, 0, 0, 0, 0, 1, 0, 0]) ?_ ?_, ?_⟩; (focus ((repeat (first | exact Flags.nil | (apply Flags.cons Flag.dry) | (apply Flags.cons Flag.read))); done)); (focus decide +kernel)) | ((first | apply b_cond) <;> first | refine wc_id ?_ | ((with_reducible apply look_id); (exact look_by); done) | (first | exact tt))))
        (apply ends_ret; (focus exact (e_tmp (e_tmp res_nil))))
        exact ⟨_, _, _, Leaves.frz (by decide) _ _ (by exact fz_by), rfl, by exact frm_by⟩
    | cons y ys =>
      have e2 : l1 = _ := lx_cons hl1
      subst e2
      have hlen : ((y :: ys).map gIt).length = ys.length + 1 := by simp
      have ed : (!decide (([] : List It).length + (y :: ys).length = 0)) = decide (0 < (((y :: ys).map gIt).length : Int)) := by
        rw [decide_eq_true (show 0 < (((y :: ys).map gIt).length : Int) by omega), decide_eq_false (by simp)]
        rfl
      rw [ed]
      rcases lx_nil hl0 with rfl | rfl
      all_goals
        (repeat (first | refine w_seq ?_ | refine w_regionL ?_ | refine w_norm ?_ | refine w_ret' ?_ | refine w_block ?_ | refine w_ret ?_ | refine wo_nil ⟨rfl, ?_⟩ | ((first | apply o_assign | apply o_move | apply o_nil | apply o_fieldAddr | apply o_indexAddr | apply o_load | apply o_len | apply o_bin) <;> first | refine wo_id ?_ | ((with_reducible apply look_id); (exact look_by); done) | ((with_reducible apply bin_id); (exact bin_by); done) | ((with_reducible apply load_id); ((first | (apply ldp; (focus exact get_by); (focus first | exact rfl))); (first | exact part_sc (by first | exact ag85) rfl)); done) | exact fa102_7 _ _ _ | exact lnF85 _ | exact lnN85 | (intro a h; cases h) | exact rfl) | (refine wo_nil ⟨dyn_draw (bs := [0, 0, 0, 0, 0, 0, 1, 0, 0, 0, 0, 0, 0, 1, 0, 0]) ?_ ?_, ?_⟩; (focus ((repeat (first | exact Flags.nil | (apply Flags.cons Flag.dry) | (apply Flags.cons Flag.read))); done)); (focus decide +kernel)) | ((first | apply b_cond) <;> first | refine wc_id ?_ | ((with_reducible apply look_id); (exact look_by); done) | (first | exact tt))))
        (apply ends_ret; (focus exact (e_tmp (e_tmp res_nil))))
        exact ⟨_, _, _, Leaves.frz (by decide) _ _ (by exact fz_by), rfl, by exact frm_by⟩
  | cons x xs =>
    have e2 : l0 = _ := lx_cons hl0
    subst e2
    have hlen0 : ((x :: xs).map gIt).length = xs.length + 1 := by simp
    have ed : (!decide ((x :: xs).length + c1.length = 0)) = true := by
      rw [decide_eq_false (by simp)]
      rfl
    rw [ed]
    cases c1 with
    | nil =>
      have e1 : secB (x :: xs) [] = false := rfl
      rw [e1]
      rcases lx_nil hl1 with rfl | rfl
      all_goals
        (repeat (first | refine w_seq ?_ | refine w_regionL ?_ | refine w_norm ?_ | refine w_block ?_ | refine w_skip ?_ | refine w_ret ?_ | refine wo_nil ⟨rfl, ?_⟩ | ((first | apply o_assign | apply o_move | apply o_nil | apply o_fieldAddr | apply o_indexAddr | apply o_load | apply o_len | apply o_bin) <;> first | refine wo_id ?_ | ((with_reducible apply look_id); (exact look_by); done) | ((with_reducible apply bin_id); (exact bin_by); done) | ((with_reducible apply load_id); ((first | (apply ldp; (focus exact get_by); (focus first | exact rfl))); (first | exact part_sc (by first | exact ag85) rfl)); done) | exact fa102_7 _ _ _ | exact lnF85 _ | exact lnN85 | (intro a h; cases h) | exact rfl) | (refine wo_nil ⟨dyn_draw (bs := [0, 0, 0, 0, 0, 0, 1, 0, 0, 0, 0, 0, 0, 1, 0, 0]) ?_ ?_, ?_⟩; (focus ((repeat (first | exact Flags.nil | (apply Flags.cons Flag.dry) | (apply Flags.cons Flag.read))); done)); (focus decide +kernel)) | (refine wo_nil ⟨dyn_draw (bs := [0, 0, 0, 0, 0, 0, 1, 0, 0, 1, 1, 0, 0, 0]) ?_ ?_, ?_⟩; (focus ((repeat (first | exact Flags.nil | (apply Flags.cons Flag.dry) | (apply Flags.cons Flag.read))); done)); (focus decide +kernel)) | ((first | apply b_cond | apply b_pick | apply b_in) <;> first | refine wo_id ?_ | refine wc_id ?_ | ((with_reducible apply look_id); (exact look_by); done) | ((with_reducible apply yield_id); ((apply yield_of; (focus exact rfl); (focus exact lk_by))); done) | (first | exact ff)) | (apply b_out <;> first | refine wo_id ?_ | ((with_reducible apply yield_id); ((apply yield_of; (focus exact rfl); (focus exact lk_by))); done) | (first | exact ff))))
        (apply ends_ret; (focus exact (e_tmp (e_tmp res_nil))))
        exact ⟨_, _, _, Leaves.frz (by decide) _ _ (by exact fz_by), rfl, by exact frm_by⟩
    | cons y ys =>
      have e2 : l1 = _ := lx_cons hl1
      subst e2
      have hlen1 : ((y :: ys).map gIt).length = ys.length + 1 := by simp
      have r0 : ((x :: xs).map gIt)[(0 : Int).toNat]? = some (gIt x) := rfl
      have r1 : ((y :: ys).map gIt)[(0 : Int).toNat]? = some (gIt y) := rfl
      have hx := hG0.cnl (ivI x) (by simp)
      have hy := hG1.cnl (ivI y) (by simp)
      have hc := sp_itemCmp y.pri x.pri y.val x.val hy.2 hx.2
      by_cases c : cmpV y.pri y.val x.pri x.val < 0
      · have e1 : secB (x :: xs) (y :: ys) = true := decide_eq_true (show ivC (ivI y) (ivI x) < 0 from c)
        rw [e1]
        (repeat (first | refine w_seq ?_ | refine w_regionL ?_ | refine w_norm ?_ | refine w_ret' ?_ | refine w_block ?_ | refine w_ret ?_ | refine wo_nil ⟨rfl, ?_⟩ | ((first | apply o_assign | apply o_move | apply o_nil | apply o_fieldAddr | apply o_indexAddr | apply o_load | apply o_len | apply o_bin) <;> first | refine wo_id ?_ | ((with_reducible apply look_id); (exact look_by); done) | ((with_reducible apply bin_id); (exact bin_by); done) | ((with_reducible apply load_id); ((first | (apply ldp; (focus exact get_by); (focus first | exact rfl)) | apply ldf); (first | exact part_sc (by first | exact ag85) rfl | (apply part_agg; (focus first | exact ag36); (focus first | exact sz36); (focus exact rfl); (focus exact rfl)))); done) | exact fa102_7 _ _ _ | exact lnF85 _ | exact ia_fz (iaF85 _ _) (by omega) (by assumption) rfl | (intro a h; cases h) | exact rfl) | (refine wo_nil ⟨dyn_draw (bs := [0, 0, 0, 0, 0, 0, 1, 0, 0, 0, 0, 0, 0, 1, 0, 0]) ?_ ?_, ?_⟩; (focus ((repeat (first | exact Flags.nil | (apply Flags.cons Flag.dry) | (apply Flags.cons Flag.read))); done)); (focus decide +kernel)) | (refine wo_nil ⟨dyn_draw (bs := [0, 0, 0, 0, 0, 0, 1, 0, 0, 1, 1, 0, 0, 0]) ?_ ?_, ?_⟩; (focus ((repeat (first | exact Flags.nil | (apply Flags.cons Flag.dry) | (apply Flags.cons Flag.read))); done)); (focus decide +kernel)) | (apply o_pcall; (focus exact args_by); (focus exact hb97); (focus exact rfl); (focus ((repeat (first | exact frzAll_nil | apply frzAll_pv)); done)); (focus exact hc)) | ((first | apply b_cond | apply b_pick | apply b_in) <;> first | refine wo_id ?_ | refine wc_id ?_ | ((with_reducible apply look_id); (exact look_by); done) | ((with_reducible apply yield_id); ((apply yield_of; (focus exact rfl); (focus exact lk_by))); done) | (first | exact tt | exact ff | assumption | exact decide_eq_true (by omega)))))
        (apply ends_ret; (focus exact (e_tmp (e_tmp res_nil))))
        exact ⟨_, _, _, Leaves.frz (by decide) _ _ (by exact fz_by), rfl, by exact frm_by⟩
      · have e1 : secB (x :: xs) (y :: ys) = false := decide_eq_false (show ¬ ivC (ivI y) (ivI x) < 0 from c)
        rw [e1]
        (repeat (first | refine w_seq ?_ | refine w_regionL ?_ | refine w_norm ?_ | refine w_block ?_ | refine w_skip ?_ | refine w_ret ?_ | refine wo_nil ⟨rfl, ?_⟩ | ((first | apply o_assign | apply o_move | apply o_nil | apply o_fieldAddr | apply o_indexAddr | apply o_load | apply o_len | apply o_bin) <;> first | refine wo_id ?_ | ((with_reducible apply look_id); (exact look_by); done) | ((with_reducible apply bin_id); (exact bin_by); done) | ((with_reducible apply load_id); ((first | (apply ldp; (focus exact get_by); (focus first | exact rfl)) | apply ldf); (first | exact part_sc (by first | exact ag85) rfl | (apply part_agg; (focus first | exact ag36); (focus first | exact sz36); (focus exact rfl); (focus exact rfl)))); done) | exact fa102_7 _ _ _ | exact lnF85 _ | exact ia_fz (iaF85 _ _) (by omega) (by assumption) rfl | (intro a h; cases h) | exact rfl) | (refine wo_nil ⟨dyn_draw (bs := [0, 0, 0, 0, 0, 0, 1, 0, 0, 0, 0, 0, 0, 1, 0, 0]) ?_ ?_, ?_⟩; (focus ((repeat (first | exact Flags.nil | (apply Flags.cons Flag.dry) | (apply Flags.cons Flag.read))); done)); (focus decide +kernel)) | (refine wo_nil ⟨dyn_draw (bs := [0, 0, 0, 0, 0, 0, 1, 0, 0, 1, 1, 0, 0, 0]) ?_ ?_, ?_⟩; (focus ((repeat (first | exact Flags.nil | (apply Flags.cons Flag.dry) | (apply Flags.cons Flag.read))); done)); (focus decide +kernel)) | (apply o_pcall; (focus exact args_by); (focus exact hb97); (focus exact rfl); (focus ((repeat (first | exact frzAll_nil | apply frzAll_pv)); done)); (focus exact hc)) | ((first | apply b_cond | apply b_pick | apply b_in) <;> first | refine wo_id ?_ | refine wc_id ?_ | ((with_reducible apply look_id); (exact look_by); done) | ((with_reducible apply yield_id); ((apply yield_of; (focus exact rfl); (focus exact lk_by))); done) | (first | exact tt | exact ff | assumption | exact decide_eq_true (by omega)))))
        (apply ends_ret; (focus exact (e_tmp (e_tmp res_nil))))
        exact ⟨_, _, _, Leaves.frz (by decide) _ _ (by exact fz_by), rfl, by exact frm_by⟩
/-- What comes out of a shard with its first item gone. -/
theorem del_eq {x : It} {xs : List It} {lp l' out : List IV} {z : IV} (hG : GL (x :: xs)) (h1 : lp.Perm (((x :: xs).map ivI).map cn)) (hH : HeapF lp lp.length 0) (hz : lp[0]? = some z) (h2 : (l' ++ [z]).Perm lp) (h3 : out.Perm l') (hs : Srt out) : z = ivI x ∧ out = xs.map ivI := by
  rw [cnl_map_cn hG.cnl] at h1
  have hzm : z ∈ (x :: xs).map ivI := h1.subset (List.mem_of_getElem? hz)
  have hxl : ivI x ∈ lp := h1.symm.subset (by simp)
  have ha := heap_all hH hz (ivI x) hxl
  have hb : ivC (ivI x) z ≤ 0 := by
    have hzm : z ∈ ivI x :: xs.map ivI := hzm
    rcases List.mem_cons.1 hzm with rfl | h
    · exact ivC_refl _
    · exact (List.pairwise_cons.1 hG.srt).1 z h
  have e : z = ivI x := ivC_eq (hG.cnl z hzm) (hG.cnl (ivI x) (by simp)) (by have := ivC_swap z (ivI x); omega)
  subst e
  have hp : l'.Perm (xs.map ivI) := by
    have h4 : (ivI x :: l').Perm (ivI x :: xs.map ivI) := (List.perm_append_comm (l₁ := [ivI x]) (l₂ := l')).trans (h2.trans h1)
    exact List.Perm.cons_inv h4
  exact ⟨rfl, srt_eq (hG.tail.cnl.perm (h3.trans hp)) hs hG.tail.srt (h3.trans hp)⟩
theorem fn_mdelA (n : Int) {st : St} {m : Nat} {I : List Nat} {ps : Pts} {fi : Nat} {b : Nat} {l0 l1 : V} {a : Int} {f : RF} (hM : MemAt st m I ps) (hfi : fi < st.next) (hfm : fi ≠ m) (hfI : fi ∉ I) (hg : st.get fi = some ⟨17, [pRow b { f with at_ := a } l0 l1]⟩) (hb : canon b = f.it.pri) (hl0 : Lx l0 (f.c0.l.map gIt)) (hl1 : Lx l1 (f.c1.l.map gIt)) (ha : f.k = 2 → f.pc = 2 → a = if secB f.c0.l f.c1.l = true then 1 else 0) (ok : MOk n ps f) (hk : f.k = 2) (h2 : ¬ f.pc = 2) :
    Fn Try.prog cfg 88 [.pv (.agg [.sc (.int .i64 n)]), .ptr m 0 0, .ptr fi 0 0] st (MPost m fi I st (delR n ps f)) := by
  obtain ⟨nx, hnx⟩ : ∃ x, st.next = x := ⟨_, rfl⟩
  have hmx := hM.lt
  have hIx := hM.ltI
  have hmI := hM.out
  have hn := ok.nn
  have hf := ok.fr
  have hlen := ok.len
  have hin0 := into_range f.d0 n (by omega)
  have hin1 := into_range f.d1 n (by omega)
  have hi0 := sp_into f.d0 n hf.d0 (by omega)
  have hi1 := sp_into f.d1 n hf.d1 (by omega)
  have w1 : IntKind.i64.wrap (0 + 1) = 1 := by decide
  have w2 : IntKind.i64.wrap (1 + 1) = 2 := by decide
  refine fn_keep (.inr rfl) Try.func88 rfl ?_
  show wc _ _ _ (.pv (.agg [.sc (.int .i64 n)]) :: .ptr m 0 0 :: .ptr fi 0 0 :: List.replicate 108 undefV) st _
  have hM1 : MemAt ((st.new ⟨([.pv (.sc (.int .i64 n))] : List V).length, [[.pv (.sc (.int .i64 n))]]⟩).new ⟨([.pv (.sc (.bool false)), .pv (.sc (.float .f64 0)), .pv (.sc (.int .i64 0)), .pv (.sc (.int .i64 0))] : List V).length, [[.pv (.sc (.bool false)), .pv (.sc (.float .f64 0)), .pv (.sc (.int .i64 0)), .pv (.sc (.int .i64 0))]]⟩) m I ps := (hM.move frm_new (by simp) (by simp)).move frm_new (by simp) (by simp)
  have hF1 : Frm st ((st.new ⟨([.pv (.sc (.int .i64 n))] : List V).length, [[.pv (.sc (.int .i64 n))]]⟩).new ⟨([.pv (.sc (.bool false)), .pv (.sc (.float .f64 0)), .pv (.sc (.int .i64 0)), .pv (.sc (.int .i64 0))] : List V).length, [[.pv (.sc (.bool false)), .pv (.sc (.float .f64 0)), .pv (.sc (.int .i64 0)), .pv (.sc (.int .i64 0))]]⟩) [] ∧ True := ⟨frm_new.trans frm_new (by simp), trivial⟩
  have hIS : ∀ x ∈ I, x ≠ fi ∧ x ≠ nx + 1 := fun x hx => by
    have := hIx _ hx
    exact ⟨by rintro rfl; exact hfI hx, by omega⟩
  unfold MPost delR
  unfold pRow at hg
  by_cases h0 : f.pc = 0
  · simp only [if_pos h0]
    simp only [h0] at hg
    (repeat (first | refine w_seq ?_ | refine w_regionL ?_ | refine w_norm ?_ | refine wo_nil ⟨rfl, ?_⟩ | ((first | apply o_box | apply o_alloc | apply o_assign | apply o_move | apply o_nil | apply o_fieldAddr | apply o_load | apply o_bin | apply o_indexAddr) <;> first | refine wo_id ?_ | ((with_reducible apply look_id); (exact look_by); done) | ((with_reducible apply bin_id); (exact bin_by); done) | ((with_reducible apply load_id); ((first | (apply ldp; (focus exact get_by); (focus first | exact rfl))); (first | exact part_sc (by first | exact ag3) rfl)); done) | ((with_reducible apply cells_id); (exact cells_by); done) | ((with_reducible apply next_id); (exact next_by); done) | exact ze38 | exact fa102_1 _ _ _ | exact fa102_0 _ _ _ | exact rfl) | (apply o_pcall; (focus exact args_by); (focus exact hb83); (focus exact rfl); (focus ((repeat (first | exact frzAll_nil | apply frzAll_pv)); done)); (focus exact hi0)) | ((first | apply b_cond) <;> first | refine wc_id ?_ | ((with_reducible apply look_id); (exact look_by); done) | (first | exact tt))))
    refine o_call (by exact args_by) hb39 (fn_read hM1 (into f.d0 n)) ?_
    rintro _ s2 R2 W2 ⟨rfl, hf2, rfl⟩
    have hn2 := hf2.next
    simp only [St.new] at hn2
    have hM3 := hM1.move hf2 (by simp) (by simp)
    have hFF : Frm st s2 (fi :: m :: I) ∧ True := ⟨(hF1.1.trans hf2 (by simp)).wide (by simp), trivial⟩
    obtain ⟨S, hS⟩ : ∃ x, s2.next = x := ⟨_, rfl⟩
    obtain ⟨C, hC⟩ : ∃ x, rd ps (into f.d0 n) = x := ⟨_, rfl⟩
    rw [hC]
    (repeat (first | refine w_seq ?_ | refine w_regionL ?_ | refine w_norm ?_ | refine w_ret' ?_ | refine w_ret ?_ | refine wo_nil ⟨rfl, ?_⟩ | (apply o_bin; (focus exact look_by); (focus exact look_by); (focus first | exact br_addw (w1)); (focus exact rfl)) | ((first | apply o_assign | apply o_move | apply o_nil | apply o_fieldAddr | apply o_load | apply o_bin | apply o_indexAddr | apply o_storep | apply o_buildP) <;> first | refine wo_id ?_ | ((with_reducible apply look_id); (exact look_by); done) | ((with_reducible apply bin_id); (exact bin_by); done) | ((with_reducible apply load_id); ((first | (apply ldp; (focus exact get_by); (focus first | exact rfl))); (first | exact part_sc (by first | exact ag3) rfl)); done) | ((with_reducible apply cells_id); (exact cells_by); done) | ((with_reducible apply get_id); (exact get_by); done) | ((with_reducible apply setAt_id); (exact setat_by); done) | ((with_reducible apply parts_id); (exact parts_by); done) | exact fa102_1 _ _ _ | exact fa102_0 _ _ _ | exact sz89 | exact sz3 | exact bp38 | exact sz38 | exact rfl) | (refine wo_nil ⟨dyn_draw (bs := [0, 0, 0, 0, 1, 0, 0, 0, 0, 0, 1, 0, 0, 0, 0, 1, 0, 1, 1, 2, 0, 0, 0, 3]) ?_ ?_, ?_⟩; (focus ((repeat (first | exact Flags.nil | (apply Flags.cons Flag.dry) | (apply Flags.cons Flag.read) | (apply Flags.cons Flag.mk) | (apply Flags.cons Flag.free))); done)); (focus decide +kernel)) | ((first | apply b_cond) <;> first | refine wc_id ?_ | ((with_reducible apply look_id); (exact look_by); done) | (first | exact tt))))
    (apply ends_ret; (focus exact (e_cela ag38 sz38 (e_tmp res_nil))))
    refine ⟨_, _, _, leaves_pur (by decide) (by exact fz_by), rfl, pRow b { f with pc := 1, v0 := C.1, c0 := C.2, at_ := a } (.pv (.fz (C.2.l.map gIt))) l1, I, by exact get_by, fun _ => ⟨⟨b, _, l1, a, hb, .inl rfl, hl1, (fun _ h => absurd h (by decide : ¬ (1 : Int) = 2)), rfl⟩⟩, ?_, ?_, fun x hx => .inl hx⟩
    · exact hM3.move (J := [fi, nx + 1]) (by exact frm_by) (by simp; omega) (by simpa using hIS)
    · exact hFF.1.trans (J := [fi, nx + 1]) (by exact frm_by) (by simp; omega)
  · simp only [if_neg h0]
    by_cases h1 : f.pc = 1
    · simp only [if_pos h1]
      simp only [h1] at hg
      (repeat (first | refine w_seq ?_ | refine w_regionL ?_ | refine w_norm ?_ | refine wo_nil ⟨rfl, ?_⟩ | ((first | apply o_box | apply o_alloc | apply o_assign | apply o_move | apply o_nil | apply o_fieldAddr | apply o_load | apply o_bin | apply o_indexAddr) <;> first | refine wo_id ?_ | ((with_reducible apply look_id); (exact look_by); done) | ((with_reducible apply bin_id); (exact bin_by); done) | ((with_reducible apply load_id); ((first | (apply ldp; (focus exact get_by); (focus first | exact rfl))); (first | exact part_sc (by first | exact ag3) rfl)); done) | ((with_reducible apply cells_id); (exact cells_by); done) | ((with_reducible apply next_id); (exact next_by); done) | exact ze38 | exact fa102_1 _ _ _ | exact fa102_0 _ _ _ | exact rfl) | (apply o_pcall; (focus exact args_by); (focus exact hb83); (focus exact rfl); (focus ((repeat (first | exact frzAll_nil | apply frzAll_pv)); done)); (focus exact hi1)) | ((first | apply b_cond) <;> first | refine wc_id ?_ | ((with_reducible apply look_id); (exact look_by); done) | (first | exact tt))))
      refine o_call (by exact args_by) hb39 (fn_read hM1 (into f.d1 n)) ?_
      rintro _ s2 R2 W2 ⟨rfl, hf2, rfl⟩
      have hn2 := hf2.next
      simp only [St.new] at hn2
      have hM3 := hM1.move hf2 (by simp) (by simp)
      have hFF : Frm st s2 (fi :: m :: I) ∧ True := ⟨(hF1.1.trans hf2 (by simp)).wide (by simp), trivial⟩
      obtain ⟨S, hS⟩ : ∃ x, s2.next = x := ⟨_, rfl⟩
      have hGC := ok.mem (into f.d1 n)
      obtain ⟨C, hC⟩ : ∃ x, rd ps (into f.d1 n) = x := ⟨_, rfl⟩
      rw [hC] at hGC ⊢
      (repeat (first | refine w_seq ?_ | refine w_regionL ?_ | refine w_norm ?_ | refine w_skip ?_ | refine wo_nil ⟨rfl, ?_⟩ | (apply o_bin; (focus exact look_by); (focus exact look_by); (focus first | exact br_addw (w2)); (focus exact rfl)) | ((first | apply o_move | apply o_nil | apply o_fieldAddr | apply o_load | apply o_bin | apply o_indexAddr | apply o_storep) <;> first | refine wo_id ?_ | ((with_reducible apply look_id); (exact look_by); done) | ((with_reducible apply bin_id); (exact bin_by); done) | ((with_reducible apply load_id); ((first | (apply ldp; (focus exact get_by); (focus first | exact rfl))); (first | exact part_sc (by first | exact ag3) rfl)); done) | ((with_reducible apply cells_id); (exact cells_by); done) | ((with_reducible apply get_id); (exact get_by); done) | ((with_reducible apply setAt_id); (exact setat_by); done) | exact fa102_1 _ _ _ | exact fa102_0 _ _ _ | exact sz89 | exact sz3 | exact rfl) | (refine wo_nil ⟨dyn_draw (bs := [0, 0, 0, 0, 1, 0, 0, 0, 0, 0, 1, 0, 0, 0, 0, 1, 0, 1, 1, 2, 0, 0, 0, 3]) ?_ ?_, ?_⟩; (focus ((repeat (first | exact Flags.nil | (apply Flags.cons Flag.dry) | (apply Flags.cons Flag.read) | (apply Flags.cons Flag.mk) | (apply Flags.cons Flag.free))); done)); (focus decide +kernel)) | ((first | apply b_cond) <;> first | refine wc_id ?_ | ((with_reducible apply look_id); (exact look_by); done) | (first | exact ff))))
      refine o_call (by exact args_by) hb93 (fn_better (b := b) (l0 := l0) (l1 := .pv (.fz (C.2.l.map gIt))) (f := { f with pc := 2, v1 := C.1, c1 := C.2, at_ := a }) (by exact nle_by) (by unfold pRow; exact get_by) hl0 (.inl rfl) hf.c0 hGC) ?_
      rintro _ s3 R3 W3 ⟨rfl, hf3⟩
      have hn3 := hf3.next
      simp only [St.new, St.set] at hn3
      have hgf3 : s3.get fi = some ⟨17, [pRow b { f with pc := 2, v1 := C.1, c1 := C.2, at_ := a } l0 (.pv (.fz (C.2.l.map gIt)))]⟩ := hf3.getq (by exact lt_by) (by simp) (by unfold pRow; exact get_by)
      have hgr3 : s3.get (nx + 1) = some ⟨4, [[.pv (.sc (.bool false)), .pv (.sc (.float .f64 0)), .pv (.sc (.int .i64 0)), .pv (.sc (.int .i64 0))]]⟩ := hf3.getq (by exact lt_by) (by simp) (by exact get_by)
      have hM4 : MemAt s3 m I ps := (hM3.move (J := [fi, nx + 1]) (by exact frm_by) (by simp; omega) (by simpa using hIS)).move hf3 (by simp) (by simp)
      have hFG : Frm st s3 (fi :: m :: I) ∧ True := ⟨(hFF.1.trans (J := [fi, nx + 1]) (by exact frm_by) (by simp; omega)).trans hf3 (by simp), trivial⟩
      clear hf3 hf2
      unfold pRow at hgf3
      (repeat (first | refine w_seq ?_ | refine w_regionL ?_ | refine w_norm ?_ | refine w_ret' ?_ | refine w_ret ?_ | refine wo_nil ⟨rfl, ?_⟩ | ((first | apply o_assign | apply o_move | apply o_nil | apply o_fieldAddr | apply o_storep | apply o_buildP | apply o_extract | apply o_not) <;> first | refine wo_id ?_ | ((with_reducible apply look_id); (exact look_by); done) | ((with_reducible apply cells_id); (exact cells_by); done) | ((with_reducible apply get_id); (exact get_by); done) | ((with_reducible apply setAt_id); (exact setat_by); done) | ((with_reducible apply parts_id); (exact parts_by); done) | exact fa102_1 _ _ _ | exact fa102_0 _ _ _ | exact sz3 | exact bp38 | exact sz38 | exact rfl)))
      (apply ends_ret; (focus exact (e_cela ag38 sz38 (e_tmp res_nil))))
      have eb : (!!decide (f.c0.l.length + C.2.l.length = 0)) = decide (f.c0.l.length + C.2.l.length = 0) := Bool.not_not _
      refine ⟨_, _, _, leaves_pur (by decide) (by exact fz_by), by rw [eb]; rfl, pRow b { f with pc := 2, v1 := C.1, c1 := C.2, at_ := if secB f.c0.l C.2.l = true then 1 else 0 } l0 (.pv (.fz (C.2.l.map gIt))), I, by exact get_by, fun _ => ⟨⟨b, l0, _, _, hb, hl0, .inl rfl, fun _ _ => rfl, rfl⟩⟩, ?_, ?_, fun x hx => .inl hx⟩
      · exact hM4.move (J := [fi, nx + 1]) (by exact frm_by) (by simp; omega) (by simpa using hIS)
      · exact hFG.1.trans (J := [fi, nx + 1]) (by exact frm_by) (by simp; omega)
    · exfalso
      rcases hf.pc with h | h | ⟨h, -⟩
      · exact h0 h
      · exact h1 h
      · exact h2 h
end Go.Proofs.Ytefgpelodpggkaa.Ve
