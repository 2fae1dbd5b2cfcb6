import Derived.Test.YtefgpelodpggkaaMy
set_option linter.unusedVariables false
set_option linter.unusedSimpArgs false
namespace Go.Proofs.Ytefgpelodpggkaa.Ve
open Go XFlt
set_option maxRecDepth 4000
set_option maxHeartbeats 8000000
theorem fn_mdelB (n : Int) {st : St} {m : Nat} {I : List Nat} {ps : Pts} {fi : Nat} {b : Nat} {l0 l1 : V} {a : Int} {f : RF} (hM : MemAt st m I ps) (hfi : fi < st.next) (hfm : fi ≠ m) (hfI : fi ∉ I) (hg : st.get fi = some ⟨17, [pRow b { f with at_ := a } l0 l1]⟩) (hb : canon b = f.it.pri) (hl0 : Lx l0 (f.c0.l.map gIt)) (hl1 : Lx l1 (f.c1.l.map gIt)) (ha : f.k = 2 → f.pc = 2 → a = if secB f.c0.l f.c1.l = true then 1 else 0) (ok : MOk n ps f) (hk : f.k = 2) (h2 : f.pc = 2) (hs : secB f.c0.l f.c1.l = true) :
    Fn Try.prog cfg 88 [.pv (.agg [.sc (.int .i64 n)]), .ptr m 0 0, .ptr fi 0 0] st (MPost m fi I st (delR n ps f)) := by
  obtain ⟨nx, hnx⟩ : ∃ x, st.next = x := ⟨_, rfl⟩
  have hmx := hM.lt
  have hIx := hM.ltI
  have hmI := hM.out
  have hn := ok.nn
  have hf := ok.fr
  have hlen := ok.len
  have hin0 := into_range f.d0 n (by omega)
  have hin1 := into_range f.d1 n (by omega)
  have hi0 := sp_into f.d0 n hf.d0 (by omega)
  have hi1 := sp_into f.d1 n hf.d1 (by omega)
  have w1 : IntKind.i64.wrap (0 + 1) = 1 := by decide
  have w2 : IntKind.i64.wrap (1 + 1) = 2 := by decide
  refine fn_keep (.inr rfl) Try.func88 rfl ?_
  show wc _ _ _ (.pv (.agg [.sc (.int .i64 n)]) :: .ptr m 0 0 :: .ptr fi 0 0 :: List.replicate 108 undefV) st _
  have hM1 : MemAt ((st.new ⟨([.pv (.sc (.int .i64 n))] : List V).length, [[.pv (.sc (.int .i64 n))]]⟩).new ⟨([.pv (.sc (.bool false)), .pv (.sc (.float .f64 0)), .pv (.sc (.int .i64 0)), .pv (.sc (.int .i64 0))] : List V).length, [[.pv (.sc (.bool false)), .pv (.sc (.float .f64 0)), .pv (.sc (.int .i64 0)), .pv (.sc (.int .i64 0))]]⟩) m I ps := (hM.move frm_new (by simp) (by simp)).move frm_new (by simp) (by simp)
  have hF1 : Frm st ((st.new ⟨([.pv (.sc (.int .i64 n))] : List V).length, [[.pv (.sc (.int .i64 n))]]⟩).new ⟨([.pv (.sc (.bool false)), .pv (.sc (.float .f64 0)), .pv (.sc (.int .i64 0)), .pv (.sc (.int .i64 0))] : List V).length, [[.pv (.sc (.bool false)), .pv (.sc (.float .f64 0)), .pv (.sc (.int .i64 0)), .pv (.sc (.int .i64 0))]]⟩) [] ∧ True := ⟨frm_new.trans frm_new (by simp), trivial⟩
  have hIS : ∀ x ∈ I, x ≠ fi ∧ x ≠ nx + 1 := fun x hx => by
    have := hIx _ hx
    exact ⟨by rintro rfl; exact hfI hx, by omega⟩
  unfold MPost delR
  unfold pRow at hg
  have h0 : ¬ f.pc = 0 := by omega
  have h1 : ¬ f.pc = 1 := by omega
  simp only [if_neg h0, if_neg h1]
  have hne := hf.del hk h2
  have haa := ha hk h2
  simp only [h2] at hg
  simp only [if_pos hs]
  rw [if_pos hs] at haa
  subst haa
  obtain ⟨x, xs, hx⟩ : ∃ x l, f.c1.l = x :: l := by
    cases h1 : f.c1.l with
    | cons x l => exact ⟨x, l, rfl⟩
    | nil =>
      rw [h1] at hs hne
      cases h0 : f.c0.l with
      | nil => rw [h0] at hne; exact absurd rfl hne
      | cons y m => rw [h0] at hs; cases hs
  have hG := hf.c1
  rw [hx] at hG
  have hl62 := hG.len
  obtain rfl : l1 = .pv (.fz ((x :: xs).map gIt)) := lx_cons (hx ▸ hl1)
  have hxl2 : Lx (.pv (.fz ((x :: xs).map gIt))) (((x :: xs).map ivI).map ivP) := .inl (by rw [gIt_iv])
  have ehd : hdI f.c1.l = x := by rw [hx]; rfl
  have etl : f.c1.l.tail = xs := by rw [hx]; rfl
  rw [ehd, etl]
  (repeat (first | refine w_seq ?_ | refine w_regionL ?_ | refine w_norm ?_ | refine w_skip ?_ | refine wo_nil ⟨rfl, ?_⟩ | ((first | apply o_box | apply o_alloc | apply o_assign | apply o_move | apply o_nil | apply o_fieldAddr | apply o_load | apply o_bin | apply o_indexAddr | apply o_storep) <;> first | refine wo_id ?_ | ((with_reducible apply look_id); (exact look_by); done) | ((with_reducible apply bin_id); (exact bin_by); done) | ((with_reducible apply load_id); ((first | (apply ldp; (focus exact get_by); (focus first | exact rfl))); (first | exact part_sc (by first | exact ag3) rfl | (apply part_agg; (focus first | exact ag36); (focus first | exact sz89); (focus exact rfl); (focus exact rfl)))); done) | ((with_reducible apply cells_id); (exact cells_by); done) | ((with_reducible apply next_id); (exact next_by); done) | ((with_reducible apply get_id); (exact get_by); done) | ((with_reducible apply setAt_id); (exact setat_by); done) | exact ze38 | exact fa102_1 _ _ _ | exact fa102_0 _ _ _ | exact sz89 | exact ze89 | exact rfl) | (refine wo_nil ⟨dyn_draw (bs := [0, 0, 0, 0, 1, 0, 0, 0, 1, 2, 3]) ?_ ?_, ?_⟩; (focus ((repeat (first | exact Flags.nil | (apply Flags.cons Flag.dry) | (apply Flags.cons Flag.read) | (apply Flags.cons Flag.mk) | (apply Flags.cons Flag.free))); done)); (focus decide +kernel)) | ((first | apply b_cond) <;> first | refine wc_id ?_ | ((with_reducible apply look_id); (exact look_by); done) | (first | exact ff))))
  refine o_call (by exact args_by) hb89 (fn_pNewL hxl2 (fun y hy => (hG.cnl y hy).2) (by rw [List.length_map]; omega)) ?_
  rintro _ s1 R1 W1 ⟨p, lp, I1, rfl, hP1, hp1, hpn, hI1, hf1⟩
  have hn1 := hf1.next
  simp only [St.new, St.set] at hn1 hpn hI1
  have hlp := hp1.length_eq
  rw [List.length_map, List.length_map] at hlp
  obtain ⟨z, hz⟩ : ∃ z, lp[0]? = some z := ⟨_, List.getElem?_eq_getElem (by rw [hlp]; simp)⟩
  have hM2 : MemAt s1 m I ps := (hM1.move (J := [nx + 1 + 1]) (by exact frm_by) (by simp; omega) (fun y hy => by have := hIx y hy; simp; omega)).move hf1 (by simp) (by simp)
  have hFa : Frm st s1 [] ∧ True := ⟨(hF1.1.trans (J := [nx + 1 + 1]) (by exact frm_by) (by simp; omega)).trans hf1 (by simp), trivial⟩
  have hgf1 : s1.get fi = some ⟨17, [pRow b { f with pc := 2, at_ := 1 } l0 (.pv (.fz ((x :: xs).map gIt)))]⟩ := hf1.getq (by exact lt_by) (by simp) (by unfold pRow; exact get_by)
  have hgr1 : s1.get (nx + 1) = some ⟨4, [[.pv (.sc (.bool false)), .pv (.sc (.float .f64 0)), .pv (.sc (.int .i64 0)), .pv (.sc (.int .i64 0))]]⟩ := hf1.getq (by exact lt_by) (by simp) (by exact get_by)
  have hgn1 : s1.get nx = some ⟨1, [[.pv (.sc (.int .i64 n))]]⟩ := hf1.getq (by exact lt_by) (by simp) (by exact get_by)
  have hgc1 : s1.get (nx + 1 + 1) = some ⟨3, [[.pv (.sc (.int .u64 f.v1)), .pv (.sc (.int .i64 f.c1.n)), (.pv (.fz ((x :: xs).map gIt)))]]⟩ := hf1.getq (by exact lt_by) (by simp) (by exact get_by)
  clear hf1
  (repeat (first | refine w_seq ?_ | refine w_regionL ?_ | refine w_norm ?_ | refine wo_nil ⟨rfl, ?_⟩ | ((first | apply o_assign | apply o_move) <;> first | refine wo_id ?_ | ((with_reducible apply look_id); (exact look_by); done))))
  refine o_call (by exact args_by) hb94 (fn_pTake hP1 hz) ?_
  rintro _ s2 R2 W2 ⟨rfl, l', hP2, hp2, hf2, -⟩
  have hn2 := hf2.next
  have hnJ : ∀ y, y < nx + 3 → y ∉ p :: I1 := fun y hy h => by
    rcases List.mem_cons.1 h with rfl | h
    · omega
    · have := hI1 y h
      omega
  have hM3 := hM2.move hf2 (hnJ _ (by omega)) (fun y hy => hnJ _ (by have := hIx y hy; omega))
  have hFb : Frm st s2 [] ∧ True := ⟨hFa.1.trans hf2 (fun y hy hlt => by
    rcases List.mem_cons.1 hy with rfl | h
    · omega
    · have := hI1 y h
      omega), trivial⟩
  have hgf2 := hf2.getq (by omega) (hnJ _ (by omega)) hgf1
  have hgr2 := hf2.getq (by omega) (hnJ _ (by omega)) hgr1
  have hgn2 := hf2.getq (by omega) (hnJ _ (by omega)) hgn1
  have hgc2 := hf2.getq (by omega) (hnJ _ (by omega)) hgc1
  clear hf2 hgf1 hgr1 hgn1 hgc1
  have hl' := hp2.length_eq
  rw [List.length_append] at hl'
  have hl'1 : l'.length + 1 = lp.length := hl'
  have hpn2 := hP2.h.sl.1
  have hIl2 := hP2.h.ltI
  obtain ⟨T, hT⟩ : ∃ y, s2.next = y := ⟨_, rfl⟩
  unfold pRow at hgf2
  (repeat (first | refine w_seq ?_ | refine w_regionL ?_ | refine w_norm ?_ | refine wo_nil ⟨rfl, ?_⟩ | ((first | apply o_alloc | apply o_assign | apply o_move | apply o_nil | apply o_fieldAddr | apply o_load | apply o_indexAddr | apply o_storep | apply o_extract) <;> first | refine wo_id ?_ | ((with_reducible apply look_id); (exact look_by); done) | ((with_reducible apply load_id); ((first | (apply ldp; (focus exact get_by); (focus first | exact rfl))); (first | exact part_sc (by first | exact ag3) rfl)); done) | ((with_reducible apply cells_id); (exact cells_by); done) | ((with_reducible apply next_id); (exact next_by); done) | ((with_reducible apply get_id); (exact get_by); done) | ((with_reducible apply setAt_id); (exact setat_by); done) | exact fa102_1 _ _ _ | exact fa102_0 _ _ _ | exact ze36 | exact sz36 | exact rfl) | (apply o_pcall; (focus exact args_by); (focus exact hb83); (focus exact rfl); (focus ((repeat (first | exact frzAll_nil | apply frzAll_pv)); done)); (focus exact hi1))))
  refine o_call (by exact args_by) hb91 (fn_pAll (hP2.move (J := [T]) (by exact frm_by) (by simp; omega) (fun y hy => by have := hIl2 y hy; simp; omega)) (by omega)) ?_
  rintro _ s3 R3 W3 ⟨out, rfl, ho1, ho2, hf3, rfl⟩
  have hn3 := hf3.next
  simp only [St.new, St.set] at hn3
  have hM4 := (hM3.move (J := [T]) (by exact frm_by) (by simp; omega) (fun y hy => by have := hIx y hy; simp; omega)).move hf3 (by simp) (by simp)
  have hFc : Frm st s3 (fi :: m :: I) ∧ True := ⟨((hFb.1.trans (J := [T]) (by exact frm_by) (by simp; omega)).trans hf3 (by simp)).wide (by simp), trivial⟩
  have hgf3 : s3.get fi = some ⟨17, [pRow b { f with pc := 2, at_ := 1 } l0 (.pv (.fz ((x :: xs).map gIt)))]⟩ := hf3.getq (by exact lt_by) (by simp) (by unfold pRow; exact get_by)
  have hgr3 : s3.get (nx + 1) = some ⟨4, [[.pv (.sc (.bool false)), .pv (.sc (.float .f64 0)), .pv (.sc (.int .i64 0)), .pv (.sc (.int .i64 0))]]⟩ := hf3.getq (by exact lt_by) (by simp) (by exact get_by)
  obtain ⟨ez, eo⟩ := del_eq hG hp1 hP1.heap hz hp2 ho1 ho2
  have hgT3 : s3.get T = some ⟨2, [ivV z]⟩ := hf3.getq (by exact lt_by) (by simp) (by exact get_by)
  clear hf3 hgf2 hgr2
  rw [ez] at hgT3
  have ho' : out.map ivP = xs.map gIt := by rw [gIt_iv, eo]
  have hwl : xs.length < 2 ^ 20 := by
    simp at hl62
    omega
  rw [ho']
  (repeat (first | ((first | apply o_buildP) <;> first | refine wo_id ?_ | ((with_reducible apply parts_id); (exact parts_by); done) | exact bp87 | exact rfl)))
  refine o_call (by exact args_by) hb84 (fn_write hM4 (into f.d1 n) f.v1 ⟨0, xs⟩ hwl (by omega) rfl (by simp)) ?_
  rintro _ s4 R4 W4 ⟨rfl, I4, hM5, hf4, hI4⟩
  have hn4 := hf4.next
  have hgf4 : s4.get fi = some ⟨17, [pRow b { f with pc := 2, at_ := 1 } l0 (.pv (.fz ((x :: xs).map gIt)))]⟩ := hf4.getq (by omega) (by simp; exact ⟨hfm, hfI⟩) hgf3
  have hgr4 : s4.get (nx + 1) = some ⟨4, [[.pv (.sc (.bool false)), .pv (.sc (.float .f64 0)), .pv (.sc (.int .i64 0)), .pv (.sc (.int .i64 0))]]⟩ := hf4.getq (by omega) (by simp; exact ⟨by omega, fun h => by have := hIx _ h; omega⟩) hgr3
  have hgT4 : s4.get T = some ⟨2, [ivV (ivI x)]⟩ := hf4.getq (by omega) (by simp; exact ⟨by omega, fun h => by have := hIx _ h; omega⟩) hgT3
  have hII : ∀ x ∈ I4, x ∈ I ∨ st.next ≤ x := fun x hx => by
    rcases hI4 x hx with h | h
    · exact .inl h
    · exact .inr (by omega)
  have hnr : nx + 1 ∉ I4 := fun h => by
    rcases hI4 _ h with h | h
    · have := hIx _ h
      omega
    · omega
  have hnf : fi ∉ I4 := fun h => by
    rcases hI4 _ h with h | h
    · exact hfI h
    · omega
  have hF3 : Frm st s4 (fi :: m :: I) ∧ True := ⟨hFc.1.trans hf4 (by simp; intro x hx _; exact .inr (.inr hx)), trivial⟩
  clear hf4 hgf3 hgr3 hgT3
  unfold wrR
  unfold pRow at hgf4
  by_cases hmay : may ps (into f.d1 n) f.v1
  · have e : wr' ps (into f.d1 n) f.v1 ⟨0, xs⟩ = ps ++ [⟨into f.d1 n, ⟨0, xs⟩⟩] := if_pos hmay
    simp only [if_pos hmay, decide_eq_true hmay]
    rw [e] at hM5
    (repeat (first | refine w_seq ?_ | refine w_regionL ?_ | refine w_norm ?_ | refine w_ret' ?_ | refine w_ret ?_ | refine wo_nil ⟨rfl, ?_⟩ | ((first | apply o_assign | apply o_load | apply o_storep | apply o_buildP) <;> first | refine wo_id ?_ | ((with_reducible apply look_id); (exact look_by); done) | ((with_reducible apply load_id); ((first | (apply ldp; (focus exact get_by); (focus first | exact rfl))); (first | (apply part_agg; (focus first | exact ag36); (focus first | exact sz36); (focus exact rfl); (focus exact rfl)))); done) | ((with_reducible apply cells_id); (exact cells_by); done) | ((with_reducible apply get_id); (exact get_by); done) | ((with_reducible apply setAt_id); (exact setat_by); done) | ((with_reducible apply parts_id); (exact parts_by); done) | exact bp38 | exact sz38 | exact rfl) | (refine wo_nil ⟨dyn_drawE (bs := [0, 0, 0, 0, 0, 1, 0, 0, 0, 0, 1, 0, 1, 1, 0, 5, 0, 3, 0, 3]) [(15, 17)] ?_ ?_ ?_, ?_⟩; (focus (exact flags_by; done)); (focus decide +kernel); (focus (repeat' (first | exact trivial | refine ⟨noclash rfl rfl ?_, ?_⟩)); (all_goals (first | (simp [Ent.clash]; done))))) | ((first | apply b_cond) <;> first | refine wc_id ?_ | ((with_reducible apply look_id); (exact look_by); done) | (first | exact tt))))
    (apply ends_ret; (focus exact (e_cela ag38 sz38 (e_tmp res_nil))))
    refine ⟨_, _, _, leaves_pur (by decide) (by exact fz_by), rfl, pRow b { f with pc := 2, at_ := 1 } l0 (.pv (.fz ((x :: xs).map gIt))), I4, by unfold pRow; exact get_by, (fun h => by cases h), hM5.move (J := [fi, nx + 1]) (by exact frm_by) (by simp; omega) (by simp; intro x hx; exact ⟨by rintro rfl; exact hnf hx, by rintro rfl; exact hnr hx⟩), hF3.1.trans (J := [fi, nx + 1]) (by exact frm_by) (by simp; omega), hII⟩
  · have e : wr' ps (into f.d1 n) f.v1 ⟨0, xs⟩ = ps := if_neg hmay
    simp only [if_neg hmay, decide_eq_false hmay]
    rw [e] at hM5
    (repeat (first | refine w_seq ?_ | refine w_regionL ?_ | refine w_norm ?_ | refine w_skip ?_ | refine w_ret ?_ | refine wo_nil ⟨rfl, ?_⟩ | ((first | apply o_assign | apply o_move | apply o_nil | apply o_fieldAddr | apply o_storep | apply o_buildP) <;> first | refine wo_id ?_ | ((with_reducible apply look_id); (exact look_by); done) | ((with_reducible apply cells_id); (exact cells_by); done) | ((with_reducible apply get_id); (exact get_by); done) | ((with_reducible apply setAt_id); (exact setat_by); done) | ((with_reducible apply parts_id); (exact parts_by); done) | exact fa102_1 _ _ _ | exact fa102_0 _ _ _ | exact sz3 | exact bp38 | exact sz38 | exact rfl) | (refine wo_nil ⟨dyn_drawE (bs := [0, 0, 0, 0, 0, 1, 0, 0, 0, 0, 1, 0, 1, 1, 0, 5, 0, 3, 0, 3]) [(15, 17)] ?_ ?_ ?_, ?_⟩; (focus (exact flags_by; done)); (focus decide +kernel); (focus (repeat' (first | exact trivial | refine ⟨noclash rfl rfl ?_, ?_⟩)); (all_goals (first | (simp [Ent.clash]; done))))) | ((first | apply b_cond) <;> first | refine wc_id ?_ | ((with_reducible apply look_id); (exact look_by); done) | (first | exact ff))))
    (apply ends_ret; (focus exact (e_cela ag38 sz38 (e_tmp res_nil))))
    refine ⟨_, _, _, leaves_pur (by decide) (by exact fz_by), rfl, pRow b { f with pc := 0, at_ := 1 } l0 (.pv (.fz ((x :: xs).map gIt))), I4, by unfold pRow; exact get_by, fun _ => ⟨⟨b, l0, (.pv (.fz ((x :: xs).map gIt))), 1, hb, hl0, hl1, (fun _ h => absurd h (by decide : ¬ (0 : Int) = 2)), rfl⟩⟩, hM5.move (J := [fi, nx + 1]) (by exact frm_by) (by simp; omega) (by simp; intro x hx; exact ⟨by rintro rfl; exact hnf hx, by rintro rfl; exact hnr hx⟩), hF3.1.trans (J := [fi, nx + 1]) (by exact frm_by) (by simp; omega), hII⟩
theorem fn_mdelC (n : Int) {st : St} {m : Nat} {I : List Nat} {ps : Pts} {fi : Nat} {b : Nat} {l0 l1 : V} {a : Int} {f : RF} (hM : MemAt st m I ps) (hfi : fi < st.next) (hfm : fi ≠ m) (hfI : fi ∉ I) (hg : st.get fi = some ⟨17, [pRow b { f with at_ := a } l0 l1]⟩) (hb : canon b = f.it.pri) (hl0 : Lx l0 (f.c0.l.map gIt)) (hl1 : Lx l1 (f.c1.l.map gIt)) (ha : f.k = 2 → f.pc = 2 → a = if secB f.c0.l f.c1.l = true then 1 else 0) (ok : MOk n ps f) (hk : f.k = 2) (h2 : f.pc = 2) (hs : ¬ secB f.c0.l f.c1.l = true) :
    Fn Try.prog cfg 88 [.pv (.agg [.sc (.int .i64 n)]), .ptr m 0 0, .ptr fi 0 0] st (MPost m fi I st (delR n ps f)) := by
  obtain ⟨nx, hnx⟩ : ∃ x, st.next = x := ⟨_, rfl⟩
  have hmx := hM.lt
  have hIx := hM.ltI
  have hmI := hM.out
  have hn := ok.nn
  have hf := ok.fr
  have hlen := ok.len
  have hin0 := into_range f.d0 n (by omega)
  have hin1 := into_range f.d1 n (by omega)
  have hi0 := sp_into f.d0 n hf.d0 (by omega)
  have hi1 := sp_into f.d1 n hf.d1 (by omega)
  have w1 : IntKind.i64.wrap (0 + 1) = 1 := by decide
  have w2 : IntKind.i64.wrap (1 + 1) = 2 := by decide
  refine fn_keep (.inr rfl) Try.func88 rfl ?_
  show wc _ _ _ (.pv (.agg [.sc (.int .i64 n)]) :: .ptr m 0 0 :: .ptr fi 0 0 :: List.replicate 108 undefV) st _
  have hM1 : MemAt ((st.new ⟨([.pv (.sc (.int .i64 n))] : List V).length, [[.pv (.sc (.int .i64 n))]]⟩).new ⟨([.pv (.sc (.bool false)), .pv (.sc (.float .f64 0)), .pv (.sc (.int .i64 0)), .pv (.sc (.int .i64 0))] : List V).length, [[.pv (.sc (.bool false)), .pv (.sc (.float .f64 0)), .pv (.sc (.int .i64 0)), .pv (.sc (.int .i64 0))]]⟩) m I ps := (hM.move frm_new (by simp) (by simp)).move frm_new (by simp) (by simp)
  have hF1 : Frm st ((st.new ⟨([.pv (.sc (.int .i64 n))] : List V).length, [[.pv (.sc (.int .i64 n))]]⟩).new ⟨([.pv (.sc (.bool false)), .pv (.sc (.float .f64 0)), .pv (.sc (.int .i64 0)), .pv (.sc (.int .i64 0))] : List V).length, [[.pv (.sc (.bool false)), .pv (.sc (.float .f64 0)), .pv (.sc (.int .i64 0)), .pv (.sc (.int .i64 0))]]⟩) [] ∧ True := ⟨frm_new.trans frm_new (by simp), trivial⟩
  have hIS : ∀ x ∈ I, x ≠ fi ∧ x ≠ nx + 1 := fun x hx => by
    have := hIx _ hx
    exact ⟨by rintro rfl; exact hfI hx, by omega⟩
  unfold MPost delR
  unfold pRow at hg
  have h0 : ¬ f.pc = 0 := by omega
  have h1 : ¬ f.pc = 1 := by omega
  simp only [if_neg h0, if_neg h1]
  have hne := hf.del hk h2
  have haa := ha hk h2
  simp only [h2] at hg
  simp only [if_neg hs]
  rw [if_neg hs] at haa
  subst haa
  obtain ⟨x, xs, hx⟩ : ∃ x l, f.c0.l = x :: l := by
    cases h0 : f.c0.l with
    | cons x l => exact ⟨x, l, rfl⟩
    | nil => rw [h0] at hs; exact absurd rfl hs
  have hG := hf.c0
  rw [hx] at hG
  have hl62 := hG.len
  obtain rfl : l0 = .pv (.fz ((x :: xs).map gIt)) := lx_cons (hx ▸ hl0)
  have hxl2 : Lx (.pv (.fz ((x :: xs).map gIt))) (((x :: xs).map ivI).map ivP) := .inl (by rw [gIt_iv])
  have ehd : hdI f.c0.l = x := by rw [hx]; rfl
  have etl : f.c0.l.tail = xs := by rw [hx]; rfl
  rw [ehd, etl]
  (repeat (first | refine w_seq ?_ | refine w_regionL ?_ | refine w_norm ?_ | refine w_skip ?_ | refine wo_nil ⟨rfl, ?_⟩ | ((first | apply o_box | apply o_alloc | apply o_assign | apply o_move | apply o_nil | apply o_fieldAddr | apply o_load | apply o_bin | apply o_indexAddr | apply o_storep) <;> first | refine wo_id ?_ | ((with_reducible apply look_id); (exact look_by); done) | ((with_reducible apply bin_id); (exact bin_by); done) | ((with_reducible apply load_id); ((first | (apply ldp; (focus exact get_by); (focus first | exact rfl))); (first | exact part_sc (by first | exact ag3) rfl | (apply part_agg; (focus first | exact ag36); (focus first | exact sz89); (focus exact rfl); (focus exact rfl)))); done) | ((with_reducible apply cells_id); (exact cells_by); done) | ((with_reducible apply next_id); (exact next_by); done) | ((with_reducible apply get_id); (exact get_by); done) | ((with_reducible apply setAt_id); (exact setat_by); done) | exact ze38 | exact fa102_1 _ _ _ | exact fa102_0 _ _ _ | exact sz89 | exact ze89 | exact rfl) | (refine wo_nil ⟨dyn_draw (bs := [0, 0, 0, 0, 1, 0, 0, 0, 1, 2, 3]) ?_ ?_, ?_⟩; (focus ((repeat (first | exact Flags.nil | (apply Flags.cons Flag.dry) | (apply Flags.cons Flag.read) | (apply Flags.cons Flag.mk) | (apply Flags.cons Flag.free))); done)); (focus decide +kernel)) | ((first | apply b_cond) <;> first | refine wc_id ?_ | ((with_reducible apply look_id); (exact look_by); done) | (first | exact ff))))
  refine o_call (by exact args_by) hb89 (fn_pNewL hxl2 (fun y hy => (hG.cnl y hy).2) (by rw [List.length_map]; omega)) ?_
  rintro _ s1 R1 W1 ⟨p, lp, I1, rfl, hP1, hp1, hpn, hI1, hf1⟩
  have hn1 := hf1.next
  simp only [St.new, St.set] at hn1 hpn hI1
  have hlp := hp1.length_eq
  rw [List.length_map, List.length_map] at hlp
  obtain ⟨z, hz⟩ : ∃ z, lp[0]? = some z := ⟨_, List.getElem?_eq_getElem (by rw [hlp]; simp)⟩
  have hM2 : MemAt s1 m I ps := (hM1.move (J := [nx + 1 + 1]) (by exact frm_by) (by simp; omega) (fun y hy => by have := hIx y hy; simp; omega)).move hf1 (by simp) (by simp)
  have hFa : Frm st s1 [] ∧ True := ⟨(hF1.1.trans (J := [nx + 1 + 1]) (by exact frm_by) (by simp; omega)).trans hf1 (by simp), trivial⟩
  have hgf1 : s1.get fi = some ⟨17, [pRow b { f with pc := 2, at_ := 0 } (.pv (.fz ((x :: xs).map gIt))) l1]⟩ := hf1.getq (by exact lt_by) (by simp) (by unfold pRow; exact get_by)
  have hgr1 : s1.get (nx + 1) = some ⟨4, [[.pv (.sc (.bool false)), .pv (.sc (.float .f64 0)), .pv (.sc (.int .i64 0)), .pv (.sc (.int .i64 0))]]⟩ := hf1.getq (by exact lt_by) (by simp) (by exact get_by)
  have hgn1 : s1.get nx = some ⟨1, [[.pv (.sc (.int .i64 n))]]⟩ := hf1.getq (by exact lt_by) (by simp) (by exact get_by)
  have hgc1 : s1.get (nx + 1 + 1) = some ⟨3, [[.pv (.sc (.int .u64 f.v0)), .pv (.sc (.int .i64 f.c0.n)), (.pv (.fz ((x :: xs).map gIt)))]]⟩ := hf1.getq (by exact lt_by) (by simp) (by exact get_by)
  clear hf1
  (repeat (first | refine w_seq ?_ | refine w_regionL ?_ | refine w_norm ?_ | refine wo_nil ⟨rfl, ?_⟩ | ((first | apply o_assign | apply o_move) <;> first | refine wo_id ?_ | ((with_reducible apply look_id); (exact look_by); done))))
  refine o_call (by exact args_by) hb94 (fn_pTake hP1 hz) ?_
  rintro _ s2 R2 W2 ⟨rfl, l', hP2, hp2, hf2, -⟩
  have hn2 := hf2.next
  have hnJ : ∀ y, y < nx + 3 → y ∉ p :: I1 := fun y hy h => by
    rcases List.mem_cons.1 h with rfl | h
    · omega
    · have := hI1 y h
      omega
  have hM3 := hM2.move hf2 (hnJ _ (by omega)) (fun y hy => hnJ _ (by have := hIx y hy; omega))
  have hFb : Frm st s2 [] ∧ True := ⟨hFa.1.trans hf2 (fun y hy hlt => by
    rcases List.mem_cons.1 hy with rfl | h
    · omega
    · have := hI1 y h
      omega), trivial⟩
  have hgf2 := hf2.getq (by omega) (hnJ _ (by omega)) hgf1
  have hgr2 := hf2.getq (by omega) (hnJ _ (by omega)) hgr1
  have hgn2 := hf2.getq (by omega) (hnJ _ (by omega)) hgn1
  have hgc2 := hf2.getq (by omega) (hnJ _ (by omega)) hgc1
  clear hf2 hgf1 hgr1 hgn1 hgc1
  have hl' := hp2.length_eq
  rw [List.length_append] at hl'
  have hl'1 : l'.length + 1 = lp.length := hl'
  have hpn2 := hP2.h.sl.1
  have hIl2 := hP2.h.ltI
  obtain ⟨T, hT⟩ : ∃ y, s2.next = y := ⟨_, rfl⟩
  unfold pRow at hgf2
  (repeat (first | refine w_seq ?_ | refine w_regionL ?_ | refine w_norm ?_ | refine wo_nil ⟨rfl, ?_⟩ | ((first | apply o_alloc | apply o_assign | apply o_move | apply o_nil | apply o_fieldAddr | apply o_load | apply o_indexAddr | apply o_storep | apply o_extract) <;> first | refine wo_id ?_ | ((with_reducible apply look_id); (exact look_by); done) | ((with_reducible apply load_id); ((first | (apply ldp; (focus exact get_by); (focus first | exact rfl))); (first | exact part_sc (by first | exact ag3) rfl)); done) | ((with_reducible apply cells_id); (exact cells_by); done) | ((with_reducible apply next_id); (exact next_by); done) | ((with_reducible apply get_id); (exact get_by); done) | ((with_reducible apply setAt_id); (exact setat_by); done) | exact fa102_1 _ _ _ | exact fa102_0 _ _ _ | exact ze36 | exact sz36 | exact rfl) | (apply o_pcall; (focus exact args_by); (focus exact hb83); (focus exact rfl); (focus ((repeat (first | exact frzAll_nil | apply frzAll_pv)); done)); (focus exact hi0))))
  refine o_call (by exact args_by) hb91 (fn_pAll (hP2.move (J := [T]) (by exact frm_by) (by simp; omega) (fun y hy => by have := hIl2 y hy; simp; omega)) (by omega)) ?_
  rintro _ s3 R3 W3 ⟨out, rfl, ho1, ho2, hf3, rfl⟩
  have hn3 := hf3.next
  simp only [St.new, St.set] at hn3
  have hM4 := (hM3.move (J := [T]) (by exact frm_by) (by simp; omega) (fun y hy => by have := hIx y hy; simp; omega)).move hf3 (by simp) (by simp)
  have hFc : Frm st s3 (fi :: m :: I) ∧ True := ⟨((hFb.1.trans (J := [T]) (by exact frm_by) (by simp; omega)).trans hf3 (by simp)).wide (by simp), trivial⟩
  have hgf3 : s3.get fi = some ⟨17, [pRow b { f with pc := 2, at_ := 0 } (.pv (.fz ((x :: xs).map gIt))) l1]⟩ := hf3.getq (by exact lt_by) (by simp) (by unfold pRow; exact get_by)
  have hgr3 : s3.get (nx + 1) = some ⟨4, [[.pv (.sc (.bool false)), .pv (.sc (.float .f64 0)), .pv (.sc (.int .i64 0)), .pv (.sc (.int .i64 0))]]⟩ := hf3.getq (by exact lt_by) (by simp) (by exact get_by)
  obtain ⟨ez, eo⟩ := del_eq hG hp1 hP1.heap hz hp2 ho1 ho2
  have hgT3 : s3.get T = some ⟨2, [ivV z]⟩ := hf3.getq (by exact lt_by) (by simp) (by exact get_by)
  clear hf3 hgf2 hgr2
  rw [ez] at hgT3
  have ho' : out.map ivP = xs.map gIt := by rw [gIt_iv, eo]
  have hwl : xs.length < 2 ^ 20 := by
    simp at hl62
    omega
  rw [ho']
  (repeat (first | ((first | apply o_buildP) <;> first | refine wo_id ?_ | ((with_reducible apply parts_id); (exact parts_by); done) | exact bp87 | exact rfl)))
  refine o_call (by exact args_by) hb84 (fn_write hM4 (into f.d0 n) f.v0 ⟨0, xs⟩ hwl (by omega) rfl (by simp)) ?_
  rintro _ s4 R4 W4 ⟨rfl, I4, hM5, hf4, hI4⟩
  have hn4 := hf4.next
  have hgf4 : s4.get fi = some ⟨17, [pRow b { f with pc := 2, at_ := 0 } (.pv (.fz ((x :: xs).map gIt))) l1]⟩ := hf4.getq (by omega) (by simp; exact ⟨hfm, hfI⟩) hgf3
  have hgr4 : s4.get (nx + 1) = some ⟨4, [[.pv (.sc (.bool false)), .pv (.sc (.float .f64 0)), .pv (.sc (.int .i64 0)), .pv (.sc (.int .i64 0))]]⟩ := hf4.getq (by omega) (by simp; exact ⟨by omega, fun h => by have := hIx _ h; omega⟩) hgr3
  have hgT4 : s4.get T = some ⟨2, [ivV (ivI x)]⟩ := hf4.getq (by omega) (by simp; exact ⟨by omega, fun h => by have := hIx _ h; omega⟩) hgT3
  have hII : ∀ x ∈ I4, x ∈ I ∨ st.next ≤ x := fun x hx => by
    rcases hI4 x hx with h | h
    · exact .inl h
    · exact .inr (by omega)
  have hnr : nx + 1 ∉ I4 := fun h => by
    rcases hI4 _ h with h | h
    · have := hIx _ h
      omega
    · omega
  have hnf : fi ∉ I4 := fun h => by
    rcases hI4 _ h with h | h
    · exact hfI h
    · omega
  have hF3 : Frm st s4 (fi :: m :: I) ∧ True := ⟨hFc.1.trans hf4 (by simp; intro x hx _; exact .inr (.inr hx)), trivial⟩
  clear hf4 hgf3 hgr3 hgT3
  unfold wrR
  unfold pRow at hgf4
  by_cases hmay : may ps (into f.d0 n) f.v0
  · have e : wr' ps (into f.d0 n) f.v0 ⟨0, xs⟩ = ps ++ [⟨into f.d0 n, ⟨0, xs⟩⟩] := if_pos hmay
    simp only [if_pos hmay, decide_eq_true hmay]
    rw [e] at hM5
    (repeat (first | refine w_seq ?_ | refine w_regionL ?_ | refine w_norm ?_ | refine w_ret' ?_ | refine w_ret ?_ | refine wo_nil ⟨rfl, ?_⟩ | ((first | apply o_assign | apply o_load | apply o_storep | apply o_buildP) <;> first | refine wo_id ?_ | ((with_reducible apply look_id); (exact look_by); done) | ((with_reducible apply load_id); ((first | (apply ldp; (focus exact get_by); (focus first | exact rfl))); (first | (apply part_agg; (focus first | exact ag36); (focus first | exact sz36); (focus exact rfl); (focus exact rfl)))); done) | ((with_reducible apply cells_id); (exact cells_by); done) | ((with_reducible apply get_id); (exact get_by); done) | ((with_reducible apply setAt_id); (exact setat_by); done) | ((with_reducible apply parts_id); (exact parts_by); done) | exact bp38 | exact sz38 | exact rfl) | (refine wo_nil ⟨dyn_drawE (bs := [0, 0, 0, 0, 0, 1, 0, 0, 0, 0, 1, 0, 1, 1, 0, 5, 0, 3, 0, 3]) [(15, 17)] ?_ ?_ ?_, ?_⟩; (focus (exact flags_by; done)); (focus decide +kernel); (focus (repeat' (first | exact trivial | refine ⟨noclash rfl rfl ?_, ?_⟩)); (all_goals (first | (simp [Ent.clash]; done))))) | ((first | apply b_cond) <;> first | refine wc_id ?_ | ((with_reducible apply look_id); (exact look_by); done) | (first | exact tt))))
    (apply ends_ret; (focus exact (e_cela ag38 sz38 (e_tmp res_nil))))
    refine ⟨_, _, _, leaves_pur (by decide) (by exact fz_by), rfl, pRow b { f with pc := 2, at_ := 0 } (.pv (.fz ((x :: xs).map gIt))) l1, I4, by unfold pRow; exact get_by, (fun h => by cases h), hM5.move (J := [fi, nx + 1]) (by exact frm_by) (by simp; omega) (by simp; intro x hx; exact ⟨by rintro rfl; exact hnf hx, by rintro rfl; exact hnr hx⟩), hF3.1.trans (J := [fi, nx + 1]) (by exact frm_by) (by simp; omega), hII⟩
  · have e : wr' ps (into f.d0 n) f.v0 ⟨0, xs⟩ = ps := if_neg hmay
    simp only [if_neg hmay, decide_eq_false hmay]
    rw [e] at hM5
    (repeat (first | refine w_seq ?_ | refine w_regionL ?_ | refine w_norm ?_ | refine w_skip ?_ | refine w_ret ?_ | refine wo_nil ⟨rfl, ?_⟩ | ((first | apply o_assign | apply o_move | apply o_nil | apply o_fieldAddr | apply o_storep | apply o_buildP) <;> first | refine wo_id ?_ | ((with_reducible apply look_id); (exact look_by); done) | ((with_reducible apply cells_id); (exact cells_by); done) | ((with_reducible apply get_id); (exact get_by); done) | ((with_reducible apply setAt_id); (exact setat_by); done) | ((with_reducible apply parts_id); (exact parts_by); done) | exact fa102_1 _ _ _ | exact fa102_0 _ _ _ | exact sz3 | exact bp38 | exact sz38 | exact rfl) | (refine wo_nil ⟨dyn_drawE (bs := [0, 0, 0, 0, 0, 1, 0, 0, 0, 0, 1, 0, 1, 1, 0, 5, 0, 3, 0, 3]) [(15, 17)] ?_ ?_ ?_, ?_⟩; (focus (exact flags_by; done)); (focus decide +kernel); (focus (repeat' (first | exact trivial | refine ⟨noclash rfl rfl ?_, ?_⟩)); (all_goals (first | (simp [Ent.clash]; done))))) | ((first | apply b_cond) <;> first | refine wc_id ?_ | ((with_reducible apply look_id); (exact look_by); done) | (first | exact ff))))
    (apply ends_ret; (focus exact (e_cela ag38 sz38 (e_tmp res_nil))))
    refine ⟨_, _, _, leaves_pur (by decide) (by exact fz_by), rfl, pRow b { f with pc := 0, at_ := 0 } (.pv (.fz ((x :: xs).map gIt))) l1, I4, by unfold pRow; exact get_by, fun _ => ⟨⟨b, (.pv (.fz ((x :: xs).map gIt))), l1, 0, hb, hl0, hl1, (fun _ h => absurd h (by decide : ¬ (0 : Int) = 2)), rfl⟩⟩, hM5.move (J := [fi, nx + 1]) (by exact frm_by) (by simp; omega) (by simp; intro x hx; exact ⟨by rintro rfl; exact hnf hx, by rintro rfl; exact hnr hx⟩), hF3.1.trans (J := [fi, nx + 1]) (by exact frm_by) (by simp; omega), hII⟩
end Go.Proofs.Ytefgpelodpggkaa.Ve
