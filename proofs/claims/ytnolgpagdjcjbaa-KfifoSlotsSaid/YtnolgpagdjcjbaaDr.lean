import Derived.Test.YtnolgpagdjcjbaaDe
set_option linter.unusedVariables false
set_option linter.unusedSimpArgs false
namespace Go.Proofs.Ytnolgpagdjcjbaa.Ve
open Go
set_option maxRecDepth 4000
set_option maxHeartbeats 8000000
theorem fn_drive {kind : Int} {own : Rw → Opd} {rv : V} {g : FuncId} {z : V} {rs : StepR} {FR : List V → RF → Prop} {Ok : Pts → RF → Prop} {ops0 : List (List Rw)} {gN : FuncId} {cN : List V} {KN : List Nat} {JN : St → Prop} {gS : FuncId} {cS : List V} {J : St → List Nat → DS → Prop} {Inv : DS → Prop}
    (A : Around kind own rv g z rs FR Ok (ops0.take 4) gN cN KN JN gS cS J Inv) (hops : ∀ l ∈ ops0, l.length ≤ maxLen ∧ ∀ x ∈ l, RwOk x) (hol : ops0.length ≤ maxLen) (picks : List Int) (hpk : ∀ p ∈ picks, i64 p) (hpl : picks.length ≤ maxLen)
    {st : St} {K0 : List Nat} (hN0 : JN st) (hJ0 : J st K0 (ds0 (min ops0.length 4))) (hKN : ∀ x ∈ K0, x ∉ KN) (hI0 : Inv (ds0 (min ops0.length 4))) :
    Fn Try.prog cfg 53 [.pv (.sc (.int .i64 kind)), rv, .fn (.func gN) [] cN, .pv (.fz (rOps ops0)), .pv (.fz (picks.map iR)), .fn (.func gS) [] cS] st (fun v st' _ _ => ∃ D m I c Jc K', D = drun own rs (ops0.take 4) (picks.take 200) (ds0 (min ops0.length 4)) ∧ v = .tup [.agg [.ptr m 0 0, .pv (.fz (D.ps.map rPt)), c, .pv (.sc (.int .i64 D.n))], .pv (.sc (.bool true))] ∧ MemAt st' m I D.ps ∧ CallsV st' c D.C Jc ∧ J st' K' D ∧ Inv D ∧ (st.next ≤ m ∧ (∀ y ∈ I, st.next ≤ y) ∧ (∀ y ∈ Jc, st.next ≤ y) ∧ ∀ y ∈ K', y ∈ K0 ∨ st.next ≤ y) ∧ Frm st st' K0) := by
  have hlo : (rOps ops0).length = ops0.length := List.length_map _
  have hlp : (picks.map iR).length = picks.length := List.length_map _
  obtain ⟨nx, hnx⟩ : ∃ x, st.next = x := ⟨_, rfl⟩
  refine fn_keep (.inr rfl) Try.func53 rfl ?_
  show wc _ _ _ (.pv (.sc (.int .i64 kind)) :: rv :: .fn (.func gN) [] cN :: .pv (.fz (rOps ops0)) :: .pv (.fz (picks.map iR)) :: .fn (.func gS) [] cS :: List.replicate 226 undefV) st _
  (repeat (first | refine w_seq ?_ | refine w_regionL ?_ | refine w_norm ?_ | refine wo_nil ⟨rfl, ?_⟩ | ((first | apply o_alloc | apply o_assign) <;> first | refine wo_id ?_ | ((with_reducible apply look_id); (exact look_by); done) | ((with_reducible apply cells_id); (exact cells_by); done) | ((with_reducible apply next_id); (exact next_by); done) | exact ze62 | decide | exact rfl)))
  refine o_call (by exact args_by) hb16 fn_new ?_
  rintro _ s0 R0 W0 ⟨m, rfl, hM, hF0, hm⟩
  obtain ⟨N, hN⟩ : ∃ x, s0.next = x := ⟨_, rfl⟩
  have hr0 : s0.get nx = some ⟨4, [[nilP, .nl, .nl, .pv (.sc (.int .i64 0))]]⟩ := hF0.getq (by simp [St.new]; omega) (by simp) (by exact get_by)
  have hFr : Frm st s0 [] := frm_new.trans hF0 (by simp)
  have hNx : nx < N := by have := hF0.next; simp only [St.new] at this; omega
  have hmN : m < N := by have := hM.lt; omega
  have hnm : nx < m := by simp only [St.new] at hm; omega
  obtain ⟨n, hn⟩ : ∃ n, min ops0.length 4 = n := ⟨_, rfl⟩
  have htk : (rOps ops0).take (if 4 < ((rOps ops0).length : Int) then 4 else ((rOps ops0).length : Int)).toNat = rOps (ops0.take 4) := by
    rw [hlo]
    unfold rOps
    rw [List.map_take]
    split
    · rfl
    · rw [List.take_of_length_le (by simp), List.take_of_length_le (by simp; omega)]
  have hl4 : (rOps (ops0.take 4)).length = n := by simp [rOps]; omega
  (repeat (first | refine w_seq ?_ | refine w_regionL ?_ | refine w_norm ?_ | refine wo_nil ⟨rfl, ?_⟩ | ((first | apply o_alloc | apply o_buildP | apply o_storep | apply o_move | apply o_len | apply o_min) <;> first | refine wo_id ?_ | ((with_reducible apply look_id); (exact look_by); done) | ((with_reducible apply cells_id); (exact cells_by); done) | ((with_reducible apply next_id); (exact next_by); done) | ((with_reducible apply get_id); (exact get_by); done) | ((with_reducible apply setAt_id); (exact setat_by); done) | ((with_reducible apply parts_id); (exact parts_by); done) | exact ze62 | exact bp62 | exact sz62 | exact lnF55 _ | (intro a h; cases h) | decide | exact rfl)))
  refine o_slice_fz (by exact look_by) el55 sz22 (by exact look_by) (by split <;> omega) htk ?_
  (repeat (first | refine w_seq ?_ | refine w_regionL ?_ | refine w_norm ?_ | refine w_block ?_ | refine wo_nil ⟨rfl, ?_⟩ | ((first | apply o_assign | apply o_move | apply o_len | apply o_make) <;> first | refine wo_id ?_ | ((with_reducible apply look_id); (exact look_by); done) | ((with_reducible apply cells_id); (exact cells_by); done) | ((with_reducible apply next_id); (exact next_by); done) | exact lnF55 _ | exact el56 | exact by56 | exact ze3 | exact el93 | exact ze94 | exact el147 | exact by147 | exact ze117 | (intro a h; cases h) | decide | omega | exact rfl)))
  have hm1 := hM.lt
  refine w_loopK (fun q tm s => ∃ (i : Nat) (D : DS) (I Jc K : List Nat) (x c : V) (fr : Nat → Nat) (rA rO rT rC : List (List V)), i + q = min picks.length 200 ∧ D.n ≤ i ∧ D.C.length ≤ D.n ∧ D = drun own rs (ops0.take 4) (picks.take i) (ds0 n) ∧ lk tm 19 = .pv (.sc (.int .i64 i)) ∧ DrI n nx N m st K0 FR JN J Inv s D I Jc K x c fr rA rO rT rC) (min picks.length 200) rfl
    ⟨0, ds0 n, [], [], K0, .nl, .nl, fun _ => 0, List.replicate n [.pv (.sc (.int .i64 0))], List.replicate n [nilP], List.replicate n zT, List.replicate n [.pv (.sc (.int .i64 0))], by omega, Nat.le_refl 0, Nat.le_refl 0, rfl, by exact lk_by, ?_⟩ ?_
  · have e4 : (((rOps (ops0.take 4)).length : Int)).toNat = n := by omega
    rw [hn] at hJ0 hI0
    refine ⟨by exact get_by, by exact get_by, by rw [← e4]; exact get_by, by rw [← e4]; exact get_by, by rw [← e4]; exact get_by, by rw [← e4]; exact get_by, .inr ⟨rfl, rfl⟩, hM.move (J := []) (by exact frm_by) (by simp) (by simp), .inl ⟨rfl, rfl, rfl⟩, by simp [ds0], RowsAre.zero fun _ => rfl, RowsAre.zero fun _ => rfl, RowsAre.zero fun _ => ⟨rfl, fun h => by cases h⟩, RowsAre.zero fun _ => ⟨0, rfl, fun h => by cases h⟩, ?_, ?_, ?_, ?_, by simp, by simp, ?_, fun y hy => .inl hy, ?_, ?_, hI0, ?_, ?_, Nat.zero_le 1⟩
    · intro k t ht h
      rw [rep_th ht] at h
      cases h
    · intro k t ht
      rw [rep_th ht]
      exact Nat.zero_le 8
    · intro k t ht h
      rw [rep_th ht] at h
      cases h
    · intro k k' t t' ht _ h
      rw [rep_th ht] at h
      cases h
    · intro y hy
      have := A.ltS _ _ _ hJ0 y hy
      exact ⟨.inl (by omega), by simp, by simp⟩
    · exact A.keepS _ _ [] _ _ hJ0 (hFr.trans (J := []) (by exact frm_by) (by simp)) (by simp)
    · exact A.keepN _ _ [] hN0 (hFr.trans (J := []) (by exact frm_by) (by simp)) (by simp)
    · exact (hFr.trans (J := []) (by exact frm_by) (by simp)).wide (by simp)
    · simp only [St.new, St.set]; omega
  rintro q tm1 s ⟨i, D, I, Jc, K, x, c, fr, rA, rO, rT, rC, hiq, hDn, hDC, hD, h19, hI⟩ hK
  obtain ⟨S, hS⟩ : ∃ x, s.next = x := ⟨_, rfl⟩
  have hlen1 : tm1.length = 232 := by
    rw [hK.len]
    repeat (first | apply len_put | rfl)
  have hKNl : ∀ y ∈ KN, y < nx := fun y hy => by
    have := A.ltN _ hN0 y hy
    omega
  obtain ⟨i1, i2, i3, i4, i5, i6, i7, i8, i9, i10, i11, i12, i13, i14, i15, i16, i17, i18, i19, i20, i21, i22, i23, i24, i25, i26, i27, i28⟩ := hI
  by_cases hi : i < min picks.length 200
  · obtain ⟨p, hp, -⟩ := drop_at (show i < picks.length by omega)
    have hwi : IntKind.i64.wrap ((i : Int) + 1) = ((i + 1 : Nat) : Int) := by rw [wrap_id (by omega) (by omega)]; omega
    have hon : (ops0.take 4).length = n := by simp; omega
    have hstep := drun_snoc (own := own) (rs := rs) (ops := ops0.take 4) (D := ds0 n) hp
    rw [← hD] at hstep
    have hI0 : DrI n nx N m st K0 FR JN J Inv s D I Jc K x c fr rA rO rT rC := ⟨i1, i2, i3, i4, i5, i6, i7, i8, i9, i10, i11, i12, i13, i14, i15, i16, i17, i18, i19, i20, i21, i22, i23, i24, i25, i26, i27, i28⟩
    have e4 : (((rOps (ops0.take 4)).length : Int)).toNat = n := by omega
    (iterate 16 (first | refine w_seq ?_ | refine w_regionL ?_ | refine w_norm ?_ | refine w_exit' ?_ | refine w_ret' ?_ | refine w_block ?_ | refine w_scope ?_ | refine w_skip ?_ | refine w_ret ?_ | refine w_exit ?_ | refine w_label ?_ | refine wo_nil ⟨rfl, ?_⟩ | ((first | apply o_alloc | apply o_assign | apply o_buildP | apply o_storep | apply o_move | apply o_len | apply o_min | apply o_make | apply o_bin | apply o_indexAddr | apply o_load | apply o_box | apply o_fieldAddr | apply o_buildSlice | apply o_func | apply o_nil | apply o_nilN | apply o_extract | apply o_conv | apply o_not) <;> first | refine wo_id ?_ | refine wc_id ?_ | ((with_reducible apply look_id); (exact look_by); done) | ((with_reducible apply bin_id); (exact bin_by); done) | ((with_reducible apply load_id); ((first | (apply ldp; (focus exact get_by); (focus first | exact rfl | assumption)) | apply ldf); (first | exact part_sc (by first | exact ag3 | exact ag22 | exact ag30 | exact ag57 | exact ag60 | exact ag94) rfl | (apply part_agg; (focus first | exact ag44 | exact ag48 | exact ag59 | exact ag62 | exact ag117 | exact ag119); (focus first | exact sz44 | exact sz48 | exact sz59 | exact sz62 | exact sz117 | exact sz119); (focus exact rfl); (focus exact rfl)))); done) | ((with_reducible apply cells_id); (exact cells_by); done) | ((with_reducible apply next_id); (exact next_by); done) | ((with_reducible apply get_id); (exact get_by); done) | ((with_reducible apply setAt_id); (exact setat_by); done) | ((with_reducible apply parts_id); (exact parts_by); done) | ((with_reducible apply args_id); (exact args_by); done) | exact ze62 | exact bp62 | exact sz62 | exact lnF55 _ | exact lnO55 _ _ _ _ | exact lnN55 | exact el56 | exact by56 | exact ze3 | exact el93 | exact by93 | exact ze94 | exact el147 | exact by147 | exact ze117 | exact lnF56 _ | exact lnO56 _ _ _ _ | exact lnN56 | exact ia_fz (iaF56 _ _) (by omega) (by assumption) rfl | exact ia_ow (iaO56 _ _ _ _ _) (by omega) (by omega) rfl | exact ia_fz (iaF93 _ _) (by omega) (by assumption) rfl | exact ia_ow (iaO93 _ _ _ _ _) (by omega) (by omega) rfl | exact ia_fz (iaF55 _ _) (by omega) (by assumption) rfl | exact ia_ow (iaO55 _ _ _ _ _) (by omega) (by omega) rfl | exact lnF22 _ | exact lnO22 _ _ _ _ | exact lnN22 | exact ia_fz (iaF22 _ _) (by omega) (by assumption) rfl | exact ia_ow (iaO22 _ _ _ _ _) (by omega) (by omega) rfl | exact ze44 | exact sz44 | exact sz3 | exact bp97 | exact fa62_2 _ _ _ | exact fe62_2 _ | exact lnF60 _ | exact lnO60 _ _ _ _ | exact lnN60 | exact sz94 | exact ia_fz (iaF147 _ _) (by omega) (by assumption) rfl | exact ia_ow (iaO147 _ _ _ _ _) (by omega) (by omega) rfl | exact sz117 | exact fa62_3 _ _ _ | exact fe62_3 _ | exact bp68 | exact el60 | exact sz68 | exact ze68 | exact sz60 | exact fa62_0 _ _ _ | exact fe62_0 _ | exact ze48 | exact sz48 | exact fa62_1 _ _ _ | exact fe62_1 _ | exact ze59 | exact ze119 | exact sz59 | exact sz119 | exact fa59_0 _ _ _ | exact fe59_0 _ | exact lnF57 _ | exact lnO57 _ _ _ _ | exact lnN57 | exact Try.underlying3 | exact Try.underlying40 | exact ia_fz (iaF60 _ _) (by omega) (by assumption) rfl | exact ia_ow (iaO60 _ _ _ _ _) (by omega) (by omega) rfl | exact fa68_3 _ _ _ | exact fe68_3 _ | exact fa68_4 _ _ _ | exact fe68_4 _ | assumption | (intro a h; cases h) | decide | omega | exact rfl) | (refine wo_nil ⟨dyn_draw (bs := [0, 0, 0, 0, 0, 0, 0, 0, 1, 0, 0, 0, 0, 0, 1, 0, 0, 0, 1, 0, 0, 0, 0, 0]) ?_ ?_, ?_⟩; (focus ((repeat (first | exact Flags.nil)); done)); (focus decide +kernel)) | (refine wo_nil ⟨dyn_draw (bs := [0, 0, 0, 1, 0, 0, 0, 1, 0, 1, 2, 3]) ?_ ?_, ?_⟩; (focus ((repeat (first | exact Flags.nil)); done)); (focus decide +kernel)) | (refine wo_nil ⟨dyn_drawE (bs := [0, 0, 0, 0, 0, 0, 0, 1, 1, 0, 7, 0, 5, 5, 0, 5, 0, 0, 3, 0, 3, 0, 3]) [(15, 18), (15, 20)] ?_ ?_ ?_, ?_⟩; (focus (exact flags_by; done)); (focus decide +kernel); (focus (repeat' (first | exact trivial | refine ⟨noclash rfl rfl ?_, ?_⟩)); (all_goals (first | exact nc1 (by omega) | exact nc2 (by omega) | (simp [Ent.clash]; done) | (simp [Ent.clash]; omega) | (apply nc3; intro z hz; grind) | (simp [Ent.clash, St.set, St.new]; omega))))) | (refine wo_nil ⟨dyn_draw (bs := [0, 1, 0, 0, 1, 1, 0, 1, 0, 2, 3, 0, 3]) ?_ ?_, ?_⟩; (focus ((repeat (first | exact Flags.nil)); done)); (focus decide +kernel)) | (refine wo_nil ⟨dyn_draw (bs := [0, 0, 1, 0, 0, 0, 1, 0, 0, 0, 3, 0, 0, 0, 8, 3, 0]) ?_ ?_, ?_⟩; (focus (exact flags_by; done)); (focus decide +kernel)) | (refine wo_nil ⟨dyn_draw (bs := [0, 0, 1, 0, 0, 0, 1, 3, 0, 0, 0, 0, 0, 8, 8, 8, 3, 3, 3, 0]) ?_ ?_, ?_⟩; (focus (exact flags_by; done)); (focus decide +kernel)) | (refine wo_nil ⟨dyn_drawE (bs := [0, 0, 1, 5, 0, 3, 0, 3]) [(3, 5)] ?_ ?_ ?_, ?_⟩; (focus (exact flags_by; done)); (focus decide +kernel); (focus (repeat' (first | exact trivial | refine ⟨noclash rfl rfl ?_, ?_⟩)); (all_goals (first | exact nc1 (by omega) | exact nc2 (by omega) | (simp [Ent.clash]; done) | (simp [Ent.clash]; omega) | (apply nc3; intro z hz; grind) | (simp [Ent.clash, St.set, St.new]; omega))))) | (refine wo_nil ⟨dyn_draw (bs := [0, 0, 0, 0, 1, 1, 1, 0, 0, 0, 0, 1, 7, 0, 0, 5, 0, 0, 0, 0]) ?_ ?_, ?_⟩; (focus (exact flags_by; done)); (focus decide +kernel)) | (refine wo_nil ⟨dyn_drawE (bs := [0, 1, 0, 0, 0, 1, 0, 5, 0, 0, 0, 1, 0, 1, 5, 0, 0, 3, 0, 0, 3]) [(7, 17), (14, 17)] ?_ ?_ ?_, ?_⟩; (focus (exact flags_by; done)); (focus decide +kernel); (focus (repeat' (first | exact trivial | refine ⟨noclash rfl rfl ?_, ?_⟩)); (all_goals (first | exact nc1 (by omega) | exact nc2 (by omega) | (simp [Ent.clash]; done) | (simp [Ent.clash]; omega) | (apply nc3; intro z hz; grind) | (simp [Ent.clash, St.set, St.new]; omega))))) | (refine wo_nil ⟨dyn_draw (bs := [1, 1, 2, 0, 3, 0]) ?_ ?_, ?_⟩; (focus ((repeat (first | exact Flags.nil)); done)); (focus decide +kernel)) | ((first | apply b_cond | apply b_pick | apply b_in) <;> first | refine wo_id ?_ | refine wc_id ?_ | ((with_reducible apply look_id); (exact look_by); done) | ((with_reducible apply yield_id); ((apply yield_of; (focus exact rfl); (focus exact lk_by))); done) | (first | exact tt | exact ff | assumption | exact decide_eq_true (by omega) | exact decide_eq_false (by omega))) | (apply b_out <;> first | refine wo_id ?_ | ((with_reducible apply yield_id); ((apply yield_of; (focus exact rfl); (focus exact lk_by))); done) | (first | exact tt | exact ff | assumption | exact decide_eq_true (by omega) | exact decide_eq_false (by omega))) | (apply g_undef; (focus (apply yield_none; (focus exact rfl); (focus exact lk_by))))))
    refine w_skip ?_
    refine w_norm ?_
    refine w_seq ?_
    refine w_block ?_
    refine wc_mono (wc_keeps (drive_body A (fun l hl => hops l (List.mem_of_mem_take hl)) hon (by omega) picks hpk hpl hI0 hnx hNx ⟨hnm, hmN⟩ hKNl hKN hi hDn hDC hp rfl (by repeat (first | apply len_put | exact hlen1)) (by exact lk_by) (by exact lk_by) (by exact lk_by) (by exact lk_by) (by exact lk_by) (by exact lk_by) (by exact lk_by) (by rw [← e4]; exact lk_by) (by rw [← e4]; exact lk_by) (by rw [← e4]; exact lk_by) (by rw [← e4]; exact lk_by) (by exact lk_by))) ?_
    rintro _ tm2 s2 R2 W2 ⟨⟨hex, D', I', Jc', K', x', c', fr', rA', rO', rT', rC', rfl, hn', hC', hI'⟩, hK2⟩
    rcases hex with rfl | rfl
    all_goals
      (repeat (first | refine w_regionL ?_ | refine w_norm ?_ | refine wo_nil ⟨rfl, ?_⟩ | ((first | apply o_assign | apply o_move | apply o_bin) <;> first | refine wo_id ?_ | ((with_reducible apply look_id); (exact look_by); done) | ((with_reducible apply bin_id); (exact bin_by); done) | exact rfl) | (apply l_norm (q - 1) (by omega))))
      exact ⟨i + 1, _, I', Jc', K', x', c', fr', rA', rO', rT', rC', by omega, hn', hC', hstep.symm, by rw [← hwi]; exact lk_by, hI'⟩
  · have hpk' : picks.take i = picks.take 200 := by
      by_cases h : picks.length ≤ 200
      · rw [List.take_of_length_le (by omega), List.take_of_length_le (by omega)]
      · have : i = 200 := by omega
        rw [this]
    by_cases hi2 : i < picks.length
    all_goals
      (repeat (first | refine w_seq ?_ | refine w_regionL ?_ | refine w_norm ?_ | refine w_exit' ?_ | refine w_exit ?_ | refine wo_nil ⟨rfl, ?_⟩ | ((first | apply o_move | apply o_len | apply o_bin | apply o_load) <;> first | refine wo_id ?_ | ((with_reducible apply look_id); (exact look_by); done) | ((with_reducible apply bin_id); (exact bin_by); done) | ((with_reducible apply load_id); ((first | (apply ldp; (focus exact get_by); (focus first | exact rfl))); (first | (apply part_agg; (focus first | exact ag44); (focus first | exact sz48); (focus exact rfl); (focus exact rfl)))); done) | exact lnF55 _ | (intro a h; cases h) | exact rfl) | ((first | apply b_cond | apply b_pick | apply b_in) <;> first | refine wo_id ?_ | refine wc_id ?_ | ((with_reducible apply look_id); (exact look_by); done) | ((with_reducible apply yield_id); ((apply yield_of; (focus exact rfl); (focus exact lk_by))); done) | (first | exact tt | exact ff | exact decide_eq_true (by omega) | exact decide_eq_false (by omega))) | (apply b_out <;> first | refine wo_id ?_ | ((with_reducible apply yield_id); ((apply yield_of; (focus exact rfl); (focus exact lk_by))); done) | (first | exact ff | exact decide_eq_false (by omega))) | (refine l_exit ?_; intro R2 W2)))
      have hc1 : IsSl c := by
        rcases i9 with h | ⟨j, h, -⟩
        · exact .inl h.1
        · exact .inr ⟨_, _, _, h⟩
      refine o_call (by exact args_by) hb75 (fn_same i8 i7 hc1 D.n) ?_
      rintro _ s2 R2 W2 ⟨rfl, hF2, rfl⟩
      have hcell : ([.ptr m 0 0, x, c, .pv (.sc (.int .i64 D.n))] : List V).all V.cell1 = true := by
        simp only [List.all_cons, i7.cell1, i9.at.cell1.2]
        rfl
      have hN2 := hF2.next
      (repeat (first | refine w_norm ?_ | refine w_ret ?_ | ((first | apply o_assign | apply o_storep | apply o_bin) <;> first | refine wo_id ?_ | ((with_reducible apply look_id); (exact look_by); done) | ((with_reducible apply bin_id); (exact bin_by); done) | ((with_reducible apply cells_id); (exact cells_by); done) | ((with_reducible apply get_id); (exact get_by); done) | ((with_reducible apply setAt_id); (exact setat_by); done) | exact sz62 | assumption | exact rfl) | (refine wo_nil ⟨dyn_draw (bs := [1, 1, 2, 0, 3, 0]) ?_ ?_, ?_⟩; (focus ((repeat (first | exact Flags.nil | (apply Flags.cons Flag.dry) | (apply Flags.cons Flag.read) | (apply Flags.cons Flag.mk) | (apply Flags.cons Flag.free))); done)); (focus decide +kernel))))
      have hg2 := hF2.getq (by omega) (by simp) i2

      (repeat (first | refine w_seq ?_))
      (apply ends_ret; (focus exact (e_cela ag62 sz62 (e_tmp res_nil))))
      refine ⟨_, _, _, Leaves.norm (.inr rfl) rfl, ?_⟩
      have hn8 : nx ∉ Jc := fun h => by have := (i20 _ h).1; omega
      refine ⟨D, m, I, c.norm, Jc, K, by rw [hD, hpk', hn], (norm_run (by simp [V.norm])).trans (by rw [i7.norm]), i8.move (J := [nx]) (by exact frm_by) (by simp; omega) (fun y hy => by have := i19 y hy; simp; omega), ?_, A.keepS _ _ [nx] _ _ i23 (by exact frm_by) (fun y hy => by have := (i21 y hy).1; simp; omega), i25, ⟨by omega, fun y hy => by have := i19 y hy; omega, fun y hy => by have := (i20 y hy).1; omega, fun y hy => by
        rcases i22 y hy with h | h
        · exact .inl h
        · exact .inr (by omega)⟩, ?_⟩
      · refine callsV_norm (i9.frm (K := [nx]) (by exact frm_by) fun y hy => ?_)
        have := (i20 y hy).1
        simp
        omega
      · exact i26.trans (J := [nx]) (by exact frm_by) (by simp; omega)
end Go.Proofs.Ytnolgpagdjcjbaa.Ve
