import Derived.Test.YtefgpelodpggkaaDd
set_option linter.unusedVariables false
set_option linter.unusedSimpArgs false
namespace Go.Proofs.Ytefgpelodpggkaa.Ve
open Go
set_option maxRecDepth 4000
set_option maxHeartbeats 8000000
theorem drive_step {kind : Int} {own : Rw → Opd} {rv : V} {g : FuncId} {z : V} {rs : StepR} {FR : List V → RF → Prop} {Ok : Pts → RF → Prop} {ops : List (List Rw)} {gN : FuncId} {cN : List V} {KN : List Nat} {JN : St → Prop} {gS : FuncId} {cS : List V} {J : St → List Nat → DS → Prop} {Inv : DS → Prop}
    (A : Around kind own rv g z rs FR Ok ops gN cN KN JN gS cS J Inv) {n : Nat} (hn4 : n ≤ 4)
    {nx N m : Nat} {st0 : St} {K0 : List Nat} {s : St} {D E : DS} {I Jc K : List Nat} {xv cv : V} {fr : Nat → Nat} {rA rO rT rC : List (List V)}
    (hI : DrI n nx N m st0 K0 FR JN (fun s K _ => J s K D) (fun _ => Inv D) s E I Jc K xv cv fr rA rO rT rC) (hnx : st0.next = nx) (hNx : nx < N) (hmN : nx < m ∧ m < N) (hKN : ∀ y ∈ KN, y < nx) (hKK : ∀ y ∈ K0, y ∉ KN)
    {k : Nat} {t : TH} (hkT : E.T[k]? = some t) (hon : t.on = true) (hDn : D.n < 200) (hEn : E.n = D.n) (hbeg : dbeg own ops D k = some E)
    {c : Code} (hc : Try.f44.body.bind (codeAt 17) = some c) {tm : List V} (hl : tm.length = 232) (h1 : lk tm 1 = rv) (h2 : lk tm 2 = .fn (.func gN) [] cN) (h5 : lk tm 5 = .fn (.func gS) [] cS) (h14 : lk tm 14 = .ptr N 0 0) (h16 : lk tm 16 = .ow (N + 1 + 1) 1 0 n) (h17 : lk tm 17 = .ow (N + 1 + 1 + 1) 17 0 n) (h18 : lk tm 18 = .ow (N + 1 + 1 + 1 + 1) 1 0 n) (h20 : lk tm 20 = .pv (.sc (.int .i64 k))) :
    wc Try.prog cfg c tm s fun ex tm' s' R W => ex = .norm ∧ ∃ I' K' x' rA' rO' rT' rC', DrI n nx N m st0 K0 FR JN J Inv s' (dmov rs E k) I' Jc K' x' cv fr rA' rO' rT' rC' ∧ (dmov rs E k).C.length ≤ (dmov rs E k).n := by
  have hI0 := hI
  obtain ⟨i1, i2, i3, i4, i5, i6, i7, i8, i9, i10, i11, i12, i13, i14, i15, i16, i17, i18, i19, i20, i21, i22, i23, i24, i25, i26, i27, i28⟩ := hI
  obtain ⟨⟨ti, ui, hif, hrv⟩, hb, hstep⟩ := A.mach
  obtain ⟨hOk, hInv⟩ := A.inv D k E hDn i25 hbeg
  have hOk := hOk t hkT
  have hkn : k < n := by
    have := (List.getElem?_eq_some_iff.1 hkT).1
    omega
  have e0 : 0 + ((k : Nat) : Int).toNat = k := by omega
  obtain ⟨row0, f1, f2, f3, f4, f5, f6, f7⟩ := i17 k t hkT hon
  have hO : rO[0 + ((k : Nat) : Int).toNat]? = some [.ptr (fr k) 0 0] := by
    obtain ⟨r, h1, h2⟩ := i12.2 k t hkT
    rw [e0, h1, h2, hon]
    rfl
  have hT : rT[0 + ((k : Nat) : Int).toNat]? = some ((rRF t.f).map .pv) := by
    obtain ⟨r, h1, h2, h3⟩ := i13.2 k t hkT
    rw [e0, h1, h3 hon]
  have hC : rC[0 + ((k : Nat) : Int).toNat]? = some [.pv (.sc (.int .i64 t.call))] := by
    obtain ⟨r, h1, j, h2, h3⟩ := i14.2 k t hkT
    rw [e0, h1, h2, h3 hon]
  have hxv : mkAgg [xv] = .pv (rMem E.ps) ∨ mkAgg [xv] = .agg [.nl] ∧ E.ps = [] := by
    rcases i7 with rfl | ⟨rfl, h⟩
    · exact .inl rfl
    · exact .inr ⟨rfl, List.map_eq_nil_iff.1 h⟩
  have hI4 : ∀ y, y ≤ N + 4 → y ∉ fr k :: m :: I ∨ y = m := fun y hy => by
    by_cases h : y = m
    · exact .inr h
    · refine .inl ?_
      simp only [List.mem_cons, not_or]
      exact ⟨by omega, h, fun h => by have := i19 y h; omega⟩
  have hn1 : N ∉ fr k :: m :: I := (hI4 N (by omega)).resolve_right (by omega)
  have hn3 : N + 1 + 1 ∉ fr k :: m :: I := (hI4 _ (by omega)).resolve_right (by omega)
  have hn4' : N + 1 + 1 + 1 ∉ fr k :: m :: I := (hI4 _ (by omega)).resolve_right (by omega)
  have hn5 : N + 1 + 1 + 1 + 1 ∉ fr k :: m :: I := (hI4 _ (by omega)).resolve_right (by omega)
  refine w_at hc rfl ?_
  (repeat (first | refine w_seq ?_ | refine w_regionL ?_ | ((first | apply o_move | apply o_indexAddr | apply o_load | apply o_fieldAddr | apply o_func | apply o_nil) <;> first | refine wo_id ?_ | ((with_reducible apply look_id); (exact look_by); done) | ((with_reducible apply load_id); ((first | (apply ldp; (focus exact get_by); (focus first | exact rfl | assumption))); (first | exact part_sc (by first | exact ag3) rfl)); done) | ((with_reducible apply args_id); (exact args_by); done) | exact ia_ow (iaO31 _ _ _ _ _) (by omega) (by omega) rfl | exact fa52_0 _ _ _)))
  refine o_nil (by exact look_by) A.nilS ?_
  (repeat (first | ((first | apply o_move) <;> first | refine wo_id ?_ | ((with_reducible apply look_id); (exact look_by); done))))
  refine o_invoke (by exact look_by) (by exact args_by) hif (hrv _) hb (hstep s m I E.ps (fr k) row0 t.f i8 f4 (by omega) f5 f1 f2 hOk) ?_
  rintro _ s2 R2 W2 ⟨rfl, row2, I2, hgf2, hfr2, hM2, hF2, hI2⟩
  have b1 := hF2.getq (by omega) hn1 i1
  have b3 := hF2.getq (by omega) hn3 i4
  have b4 := hF2.getq (by omega) hn4' i5
  have b5 := hF2.getq (by omega) hn5 i6
  have hJ2 : JN s2 := A.keepN _ _ _ i24 hF2 fun y hy hf => by
    have := hKN y hy
    simp only [List.mem_cons] at hf
    rcases hf with h | h | h
    · omega
    · omega
    · have := i19 y h
      omega
  have hC2 := i9.frm hF2 fun y hy hf => by
    simp only [List.mem_cons] at hf
    rcases hf with h | h | h
    · rw [h] at hy
      exact f6 hy
    · have := (i20 y hy).1
      omega
    · exact (i20 y hy).2 h
  have i9lt := i9.lt
  obtain ⟨S2, hS2⟩ : ∃ y, s2.next = y := ⟨_, rfl⟩
  have hSS := hF2.next
  clear i1 i2 i3 i4 i5 i6 i9 i11 i12 i13 i14 f1
  (repeat (first | refine w_seq ?_ | refine w_regionL ?_ | refine w_norm ?_ | ((first | apply o_alloc | apply o_assign | apply o_storep | apply o_move | apply o_indexAddr | apply o_load | apply o_fieldAddr | apply o_extract) <;> first | refine wo_id ?_ | ((with_reducible apply look_id); (exact look_by); done) | ((with_reducible apply load_id); ((first | (apply ldp; (focus exact get_by); (focus first | exact rfl | assumption))); (first | (apply part_agg; (focus first | exact ag38); (focus first | exact sz49 | exact sz107); (focus exact rfl); (focus exact rfl)))); done) | ((with_reducible apply cells_id); (exact cells_by); done) | ((with_reducible apply next_id); (exact next_by); done) | ((with_reducible apply get_id); (exact get_by); done) | ((with_reducible apply setAt_id); (exact setat_by); done) | exact sz52 | exact ia_ow (iaO128 _ _ _ _ _) (by omega) (by omega) rfl | exact fa52_0 _ _ _ | exact ze38 | decide | exact rfl) | (refine wo_nil ⟨dyn_draw (bs := [0, 0, 1, 0, 0, 0, 1, 0, 0, 0, 3, 0, 0, 0, 8, 3, 0]) ?_ ?_, ?_⟩; (focus (exact flags_by; done)); (focus decide +kernel))))
  refine o_callV (by exact look_by) (by exact args_by) rfl A.bN (A.next _ ?_ E.ps t.f hOk i8.wf _ hxv) ?_
  · exact A.keepN _ _ [] hJ2 (by exact frm_by) (by simp)
  rintro _ s3 R3 W3 ⟨rfl, hF3⟩
  obtain ⟨S3, hS3⟩ : ∃ y, s3.next = y := ⟨_, rfl⟩
  have hSS3 := hF3.next
  simp only [St.new, St.set] at hSS3
  have hans := sp_isAnswer (rs E.ps t.f).2.2.1
  have hnn := hM2.wf.n
  have hwl : IntKind.u64.wrap ((((rs E.ps t.f).1).map rPt).length : Int) = ((rs E.ps t.f).1).length := by rw [List.length_map]; exact wrap_u64 (by omega) (by omega)
  have hI2N : ∀ y ∈ I2, N + 4 < y := fun y hy => by
    rcases hI2 y hy with h | h
    · exact i19 y h
    · omega
  (repeat (first | refine w_seq ?_ | refine w_regionL ?_ | refine w_norm ?_ | ((first | apply o_alloc | apply o_assign | apply o_storep | apply o_move | apply o_bin | apply o_indexAddr | apply o_load | apply o_fieldAddr | apply o_extract) <;> first | refine wo_id ?_ | ((with_reducible apply look_id); (exact look_by); done) | ((with_reducible apply bin_id); (exact bin_by); done) | ((with_reducible apply load_id); ((first | (apply ldp; (focus exact get_by); (focus first | exact rfl))); (first | exact part_sc (by first | exact ag3) rfl | (apply part_agg; (focus first | exact ag38); (focus first | exact sz38 | exact sz49 | exact sz107); (focus exact rfl); (focus exact rfl)))); done) | ((with_reducible apply cells_id); (exact cells_by); done) | ((with_reducible apply next_id); (exact next_by); done) | ((with_reducible apply get_id); (exact get_by); done) | ((with_reducible apply setAt_id); (exact setat_by); done) | exact sz52 | exact ze107 | exact sz3 | exact ia_ow (iaO128 _ _ _ _ _) (by omega) (by omega) rfl | exact sz107 | exact fa52_0 _ _ _ | exact ze49 | exact ze109 | assumption | decide | exact rfl) | (refine wo_nil ⟨dyn_draw (bs := [0, 0, 1, 0, 0, 0, 1, 3, 0, 0, 0, 0, 0, 8, 8, 8, 3, 3, 3, 0]) ?_ ?_, ?_⟩; (focus (exact flags_by; done)); (focus decide +kernel)) | (refine wo_nil ⟨dyn_drawE (bs := [0, 0, 1, 5, 0, 3, 0, 3]) [(3, 5)] ?_ ?_ ?_, ?_⟩; (focus (exact flags_by; done)); (focus decide +kernel); (focus (repeat' (first | exact trivial | refine ⟨noclash rfl rfl ?_, ?_⟩)); (all_goals (first | exact nc1 (by omega))))) | (apply o_pcall; (focus exact args_by); (focus exact hb57); (focus exact rfl); (focus ((repeat (first | exact frzAll_nil | apply frzAll_pv)); done)); (focus exact hans)) | ((first | apply b_pick | apply b_in) <;> first | refine wo_id ?_ | ((with_reducible apply look_id); (exact look_by); done) | ((with_reducible apply yield_id); ((apply yield_of; (focus exact rfl); (focus exact lk_by))); done) | (first | exact ff | ((apply uf); (simp; done))))))
  refine o_call (by exact args_by) hb40 (fn_clock (I := I2) (ps := (rs E.ps t.f).1) ?_) ?_
  · exact hM2.move (J := [N, N + 1 + 1 + 1]) (by exact frm_by) (by simp; omega) (fun y hy => by have := hI2N y hy; simp; omega)
  rintro _ s4 R4 W4 ⟨rfl, hF4, rfl⟩
  obtain ⟨S4, hS4⟩ : ∃ y, s4.next = y := ⟨_, rfl⟩
  have hSS4 := hF4.next
  simp only [St.new, St.set] at hSS4
  have hwn : IntKind.i64.wrap ((E.n : Int) + 1) = ((E.n + 1 : Nat) : Int) := by rw [wrap_id (by omega) (by omega)]; omega
  have hps : (dmov rs E k).ps = (rs E.ps t.f).1 := by
    unfold dmov
    rw [hkT]
    simp only
    split <;> rfl
  have hnE : (dmov rs E k).n = E.n + 1 := by
    unfold dmov
    rw [hkT]
    simp only
    split <;> rfl
  have hTs : ∀ r, rT.set k r = rT.set (0 + ((k : Nat) : Int).toNat) r := fun r => by rw [e0]
  have hdec : ∀ b, (rs E.ps t.f).2.2.2 = b → decide (∃ t', E.T[k]? = some t' ∧ (rs E.ps t'.f).2.2.2 = true) = b := fun b hb => by
    rw [← hb, hkT]
    simp
  have hsee := fun st' h1 h2 h3 h4 => A.see st' K D k E m I2 cv Jc hDn i25 hbeg h1 h2 h3 h4
  simp only [hps, hnE] at hsee
  have hKS : ∀ y ∈ K, y < s.next := A.ltS _ _ _ i23
  have hdis : ∀ y ∈ K, y ≠ m ∧ y ∉ I2 ∧ y ∉ Jc := fun y hy => by
    obtain ⟨q1, q2, q3⟩ := i21 y hy
    refine ⟨by omega, fun h => ?_, q3⟩
    rcases hI2 y h with h | h
    · exact q2 h
    · have := hKS y hy
      omega
  have hKF : ∀ y ∈ K, y ∉ fr k :: m :: N :: (N + 1 + 1) :: (N + 1 + 1 + 1) :: (I ++ Jc) := fun y hy => by
    obtain ⟨q1, q2, q3⟩ := i21 y hy
    simp only [List.mem_cons, List.mem_append, not_or]
    exact ⟨fun h => f7 (h ▸ hy), by omega, by omega, by omega, by omega, q2, q3⟩
  have hF2w : Frm s s2 (fr k :: m :: N :: (N + 1 + 1) :: (N + 1 + 1 + 1) :: (I ++ Jc)) := hF2.wide fun y hy => by
    simp only [List.mem_cons, List.mem_append] at hy ⊢
    rcases hy with h | h | h
    · exact .inl h
    · exact .inr (.inl h)
    · exact .inr (.inr (.inr (.inr (.inr (.inl h)))))
  rcases hd : (rs E.ps t.f).2.2.2 with _ | _
  · have hCd : (dmov rs E k).C = E.C := by
      unfold dmov
      rw [hkT]
      simp [hd]
    rw [hdec _ hd] at hsee
    (repeat (first | refine w_seq ?_ | refine w_regionL ?_ | refine w_norm ?_ | refine w_skip ?_ | refine wo_nil ⟨rfl, ?_⟩ | (apply o_bin; (focus exact look_by); (focus exact look_by); (focus first | exact br_addw (hwn)); (focus exact rfl)) | ((first | apply o_storep | apply o_move | apply o_len | apply o_bin | apply o_load | apply o_fieldAddr | apply o_conv) <;> first | refine wo_id ?_ | ((with_reducible apply look_id); (exact look_by); done) | ((with_reducible apply bin_id); (exact bin_by); done) | ((with_reducible apply load_id); ((first | (apply ldp; (focus exact get_by); (focus first | exact rfl))); (first | exact part_sc (by first | exact ag3) rfl | (apply part_agg; (focus first | exact ag38); (focus first | exact sz38); (focus exact rfl); (focus exact rfl)))); done) | ((with_reducible apply cells_id); (exact cells_by); done) | ((with_reducible apply get_id); (exact get_by); done) | ((with_reducible apply setAt_id); (exact setat_by); done) | exact lnF46 _ | exact sz3 | exact fa52_2 _ _ _ | exact fa52_0 _ _ _ | exact Try.underlying3 | exact Try.underlying67 | (intro a h; cases h) | exact rfl) | (refine wo_nil ⟨dyn_draw (bs := [0, 0, 0, 0, 1, 1, 1, 0, 0, 0, 0, 1, 7, 0, 0, 5, 0, 0, 0, 0]) ?_ ?_, ?_⟩; (focus (exact flags_by; done)); (focus decide +kernel)) | ((first | apply b_cond | apply b_pick | apply b_in) <;> first | refine wo_id ?_ | refine wc_id ?_ | ((with_reducible apply look_id); (exact look_by); done) | ((with_reducible apply yield_id); ((apply yield_of; (focus exact rfl); (focus exact lk_by))); done) | (first | exact ff | ((apply uf); (rw [hwl]; simp; done))))))
    refine o_callV (by exact look_by) (by exact args_by) rfl A.bS (hsee _ ?_ ?_ ?_ hdis) ?_
    · refine A.keepS _ _ _ _ _ i23 (hF2w.trans (J := [N, N + 1 + 1 + 1]) (by exact frm_by) ?_) hKF
      intro y hy _
      simp only [List.mem_cons, List.not_mem_nil, or_false] at hy
      simp only [List.mem_cons]
      rcases hy with h | h
      · exact .inr (.inr (.inl h))
      · exact .inr (.inr (.inr (.inr (.inl h))))
    · exact hM2.move (J := [N, N + 1 + 1 + 1]) (by exact frm_by) (by simp; omega) (fun y hy => by have := hI2N y hy; simp; omega)
    · rw [hCd]
      exact hC2.frm (K := [N, N + 1 + 1 + 1]) (by exact frm_by) (fun y hy => by have := (i20 y hy).1; simp; omega)
    rintro _ s7 R7 W7 ⟨rfl, K', hJ7, hF7, hK7⟩
    (repeat (first | refine w_norm ?_ | refine w_skip ?_ | refine wo_nil ⟨rfl, ?_⟩ | ((first | apply o_not) <;> first | refine wo_id ?_ | ((with_reducible apply look_id); (exact look_by); done)) | ((first | apply b_cond) <;> first | refine wc_id ?_ | ((with_reducible apply look_id); (exact look_by); done) | (first | exact ff))))
    exact ⟨rfl, _, _, _, _, _, _, _, step_end A hI0 hnx hNx hmN hKN hKK hkT hon (hF2w.trans (J := [N, N + 1 + 1 + 1]) (by exact frm_by) (fun y hy _ => by
      simp only [List.mem_cons, List.not_mem_nil, or_false] at hy
      simp only [List.mem_cons]
      rcases hy with h | h
      · exact .inr (.inr (.inl h))
      · exact .inr (.inr (.inr (.inr (.inl h)))))) (by exact get_by) (by exact get_by) (by rw [hd]; rfl) (by rw [hTs]; exact get_by) (fun _ => ⟨row2, by exact get_by, hfr2 hd⟩) (hM2.move (J := [N, N + 1 + 1 + 1]) (by exact frm_by) (by simp; omega) (fun y hy => by have := hI2N y hy; simp; omega)) hI2 (by
        rw [hCd]
        exact hC2.frm (K := [N, N + 1 + 1 + 1]) (by exact frm_by) (fun y hy => by have := (i20 y hy).1; simp; omega)) hF7 hJ7 hK7 hInv⟩
  · rcases hC2 with ⟨-, h, -⟩ | ⟨ci, rfl, hciL, hciG, rfl⟩
    · have := i15 k t hkT hon
      rw [List.map_eq_nil_iff.1 h] at this
      simp at this
    have hciN := (i20 ci (by simp)).1
    have hcL := i15 k t hkT hon
    have hcM : t.call < (E.C.map cRow).length := by rw [List.length_map]; exact hcL
    obtain ⟨cl, hcl⟩ : ∃ cl, E.C[t.call]? = some cl := ⟨_, List.getElem?_eq_getElem hcL⟩
    have e1 : 0 + ((t.call : Nat) : Int).toNat = t.call := by omega
    have hCr : (E.C.map cRow)[0 + ((t.call : Nat) : Int).toNat]? = some [.pv (.sc (.int .i64 cl.th)), .pv (.sc (.int .i64 cl.o.k)), .pv (.sc (.float .f64 cl.o.it.pri)), .pv (.sc (.int .i64 cl.o.it.val)), .pv (.sc (.int .i64 cl.o.d0)), .pv (.sc (.int .i64 cl.o.d1)), .pv (.sc (.int .i64 cl.beg)), .pv (.sc (.int .i64 cl.en)), .pv (.sc (.bool cl.an.ok)), .pv (.sc (.float .f64 cl.an.it.pri)), .pv (.sc (.int .i64 cl.an.it.val)), .pv (.sc (.int .i64 cl.an.n))] := by
      rw [e1, List.getElem?_map, hcl]
      rfl
    have hCr2 : ((E.C.map cRow).set (0 + ((t.call : Nat) : Int).toNat) [.pv (.sc (.int .i64 cl.th)), .pv (.sc (.int .i64 cl.o.k)), .pv (.sc (.float .f64 cl.o.it.pri)), .pv (.sc (.int .i64 cl.o.it.val)), .pv (.sc (.int .i64 cl.o.d0)), .pv (.sc (.int .i64 cl.o.d1)), .pv (.sc (.int .i64 cl.beg)), .pv (.sc (.int .i64 E.n)), .pv (.sc (.bool cl.an.ok)), .pv (.sc (.float .f64 cl.an.it.pri)), .pv (.sc (.int .i64 cl.an.it.val)), .pv (.sc (.int .i64 cl.an.n))])[0 + ((t.call : Nat) : Int).toNat]? = some [.pv (.sc (.int .i64 cl.th)), .pv (.sc (.int .i64 cl.o.k)), .pv (.sc (.float .f64 cl.o.it.pri)), .pv (.sc (.int .i64 cl.o.it.val)), .pv (.sc (.int .i64 cl.o.d0)), .pv (.sc (.int .i64 cl.o.d1)), .pv (.sc (.int .i64 cl.beg)), .pv (.sc (.int .i64 E.n)), .pv (.sc (.bool cl.an.ok)), .pv (.sc (.float .f64 cl.an.it.pri)), .pv (.sc (.int .i64 cl.an.it.val)), .pv (.sc (.int .i64 cl.an.n))] := by
      rw [e1]
      exact List.getElem?_set_self hcM
    have hCd : (dmov rs E k).C = E.C.set t.call { cl with en := E.n, an := (rs E.ps t.f).2.2.1 } := by
      unfold dmov
      rw [hkT]
      simp [hd, endC, hcl]
    have hCm : ((E.C.map cRow).set (0 + ((t.call : Nat) : Int).toNat) [.pv (.sc (.int .i64 cl.th)), .pv (.sc (.int .i64 cl.o.k)), .pv (.sc (.float .f64 cl.o.it.pri)), .pv (.sc (.int .i64 cl.o.it.val)), .pv (.sc (.int .i64 cl.o.d0)), .pv (.sc (.int .i64 cl.o.d1)), .pv (.sc (.int .i64 cl.beg)), .pv (.sc (.int .i64 E.n)), .pv (.sc (.bool cl.an.ok)), .pv (.sc (.float .f64 cl.an.it.pri)), .pv (.sc (.int .i64 cl.an.it.val)), .pv (.sc (.int .i64 cl.an.n))]).set (0 + ((t.call : Nat) : Int).toNat) [.pv (.sc (.int .i64 cl.th)), .pv (.sc (.int .i64 cl.o.k)), .pv (.sc (.float .f64 cl.o.it.pri)), .pv (.sc (.int .i64 cl.o.it.val)), .pv (.sc (.int .i64 cl.o.d0)), .pv (.sc (.int .i64 cl.o.d1)), .pv (.sc (.int .i64 cl.beg)), .pv (.sc (.int .i64 E.n)), .pv (.sc (.bool (rs E.ps t.f).2.2.1.ok)), .pv (.sc (.float .f64 (rs E.ps t.f).2.2.1.it.pri)), .pv (.sc (.int .i64 (rs E.ps t.f).2.2.1.it.val)), .pv (.sc (.int .i64 (rs E.ps t.f).2.2.1.n))] = (dmov rs E k).C.map cRow := by
      rw [hCd, e1, List.set_set, List.map_set]
      rfl
    have hCl : (E.C.map cRow).length = ((dmov rs E k).C.map cRow).length := by simp [hCd]
    rw [hdec _ hd] at hsee
    (repeat (first | refine w_seq ?_ | refine w_regionL ?_ | refine w_norm ?_ | refine w_skip ?_ | refine wo_nil ⟨rfl, ?_⟩ | (apply o_bin; (focus exact look_by); (focus exact look_by); (focus first | exact br_addw (hwn)); (focus exact rfl)) | ((first | apply o_storep | apply o_move | apply o_len | apply o_bin | apply o_indexAddr | apply o_load | apply o_fieldAddr | apply o_conv) <;> first | refine wo_id ?_ | ((with_reducible apply look_id); (exact look_by); done) | ((with_reducible apply bin_id); (exact bin_by); done) | ((with_reducible apply load_id); ((first | (apply ldp; (focus exact get_by); (focus first | exact rfl | assumption))); (first | exact part_sc (by first | exact ag3) rfl | (apply part_agg; (focus first | exact ag38); (focus first | exact sz38); (focus exact rfl); (focus exact rfl)))); done) | ((with_reducible apply cells_id); (exact cells_by); done) | ((with_reducible apply get_id); (exact get_by); done) | ((with_reducible apply setAt_id); (exact setat_by); done) | exact sz52 | exact lnF46 _ | exact ia_ow (iaO31 _ _ _ _ _) (by omega) (by omega) rfl | exact sz3 | exact fa52_2 _ _ _ | exact fa52_0 _ _ _ | exact Try.underlying3 | exact Try.underlying67 | exact ia_ow (iaO50 _ _ _ _ _) (by omega) (by omega) rfl | assumption | (intro a h; cases h) | decide | exact rfl) | (refine wo_nil ⟨dyn_draw (bs := [0, 0, 0, 0, 1, 1, 1, 0, 0, 0, 0, 1, 7, 0, 0, 5, 0, 0, 0, 0]) ?_ ?_, ?_⟩; (focus (exact flags_by; done)); (focus decide +kernel)) | (refine wo_nil ⟨dyn_drawE (bs := [0, 1, 0, 0, 0, 1, 0, 5, 0, 0, 0, 1, 0, 1, 5, 0, 0, 3, 0, 0, 3]) [(7, 17), (14, 17)] ?_ ?_ ?_, ?_⟩; (focus (exact flags_by; done)); (focus decide +kernel); (focus (repeat' (first | exact trivial | refine ⟨noclash rfl rfl ?_, ?_⟩)); (all_goals (first | exact nc1 (by omega))))) | ((first | apply b_cond | apply b_pick | apply b_in) <;> first | refine wo_id ?_ | refine wc_id ?_ | ((with_reducible apply look_id); (exact look_by); done) | ((with_reducible apply yield_id); ((apply yield_of; (focus exact rfl); (focus exact lk_by))); done) | (first | exact tt | exact ff | ((apply uf); (rw [hwl]; simp; done))))))
    have hsub : ∀ y ∈ [N, N + 1 + 1, N + 1 + 1 + 1, ci], y < s.next → y ∈ fr k :: m :: N :: (N + 1 + 1) :: (N + 1 + 1 + 1) :: (I ++ [ci]) := by
      intro y hy _
      simp only [List.mem_cons, List.not_mem_nil, or_false] at hy
      simp only [List.mem_cons, List.mem_append, List.not_mem_nil, or_false]
      rcases hy with h | h | h | h
      · exact .inr (.inr (.inl h))
      · exact .inr (.inr (.inr (.inl h)))
      · exact .inr (.inr (.inr (.inr (.inl h))))
      · exact .inr (.inr (.inr (.inr (.inr (.inr h)))))
    have hI2c : ∀ y ∈ I2, y ∉ [N, N + 1 + 1, N + 1 + 1 + 1, ci] := fun y hy => by
      have := hI2N y hy
      have : y ≠ ci := fun h => by
        rcases hI2 y hy with h' | h'
        · exact (i20 ci (by simp)).2 (h ▸ h')
        · have := i9lt ci (by simp)
          omega
      simp
      omega
    refine o_callV (by exact look_by) (by exact args_by) rfl A.bS (hsee _ ?_ ?_ ?_ hdis) ?_
    · exact A.keepS _ _ _ _ _ i23 (hF2w.trans (J := [N, N + 1 + 1, N + 1 + 1 + 1, ci]) (by exact frm_by) hsub) hKF
    · exact hM2.move (J := [N, N + 1 + 1, N + 1 + 1 + 1, ci]) (by exact frm_by) (by simp; omega) hI2c
    · exact .inr ⟨ci, by rw [hCl], by simp only [St.new, St.set]; omega, by rw [← hCm]; exact get_by, rfl⟩
    rintro _ s7 R7 W7 ⟨rfl, K', hJ7, hF7, hK7⟩
    (repeat (first | refine w_norm ?_ | refine w_skip ?_ | refine wo_nil ⟨rfl, ?_⟩ | ((first | apply o_not) <;> first | refine wo_id ?_ | ((with_reducible apply look_id); (exact look_by); done)) | ((first | apply b_cond) <;> first | refine wc_id ?_ | ((with_reducible apply look_id); (exact look_by); done) | (first | exact ff))))
    exact ⟨rfl, _, _, _, _, _, _, _, step_end A hI0 hnx hNx hmN hKN hKK hkT hon (hF2w.trans (J := [N, N + 1 + 1, N + 1 + 1 + 1, ci]) (by exact frm_by) hsub) (by exact get_by) (by exact get_by) (by rw [hd, e0]; rfl) (by rw [hTs]; exact get_by) (fun h => by rw [hd] at h; cases h) (hM2.move (J := [N, N + 1 + 1, N + 1 + 1 + 1, ci]) (by exact frm_by) (by simp; omega) hI2c) hI2 (.inr ⟨ci, by rw [hCl], by simp only [St.new, St.set]; omega, by rw [← hCm]; exact get_by, rfl⟩) hF7 hJ7 hK7 hInv⟩
end Go.Proofs.Ytefgpelodpggkaa.Ve
