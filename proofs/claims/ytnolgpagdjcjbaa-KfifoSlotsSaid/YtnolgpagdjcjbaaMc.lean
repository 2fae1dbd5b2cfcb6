import Derived.Test.YtnolgpagdjcjbaaOpB
set_option linter.unusedVariables false
set_option linter.unusedSimpArgs false
namespace Go.Proofs.Ytnolgpagdjcjbaa.Ve
open Go
set_option maxRecDepth 4000
set_option maxHeartbeats 4000000
/-- A machine: its steps are the document's. -/
structure Mach (rv : V) (g : FuncId) (z : V) (rs : Pts → RF → Pts × RF × An × Bool) (FR : List V → RF → Prop) (Ok : Pts → RF → Prop) : Prop where
  iface : ∃ t u, rv.iface? = some (t, u) ∧ ∀ st, recvV Try.prog st t u "Step" = some (g, z, [])
  body : hasBody Try.prog g = true
  step : ∀ st m I ps fi row f, MemAt st m I ps → fi < st.next → fi ≠ m → fi ∉ I → st.get fi = some ⟨17, [row]⟩ → FR row f → Ok ps f →
    Fn Try.prog cfg g [z, .ptr m 0 0, .ptr fi 0 0] st (fun v st' _ _ => v = .tup [.pv (.agg (gAn (rs ps f).2.2.1)), .pv (.sc (.bool (rs ps f).2.2.2))] ∧ ∃ row' I', st'.get fi = some ⟨17, [row']⟩ ∧ ((rs ps f).2.2.2 = false → FR row' (rs ps f).2.1) ∧ MemAt st' m I' (rs ps f).1 ∧ Frm st st' (fi :: m :: I) ∧ ∀ x ∈ I', x ∈ I ∨ st.next ≤ x)
def aloneR (rs : Pts → RF → Pts × RF × An × Bool) : Nat → Pts → RF → Pts × An × Bool
  | 0, ps, _ => (ps, ⟨false, ⟨0, 0⟩, 0⟩, false)
  | n + 1, ps, f => if (rs ps f).2.2.2 = true then ((rs ps f).1, (rs ps f).2.2.1, true) else aloneR rs n (rs ps f).1 (rs ps f).2.1
def okRun (rs : Pts → RF → Pts × RF × An × Bool) (Ok : Pts → RF → Prop) : Nat → Pts → RF → Prop
  | 0, _, _ => True
  | n + 1, ps, f => Ok ps f ∧ ((rs ps f).2.2.2 = false → okRun rs Ok n (rs ps f).1 (rs ps f).2.1)
/-- A frame's cells. -/
def pRow (b : Nat) (f : RF) (l0 l1 : V) : List V := [.pv (.sc (.int .i64 f.k)), .pv (.sc (.float .f64 b)), .pv (.sc (.int .i64 f.it.val)), .pv (.sc (.int .i64 f.d0)), .pv (.sc (.int .i64 f.d1)), .pv (.sc (.int .i64 f.pc)), .pv (.sc (.int .i64 f.at_)), .pv (.sc (.int .i64 f.seen)), .pv (.sc (.int .i64 f.seg)), .pv (.sc (.int .i64 f.tot)), .pv (.sc (.bool f.empty)), .pv (.sc (.int .u64 f.v0)), .pv (.sc (.int .i64 f.c0.n)), l0, .pv (.sc (.int .u64 f.v1)), .pv (.sc (.int .i64 f.c1.n)), l1]
structure FR0 (row : List V) (f : RF) : Prop where
  h : ∃ b l0 l1, canon b = f.it.pri ∧ Lx l0 (f.c0.l.map gIt) ∧ Lx l1 (f.c1.l.map gIt) ∧ row = pRow b f l0 l1
theorem fr0_init (o : Opd) : FR0 (pRow o.it.pri (toldF o) .nl .nl) (toldF o) := ⟨⟨o.it.pri, .nl, .nl, rfl, .inr ⟨rfl, rfl⟩, .inr ⟨rfl, rfl⟩, rfl⟩⟩
theorem fn_alone {rv z : V} {g : FuncId} {rs : Pts → RF → Pts × RF × An × Bool} {FR : List V → RF → Prop} {Ok : Pts → RF → Prop} (M : Mach rv g z rs FR Ok) {st : St} {m : Nat} {I : List Nat} {ps : Pts} (hM : MemAt st m I ps) (o : Opd) (most : Int) (hmost : most < 2 ^ 62) (hFR : FR (pRow o.it.pri (toldF o) .nl .nl) (toldF o)) (hOk : okRun rs Ok most.toNat ps (toldF o)) :
    Fn Try.prog cfg 19 [rv, .ptr m 0 0, .pv (.agg (gOp o)), .pv (.sc (.int .i64 most))] st (fun v st' _ _ => v = .tup [.pv (.agg (gAn (aloneR rs most.toNat ps (toldF o)).2.1)), .pv (.sc (.bool (aloneR rs most.toNat ps (toldF o)).2.2))] ∧ ∃ I', MemAt st' m I' (aloneR rs most.toNat ps (toldF o)).1 ∧ Frm st st' (m :: I) ∧ ∀ x ∈ I', x ∈ I ∨ st.next ≤ x) := by
  obtain ⟨⟨t, u, hif, hrv⟩, hb, hstep⟩ := M
  have hlt := hM.lt
  have hI := hM.ltI
  have hout := hM.out
  obtain ⟨nx, hnx⟩ : ∃ x, st.next = x := ⟨_, rfl⟩
  refine fn_keep (.inr rfl) Try.func19 rfl ?_
  show wc _ _ _ (rv :: .ptr m 0 0 :: .pv (.agg (gOp o)) :: .pv (.sc (.int .i64 most)) :: List.replicate 26 undefV) st _
  (repeat (first | refine w_seq ?_ | refine w_regionL ?_ | refine w_norm ?_ | refine w_exit' ?_ | refine w_ret' ?_ | refine w_block ?_ | refine w_scope ?_ | refine w_skip ?_ | refine w_ret ?_ | refine w_exit ?_ | refine w_label ?_ | refine wo_nil ⟨rfl, ?_⟩ | ((first | apply o_box | apply o_alloc | apply o_assign | apply o_load | apply o_buildP | apply o_move | apply o_bin | apply o_extract | apply o_storep) <;> first | refine wo_id ?_ | refine wc_id ?_ | ((with_reducible apply look_id); (exact look_by); done) | ((with_reducible apply bin_id); (exact bin_by); done) | ((with_reducible apply load_id); ((first | (apply ldp; (focus exact get_by); (focus first | exact rfl | assumption)) | apply ldf); (first | (apply part_agg; (focus first | exact ag38 | exact ag48); (focus first | exact sz38 | exact sz48); (focus exact rfl); (focus exact rfl)))); done) | ((with_reducible apply cells_id); (exact cells_by); done) | ((with_reducible apply next_id); (exact next_by); done) | ((with_reducible apply get_id); (exact get_by); done) | ((with_reducible apply setAt_id); (exact setat_by); done) | ((with_reducible apply parts_id); (exact parts_by); done) | exact ze48 | exact bp97 | exact sz48 | exact bp48 | assumption | exact rfl) | ((first | apply b_cond) <;> first | refine wo_id ?_ | refine wc_id ?_ | ((with_reducible apply look_id); (exact look_by); done) | (first | exact tt | exact ff | assumption))))
  have hM0 : MemAt (((st.new ⟨5, [(gOp o).map .pv]⟩).new ⟨4, [[.pv (.sc (.bool false)), .pv (.sc (.float .f64 0)), .pv (.sc (.int .i64 0)), .pv (.sc (.int .i64 0))]]⟩).new ⟨17, [pRow o.it.pri (toldF o) .nl .nl]⟩) m I ps := ((hM.move frm_new (by simp) (by simp)).move frm_new (by simp) (by simp)).move frm_new (by simp) (by simp)
  refine w_loopK (fun n tm s => ∃ (k : Nat) (ps' : Pts) (f' : RF) (row : List V) (I' : List Nat), lk tm 17 = .pv (.sc (.int .i64 k)) ∧ k + n = most.toNat ∧ aloneR rs n ps' f' = aloneR rs most.toNat ps (toldF o) ∧ okRun rs Ok n ps' f' ∧ FR row f' ∧ s.get (nx + 1 + 1) = some ⟨17, [row]⟩ ∧ s.get (nx + 1) = some ⟨4, [[.pv (.sc (.bool false)), .pv (.sc (.float .f64 0)), .pv (.sc (.int .i64 0)), .pv (.sc (.int .i64 0))]]⟩ ∧ MemAt s m I' ps' ∧ Frm st s (m :: I) ∧ (∀ x ∈ I', x ∈ I ∨ nx + 1 + 1 < x) ∧ nx + 3 ≤ s.next) most.toNat rfl
    ⟨0, ps, toldF o, pRow o.it.pri (toldF o) .nl .nl, I, by exact lk_by, by omega, rfl, hOk, hFR, by exact get_by, by exact get_by, hM0, by exact frm_by, fun x hx => .inl hx, by simp only [St.new]; omega⟩ ?_
  rintro n tm1 s ⟨k, ps', f', row, I', h17, hkn, hal, hok, hfr, hgf, hgr, hM1, hF, hI', hn3⟩ hK
  have hm1 := hM1.lt
  have hfo : nx + 1 + 1 ∉ I' := fun h => by
    rcases hI' _ h with h | h
    · have := hI _ h
      omega
    · omega
  have hro : nx + 1 ∉ I' := fun h => by
    rcases hI' _ h with h | h
    · have := hI _ h
      omega
    · omega
  cases n with
  | zero =>
    simp only [aloneR] at hal
    (repeat (first | refine w_seq ?_ | refine w_regionL ?_ | refine w_norm ?_ | refine w_exit' ?_ | refine w_ret' ?_ | refine w_block ?_ | refine w_scope ?_ | refine w_skip ?_ | refine w_ret ?_ | refine w_exit ?_ | refine w_label ?_ | refine wo_nil ⟨rfl, ?_⟩ | ((first | apply o_box | apply o_alloc | apply o_assign | apply o_load | apply o_buildP | apply o_move | apply o_bin | apply o_extract | apply o_storep) <;> first | refine wo_id ?_ | refine wc_id ?_ | ((with_reducible apply look_id); (exact look_by); done) | ((with_reducible apply bin_id); (exact bin_by); done) | ((with_reducible apply load_id); ((first | (apply ldp; (focus exact get_by); (focus first | exact rfl | assumption)) | apply ldf); (first | (apply part_agg; (focus first | exact ag38 | exact ag48); (focus first | exact sz38 | exact sz48); (focus exact rfl); (focus exact rfl)))); done) | ((with_reducible apply cells_id); (exact cells_by); done) | ((with_reducible apply next_id); (exact next_by); done) | ((with_reducible apply get_id); (exact get_by); done) | ((with_reducible apply setAt_id); (exact setat_by); done) | ((with_reducible apply parts_id); (exact parts_by); done) | exact ze48 | exact bp97 | exact sz48 | exact bp48 | assumption | exact rfl) | ((first | apply b_cond) <;> first | refine wo_id ?_ | refine wc_id ?_ | ((with_reducible apply look_id); (exact look_by); done) | (first | exact tt | exact ff | assumption | exact decide_eq_true (by omega) | exact decide_eq_false (by omega))) | (refine l_exit ?_; intro R2 W2)))
    (apply ends_ret; (focus exact (e_cela ag48 sz48 (e_tmp res_nil))))
    refine ⟨_, _, _, Leaves.frz (by decide) _ _ (by exact fz_by), ?_, ?_⟩
    · rw [← hal]
      rfl
    · rw [← hal]
      refine ⟨I', ?_, ?_, ?_⟩
      · exact hM1.move (J := [nx + 1]) (by exact frm_by) (by simp; omega) (by simp; rintro x hx rfl; exact hro hx)
      · refine hF.trans (J := [nx + 1]) (by exact frm_by) (by simp; omega)
      · intro x hx
        rcases hI' x hx with h | h
        · exact .inl h
        · exact .inr (by omega)
  | succ n =>
    obtain ⟨hok1, hok2⟩ := hok
    (repeat (first | refine w_seq ?_ | refine w_regionL ?_ | refine w_norm ?_ | refine w_exit' ?_ | refine w_ret' ?_ | refine w_block ?_ | refine w_scope ?_ | refine w_skip ?_ | refine w_ret ?_ | refine w_exit ?_ | refine w_label ?_ | refine wo_nil ⟨rfl, ?_⟩ | ((first | apply o_box | apply o_alloc | apply o_assign | apply o_load | apply o_buildP | apply o_move | apply o_bin | apply o_extract | apply o_storep) <;> first | refine wo_id ?_ | refine wc_id ?_ | ((with_reducible apply look_id); (exact look_by); done) | ((with_reducible apply bin_id); (exact bin_by); done) | ((with_reducible apply load_id); ((first | (apply ldp; (focus exact get_by); (focus first | exact rfl | assumption)) | apply ldf); (first | (apply part_agg; (focus first | exact ag38 | exact ag48); (focus first | exact sz38 | exact sz48); (focus exact rfl); (focus exact rfl)))); done) | ((with_reducible apply cells_id); (exact cells_by); done) | ((with_reducible apply next_id); (exact next_by); done) | ((with_reducible apply get_id); (exact get_by); done) | ((with_reducible apply setAt_id); (exact setat_by); done) | ((with_reducible apply parts_id); (exact parts_by); done) | exact ze48 | exact bp97 | exact sz48 | exact bp48 | assumption | exact rfl) | ((first | apply b_cond) <;> first | refine wo_id ?_ | refine wc_id ?_ | ((with_reducible apply look_id); (exact look_by); done) | (first | exact tt | exact ff | assumption | exact decide_eq_true (by omega) | exact decide_eq_false (by omega)))))
    refine o_invoke (by exact look_by) (by exact args_by) hif (hrv _) hb (hstep s m I' ps' (nx + 1 + 1) row f' hM1 (by omega) (by omega) hfo hgf hfr hok1) ?_
    rintro _ s2 R2 W2 ⟨rfl, row2, I2, hgf2, hfr2, hM2, hF2, hI2⟩
    have hn2 := hF2.next
    have hgr2 : s2.get (nx + 1) = some ⟨4, [[.pv (.sc (.bool false)), .pv (.sc (.float .f64 0)), .pv (.sc (.int .i64 0)), .pv (.sc (.int .i64 0))]]⟩ := hF2.getq (by omega) (by simp only [List.mem_cons, not_or]; exact ⟨by omega, by omega, hro⟩) hgr
    have hFF : Frm st s2 (m :: I) := hF.trans hF2 (fun x hx hx2 => by
      simp only [List.mem_cons] at hx
      rcases hx with rfl | rfl | hx
      · omega
      · simp
      · rcases hI' x hx with h | h
        · exact List.mem_cons_of_mem _ h
        · omega)
    have hI2' : ∀ x ∈ I2, x ∈ I ∨ nx + 1 + 1 < x := fun x hx => by
      rcases hI2 x hx with h | h
      · exact hI' x h
      · exact .inr (by omega)
    have hro2 : nx + 1 ∉ I2 := fun h => by
      rcases hI2' _ h with h | h
      · have := hI _ h
        omega
      · omega
    have hm2 := hM2.lt
    by_cases hd : (rs ps' f').2.2.2 = true
    · simp only [aloneR, if_pos hd] at hal
      (repeat (first | refine w_seq ?_ | refine w_regionL ?_ | refine w_norm ?_ | refine w_exit' ?_ | refine w_ret' ?_ | refine w_block ?_ | refine w_scope ?_ | refine w_skip ?_ | refine w_ret ?_ | refine w_exit ?_ | refine w_label ?_ | refine wo_nil ⟨rfl, ?_⟩ | ((first | apply o_box | apply o_alloc | apply o_assign | apply o_load | apply o_buildP | apply o_move | apply o_bin | apply o_extract | apply o_storep) <;> first | refine wo_id ?_ | refine wc_id ?_ | ((with_reducible apply look_id); (exact look_by); done) | ((with_reducible apply bin_id); (exact bin_by); done) | ((with_reducible apply load_id); ((first | (apply ldp; (focus exact get_by); (focus first | exact rfl | assumption)) | apply ldf); (first | (apply part_agg; (focus first | exact ag38 | exact ag48); (focus first | exact sz38 | exact sz48); (focus exact rfl); (focus exact rfl)))); done) | ((with_reducible apply cells_id); (exact cells_by); done) | ((with_reducible apply next_id); (exact next_by); done) | ((with_reducible apply get_id); (exact get_by); done) | ((with_reducible apply setAt_id); (exact setat_by); done) | ((with_reducible apply parts_id); (exact parts_by); done) | exact ze48 | exact bp97 | exact sz48 | exact bp48 | assumption | exact rfl) | ((first | apply b_cond) <;> first | refine wo_id ?_ | refine wc_id ?_ | ((with_reducible apply look_id); (exact look_by); done) | (first | exact tt | exact ff | assumption | exact decide_eq_true (by omega) | exact decide_eq_false (by omega))) | (refine l_ret ?_; intro R3 W3)))
      (apply ends_ret; (focus exact (e_cela ag48 sz48 (e_tmp res_nil))))
      refine ⟨_, _, _, Leaves.frz (by decide) _ _ (by exact fz_by), ?_, ?_⟩
      · rw [← hal, ← hd]
        rfl
      · rw [← hal]
        refine ⟨I2, ?_, ?_, ?_⟩
        · exact hM2.move (J := [nx + 1]) (by exact frm_by) (by simp; omega) (by simp; rintro x hx rfl; exact hro2 hx)
        · refine hFF.trans (J := [nx + 1]) (by exact frm_by) (by simp; omega)
        · intro x hx
          rcases hI2' x hx with h | h
          · exact .inl h
          · exact .inr (by omega)
    · have hd' : (rs ps' f').2.2.2 = false := by simpa using hd
      simp only [aloneR, if_neg hd] at hal
      have hwk : IntKind.i64.wrap ((k : Int) + 1) = ((k + 1 : Nat) : Int) := by rw [wrap_id (by omega) (by omega)]; omega
      (repeat (first | refine w_seq ?_ | refine w_regionL ?_ | refine w_norm ?_ | refine w_exit' ?_ | refine w_ret' ?_ | refine w_block ?_ | refine w_scope ?_ | refine w_skip ?_ | refine w_ret ?_ | refine w_exit ?_ | refine w_label ?_ | refine wo_nil ⟨rfl, ?_⟩ | ((first | apply o_box | apply o_alloc | apply o_assign | apply o_load | apply o_buildP | apply o_move | apply o_bin | apply o_extract | apply o_storep) <;> first | refine wo_id ?_ | refine wc_id ?_ | ((with_reducible apply look_id); (exact look_by); done) | ((with_reducible apply bin_id); (exact bin_by); done) | ((with_reducible apply load_id); ((first | (apply ldp; (focus exact get_by); (focus first | exact rfl | assumption)) | apply ldf); (first | (apply part_agg; (focus first | exact ag38 | exact ag48); (focus first | exact sz38 | exact sz48); (focus exact rfl); (focus exact rfl)))); done) | ((with_reducible apply cells_id); (exact cells_by); done) | ((with_reducible apply next_id); (exact next_by); done) | ((with_reducible apply get_id); (exact get_by); done) | ((with_reducible apply setAt_id); (exact setat_by); done) | ((with_reducible apply parts_id); (exact parts_by); done) | exact ze48 | exact bp97 | exact sz48 | exact bp48 | assumption | exact rfl) | ((first | apply b_cond) <;> first | refine wo_id ?_ | refine wc_id ?_ | ((with_reducible apply look_id); (exact look_by); done) | (first | exact tt | exact ff | assumption | exact decide_eq_true (by omega) | exact decide_eq_false (by omega))) | (apply l_norm n (by omega))))
      refine ⟨k + 1, _, _, row2, I2, by rw [← hwk]; exact lk_by, by omega, hal, hok2 hd', hfr2 hd', by exact get_by, by exact get_by, hM2.move (J := []) (by exact frm_by) (by simp) (by simp), hFF.trans (J := []) (by exact frm_by) (by simp), hI2', by simp only [St.new, St.set]; omega⟩
end Go.Proofs.Ytnolgpagdjcjbaa.Ve
