import Derived.Test.YtnolgpagdjcjbaaDr
import Derived.Test.YtnolgpagdjcjbaaKn
import Derived.Test.YtnolgpagdjcjbaaKf
import Derived.Test.YtnolgpagdjcjbaaKw
set_option linter.unusedVariables false
set_option linter.unusedSimpArgs false
namespace Go.Proofs.Ytnolgpagdjcjbaa.Ve
open Go
set_option maxRecDepth 4000
set_option maxHeartbeats 8000000
theorem of2 : pcall (Ew Try.prog cfg) 47 [.sc (.int .i64 2)] = some (.tup [.pv (.sc (.int .i64 3)), .pv (.sc (.int .i64 4))]) := pcall_evN (n := 50) (by kernel_rfl)
theorem fn_any {st : St} {m : Nat} {x c : V} {n : Int} {b : Bool} (hx : x.cell1 = true) (hc : c.cell1 = true) : Fn Try.prog cfg 24 [.agg [.ptr m 0 0, x, c, .pv (.sc (.int .i64 n))], .pv (.sc (.bool b))] st (fun v st' _ _ => v = .pv (.sc (.bool true)) ∧ Frm st st' []) := by
  have hcell : ([.ptr m 0 0, x, c, .pv (.sc (.int .i64 n))] : List V).all V.cell1 = true := by
    simp only [List.all_cons, hx, hc]
    rfl
  refine fn_keep (.inr rfl) Try.func24 rfl ?_
  show wc _ _ _ (.agg [.ptr m 0 0, x, c, .pv (.sc (.int .i64 n))] :: .pv (.sc (.bool b)) :: List.replicate 3 undefV) st _
  (repeat (first | refine w_seq ?_ | refine w_regionL ?_ | refine w_norm ?_ | refine w_exit' ?_ | refine w_ret' ?_ | refine w_block ?_ | refine w_scope ?_ | refine w_skip ?_ | refine w_ret ?_ | refine w_exit ?_ | refine w_label ?_ | refine wo_nil ⟨rfl, ?_⟩ | ((first | apply o_box | apply o_assign) <;> first | refine wo_id ?_ | refine wc_id ?_ | ((with_reducible apply look_id); (exact look_by); done) | ((with_reducible apply cells_id); (exact cells_by); done) | ((with_reducible apply next_id); (exact next_by); done) | exact rfl)))
  refine o_box (v := .agg [.ptr m 0 0, x, c, .pv (.sc (.int .i64 n))]) (cs := [.ptr m 0 0, x, c, .pv (.sc (.int .i64 n))]) (by exact look_by) rfl rfl hcell (by exact next_by) ?_
  (repeat (first | refine w_seq ?_ | refine w_regionL ?_ | refine w_norm ?_ | refine w_exit' ?_ | refine w_ret' ?_ | refine w_block ?_ | refine w_scope ?_ | refine w_skip ?_ | refine w_ret ?_ | refine w_exit ?_ | refine w_label ?_ | refine wo_nil ⟨rfl, ?_⟩ | ((first | apply o_box | apply o_assign) <;> first | refine wo_id ?_ | refine wc_id ?_ | ((with_reducible apply look_id); (exact look_by); done) | ((with_reducible apply cells_id); (exact cells_by); done) | ((with_reducible apply next_id); (exact next_by); done) | exact rfl)))
  (apply ends_ret; (focus exact (e_tmp res_nil)))
  refine ⟨_, _, _, Leaves.frz (by decide) _ _ (by exact fz_by), rfl, by exact frm_by⟩
theorem CallsV.move {st st' : St} {c : V} {C : List CL} {Jc J : List Nat} (h : CallsV st c C Jc) (hf : Frm st st' J) (hJ : ∀ y ∈ Jc, y ∉ J) : CallsV st' c C Jc := by
  rcases h with h | h
  · exact .inl h
  · exact .inr (h.frm hf hJ)
theorem callsV_norm' {st : St} {c : V} {C : List CL} {Jc : List Nat} (h : CallsV st c C Jc) : CallsV st c.norm C Jc := by
  rcases h with ⟨rfl, h⟩ | h
  · exact .inl ⟨by simp [V.norm], h⟩
  · exact callsV_norm h
/-- What stands around a Drive of a counter. -/
abbrev KAround (n : Int) (b : Nat) (ops : List (List Rw)) (gS : FuncId) (cS : List V) (J : St → List Nat → DS → Prop) (Inv : DS → Prop) : Prop :=
  Around 2 (ownOp 3 4) (.pv (.ifc 26 (.agg [.sc (.int .i64 n)]))) 103 (.pv (.agg [.sc (.int .i64 n)])) (kfR n) FR0 (KOk n) ops 51 [.ptr b 0 0] [b] (fun st => st.get b = some ⟨1, [[.pv (.sc (.int .i64 n))]]⟩ ∧ b < st.next) gS cS J Inv
theorem fn_kdrive {n : Int} (hn : 1 ≤ n ∧ n ≤ 16) {ops : List (List Rw)} (hops : ∀ l ∈ ops, l.length ≤ maxLen ∧ ∀ x ∈ l, RwOk x) (hol : ops.length ≤ maxLen) (picks : List Int) (hpk : ∀ p ∈ picks, i64 p) (hpl : picks.length ≤ maxLen) {gS : FuncId} {cS : List V} {J : St → List Nat → DS → Prop} {Inv : DS → Prop}
    (A : ∀ b, KAround n b (ops.take 4) gS cS J Inv) {st : St} {K0 : List Nat} (hJ : J st K0 (ds0 (min ops.length 4))) (hK : ∀ x ∈ K0, x < st.next) (hInv : Inv (ds0 (min ops.length 4))) :
    Fn Try.prog cfg 23 [.pv (.sc (.int .i64 n)), .pv (.fz (rOps ops)), .pv (.fz (picks.map iR)), .fn (.func gS) [] cS] st (fun v st' _ _ => ∃ D m I c Jc K', D = drun (ownOp 3 4) (kfR n) (ops.take 4) (picks.take 200) (ds0 (min ops.length 4)) ∧ v = .tup [.agg [.ptr m 0 0, .pv (.fz (D.ps.map rPt)), c, .pv (.sc (.int .i64 D.n))], .pv (.sc (.bool true))] ∧ MemAt st' m I D.ps ∧ CallsV st' c D.C Jc ∧ J st' K' D ∧ Inv D ∧ (st.next ≤ m ∧ (∀ y ∈ I, st.next ≤ y) ∧ (∀ y ∈ Jc, st.next ≤ y) ∧ ∀ y ∈ K', y ∈ K0 ∨ st.next ≤ y) ∧ Frm st st' K0) := by
  have h2 := sp_kfifoNew n
  rw [legal3, if_pos hn, if_pos hn] at h2
  obtain ⟨S, hS⟩ : ∃ x, st.next = x := ⟨_, rfl⟩
  refine fn_keep (.inr rfl) Try.func23 rfl ?_
  show wc _ _ _ (.pv (.sc (.int .i64 n)) :: .pv (.fz (rOps ops)) :: .pv (.fz (picks.map iR)) :: .fn (.func gS) [] cS :: List.replicate 27 undefV) st _
  (repeat (first | refine w_seq ?_ | refine w_regionL ?_ | refine w_norm ?_ | refine w_exit' ?_ | refine w_ret' ?_ | refine w_block ?_ | refine w_scope ?_ | refine w_skip ?_ | refine w_ret ?_ | refine w_exit ?_ | refine w_label ?_ | refine wo_nil ⟨rfl, ?_⟩ | ((first | apply o_box | apply o_alloc | apply o_assign | apply o_load | apply o_move | apply o_extract | apply o_storep | apply o_bin | apply o_buildP | apply o_func | apply o_iface) <;> first | refine wo_id ?_ | refine wc_id ?_ | ((with_reducible apply look_id); (exact look_by); done) | ((with_reducible apply bin_id); (exact bin_by); done) | ((with_reducible apply load_id); ((first | (apply ldp; (focus exact get_by); (focus first | exact rfl | assumption)) | apply ldf); (first | exact part_sc (by first | exact ag3) rfl | (apply part_agg; (focus first | exact ag26); (focus first | exact sz26); (focus exact rfl); (focus exact rfl)))); done) | ((with_reducible apply cells_id); (exact cells_by); done) | ((with_reducible apply next_id); (exact next_by); done) | ((with_reducible apply get_id); (exact get_by); done) | ((with_reducible apply setAt_id); (exact setat_by); done) | ((with_reducible apply parts_id); (exact parts_by); done) | ((with_reducible apply args_id); (exact args_by); done) | exact ze62 | exact ze26 | exact sz26 | exact bp62 | exact sz62 | exact ni26 | assumption | exact rfl) | (apply o_pcall; (focus exact args_by); (focus exact hb15); (focus exact rfl); (focus ((repeat (first | exact frzAll_nil | apply frzAll_pv)); done)); (focus exact h2)) | ((first | apply b_cond) <;> first | refine wo_id ?_ | refine wc_id ?_ | ((with_reducible apply look_id); (exact look_by); done) | (first | exact tt | exact ff | assumption))))
  refine o_call (by exact args_by) hb53 (fn_drive (A S) hops hol picks hpk hpl (K0 := K0) ?_ ?_ ?_ hInv) ?_
  · exact ⟨by exact get_by, by exact nle_by⟩
  · exact (A S).keepS _ _ [] _ _ hJ (by exact frm_by) (by simp)
  · intro x hx
    have := hK x hx
    simp
    omega
  rintro _ s1 R1 W1 ⟨D, m, I, c, Jc, K', hD, rfl, hM, hC, hJ1, hI1, ⟨q1, q2, q3, q4⟩, hF1⟩
  have hS1 := hF1.next
  simp only [St.new, St.set] at hS1 q1 q2 q3 q4
  have hc1 : c.cell1 = true := by
    rcases hC with ⟨rfl, -⟩ | h
    · rfl
    · exact h.at.cell1.2
  have hcell : ([.ptr m 0 0, .pv (.fz (D.ps.map rPt)), c, .pv (.sc (.int .i64 D.n))] : List V).all V.cell1 = true := by
    simp only [List.all_cons, hc1]
    rfl
  have hg1 : s1.get (S + 1) = some ⟨4, [[nilP, .nl, .nl, .pv (.sc (.int .i64 0))]]⟩ := hF1.getq (by exact lt_by) (fun h => by have := hK _ h; omega) (by exact get_by)
  (repeat (first | refine w_seq ?_ | refine w_regionL ?_ | refine w_norm ?_ | refine w_exit' ?_ | refine w_ret' ?_ | refine w_block ?_ | refine w_scope ?_ | refine w_skip ?_ | refine w_ret ?_ | refine w_exit ?_ | refine w_label ?_ | refine wo_nil ⟨rfl, ?_⟩ | ((first | apply o_box | apply o_alloc | apply o_assign | apply o_load | apply o_move | apply o_extract | apply o_storep | apply o_bin | apply o_buildP | apply o_func | apply o_iface) <;> first | refine wo_id ?_ | refine wc_id ?_ | ((with_reducible apply look_id); (exact look_by); done) | ((with_reducible apply bin_id); (exact bin_by); done) | ((with_reducible apply load_id); ((first | (apply ldp; (focus exact get_by); (focus first | exact rfl | assumption)) | apply ldf); (first | exact part_sc (by first | exact ag3) rfl | (apply part_agg; (focus first | exact ag26); (focus first | exact sz26); (focus exact rfl); (focus exact rfl)))); done) | ((with_reducible apply cells_id); (exact cells_by); done) | ((with_reducible apply next_id); (exact next_by); done) | ((with_reducible apply get_id); (exact get_by); done) | ((with_reducible apply setAt_id); (exact setat_by); done) | ((with_reducible apply parts_id); (exact parts_by); done) | ((with_reducible apply args_id); (exact args_by); done) | exact ze62 | exact ze26 | exact sz26 | exact bp62 | exact sz62 | exact ni26 | assumption | exact rfl) | ((first | apply b_cond) <;> first | refine wo_id ?_ | refine wc_id ?_ | ((with_reducible apply look_id); (exact look_by); done) | (first | exact tt | exact ff | assumption))))
  (apply ends_ret; (focus exact (e_cela ag62 sz62 (e_tmp res_nil))))
  refine ⟨_, _, _, Leaves.norm (.inr rfl) rfl, D, m, I, c.norm, Jc, K', hD, (norm_run (by simp [V.norm])).trans (by simp [V.norm]), hM.move (J := [S + 1]) (by exact frm_by) (by simp; omega) (fun y hy => by have := q2 y hy; simp; omega), ?_, (A S).keepS _ _ [S + 1] _ _ hJ1 (by exact frm_by) (fun y hy => ?_), hI1, ⟨by omega, fun y hy => by have := q2 y hy; omega, fun y hy => by have := q3 y hy; omega, fun y hy => ?_⟩, ?_⟩
  · exact callsV_norm' <| hC.move (J := [S + 1]) (by exact frm_by) (fun y hy => by have := q3 y hy; simp; omega)
  · rcases q4 y hy with h | h
    · have := hK y h
      simp
      omega
    · simp
      omega
  · rcases q4 y hy with h | h
    · exact .inl h
    · exact .inr (by omega)
  · refine Frm.trans (b := s1) ?_ (J := [S + 1]) (by exact frm_by) (by simp; omega)
    refine Frm.trans (I := K0) (J := K0) ?_ hF1 (fun y hy _ => hy)
    exact (show Frm st _ [] by exact frm_by).wide (by simp)
theorem kf_around {n : Int} (hn : 1 ≤ n ∧ n ≤ 16) (b : Nat) {ops : List (List Rw)} (hops : ∀ l ∈ ops, ∀ x ∈ l, RwOk x) {gS : FuncId} {cS : List V} {J : St → List Nat → DS → Prop} {Inv : DS → Prop} (hbS : hasBody Try.prog gS = true)
    (hsee : ∀ st K D k D' m I c Jc, D.n < 200 → Inv D → dbeg (ownOp 3 4) ops D k = some D' → J st K D → MemAt st m I (dmov (kfR n) D' k).ps → SlE st 12 c ((dmov (kfR n) D' k).C.map cRow) Jc → (∀ x ∈ K, x ≠ m ∧ x ∉ I ∧ x ∉ Jc) →
      Fn Try.prog cfg gS (.agg [.ptr m 0 0, .pv (.fz ((dmov (kfR n) D' k).ps.map rPt)), c, .pv (.sc (.int .i64 (dmov (kfR n) D' k).n))] :: .pv (.sc (.bool (decide (∃ t, D'.T[k]? = some t ∧ (kfR n D'.ps t.f).2.2.2 = true)))) :: cS) st (fun v st' _ _ => v = .pv (.sc (.bool true)) ∧ ∃ K', J st' K' (dmov (kfR n) D' k) ∧ Frm st st' K ∧ ∀ x ∈ K', x ∈ K ∨ st.next ≤ x))
    (hkS : ∀ st st' F K D, J st K D → Frm st st' F → (∀ x ∈ K, x ∉ F) → J st' K D) (hlS : ∀ st K D, J st K D → ∀ x ∈ K, x < st.next)
    (hIT : ∀ D, Inv D → KInv n D) (hIn : ∀ D k D', D.n < 200 → Inv D → dbeg (ownOp 3 4) ops D k = some D' → Inv (dmov (kfR n) D' k)) : KAround n b ops gS cS J Inv where
  owns := fun x hx => sp_own6 2 3 4 of2 (by omega) x hx
  tolds := fun x hx => sp_told6 2 3 4 of2 (by omega) x hx
  mach := kf_mach n
  nilS := by kernel_rfl
  fr0 := fun o => fr0_init o
  bN := hb51
  next := fun st h ps f ok _ xv hx => fn_next9 n h.1 h.2 ok hx
  keepN := fun st st' F h hf hx => ⟨hf.getq h.2 (hx b (by simp)) h.1, by have := hf.next; have := h.2; omega⟩
  ltN := fun st h x hx => by
    have := h.2
    simp at hx
    omega
  bS := hbS
  see := hsee
  keepS := hkS
  ltS := hlS
  inv := fun D k D' hD hI hb => by
    obtain ⟨h1, h2, t0, h3, h4⟩ := kf_dbeg hn hops (hIT D hI) hb
    refine ⟨fun t ht => ?_, hIn D k D' hD hI hb⟩
    rw [h3] at ht
    cases ht
    exact h1.ok hn (by omega) h3 h4
theorem kf_any {n : Int} (hn : 1 ≤ n ∧ n ≤ 16) (b : Nat) {ops : List (List Rw)} (hops : ∀ l ∈ ops, ∀ x ∈ l, RwOk x) {Inv : DS → Prop} (hIT : ∀ D, Inv D → KInv n D) (hIn : ∀ D k D', D.n < 200 → Inv D → dbeg (ownOp 3 4) ops D k = some D' → Inv (dmov (kfR n) D' k)) :
    KAround n b ops 24 [] (fun _ K _ => K = []) Inv :=
  kf_around hn b hops hb24 (fun st K D k D' m I c Jc _ _ _ hK hM hC _ => by
    subst hK
    refine (fn_any rfl hC.at.cell1.2).mono ?_
    rintro v st' R W ⟨rfl, hF⟩
    exact ⟨rfl, [], rfl, hF, by simp⟩) (fun _ _ _ _ _ h _ _ => h) (fun _ _ _ h x hx => by rw [h] at hx; cases hx) hIT hIn
theorem kfifoSteps_law (sh : Int) (hsh : i64 sh) {ops : List (List Rw)} (hops : ∀ l ∈ ops, l.length ≤ maxLen ∧ ∀ x ∈ l, RwOk x) (hol : ops.length ≤ maxLen) (picks : List Int) (hpk : ∀ p ∈ picks, i64 p) (hpl : picks.length ≤ maxLen) :
    pcall (Ew Try.prog cfg) 5 [.sc (.int .i64 sh), .fz (rOps ops), .fz (picks.map iR)] = some (.pv (.sc (.bool true))) := by
  have hr := into_range sh 16 (by omega)
  obtain ⟨n, hn⟩ : ∃ n, 1 + into sh 16 = n := ⟨_, rfl⟩
  have hn1 : 1 ≤ n ∧ n ≤ 16 := by omega
  have h1 := sp_into6 sh 16 hsh (by omega)
  have hw : IntKind.i64.wrap (1 + into sh 16) = n := by rw [hn]; exact wrap_id (by omega) (by omega)
  refine pcall_wc Try.func5 rfl (by decide) ?_ rfl
  show wc _ _ _ (.pv (.sc (.int .i64 sh)) :: .pv (.fz (rOps ops)) :: .pv (.fz (picks.map iR)) :: List.replicate 18 undefV) _ _
  have hops4 : ∀ l ∈ ops.take 4, ∀ x ∈ l, RwOk x := fun l hl => (hops l (List.mem_of_mem_take hl)).2
  (repeat (first | refine w_seq ?_ | refine w_regionL ?_ | refine w_norm ?_ | refine w_exit' ?_ | refine w_ret' ?_ | refine w_block ?_ | refine w_scope ?_ | refine w_skip ?_ | refine w_ret ?_ | refine w_exit ?_ | refine w_label ?_ | refine wo_nil ⟨rfl, ?_⟩ | (apply o_bin; (focus exact look_by); (focus exact look_by); (focus first | exact br_addw (hw) | exact br_subw (hw) | exact br_mulw (hw)); (focus exact rfl)) | ((first | apply o_assign | apply o_not | apply o_move | apply o_bin | apply o_extract | apply o_alloc | apply o_storep) <;> first | refine wo_id ?_ | refine wc_id ?_ | ((with_reducible apply look_id); (exact look_by); done) | ((with_reducible apply bin_id); (exact bin_by); done) | ((with_reducible apply cells_id); (exact cells_by); done) | ((with_reducible apply next_id); (exact next_by); done) | ((with_reducible apply get_id); (exact get_by); done) | ((with_reducible apply setAt_id); (exact setat_by); done) | exact ze62 | exact sz62 | assumption | exact rfl) | (apply o_pcall; (focus exact args_by); (focus exact hb13); (focus exact rfl); (focus ((repeat (first | exact frzAll_nil | apply frzAll_pv)); done)); (focus exact aw9)) | (apply o_pcall; (focus exact args_by); (focus exact hb14); (focus exact rfl); (focus ((repeat (first | exact frzAll_nil | apply frzAll_pv)); done)); (focus exact h1)) | ((first | apply b_cond) <;> first | refine wo_id ?_ | refine wc_id ?_ | ((with_reducible apply look_id); (exact look_by); done) | (first | exact tt | exact ff | assumption))))
  refine o_call (by exact args_by) hb23 (fn_kdrive hn1 hops hol picks hpk hpl (fun b => kf_any hn1 b hops4 (fun _ h => h) (kinv_step hn1 hops4)) (K0 := []) rfl (by simp) (kinv0 n _)) ?_
  rintro _ s1 R1 W1 ⟨D, m, I, c, Jc, K', hD, rfl, hM, hC, hJ1, hI1, ⟨q1, q2, q3, q4⟩, hF1⟩
  have hc1 : c.cell1 = true := by
    rcases hC with ⟨rfl, -⟩ | h
    · rfl
    · exact h.at.cell1.2
  have hcell : ([.ptr m 0 0, .pv (.fz (D.ps.map rPt)), c, .pv (.sc (.int .i64 D.n))] : List V).all V.cell1 = true := by
    simp only [List.all_cons, hc1]
    rfl
  (repeat (first | refine w_seq ?_ | refine w_regionL ?_ | refine w_norm ?_ | refine w_exit' ?_ | refine w_ret' ?_ | refine w_block ?_ | refine w_scope ?_ | refine w_skip ?_ | refine w_ret ?_ | refine w_exit ?_ | refine w_label ?_ | refine wo_nil ⟨rfl, ?_⟩ | ((first | apply o_assign | apply o_not | apply o_move | apply o_bin | apply o_extract | apply o_alloc | apply o_storep) <;> first | refine wo_id ?_ | refine wc_id ?_ | ((with_reducible apply look_id); (exact look_by); done) | ((with_reducible apply bin_id); (exact bin_by); done) | ((with_reducible apply cells_id); (exact cells_by); done) | ((with_reducible apply next_id); (exact next_by); done) | ((with_reducible apply get_id); (exact get_by); done) | ((with_reducible apply setAt_id); (exact setat_by); done) | exact ze62 | exact sz62 | assumption | exact rfl) | ((first | apply b_cond) <;> first | refine wo_id ?_ | refine wc_id ?_ | ((with_reducible apply look_id); (exact look_by); done) | (first | exact tt | exact ff | assumption))))
  (apply ends_ret; (focus exact (e_tmp res_nil)))
  exact ⟨_, by exact fz_by⟩
end Go.Proofs.Ytnolgpagdjcjbaa.Ve
