import Derived.Test.YtefgpelodpggkaaMt
import Derived.Test.YtefgpelodpggkaaMv
import Derived.Test.YtefgpelodpggkaaDr
import Derived.Test.YtefgpelodpggkaaMz
import Derived.Test.YtefgpelodpggkaaMw
set_option linter.unusedVariables false
set_option linter.unusedSimpArgs false
namespace Go.Proofs.Ytefgpelodpggkaa.Ve
open Go XFlt
set_option maxRecDepth 4000
set_option maxHeartbeats 8000000
theorem sp_ref8 {n : Int} {ps : Pts} {f : RF} (ok : MOk n ps f) : pcall (Ew Try.prog cfg) 51 [rMem ps, .agg (rRF f), .sc (.int .i64 n)] = some (mRes (multiR n ps f)) := by
  by_cases h : f.k = 2 ∧ f.pc = 2
  · have hne := ok.fr.del h.1 h.2
    cases hc0 : f.c0.l with
    | nil =>
      cases hc1 : f.c1.l with
      | nil =>
        rw [hc0, hc1] at hne
        exact absurd rfl hne
      | cons y ys => exact sp_ref8b ok h.1 h.2 hc0 hc1
    | cons x xs =>
      cases hc1 : f.c1.l with
      | nil => exact sp_ref8c ok h.1 h.2 hc0 hc1
      | cons y ys =>
        by_cases c : cmpV y.pri y.val x.pri x.val < 0
        · exact sp_ref8d ok h.1 h.2 hc0 hc1 c
        · exact sp_ref8e ok h.1 h.2 hc0 hc1 c
  · exact sp_ref8a ok h
theorem fn_next8 (n : Int) {b : Nat} {st : St} (hg : st.get b = some ⟨1, [[.pv (.sc (.int .i64 n))]]⟩) (hb : b < st.next) {ps : Pts} {f : RF} (ok : MOk n ps f) {xv : V} (hx : xv = .pv (rMem ps) ∨ xv = .agg [.nl] ∧ ps = []) :
    Fn Try.prog cfg 50 [xv, .pv (.agg (rRF f)), .ptr b 0 0] st (fun v st' _ _ => v = .tup [.pv (rMem (multiR n ps f).1), .pv (.agg (rRF (multiR n ps f).2.1)), .pv (.agg (rAn (multiR n ps f).2.2.1)), .pv (.sc (.bool (multiR n ps f).2.2.2))] ∧ Frm st st' []) := by
  have h := sp_ref8 ok
  obtain ⟨S, hS⟩ : ∃ x, st.next = x := ⟨_, rfl⟩
  refine fn_keep (.inr rfl) Try.func50 rfl ?_
  show wc _ _ _ (xv :: .pv (.agg (rRF f)) :: .ptr b 0 0 :: List.replicate 14 undefV) st _
  rcases hx with rfl | ⟨rfl, rfl⟩
  · (repeat (first | refine w_seq ?_ | refine w_regionL ?_ | refine w_norm ?_ | refine w_ret ?_ | refine wo_nil ⟨rfl, ?_⟩ | ((first | apply o_box | apply o_alloc | apply o_assign | apply o_load | apply o_extract | apply o_storep) <;> first | refine wo_id ?_ | ((with_reducible apply look_id); (exact look_by); done) | ((with_reducible apply load_id); ((first | (apply ldp; (focus exact get_by); (focus first | exact rfl))); (first | exact part_sc (by first | exact ag3) rfl | (apply part_agg; (focus first | exact ag49); (focus first | exact sz49 | exact sz107); (focus exact rfl); (focus exact rfl)))); done) | ((with_reducible apply cells_id); (exact cells_by); done) | ((with_reducible apply next_id); (exact next_by); done) | ((with_reducible apply get_id); (exact get_by); done) | ((with_reducible apply setAt_id); (exact setat_by); done) | exact ze49 | exact ze107 | exact ze109 | exact sz49 | exact sz107 | exact sz109 | exact rfl) | (apply o_pcall; (focus exact args_by); (focus exact hb51); (focus exact rfl); (focus ((repeat (first | exact frzAll_nil | apply frzAll_pv)); done)); (focus exact h))))
    (apply ends_ret; (focus exact (e_cela ag49 sz49 (e_cela ag107 sz107 (e_cela ag109 sz109 (e_tmp res_nil))))))
    refine ⟨_, _, _, Leaves.frz (by decide) _ _ (by exact fz_by), rfl, by exact frm_by⟩
  · (repeat (first | refine w_seq ?_ | refine w_regionL ?_ | refine w_norm ?_ | refine wo_nil ⟨rfl, ?_⟩ | ((first | apply o_box | apply o_alloc | apply o_assign | apply o_load) <;> first | refine wo_id ?_ | ((with_reducible apply look_id); (exact look_by); done) | ((with_reducible apply load_id); ((first | (apply ldp; (focus exact get_by); (focus first | exact rfl))); (first | exact part_sc (by first | exact ag3) rfl | (apply part_agg; (focus first | exact ag49); (focus first | exact sz49 | exact sz107); (focus exact rfl); (focus exact rfl)))); done) | ((with_reducible apply cells_id); (exact cells_by); done) | ((with_reducible apply next_id); (exact next_by); done) | exact ze49 | exact ze107 | exact ze109 | exact rfl)))
    refine o_pcall (ps := [rMem [], .agg (rRF f), .sc (.int .i64 n)]) (by exact args_by) hb51 rfl rfl h ?_
    (repeat (first | refine w_norm ?_ | refine w_ret ?_ | refine wo_nil ⟨rfl, ?_⟩ | ((first | apply o_assign | apply o_extract | apply o_storep) <;> first | refine wo_id ?_ | ((with_reducible apply look_id); (exact look_by); done) | ((with_reducible apply cells_id); (exact cells_by); done) | ((with_reducible apply get_id); (exact get_by); done) | ((with_reducible apply setAt_id); (exact setat_by); done) | exact sz49 | exact sz107 | exact sz109 | exact rfl)))
    (apply ends_ret; (focus exact (e_cela ag49 sz49 (e_cela ag107 sz107 (e_cela ag109 sz109 (e_tmp res_nil))))))
    refine ⟨_, _, _, Leaves.frz (by decide) _ _ (by exact fz_by), rfl, by exact frm_by⟩
theorem of1 : pcall (Ew Try.prog cfg) 46 [.sc (.int .i64 1)] = some (.tup [.pv (.sc (.int .i64 1)), .pv (.sc (.int .i64 2))]) := pcall_evN (n := 50) (by kernel_rfl)
theorem fn_any {st : St} {m : Nat} {x c : V} {n : Int} {b : Bool} (hx : x.cell1 = true) (hc : c.cell1 = true) : Fn Try.prog cfg 32 [.agg [.ptr m 0 0, x, c, .pv (.sc (.int .i64 n))], .pv (.sc (.bool b))] st (fun v st' _ _ => v = .pv (.sc (.bool true)) ∧ Frm st st' []) := by
  have hcell : ([.ptr m 0 0, x, c, .pv (.sc (.int .i64 n))] : List V).all V.cell1 = true := by
    simp only [List.all_cons, hx, hc]
    rfl
  refine fn_keep (.inr rfl) Try.func32 rfl ?_
  show wc _ _ _ (.agg [.ptr m 0 0, x, c, .pv (.sc (.int .i64 n))] :: .pv (.sc (.bool b)) :: List.replicate 3 undefV) st _
  (repeat (first | refine w_seq ?_ | refine w_regionL ?_))
  refine o_box (v := .agg [.ptr m 0 0, x, c, .pv (.sc (.int .i64 n))]) (cs := [.ptr m 0 0, x, c, .pv (.sc (.int .i64 n))]) (by exact look_by) rfl rfl hcell (by exact next_by) ?_
  (repeat (first | refine w_seq ?_ | refine w_regionL ?_ | refine w_norm ?_ | refine w_ret ?_ | refine wo_nil ⟨rfl, ?_⟩ | ((first | apply o_assign) <;> first | refine wo_id ?_ | ((with_reducible apply look_id); (exact look_by); done))))
  (apply ends_ret; (focus exact (e_tmp res_nil)))
  refine ⟨_, _, _, Leaves.frz (by decide) _ _ (by exact fz_by), rfl, by exact frm_by⟩
theorem CallsV.move {st st' : St} {c : V} {C : List CL} {Jc J : List Nat} (h : CallsV st c C Jc) (hf : Frm st st' J) (hJ : ∀ y ∈ Jc, y ∉ J) : CallsV st' c C Jc := by
  rcases h with h | h
  · exact .inl h
  · exact .inr (h.frm hf hJ)
theorem callsV_norm' {st : St} {c : V} {C : List CL} {Jc : List Nat} (h : CallsV st c C Jc) : CallsV st c.norm C Jc := by
  rcases h with ⟨rfl, h⟩ | h
  · exact .inl ⟨by simp [V.norm], h⟩
  · exact callsV_norm h
/-- What stands around a Drive of a counter. -/
abbrev MAround (n : Int) (b : Nat) (ops : List (List Rw)) (gS : FuncId) (cS : List V) (J : St → List Nat → DS → Prop) (Inv : DS → Prop) : Prop :=
  Around 1 (ownOp 1 2) (.pv (.ifc 62 (.agg [.sc (.int .i64 n)]))) 86 (.pv (.agg [.sc (.int .i64 n)])) (multiR n) FRm (MOk n) ops 50 [.ptr b 0 0] [b] (fun st => st.get b = some ⟨1, [[.pv (.sc (.int .i64 n))]]⟩ ∧ b < st.next) gS cS J Inv
theorem fn_mdrive {n : Int} (hn : 1 ≤ n ∧ n ≤ 16) {ops : List (List Rw)} (hops : ∀ l ∈ ops, l.length ≤ maxLen ∧ ∀ x ∈ l, RwOk x) (hol : ops.length ≤ maxLen) (picks : List Int) (hpk : ∀ p ∈ picks, i64 p) (hpl : picks.length ≤ maxLen) {gS : FuncId} {cS : List V} {J : St → List Nat → DS → Prop} {Inv : DS → Prop}
    (A : ∀ b, MAround n b (ops.take 4) gS cS J Inv) {st : St} {K0 : List Nat} (hJ : J st K0 (ds0 (min ops.length 4))) (hK : ∀ x ∈ K0, x < st.next) (hInv : Inv (ds0 (min ops.length 4))) :
    Fn Try.prog cfg 31 [.pv (.sc (.int .i64 n)), .pv (.fz (rOps ops)), .pv (.fz (picks.map iR)), .fn (.func gS) [] cS] st (fun v st' _ _ => ∃ D m I c Jc K', D = drun (ownOp 1 2) (multiR n) (ops.take 4) (picks.take 200) (ds0 (min ops.length 4)) ∧ v = .tup [.agg [.ptr m 0 0, .pv (.fz (D.ps.map rPt)), c, .pv (.sc (.int .i64 D.n))], .pv (.sc (.bool true))] ∧ MemAt st' m I D.ps ∧ CallsV st' c D.C Jc ∧ J st' K' D ∧ Inv D ∧ (st.next ≤ m ∧ (∀ y ∈ I, st.next ≤ y) ∧ (∀ y ∈ Jc, st.next ≤ y) ∧ ∀ y ∈ K', y ∈ K0 ∨ st.next ≤ y) ∧ Frm st st' K0) := by
  have h2 := sp_multiNew n
  rw [legal3, if_pos hn, if_pos hn] at h2
  obtain ⟨S, hS⟩ : ∃ x, st.next = x := ⟨_, rfl⟩
  refine fn_keep (.inr rfl) Try.func31 rfl ?_
  show wc _ _ _ (.pv (.sc (.int .i64 n)) :: .pv (.fz (rOps ops)) :: .pv (.fz (picks.map iR)) :: .fn (.func gS) [] cS :: List.replicate 27 undefV) st _
  (repeat (first | refine w_seq ?_ | refine w_regionL ?_ | refine w_norm ?_ | refine w_skip ?_ | refine wo_nil ⟨rfl, ?_⟩ | ((first | apply o_box | apply o_alloc | apply o_assign | apply o_load | apply o_move | apply o_extract | apply o_storep | apply o_bin | apply o_func | apply o_iface) <;> first | refine wo_id ?_ | ((with_reducible apply look_id); (exact look_by); done) | ((with_reducible apply bin_id); (exact bin_by); done) | ((with_reducible apply load_id); ((first | (apply ldp; (focus exact get_by); (focus first | exact rfl))); (first | exact part_sc (by first | exact ag3) rfl | (apply part_agg; (focus first | exact ag62); (focus first | exact sz62); (focus exact rfl); (focus exact rfl)))); done) | ((with_reducible apply cells_id); (exact cells_by); done) | ((with_reducible apply next_id); (exact next_by); done) | ((with_reducible apply get_id); (exact get_by); done) | ((with_reducible apply setAt_id); (exact setat_by); done) | ((with_reducible apply args_id); (exact args_by); done) | exact ze52 | exact ze62 | exact sz62 | exact ni62 | exact rfl) | (apply o_pcall; (focus exact args_by); (focus exact hb25); (focus exact rfl); (focus ((repeat (first | exact frzAll_nil | apply frzAll_pv)); done)); (focus exact h2)) | ((first | apply b_cond) <;> first | refine wc_id ?_ | ((with_reducible apply look_id); (exact look_by); done) | (first | exact ff))))
  refine o_call (by exact args_by) hb44 (fn_drive (A S) hops hol picks hpk hpl (K0 := K0) ?_ ?_ ?_ hInv) ?_
  · exact ⟨by exact get_by, by exact nle_by⟩
  · exact (A S).keepS _ _ [] _ _ hJ (by exact frm_by) (by simp)
  · intro x hx
    have := hK x hx
    simp
    omega
  rintro _ s1 R1 W1 ⟨D, m, I, c, Jc, K', hD, rfl, hM, hC, hJ1, hI1, ⟨q1, q2, q3, q4⟩, hF1⟩
  have hS1 := hF1.next
  simp only [St.new, St.set] at hS1 q1 q2 q3 q4
  have hc1 : c.cell1 = true := by
    rcases hC with ⟨rfl, -⟩ | h
    · rfl
    · exact h.at.cell1.2
  have hcell : ([.ptr m 0 0, .pv (.fz (D.ps.map rPt)), c, .pv (.sc (.int .i64 D.n))] : List V).all V.cell1 = true := by
    simp only [List.all_cons, hc1]
    rfl
  have hg1 : s1.get (S + 1) = some ⟨4, [[nilP, .nl, .nl, .pv (.sc (.int .i64 0))]]⟩ := hF1.getq (by exact lt_by) (fun h => by have := hK _ h; omega) (by exact get_by)
  (repeat (first | refine w_norm ?_ | refine w_ret ?_ | refine wo_nil ⟨rfl, ?_⟩ | ((first | apply o_assign | apply o_extract | apply o_storep) <;> first | refine wo_id ?_ | ((with_reducible apply look_id); (exact look_by); done) | ((with_reducible apply cells_id); (exact cells_by); done) | ((with_reducible apply get_id); (exact get_by); done) | ((with_reducible apply setAt_id); (exact setat_by); done) | exact sz52 | exact ni62 | assumption | exact rfl)))
  (apply ends_ret; (focus exact (e_cela ag52 sz52 (e_tmp res_nil))))
  refine ⟨_, _, _, Leaves.norm (.inr rfl) rfl, D, m, I, c.norm, Jc, K', hD, (norm_run (by simp [V.norm])).trans (by simp [V.norm]), hM.move (J := [S + 1]) (by exact frm_by) (by simp; omega) (fun y hy => by have := q2 y hy; simp; omega), ?_, (A S).keepS _ _ [S + 1] _ _ hJ1 (by exact frm_by) (fun y hy => ?_), hI1, ⟨by omega, fun y hy => by have := q2 y hy; omega, fun y hy => by have := q3 y hy; omega, fun y hy => ?_⟩, ?_⟩
  · exact callsV_norm' <| hC.move (J := [S + 1]) (by exact frm_by) (fun y hy => by have := q3 y hy; simp; omega)
  · rcases q4 y hy with h | h
    · have := hK y h
      simp
      omega
    · simp
      omega
  · rcases q4 y hy with h | h
    · exact .inl h
    · exact .inr (by omega)
  · refine Frm.trans (b := s1) ?_ (J := [S + 1]) (by exact frm_by) (by simp; omega)
    refine Frm.trans (I := K0) (J := K0) ?_ hF1 (fun y hy _ => hy)
    exact (show Frm st _ [] by exact frm_by).wide (by simp)
theorem m_around {n : Int} (hn : 1 ≤ n ∧ n ≤ 16) (b : Nat) {ops : List (List Rw)} (hops : ∀ l ∈ ops, ∀ x ∈ l, RwOk x) {gS : FuncId} {cS : List V} {J : St → List Nat → DS → Prop} {Inv : DS → Prop} (hbS : hasBody Try.prog gS = true)
    (hsee : ∀ st K D k D' m I c Jc, D.n < 200 → Inv D → dbeg (ownOp 1 2) ops D k = some D' → J st K D → MemAt st m I (dmov (multiR n) D' k).ps → SlE st 12 c ((dmov (multiR n) D' k).C.map cRow) Jc → (∀ x ∈ K, x ≠ m ∧ x ∉ I ∧ x ∉ Jc) →
      Fn Try.prog cfg gS (.agg [.ptr m 0 0, .pv (.fz ((dmov (multiR n) D' k).ps.map rPt)), c, .pv (.sc (.int .i64 (dmov (multiR n) D' k).n))] :: .pv (.sc (.bool (decide (∃ t, D'.T[k]? = some t ∧ (multiR n D'.ps t.f).2.2.2 = true)))) :: cS) st (fun v st' _ _ => v = .pv (.sc (.bool true)) ∧ ∃ K', J st' K' (dmov (multiR n) D' k) ∧ Frm st st' K ∧ ∀ x ∈ K', x ∈ K ∨ st.next ≤ x))
    (hkS : ∀ st st' F K D, J st K D → Frm st st' F → (∀ x ∈ K, x ∉ F) → J st' K D) (hlS : ∀ st K D, J st K D → ∀ x ∈ K, x < st.next)
    (hIT : ∀ D, Inv D → MInv D) (hIn : ∀ D k D', D.n < 200 → Inv D → dbeg (ownOp 1 2) ops D k = some D' → Inv (dmov (multiR n) D' k)) : MAround n b ops gS cS J Inv where
  owns := fun x hx => sp_own6 1 1 2 of1 (by omega) x hx
  tolds := fun x hx => sp_told6 1 1 2 of1 (by omega) x hx
  mach := multi_mach n
  nilS := by kernel_rfl
  fr0 := fun o => frm_init o
  bN := hb50
  next := fun st h ps f ok _ xv hx => fn_next8 n h.1 h.2 ok hx
  keepN := fun st st' F h hf hx => ⟨hf.getq h.2 (hx b (by simp)) h.1, by have := hf.next; have := h.2; omega⟩
  ltN := fun st h x hx => by
    have := h.2
    simp at hx
    omega
  bS := hbS
  see := hsee
  keepS := hkS
  ltS := hlS
  inv := fun D k D' hD hI hb => ⟨MInv.ok hn hops hD (hIT D hI) hb, hIn D k D' hD hI hb⟩
theorem m_any {n : Int} (hn : 1 ≤ n ∧ n ≤ 16) (b : Nat) {ops : List (List Rw)} (hops : ∀ l ∈ ops, ∀ x ∈ l, RwOk x) {Inv : DS → Prop} (hIT : ∀ D, Inv D → MInv D) (hIn : ∀ D k D', D.n < 200 → Inv D → dbeg (ownOp 1 2) ops D k = some D' → Inv (dmov (multiR n) D' k)) :
    MAround n b ops 32 [] (fun _ K _ => K = []) Inv :=
  m_around hn b hops hb32 (fun st K D k D' m I c Jc _ _ _ hK hM hC _ => by
    subst hK
    refine (fn_any rfl hC.at.cell1.2).mono ?_
    rintro v st' R W ⟨rfl, hF⟩
    exact ⟨rfl, [], rfl, hF, by simp⟩) (fun _ _ _ _ _ h _ _ => h) (fun _ _ _ h x hx => by rw [h] at hx; cases hx) hIT hIn
theorem multiSteps_law (sh : Int) (hsh : i64 sh) {ops : List (List Rw)} (hops : ∀ l ∈ ops, l.length ≤ maxLen ∧ ∀ x ∈ l, RwOk x) (hol : ops.length ≤ maxLen) (picks : List Int) (hpk : ∀ p ∈ picks, i64 p) (hpl : picks.length ≤ maxLen) :
    pcall (Ew Try.prog cfg) 9 [.sc (.int .i64 sh), .fz (rOps ops), .fz (picks.map iR)] = some (.pv (.sc (.bool true))) := by
  have hr := into_range sh 16 (by omega)
  obtain ⟨n, hn⟩ : ∃ n, 1 + into sh 16 = n := ⟨_, rfl⟩
  have hn1 : 1 ≤ n ∧ n ≤ 16 := by omega
  have h1 := sp_into6 sh 16 hsh (by omega)
  have hw : IntKind.i64.wrap (1 + into sh 16) = n := by rw [hn]; exact wrap_id (by omega) (by omega)
  refine pcall_wc Try.func9 rfl (by decide) ?_ rfl
  show wc _ _ _ (.pv (.sc (.int .i64 sh)) :: .pv (.fz (rOps ops)) :: .pv (.fz (picks.map iR)) :: List.replicate 18 undefV) _ _
  have hops4 : ∀ l ∈ ops.take 4, ∀ x ∈ l, RwOk x := fun l hl => (hops l (List.mem_of_mem_take hl)).2
  (repeat (first | refine w_seq ?_ | refine w_regionL ?_ | refine w_norm ?_ | refine w_skip ?_ | refine wo_nil ⟨rfl, ?_⟩ | (apply o_bin; (focus exact look_by); (focus exact look_by); (focus first | exact br_addw (hw)); (focus exact rfl)) | ((first | apply o_assign | apply o_not | apply o_move) <;> first | refine wo_id ?_ | ((with_reducible apply look_id); (exact look_by); done)) | (apply o_pcall; (focus exact args_by); (focus exact hb24); (focus exact rfl); (focus ((repeat (first | exact frzAll_nil | apply frzAll_pv)); done)); (focus exact aw8)) | (apply o_pcall; (focus exact args_by); (focus exact hb16); (focus exact rfl); (focus ((repeat (first | exact frzAll_nil | apply frzAll_pv)); done)); (focus exact h1)) | ((first | apply b_cond) <;> first | refine wc_id ?_ | ((with_reducible apply look_id); (exact look_by); done) | (first | exact ff))))
  refine o_call (by exact args_by) hb31 (fn_mdrive hn1 hops hol picks hpk hpl (fun b => m_any hn1 b hops4 (fun _ h => h) (minv_step n hops4)) (K0 := []) rfl (by simp) (minv0 _)) ?_
  rintro _ s1 R1 W1 ⟨D, m, I, c, Jc, K', hD, rfl, hM, hC, hJ1, hI1, ⟨q1, q2, q3, q4⟩, hF1⟩
  have hc1 : c.cell1 = true := by
    rcases hC with ⟨rfl, -⟩ | h
    · rfl
    · exact h.at.cell1.2
  have hcell : ([.ptr m 0 0, .pv (.fz (D.ps.map rPt)), c, .pv (.sc (.int .i64 D.n))] : List V).all V.cell1 = true := by
    simp only [List.all_cons, hc1]
    rfl
  (repeat (first | refine w_seq ?_ | refine w_regionL ?_ | refine w_norm ?_ | refine w_ret ?_ | refine wo_nil ⟨rfl, ?_⟩ | ((first | apply o_assign | apply o_move | apply o_extract | apply o_alloc | apply o_storep) <;> first | refine wo_id ?_ | ((with_reducible apply look_id); (exact look_by); done) | ((with_reducible apply cells_id); (exact cells_by); done) | ((with_reducible apply next_id); (exact next_by); done) | ((with_reducible apply get_id); (exact get_by); done) | ((with_reducible apply setAt_id); (exact setat_by); done) | exact ze52 | exact sz52 | assumption | exact rfl)))
  (apply ends_ret; (focus exact (e_tmp res_nil)))
  exact ⟨_, by exact fz_by⟩
end Go.Proofs.Ytefgpelodpggkaa.Ve
