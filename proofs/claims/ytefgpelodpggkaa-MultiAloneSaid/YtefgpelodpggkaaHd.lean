import Derived.Test.YtefgpelodpggkaaHc
set_option linter.unusedVariables false
set_option linter.unusedSimpArgs false
namespace Go.Proofs.Ytefgpelodpggkaa.Ve
open Go XFlt
set_option maxRecDepth 4000
set_option maxHeartbeats 8000000
theorem br_quow {P : Program} {t : TypeId} {x y : Operand} {k : IntKind} {a b c : Int} (hb : b ≠ 0) (h : k.wrap (a.tdiv b) = c) : binRun P .quo t x y (.int k a) (.int k b) = some (.int k c) := by rw [← h]; exact br_quo hb
theorem fn_up {st : St} {p a : Nat} {l : List IV} {rest : List (List V)} (h : HAt st p a l rest) {j0 : Nat} (hj0 : j0 < l.length) (hU : HeapU l l.length j0) (hB : Brg l l.length 0 j0) :
    Fn Try.prog cfg 100 [itf p, .pv (.sc (.int .i64 j0))] st (fun v st' _ _ => ∃ l', HAt st' p a l' rest ∧ l'.Perm l ∧ HeapF l' l.length 0 ∧ Frm st st' [a]) := by
  have hlen := h.len
  refine fn_keep (.inr rfl) Try.func100 rfl ?_
  show wc _ _ _ (itf p :: .pv (.sc (.int .i64 j0)) :: List.replicate 21 undefV) st _
  (repeat (first | refine w_block ?_))
  refine w_loopK (fun q tm s => ∃ (j : Nat) (l' : List IV), q = j ∧ lk tm 1 = .pv (.sc (.int .i64 j)) ∧ HAt s p a l' rest ∧ l'.Perm l ∧ HeapU l' l.length j ∧ Brg l' l.length 0 j ∧ j < l.length ∧ Frm st s [a]) j0 rfl
    ⟨j0, l, rfl, by exact lk_by, h, List.Perm.refl l, hU, hB, hj0, Frm.refl.wide (by simp)⟩ ?_
  rintro q tm1 s ⟨j, l', hq, h1, hH, hP, hU', hB', hj, hF⟩ hK
  have hll : l'.length = l.length := hP.length_eq
  have w2 : IntKind.i64.wrap ((((j - 1) / 2 : Nat) : Int)) = (((j - 1) / 2 : Nat) : Int) := wrap_id (by omega) (by omega)
  have w1 : IntKind.i64.wrap (IntKind.i64.wrap ((j : Int) - 1)) = IntKind.i64.wrap ((j : Int) - 1) := by rw [wrap_id (n := (j : Int) - 1) (by omega) (by omega), wrap_id (by omega) (by omega)]
  have wq : IntKind.i64.wrap ((IntKind.i64.wrap ((j : Int) - 1)).tdiv 2) = (((j - 1) / 2 : Nat) : Int) := by
    rw [wrap_id (n := (j : Int) - 1) (by omega) (by omega)]
    by_cases e : j = 0
    · subst e
      decide
    · have e2 : (j : Int) - 1 = ((j - 1 : Nat) : Int) := by omega
      rw [e2, Int.tdiv_eq_ediv_of_nonneg (by omega), wrap_id (by omega) (by omega)]
      omega
  obtain ⟨y, hy⟩ : ∃ y, l'[j]? = some y := ⟨_, List.getElem?_eq_getElem (by omega)⟩
  by_cases hz : j = 0
  · have hfin : HeapF l' l.length 0 := up_stop hU' fun p x y hk _ _ => by
      exfalso
      unfold kid at hk
      omega
    (repeat (first | refine w_seq ?_ | refine w_regionL ?_ | refine w_norm ?_ | refine w_exit' ?_ | refine w_block ?_ | refine w_exit ?_ | refine wo_nil ⟨rfl, ?_⟩ | (apply o_bin; (focus (exact look_by; done)); (focus (exact look_by; done)); (focus exact br_quow (by decide) wq); (focus exact rfl)) | ((first | apply o_move | apply o_bin | apply o_assign) <;> first | refine wo_id ?_ | ((with_reducible apply look_id); (exact look_by); done) | ((with_reducible apply bin_id); (exact bin_by); done) | exact rfl) | ((first | apply b_cond | apply b_pick | apply b_in) <;> first | refine wo_id ?_ | refine wc_id ?_ | ((with_reducible apply look_id); (exact look_by); done) | ((with_reducible apply yield_id); ((apply yield_of; (focus exact rfl); (focus exact lk_by))); done) | (first | exact tt | exact decide_eq_true (by omega))) | (apply b_out <;> first | refine wo_id ?_ | ((with_reducible apply yield_id); ((apply yield_of; (focus exact rfl); (focus exact lk_by))); done) | (first | exact tt | exact decide_eq_true (by omega))) | (refine l_exit ?_; intro R2 W2)))
    refine ends_norm (vs := []) (R' := []) rfl ?_
    exact ⟨_, _, _, leaves_pur (by decide) (by exact fz_by), l', hH, hP, hfin, hF⟩
  · obtain ⟨x, hx⟩ : ∃ x, l'[(j - 1) / 2]? = some x := ⟨_, List.getElem?_eq_getElem (by omega)⟩
    have hk : kid ((j - 1) / 2) j := by unfold kid; omega
    (repeat (first | refine w_seq ?_ | refine w_regionL ?_ | refine w_norm ?_ | refine w_block ?_ | refine wo_nil ⟨rfl, ?_⟩ | (apply o_bin; (focus (exact look_by; done)); (focus (exact look_by; done)); (focus exact br_quow (by decide) wq); (focus exact rfl)) | ((first | apply o_move | apply o_bin | apply o_assign) <;> first | refine wo_id ?_ | ((with_reducible apply look_id); (exact look_by); done) | ((with_reducible apply bin_id); (exact bin_by); done) | exact rfl) | ((first | apply b_in) <;> first | refine wo_id ?_ | ((with_reducible apply yield_id); ((apply yield_of; (focus exact rfl); (focus exact lk_by))); done) | (first | exact ff | exact decide_eq_false (by omega)))))
    refine o_invoke (by exact look_by) (by exact args_by) rfl (recv_itf hH m_less) hb106 (fn_less hH hy hx) ?_
    rintro _ _ R2 W2 ⟨rfl, rfl, rfl⟩
    by_cases c : ivC y x < 0
    · (repeat (first | refine w_seq ?_ | refine w_regionL ?_ | refine w_norm ?_ | refine w_skip ?_ | refine wo_nil ⟨rfl, ?_⟩ | ((first | apply o_move | apply o_not) <;> first | refine wo_id ?_ | ((with_reducible apply look_id); (exact look_by); done)) | ((first | apply b_cond | apply b_pick | apply b_in) <;> first | refine wo_id ?_ | refine wc_id ?_ | ((with_reducible apply look_id); (exact look_by); done) | ((with_reducible apply yield_id); ((apply yield_of; (focus exact rfl); (focus exact lk_by))); done) | (first | exact ff | ((apply uf); (rw [decide_eq_true c]; rfl)) | exact decide_eq_false (by omega)))))
      refine o_invoke (by exact look_by) (by exact args_by) rfl (recv_itf hH m_swap) hb107 (fn_swap hH hx hy) ?_
      rintro v3 s3 R3 W3 ⟨hH3, hF3, -⟩
      obtain ⟨e1, e2⟩ := up_step (by omega) hU' hB' hx hy hk hj c
      (repeat (first | refine w_regionL ?_ | refine w_norm ?_ | refine wo_nil ⟨rfl, ?_⟩ | ((first | apply o_move | apply o_assign) <;> first | refine wo_id ?_ | ((with_reducible apply look_id); (exact look_by); done)) | (apply l_norm ((j - 1) / 2) (by omega))))
      exact ⟨(j - 1) / 2, swp l' ((j - 1) / 2) j x y, rfl, by exact lk_by, hH3, (swp_perm hx hy).trans hP, e1, e2, by omega, hF.trans hF3 (by simp)⟩
    · have hfin : HeapF l' l.length 0 := up_stop hU' fun p a' b' hk' ha' hb' => by
        have e : p = (j - 1) / 2 := by unfold kid at hk'; omega
        subst e
        rw [hx] at ha'
        rw [hy] at hb'
        cases ha'
        cases hb'
        have := ivC_swap y x
        omega
      (repeat (first | refine w_norm ?_ | refine w_exit' ?_ | refine w_exit ?_ | refine wo_nil ⟨rfl, ?_⟩ | ((first | apply o_not) <;> first | refine wo_id ?_ | ((with_reducible apply look_id); (exact look_by); done)) | ((first | apply b_cond | apply b_pick | apply b_in) <;> first | refine wo_id ?_ | refine wc_id ?_ | ((with_reducible apply look_id); (exact look_by); done) | ((with_reducible apply yield_id); ((apply yield_of; (focus exact rfl); (focus exact lk_by))); done) | (first | exact ff | ((apply ut); (rw [decide_eq_false c]; rfl)) | exact decide_eq_false (by omega))) | (refine l_exit ?_; intro R4 W4)))
      refine ends_norm (vs := []) (R' := []) rfl ?_
      exact ⟨_, _, _, leaves_pur (by decide) (by exact fz_by), l', hH, hP, hfin, hF⟩
end Go.Proofs.Ytefgpelodpggkaa.Ve
