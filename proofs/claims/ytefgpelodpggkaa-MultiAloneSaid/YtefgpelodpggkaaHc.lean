import Derived.Test.YtefgpelodpggkaaHa
set_option linter.unusedVariables false
set_option linter.unusedSimpArgs false
namespace Go.Proofs.Ytefgpelodpggkaa.Ve
open Go XFlt
set_option maxRecDepth 4000
set_option maxHeartbeats 8000000
theorem HAt.move {st st' : St} {p a : Nat} {l : List IV} {rest : List (List V)} {J : List Nat} (h : HAt st p a l rest) (hf : Frm st st' J) (hp : p ∉ J) (ha : a ∉ J) : HAt st' p a l rest :=
  ⟨h.ne, Nat.lt_of_lt_of_le h.pn hf.next, Nat.lt_of_lt_of_le h.an hf.next, hf.getq h.pn hp h.gp, hf.getq h.an ha h.ga, h.wf, h.len⟩
theorem fn_down {st : St} {p a : Nat} {l : List IV} {rest : List (List V)} (h : HAt st p a l rest) {n i0 : Nat} (hn : n ≤ l.length) (hi0 : i0 < 2 ^ 30) (hE : HeapE l n i0 i0) (hB : Brg l n i0 i0) :
    Fn Try.prog cfg 99 [itf p, .pv (.sc (.int .i64 i0)), .pv (.sc (.int .i64 n))] st (fun v st' _ W => ∃ l', HAt st' p a l' rest ∧ l'.Perm l ∧ HeapF l' n i0 ∧ (∀ j, n ≤ j → l'[j]? = l[j]?) ∧ (∀ j, j < i0 → l'[j]? = l[j]?) ∧ Frm st st' [a] ∧ ∀ z ∈ W, z ∈ [a]) := by
  have hlen := h.len
  refine fn_keep (.inr rfl) Try.func99 rfl ?_
  show wc _ _ _ (itf p :: .pv (.sc (.int .i64 i0)) :: .pv (.sc (.int .i64 n)) :: List.replicate 45 undefV) st _
  (repeat (first | refine w_seq ?_ | refine w_regionL ?_ | refine w_norm ?_ | refine w_block ?_ | refine wo_nil ⟨rfl, ?_⟩ | ((first | apply o_assign | apply o_move) <;> first | refine wo_id ?_ | ((with_reducible apply look_id); (exact look_by); done))))
  refine w_loopW (fun x => x = a) (fun q tm s => ∃ (i : Nat) (l' : List IV), q = n + 1 - i ∧ lk tm 7 = .pv (.sc (.int .i64 i)) ∧ HAt s p a l' rest ∧ l'.Perm l ∧ HeapE l' n i0 i ∧ Brg l' n i0 i ∧ i0 ≤ i ∧ i < 2 ^ 30 ∧ (∀ j, n ≤ j → l'[j]? = l[j]?) ∧ (∀ j, j < i0 → l'[j]? = l[j]?) ∧ Frm st s [a]) (n + 1 - i0) rfl
    ⟨i0, l, rfl, by exact lk_by, h, List.Perm.refl l, hE, hB, Nat.le_refl _, hi0, fun _ _ => rfl, fun _ _ => rfl, Frm.refl.wide (by simp)⟩ ?_
  rintro q tm1 s ⟨i, l', hq, h7, hH, hP, hE', hB', hlo, hi, hs1, hs2, hF⟩ hK
  have hll : l'.length = l.length := hP.length_eq
  have w1 : IntKind.i64.wrap (2 * (i : Int)) = ((2 * i : Nat) : Int) := by rw [wrap_id (by omega) (by omega)]; omega
  have w2 : IntKind.i64.wrap (((2 * i : Nat) : Int) + 1) = ((2 * i + 1 : Nat) : Int) := by rw [wrap_id (by omega) (by omega)]; omega
  have w3 : IntKind.i64.wrap (((2 * i + 1 : Nat) : Int) + 1) = ((2 * i + 2 : Nat) : Int) := by rw [wrap_id (by omega) (by omega)]; omega
  by_cases h1 : n ≤ 2 * i + 1
  · have hfin : HeapF l' n i0 := down_stop hE' fun c x y hk hc _ _ => by
      exfalso
      unfold kid at hk
      omega
    (repeat (first | refine w_seq ?_ | refine w_regionL ?_ | refine w_norm ?_ | refine w_exit' ?_ | refine w_block ?_ | refine w_ret ?_ | refine w_exit ?_ | refine wo_nil ⟨rfl, ?_⟩ | (apply o_bin; (focus exact look_by); (focus exact look_by); (focus first | exact br_mulw (w1)); (focus exact rfl)) | (apply o_bin; (focus exact look_by); (focus exact look_by); (focus first | exact br_addw (w2)); (focus exact rfl)) | ((first | apply o_assign | apply o_move | apply o_bin) <;> first | refine wo_id ?_ | ((with_reducible apply look_id); (exact look_by); done) | ((with_reducible apply bin_id); (exact bin_by); done) | exact rfl) | ((first | apply b_cond | apply b_pick | apply b_in) <;> first | refine wo_id ?_ | refine wc_id ?_ | ((with_reducible apply look_id); (exact look_by); done) | ((with_reducible apply yield_id); ((apply yield_of; (focus exact rfl); (focus exact lk_by))); done) | (first | exact tt | exact decide_eq_true (by omega))) | (apply b_out <;> first | refine wo_id ?_ | ((with_reducible apply yield_id); ((apply yield_of; (focus exact rfl); (focus exact lk_by))); done) | (first | exact tt | exact decide_eq_true (by omega))) | (refine l_exitW (by (focus ((intro z hz; simp [entW] at hz ⊢; first | done); done))) ?_; intro R2 W2 hWW2)))
    (apply ends_ret; (focus exact (e_tmp res_nil)))
    exact ⟨_, _, _, leaves_pur (by decide) (by exact fz_by), l', hH, hP, hfin, hs1, hs2, hF, by (intro z hz; simp [entW] at hz ⊢; first | done | omega | grind)⟩
  · obtain ⟨x, hx⟩ : ∃ x, l'[i]? = some x := ⟨_, List.getElem?_eq_getElem (by omega)⟩
    obtain ⟨y1, hy1⟩ : ∃ y, l'[2 * i + 1]? = some y := ⟨_, List.getElem?_eq_getElem (by omega)⟩
    by_cases h2 : 2 * i + 2 < n
    · obtain ⟨y2, hy2⟩ : ∃ y, l'[2 * i + 2]? = some y := ⟨_, List.getElem?_eq_getElem (by omega)⟩
      (repeat (first | refine w_seq ?_ | refine w_regionL ?_ | refine w_norm ?_ | refine w_block ?_ | refine w_skip ?_ | refine wo_nil ⟨rfl, ?_⟩ | (apply o_bin; (focus exact look_by); (focus exact look_by); (focus first | exact br_mulw (w1)); (focus exact rfl)) | (apply o_bin; (focus exact look_by); (focus exact look_by); (focus first | exact br_addw (w2)); (focus exact rfl)) | (apply o_bin; (focus exact look_by); (focus exact look_by); (focus first | exact br_addw (w3)); (focus exact rfl)) | ((first | apply o_assign | apply o_move | apply o_bin) <;> first | refine wo_id ?_ | ((with_reducible apply look_id); (exact look_by); done) | ((with_reducible apply bin_id); (exact bin_by); done) | exact rfl) | ((first | apply b_cond | apply b_pick | apply b_in) <;> first | refine wo_id ?_ | refine wc_id ?_ | ((with_reducible apply look_id); (exact look_by); done) | ((with_reducible apply yield_id); ((apply yield_of; (focus exact rfl); (focus exact lk_by))); done) | (first | exact tt | exact ff | exact decide_eq_true (by omega) | exact decide_eq_false (by omega)))))
      refine o_invoke (by exact look_by) (by exact args_by) rfl (recv_itf hH m_less) hb106 (fn_less hH hy2 hy1) ?_
      rintro _ _ R1 W1 ⟨rfl, rfl, rfl⟩
      by_cases c0 : ivC y2 y1 < 0
      · skip
        (repeat (first | refine w_seq ?_ | refine w_regionL ?_ | refine w_norm ?_ | refine wo_nil ⟨rfl, ?_⟩ | ((first | apply o_assign | apply o_move) <;> first | refine wo_id ?_ | ((with_reducible apply look_id); (exact look_by); done)) | ((first | apply b_cond | apply b_pick) <;> first | refine wo_id ?_ | refine wc_id ?_ | ((with_reducible apply look_id); (exact look_by); done) | (first | exact decide_eq_true (by omega)))))
        refine o_invoke (by exact look_by) (by exact args_by) rfl (recv_itf hH m_less) hb106 (fn_less hH hy2 hx) ?_
        rintro _ _ R2 W2 ⟨rfl, rfl, rfl⟩
        by_cases c : ivC y2 x < 0
        · (repeat (first | refine w_seq ?_ | refine w_regionL ?_ | refine w_norm ?_ | refine w_skip ?_ | refine wo_nil ⟨rfl, ?_⟩ | ((first | apply o_move | apply o_not) <;> first | refine wo_id ?_ | ((with_reducible apply look_id); (exact look_by); done)) | ((first | apply b_cond) <;> first | refine wc_id ?_ | ((with_reducible apply look_id); (exact look_by); done) | (first | ((apply uf); (rw [decide_eq_true c]; rfl))))))
          refine o_invoke (by exact look_by) (by exact args_by) rfl (recv_itf hH m_swap) hb107 (fn_swap hH hx hy2) ?_
          rintro v3 s3 R3 W3 ⟨hH3, hF3, hW3⟩
          obtain ⟨e1, e2⟩ := down_step (by omega) hE' hB' hlo hx hy2 (show kid i (2 * i + 2) by unfold kid; omega) (by omega) c (fun k z hk hkn hz => by (rcases hk with rfl | rfl); (focus (rw [hy1] at hz; cases hz; omega)); (focus (rw [hy2] at hz; cases hz; exact ivC_refl _)))
          (repeat (first | refine w_regionL ?_ | refine w_norm ?_ | refine wo_nil ⟨rfl, ?_⟩ | ((first | apply o_assign | apply o_move) <;> first | refine wo_id ?_ | ((with_reducible apply look_id); (exact look_by); done)) | (apply l_normW (n + 1 - (2 * i + 2)) (by omega) (by (focus ((intro z hz; simp [entW] at hz ⊢; first | grind); done))))))
          exact ⟨2 * i + 2, swp l' i (2 * i + 2) x y2, rfl, by exact lk_by, hH3, (swp_perm hx hy2).trans hP, e1, e2, by omega, by omega, fun k hk => by rw [swp_o (by omega) (by omega)]; exact hs1 k hk, fun k hk => by rw [swp_o (by omega) (by omega)]; exact hs2 k hk, hF.trans hF3 (by simp)⟩
        · have hfin : HeapF l' n i0 := down_stop hE' (fun k a' b' hk hkn ha' hb' => by (rw [hx] at ha'; cases ha'); have := ivC_swap y2 x; have := ivC_swap y2 y1; (rcases hk with rfl | rfl); (focus (rw [hy1] at hb'; cases hb'; exact ivC_trans (y := y2) (by omega) (by omega))); (focus (rw [hy2] at hb'; cases hb'; omega)))
          (repeat (first | refine w_seq ?_ | refine w_regionL ?_ | refine w_norm ?_ | refine w_exit' ?_ | refine w_ret ?_ | refine w_exit ?_ | refine wo_nil ⟨rfl, ?_⟩ | ((first | apply o_assign | apply o_move | apply o_bin | apply o_not) <;> first | refine wo_id ?_ | ((with_reducible apply look_id); (exact look_by); done) | ((with_reducible apply bin_id); (exact bin_by); done) | exact rfl) | ((first | apply b_cond) <;> first | refine wc_id ?_ | ((with_reducible apply look_id); (exact look_by); done) | (first | ((apply ut); (rw [decide_eq_false c]; rfl)))) | (refine l_exitW (by (focus ((intro z hz; simp [entW] at hz ⊢; first | done); done))) ?_; intro R4 W4 hWW4)))
          (apply ends_ret; (focus exact (e_tmp res_nil)))
          exact ⟨_, _, _, leaves_pur (by decide) (by exact fz_by), l', hH, hP, hfin, hs1, hs2, hF, by (intro z hz; simp [entW] at hz ⊢; first | done | omega | grind)⟩
      · skip
        (repeat (first | refine w_seq ?_ | refine w_regionL ?_ | refine w_norm ?_ | refine w_skip ?_ | refine wo_nil ⟨rfl, ?_⟩ | ((first | apply o_move) <;> first | refine wo_id ?_ | ((with_reducible apply look_id); (exact look_by); done)) | ((first | apply b_cond | apply b_pick) <;> first | refine wo_id ?_ | refine wc_id ?_ | ((with_reducible apply look_id); (exact look_by); done) | (first | exact decide_eq_true (by omega) | exact decide_eq_false (by omega)))))
        refine o_invoke (by exact look_by) (by exact args_by) rfl (recv_itf hH m_less) hb106 (fn_less hH hy1 hx) ?_
        rintro _ _ R2 W2 ⟨rfl, rfl, rfl⟩
        by_cases c : ivC y1 x < 0
        · (repeat (first | refine w_seq ?_ | refine w_regionL ?_ | refine w_norm ?_ | refine w_skip ?_ | refine wo_nil ⟨rfl, ?_⟩ | ((first | apply o_move | apply o_not) <;> first | refine wo_id ?_ | ((with_reducible apply look_id); (exact look_by); done)) | ((first | apply b_cond) <;> first | refine wc_id ?_ | ((with_reducible apply look_id); (exact look_by); done) | (first | ((apply uf); (rw [decide_eq_true c]; rfl))))))
          refine o_invoke (by exact look_by) (by exact args_by) rfl (recv_itf hH m_swap) hb107 (fn_swap hH hx hy1) ?_
          rintro v3 s3 R3 W3 ⟨hH3, hF3, hW3⟩
          obtain ⟨e1, e2⟩ := down_step (by omega) hE' hB' hlo hx hy1 (show kid i (2 * i + 1) by unfold kid; omega) (by omega) c (fun k z hk hkn hz => by have := ivC_swap y2 y1; (rcases hk with rfl | rfl); (focus (rw [hy1] at hz; cases hz; exact ivC_refl _)); (focus (rw [hy2] at hz; cases hz; omega)))
          (repeat (first | refine w_regionL ?_ | refine w_norm ?_ | refine wo_nil ⟨rfl, ?_⟩ | ((first | apply o_assign | apply o_move) <;> first | refine wo_id ?_ | ((with_reducible apply look_id); (exact look_by); done)) | (apply l_normW (n + 1 - (2 * i + 1)) (by omega) (by (focus ((intro z hz; simp [entW] at hz ⊢; first | grind); done))))))
          exact ⟨2 * i + 1, swp l' i (2 * i + 1) x y1, rfl, by exact lk_by, hH3, (swp_perm hx hy1).trans hP, e1, e2, by omega, by omega, fun k hk => by rw [swp_o (by omega) (by omega)]; exact hs1 k hk, fun k hk => by rw [swp_o (by omega) (by omega)]; exact hs2 k hk, hF.trans hF3 (by simp)⟩
        · have hfin : HeapF l' n i0 := down_stop hE' (fun k a' b' hk hkn ha' hb' => by (rw [hx] at ha'; cases ha'); have := ivC_swap y1 x; have := ivC_swap y2 y1; (rcases hk with rfl | rfl); (focus (rw [hy1] at hb'; cases hb'; omega)); (focus (rw [hy2] at hb'; cases hb'; exact ivC_trans (y := y1) (by omega) (by omega))))
          (repeat (first | refine w_seq ?_ | refine w_regionL ?_ | refine w_norm ?_ | refine w_exit' ?_ | refine w_ret ?_ | refine w_exit ?_ | refine wo_nil ⟨rfl, ?_⟩ | ((first | apply o_assign | apply o_move | apply o_bin | apply o_not) <;> first | refine wo_id ?_ | ((with_reducible apply look_id); (exact look_by); done) | ((with_reducible apply bin_id); (exact bin_by); done) | exact rfl) | ((first | apply b_cond) <;> first | refine wc_id ?_ | ((with_reducible apply look_id); (exact look_by); done) | (first | ((apply ut); (rw [decide_eq_false c]; rfl)))) | (refine l_exitW (by (focus ((intro z hz; simp [entW] at hz ⊢; first | done); done))) ?_; intro R4 W4 hWW4)))
          (apply ends_ret; (focus exact (e_tmp res_nil)))
          exact ⟨_, _, _, leaves_pur (by decide) (by exact fz_by), l', hH, hP, hfin, hs1, hs2, hF, by (intro z hz; simp [entW] at hz ⊢; first | done | omega | grind)⟩
    · skip
      (repeat (first | refine w_seq ?_ | refine w_regionL ?_ | refine w_norm ?_ | refine w_block ?_ | refine w_skip ?_ | refine wo_nil ⟨rfl, ?_⟩ | (apply o_bin; (focus exact look_by); (focus exact look_by); (focus first | exact br_mulw (w1)); (focus exact rfl)) | (apply o_bin; (focus exact look_by); (focus exact look_by); (focus first | exact br_addw (w2)); (focus exact rfl)) | (apply o_bin; (focus exact look_by); (focus exact look_by); (focus first | exact br_addw (w3)); (focus exact rfl)) | ((first | apply o_assign | apply o_move | apply o_bin) <;> first | refine wo_id ?_ | ((with_reducible apply look_id); (exact look_by); done) | ((with_reducible apply bin_id); (exact bin_by); done) | exact rfl) | ((first | apply b_cond | apply b_pick | apply b_in) <;> first | refine wo_id ?_ | refine wc_id ?_ | ((with_reducible apply look_id); (exact look_by); done) | ((with_reducible apply yield_id); ((apply yield_of; (focus exact rfl); (focus exact lk_by))); done) | (first | exact ff | exact decide_eq_false (by omega))) | (apply b_out <;> first | refine wo_id ?_ | ((with_reducible apply yield_id); ((apply yield_of; (focus exact rfl); (focus exact lk_by))); done) | (first | exact ff | exact decide_eq_false (by omega)))))
      refine o_invoke (by exact look_by) (by exact args_by) rfl (recv_itf hH m_less) hb106 (fn_less hH hy1 hx) ?_
      rintro _ _ R2 W2 ⟨rfl, rfl, rfl⟩
      by_cases c : ivC y1 x < 0
      · (repeat (first | refine w_seq ?_ | refine w_regionL ?_ | refine w_norm ?_ | refine w_skip ?_ | refine wo_nil ⟨rfl, ?_⟩ | ((first | apply o_move | apply o_not) <;> first | refine wo_id ?_ | ((with_reducible apply look_id); (exact look_by); done)) | ((first | apply b_cond) <;> first | refine wc_id ?_ | ((with_reducible apply look_id); (exact look_by); done) | (first | ((apply uf); (rw [decide_eq_true c]; rfl))))))
        refine o_invoke (by exact look_by) (by exact args_by) rfl (recv_itf hH m_swap) hb107 (fn_swap hH hx hy1) ?_
        rintro v3 s3 R3 W3 ⟨hH3, hF3, hW3⟩
        obtain ⟨e1, e2⟩ := down_step (by omega) hE' hB' hlo hx hy1 (show kid i (2 * i + 1) by unfold kid; omega) (by omega) c (fun k z hk hkn hz => by (rcases hk with rfl | rfl); (focus (rw [hy1] at hz; cases hz; exact ivC_refl _)); (focus (exfalso; omega)))
        (repeat (first | refine w_regionL ?_ | refine w_norm ?_ | refine wo_nil ⟨rfl, ?_⟩ | ((first | apply o_assign | apply o_move) <;> first | refine wo_id ?_ | ((with_reducible apply look_id); (exact look_by); done)) | (apply l_normW (n + 1 - (2 * i + 1)) (by omega) (by (focus ((intro z hz; simp [entW] at hz ⊢; first | grind); done))))))
        exact ⟨2 * i + 1, swp l' i (2 * i + 1) x y1, rfl, by exact lk_by, hH3, (swp_perm hx hy1).trans hP, e1, e2, by omega, by omega, fun k hk => by rw [swp_o (by omega) (by omega)]; exact hs1 k hk, fun k hk => by rw [swp_o (by omega) (by omega)]; exact hs2 k hk, hF.trans hF3 (by simp)⟩
      · have hfin : HeapF l' n i0 := down_stop hE' (fun k a' b' hk hkn ha' hb' => by (rw [hx] at ha'; cases ha'); have := ivC_swap y1 x; (rcases hk with rfl | rfl); (focus (rw [hy1] at hb'; cases hb'; omega)); (focus (exfalso; omega)))
        (repeat (first | refine w_seq ?_ | refine w_regionL ?_ | refine w_norm ?_ | refine w_exit' ?_ | refine w_ret ?_ | refine w_exit ?_ | refine wo_nil ⟨rfl, ?_⟩ | ((first | apply o_assign | apply o_move | apply o_bin | apply o_not) <;> first | refine wo_id ?_ | ((with_reducible apply look_id); (exact look_by); done) | ((with_reducible apply bin_id); (exact bin_by); done) | exact rfl) | ((first | apply b_cond) <;> first | refine wc_id ?_ | ((with_reducible apply look_id); (exact look_by); done) | (first | ((apply ut); (rw [decide_eq_false c]; rfl)))) | (refine l_exitW (by (focus ((intro z hz; simp [entW] at hz ⊢; first | done); done))) ?_; intro R4 W4 hWW4)))
        (apply ends_ret; (focus exact (e_tmp res_nil)))
        exact ⟨_, _, _, leaves_pur (by decide) (by exact fz_by), l', hH, hP, hfin, hs1, hs2, hF, by (intro z hz; simp [entW] at hz ⊢; first | done | omega | grind)⟩
end Go.Proofs.Ytefgpelodpggkaa.Ve
