import Derived.Test.YtefgpelodpggkaaHe
set_option linter.unusedVariables false
set_option linter.unusedSimpArgs false
namespace Go.Proofs.Ytefgpelodpggkaa.Ve
open Go XFlt
set_option maxRecDepth 4000
set_option maxHeartbeats 8000000
theorem HX.move {st st' : St} {p : Nat} {l : List IV} {I J : List Nat} (h : HX st p l I) (hf : Frm st st' J) (hp : p ∉ J) (hI : ∀ y ∈ I, y ∉ J) : HX st' p l I := by
  rcases h with ⟨rfl, hg, h1, rfl⟩ | ⟨a, rest, hH, rfl⟩
  · exact .inl ⟨rfl, hf.getq h1 hp hg, Nat.lt_of_lt_of_le h1 hf.next, rfl⟩
  · exact .inr ⟨a, rest, hH.move hf hp (hI a (by simp)), rfl⟩
theorem recv_nil {st : St} {p : Nat} (h : st.get p = some ⟨1, [[.nl]]⟩) {name : String} {g : FuncId} (hm : methodV Try.prog 168 name = some (g, false)) : recvV Try.prog st 168 (.ptr p 0 0) name = some (g, .nl, [p]) := by
  have h1 : ptrElem Try.prog 168 = some (some 164) := by kernel_rfl
  unfold recvV
  simp only [hm, h1]
  have h2 : loadV Try.prog st 164 (.ptr p 0 0) = some (.nl, [p]) := by
    simp only [loadV, h]
    rfl
  simp only [h2]
  rfl
theorem fn_lenN {st : St} : Fn Try.prog cfg 105 [.nl] st (fun v st' _ W => v = .pv (.sc (.int .i64 0)) ∧ st' = st ∧ W = []) := by
  refine fn_pureF (ps := [.fz []]) (ids := []) rfl rfl ?_ rfl ⟨rfl, rfl, rfl⟩
  refine pcall_wc Try.func105 rfl (by decide) ?_ rfl
  show wc _ _ _ (.pv (.fz []) :: List.replicate 4 undefV) _ _
  (repeat (first | refine w_seq ?_ | refine w_regionL ?_ | refine w_norm ?_ | refine w_ret ?_ | refine wo_nil ⟨rfl, ?_⟩ | ((first | apply o_assign | apply o_move | apply o_len) <;> first | refine wo_id ?_ | ((with_reducible apply look_id); (exact look_by); done) | exact lnF164 _ | (intro a h; cases h) | exact rfl)))
  (apply ends_ret; (focus exact (e_tmp res_nil)))
  exact ⟨_, by exact fz_by⟩
theorem fn_hInit {st : St} {p : Nat} {l : List IV} {I : List Nat} (h : HX st p l I) : Fn Try.prog cfg 95 [itf p] st (fun v st' _ _ => ∃ l', HX st' p l' I ∧ l'.Perm l ∧ HeapF l' l'.length 0 ∧ Frm st st' I) := by
  refine fn_keep (.inr rfl) Try.func95 rfl ?_
  show wc _ _ _ (itf p :: List.replicate 16 undefV) st _
  rcases h with ⟨rfl, hg, hp, rfl⟩ | ⟨a, rest, hH, rfl⟩
  · (repeat (first | refine w_seq ?_ | refine w_regionL ?_ | ((first | apply o_move) <;> first | refine wo_id ?_ | ((with_reducible apply look_id); (exact look_by); done))))
    refine o_invoke (by exact look_by) (by exact args_by) rfl (recv_nil hg m_len) hb105 fn_lenN ?_
    rintro _ s0 R1 W1 ⟨rfl, rfl, rfl⟩
    have wq : IntKind.i64.wrap ((0 : Int).tdiv 2) = 0 := by decide
    (repeat (first | refine w_seq ?_ | refine w_regionL ?_ | refine w_norm ?_ | refine w_block ?_ | refine wo_nil ⟨rfl, ?_⟩ | (apply o_bin; (focus (exact look_by; done)); (focus (exact look_by; done)); (focus exact br_quow (by decide) wq); (focus exact rfl)) | ((first | apply o_move | apply o_assign | apply o_bin) <;> first | refine wo_id ?_ | ((with_reducible apply look_id); (exact look_by); done) | ((with_reducible apply bin_id); (exact bin_by); done) | exact rfl)))
    refine w_loopK (fun q tm s => s = s0 ∧ lk tm 3 = .pv (.sc (.int .i64 (IntKind.i64.wrap (0 - 1))))) 0 rfl ⟨rfl, by exact lk_by⟩ ?_
    rintro q tm1 s ⟨rfl, h3⟩ hK
    (repeat (first | refine w_seq ?_ | refine w_regionL ?_ | refine w_norm ?_ | refine w_exit' ?_ | refine w_exit ?_ | refine wo_nil ⟨rfl, ?_⟩ | ((first | apply o_move | apply o_bin) <;> first | refine wo_id ?_ | ((with_reducible apply look_id); (exact look_by); done) | ((with_reducible apply bin_id); (exact bin_by); done) | exact rfl) | ((first | apply b_cond) <;> first | refine wc_id ?_ | ((with_reducible apply look_id); (exact look_by); done) | (first | exact ff)) | (refine l_exit ?_; intro R4 W4)))
    refine ends_norm (vs := []) (R' := []) rfl ?_
    exact ⟨_, _, _, leaves_pur (by decide) (by exact fz_by), [], .inl ⟨rfl, hg, hp, rfl⟩, List.Perm.refl _, fun p c x y _ _ hc _ _ => absurd hc (Nat.not_lt_zero _), Frm.refl⟩
  · have hlen := hH.len
    (repeat (first | refine w_seq ?_ | refine w_regionL ?_ | ((first | apply o_move) <;> first | refine wo_id ?_ | ((with_reducible apply look_id); (exact look_by); done))))
    refine o_invoke (by exact look_by) (by exact args_by) rfl (recv_itf hH m_len) hb105 (fn_lenI hH) ?_
    rintro _ s0 R1 W1 ⟨rfl, rfl, rfl⟩
    have wq : IntKind.i64.wrap ((l.length : Int).tdiv 2) = ((l.length / 2 : Nat) : Int) := by
      rw [Int.tdiv_eq_ediv_of_nonneg (by omega), wrap_id (by omega) (by omega)]
      omega
    have ws : IntKind.i64.wrap (((l.length / 2 : Nat) : Int) - 1) = ((l.length / 2 : Nat) : Int) - 1 := wrap_id (by omega) (by omega)
    (repeat (first | refine w_seq ?_ | refine w_regionL ?_ | refine w_norm ?_ | refine w_block ?_ | refine wo_nil ⟨rfl, ?_⟩ | (first | (apply o_bin; (focus (exact look_by; done)); (focus (exact look_by; done)); (focus exact br_quow (by decide) wq); (focus exact rfl)) | (apply o_bin; (focus (exact look_by; done)); (focus (exact look_by; done)); (focus exact br_subw ws); (focus exact rfl))) | ((first | apply o_move | apply o_assign) <;> first | refine wo_id ?_ | ((with_reducible apply look_id); (exact look_by); done))))
    refine w_loopK (fun q tm s => ∃ (l' : List IV), lk tm 3 = .pv (.sc (.int .i64 ((q : Int) - 1))) ∧ HAt s p a l' rest ∧ l'.Perm l ∧ HeapF l' l.length q ∧ q ≤ l.length ∧ Frm s0 s [a]) (l.length / 2) rfl
      ⟨l, by exact lk_by, hH, List.Perm.refl l, (fun p c x y hp hk hc _ _ => by exfalso; unfold kid at hk; omega), by omega, Frm.refl.wide (by simp)⟩ ?_
    rintro q tm1 s ⟨l', h3, hH', hP, hF', hq, hF⟩ hK
    have hll : l'.length = l.length := hP.length_eq
    by_cases hq0 : q = 0
    · subst hq0
      (repeat (first | refine w_seq ?_ | refine w_regionL ?_ | refine w_norm ?_ | refine w_exit' ?_ | refine w_exit ?_ | refine wo_nil ⟨rfl, ?_⟩ | ((first | apply o_move | apply o_bin) <;> first | refine wo_id ?_ | ((with_reducible apply look_id); (exact look_by); done) | ((with_reducible apply bin_id); (exact bin_by); done) | exact rfl) | ((first | apply b_cond) <;> first | refine wc_id ?_ | ((with_reducible apply look_id); (exact look_by); done) | (first | exact ff)) | (refine l_exit ?_; intro R4 W4)))
      refine ends_norm (vs := []) (R' := []) rfl ?_
      exact ⟨_, _, _, leaves_pur (by decide) (by exact fz_by), l', .inr ⟨a, rest, hH', rfl⟩, hP, by rw [hll]; exact hF', hF⟩
    · have e : (q : Int) - 1 = ((q - 1 : Nat) : Int) := by omega
      have ws2 : IntKind.i64.wrap (((q - 1 : Nat) : Int) - 1) = ((q - 1 : Nat) : Int) - 1 := wrap_id (by omega) (by omega)
      rw [e] at h3
      (repeat (first | refine w_seq ?_ | refine w_regionL ?_ | refine w_norm ?_ | refine w_block ?_ | refine w_skip ?_ | refine wo_nil ⟨rfl, ?_⟩ | ((first | apply o_move | apply o_bin) <;> first | refine wo_id ?_ | ((with_reducible apply look_id); (exact look_by); done) | ((with_reducible apply bin_id); (exact bin_by); done) | exact rfl) | ((first | apply b_cond) <;> first | refine wc_id ?_ | ((with_reducible apply look_id); (exact look_by); done) | (first | exact tt))))
      refine o_call (by exact args_by) hb99 (fn_down hH' (n := l.length) (i0 := q - 1) (by omega) (by omega) (fun p c x y hp hpi hk hc hx hy => hF' p c x y (by omega) hk hc hx hy) (fun p c x y hp hk _ _ _ _ => by exfalso; unfold kid at hk; omega)) ?_
      rintro v2 s2 R2 W2 ⟨l2, hH2, hP2, hF2, -, -, hFr2, -⟩
      (repeat (first | refine w_regionL ?_ | refine w_norm ?_ | refine wo_nil ⟨rfl, ?_⟩ | (apply o_bin; (focus (exact look_by; done)); (focus (exact look_by; done)); (focus exact br_subw ws2); (focus exact rfl)) | ((first | apply o_move | apply o_assign) <;> first | refine wo_id ?_ | ((with_reducible apply look_id); (exact look_by); done)) | (apply l_norm (q - 1) (by omega))))
      exact ⟨l2, by exact lk_by, hH2, hP2.trans hP, hF2, by omega, hF.trans hFr2 (by simp)⟩
theorem fn_hPush {st : St} {p : Nat} {l : List IV} {I : List Nat} (h : HX st p l I) (hF : HeapF l l.length 0) {x : IV} (hx : x.1 < 2 ^ 64) (hl : l.length + 1 < 2 ^ 30) :
    Fn Try.prog cfg 96 [itf p, .pv (.ifc 36 (.agg (ivP x)))] st (fun v st' _ _ => ∃ a l', HAt st' p a l' [] ∧ l'.Perm (l ++ [x]) ∧ HeapF l' l'.length 0 ∧ st.next ≤ a ∧ Frm st st' (p :: I)) := by
  refine fn_keep (.inr rfl) Try.func96 rfl ?_
  show wc _ _ _ (itf p :: .pv (.ifc 36 (.agg (ivP x))) :: List.replicate 10 undefV) st _
  (repeat (first | refine w_seq ?_ | refine w_regionL ?_ | ((first | apply o_move) <;> first | refine wo_id ?_ | ((with_reducible apply look_id); (exact look_by); done))))
  refine o_invoke (by exact look_by) (by exact args_by) rfl (recv_ptr m_push) hb109 (fn_pushI h hx hl) ?_
  rintro v1 s1 R1 W1 ⟨a, hH, ha, hFr1⟩
  have e1 : (l ++ [x]).length = l.length + 1 := by simp
  have w1 : IntKind.i64.wrap (((l ++ [x]).length : Int) - 1) = ((l.length : Nat) : Int) := by rw [e1, wrap_id (by omega) (by omega)]; omega
  (repeat (first | refine w_regionL ?_ | refine w_norm ?_ | refine wo_nil ⟨rfl, ?_⟩ | ((first | apply o_move) <;> first | refine wo_id ?_ | ((with_reducible apply look_id); (exact look_by); done))))
  refine o_invoke (by exact look_by) (by exact args_by) rfl (recv_itf hH m_len) hb105 (fn_lenI hH) ?_
  rintro _ _ R2 W2 ⟨rfl, rfl, rfl⟩
  (repeat (first | (apply o_bin; (focus (exact look_by; done)); (focus (exact look_by; done)); (focus exact br_subw w1); (focus exact rfl))))
  refine o_call (by exact args_by) hb100 (fn_up hH (j0 := l.length) (by omega) ?_ ?_) ?_
  · intro p c y z hc hk hcn hy hz
    have hcl : c < l.length := by omega
    rw [List.getElem?_append_left (by unfold kid at hk; omega)] at hy
    rw [List.getElem?_append_left hcl] at hz
    exact hF p c y z (Nat.zero_le _) hk hcl hy hz
  · intro p c y z _ _ hk hc _ _
    exfalso
    unfold kid at hk
    omega
  rintro v3 s3 R3 W3 ⟨l', hH', hP, hF', hFr3⟩
  (repeat (first | refine wo_nil ⟨rfl, ?_⟩))
  refine ends_norm (vs := []) (R' := []) rfl ?_
  have hll : l'.length = (l ++ [x]).length := hP.length_eq
  exact ⟨_, _, _, leaves_pur (by decide) (by exact fz_by), a, l', hH', hP, by rw [hll]; exact hF', ha, hFr1.trans hFr3 (fun y hy hlt => by simp at hy; omega)⟩
theorem fn_hPop {st : St} {p a : Nat} {l : List IV} {x : IV} {rest : List (List V)} (h : HAt st p a l rest) (hF : HeapF l l.length 0) (hx : l[0]? = some x) :
    Fn Try.prog cfg 98 [itf p] st (fun v st' _ W => v = .pv (.ifc 36 (.agg (ivP x))) ∧ ∃ l' rest', HAt st' p a l' rest' ∧ (l' ++ [x]).Perm l ∧ HeapF l' l'.length 0 ∧ Frm st st' [p, a] ∧ ∀ z ∈ W, z ∈ [p, a]) := by
  have hlen := h.len
  have h0 : 0 < l.length := (List.getElem?_eq_some_iff.1 hx).1
  obtain ⟨n, hn⟩ : ∃ n, l.length = n + 1 := ⟨l.length - 1, by omega⟩
  obtain ⟨y, hy⟩ : ∃ y, l[n]? = some y := ⟨_, List.getElem?_eq_getElem (by omega)⟩
  have w1 : IntKind.i64.wrap ((l.length : Int) - 1) = ((n : Nat) : Int) := by rw [hn, wrap_id (by omega) (by omega)]; omega
  refine fn_keep (.inr rfl) Try.func98 rfl ?_
  show wc _ _ _ (itf p :: List.replicate 14 undefV) st _
  (repeat (first | refine w_seq ?_ | refine w_regionL ?_ | refine w_norm ?_ | refine wo_nil ⟨rfl, ?_⟩ | ((first | apply o_assign | apply o_move) <;> first | refine wo_id ?_ | ((with_reducible apply look_id); (exact look_by); done))))
  refine o_invoke (by exact look_by) (by exact args_by) rfl (recv_itf h m_len) hb105 (fn_lenI h) ?_
  rintro _ _ R1 W1 ⟨rfl, rfl, rfl⟩
  (repeat (first | refine w_seq ?_ | refine w_regionL ?_ | refine w_norm ?_ | refine wo_nil ⟨rfl, ?_⟩ | (apply o_bin; (focus (exact look_by; done)); (focus (exact look_by; done)); (focus exact br_subw w1); (focus exact rfl)) | ((first | apply o_assign | apply o_move) <;> first | refine wo_id ?_ | ((with_reducible apply look_id); (exact look_by); done))))
  refine o_invoke (by exact look_by) (by exact args_by) rfl (recv_itf h m_swap) hb107 (fn_swap h (i := 0) (j := n) hx hy) ?_
  rintro v2 s2 R2 W2 ⟨hH2, hFr2, hW2⟩
  obtain ⟨l1, hl1⟩ : ∃ l1, (l.set 0 y).set n x = l1 := ⟨_, rfl⟩
  rw [hl1] at hH2
  have hP1 : l1.Perm l := by
    rw [← hl1]
    exact swp_perm hx hy
  have hll1 : l1.length = n + 1 := by rw [hP1.length_eq, hn]
  have hn1 : l1[n]? = some x := by
    rw [← hl1]
    exact swp_j (by omega)
  have ho : ∀ k, k ≠ 0 → k ≠ n → l1[k]? = l[k]? := fun k h1 h2 => by
    rw [← hl1]
    exact swp_o h1 h2
  (repeat (first | refine w_seq ?_ | refine w_regionL ?_ | refine w_norm ?_ | refine wo_nil ⟨rfl, ?_⟩ | ((first | apply o_move) <;> first | refine wo_id ?_ | ((with_reducible apply look_id); (exact look_by); done))))
  refine o_call (by exact args_by) hb99 (fn_down hH2 (n := n) (i0 := 0) (by omega) (by decide) ?_ ?_) ?_
  · intro p c u v _ hp hk hc hu hv
    rw [ho p hp (by unfold kid at hk; omega)] at hu
    rw [ho c (by unfold kid at hk; omega) (by omega)] at hv
    exact hF p c u v (Nat.zero_le _) hk (by omega) hu hv
  · intro p c u v _ hk _ _ _ _
    exfalso
    unfold kid at hk
    omega
  rintro v3 s3 R3 W3 ⟨l2, hH3, hP2, hF3, hs, -, hFr3, hW3⟩
  have hll2 : l2.length = n + 1 := by rw [hP2.length_eq, hll1]
  have hn2 : l2[n]? = some x := by rw [hs n (Nat.le_refl _), hn1]
  have el2 : l2.take n ++ [x] = l2 := by
    have h1 := List.take_add_one (l := l2) (i := n)
    rw [hn2] at h1
    rw [show l2.take (n + 1) = l2 from List.take_of_length_le (by omega)] at h1
    exact h1.symm
  have hH3' : HAt s3 p a (l2.take n ++ [x]) rest := by rw [el2]; exact hH3
  (repeat (first | refine w_seq ?_ | refine w_regionL ?_ | refine w_norm ?_ | refine wo_nil ⟨rfl, ?_⟩ | ((first | apply o_move) <;> first | refine wo_id ?_ | ((with_reducible apply look_id); (exact look_by); done))))
  refine o_invoke (by exact look_by) (by exact args_by) rfl (recv_ptr m_pop) hb108 (fn_popI hH3') ?_
  rintro _ s4 R4 W4 ⟨rfl, hH4, hFr4, hW4⟩
  (repeat (first | refine w_norm ?_ | refine w_ret ?_ | refine wo_nil ⟨rfl, ?_⟩ | ((first | apply o_assign) <;> first | refine wo_id ?_ | ((with_reducible apply look_id); (exact look_by); done))))
  (apply ends_ret; (focus exact (e_tmp res_nil)))
  refine ⟨_, _, _, leaves_pur (by decide) (by exact fz_by), rfl, l2.take n, _, hH4, by rw [el2]; exact hP2.trans hP1, ?_, ?_, by (intro z hz; simp [entW] at hz ⊢; first | done | omega | grind)⟩
  · have hlt : (l2.take n).length = n := by simp; omega
    rw [hlt]
    intro p c u v h1 hk hc hu hv
    rw [List.getElem?_take_of_lt (by unfold kid at hk; omega)] at hu
    rw [List.getElem?_take_of_lt hc] at hv
    exact hF3 p c u v h1 hk hc hu hv
  · exact ((hFr2.wide (J := [p, a]) (by simp)).trans hFr3 (by simp)).trans hFr4 (by simp)
end Go.Proofs.Ytefgpelodpggkaa.Ve
