import Derived.Test.YtefgpelodpggkaaHo
set_option linter.unusedVariables false
set_option linter.unusedSimpArgs false
namespace Go.Proofs.Ytefgpelodpggkaa.Ve
open Go XFlt
set_option maxRecDepth 4000
set_option maxHeartbeats 8000000
theorem fn_pNew0 {st : St} : Fn Try.prog cfg 89 [.nl] st (fun v st' _ _ => ∃ p, v = .ptr p 0 0 ∧ PAt st' p [] [] ∧ st.next ≤ p ∧ Frm st st' []) := by
  obtain ⟨S, hS⟩ : ∃ y, st.next = y := ⟨_, rfl⟩
  refine fn_keep (.inr rfl) Try.func89 rfl ?_
  show wc _ _ _ (.nl :: List.replicate 31 undefV) st _
  (repeat (first | refine w_seq ?_ | refine w_regionL ?_ | refine w_norm ?_ | refine w_block ?_ | refine wo_nil ⟨rfl, ?_⟩ | ((first | apply o_assign | apply o_buildP | apply o_box | apply o_move | apply o_len) <;> first | refine wo_id ?_ | ((with_reducible apply look_id); (exact look_by); done) | ((with_reducible apply cells_id); (exact cells_by); done) | ((with_reducible apply next_id); (exact next_by); done) | ((with_reducible apply parts_id); (exact parts_by); done) | exact bp166 | exact lnN85 | exact ni168 | (intro a h; cases h) | exact rfl)))
  refine w_loopK (fun q tm s => lk tm 10 = .pv (.sc (.int .i64 0)) ∧ HX s S [] [] ∧ Frm st s []) 0 rfl ⟨by exact lk_by, .inl ⟨rfl, by exact get_by, by exact lt_by, rfl⟩, by exact frm_by⟩ ?_
  rintro q tm1 s ⟨h10, hX, hF⟩ hK
  (repeat (first | refine w_seq ?_ | refine w_regionL ?_ | refine w_norm ?_ | refine w_exit' ?_ | refine w_exit ?_ | refine wo_nil ⟨rfl, ?_⟩ | ((first | apply o_move | apply o_bin | apply o_nil | apply o_fieldAddr | apply o_iface) <;> first | refine wo_id ?_ | ((with_reducible apply look_id); (exact look_by); done) | ((with_reducible apply bin_id); (exact bin_by); done) | exact fa166_0 _ _ _ | exact ni168 | exact rfl) | ((first | apply b_cond) <;> first | refine wc_id ?_ | ((with_reducible apply look_id); (exact look_by); done) | (first | exact ff)) | (refine l_exit ?_; intro R2 W2)))
  refine o_call (by exact args_by) hb95 (fn_hInit hX) ?_
  rintro v1 s1 R1 W1 ⟨l', hX1, hP, hH, hFr⟩
  have e : l' = [] := hP.eq_nil
  subst e
  (repeat (first | refine w_seq ?_ | refine w_regionL ?_ | refine w_norm ?_ | refine w_ret ?_ | refine wo_nil ⟨rfl, ?_⟩ | ((first | apply o_assign | apply o_move) <;> first | refine wo_id ?_ | ((with_reducible apply look_id); (exact look_by); done))))
  (apply ends_ret; (focus exact (e_tmp res_nil)))
  exact ⟨_, _, _, Leaves.norm (.inr rfl) rfl, S, rfl, ⟨hX1, hH⟩, by omega, hF.trans hFr (by simp)⟩
/-- Three piles beside each other. -/
structure Three (s : St) (p q a : Nat) (lp lq la : List IV) (Ip Iq Ia : List Nat) : Prop where
  P : PAt s p lp Ip
  Q : PAt s q lq Iq
  A : PAt s a la Ia
  pq : p ≠ q
  pa : p ≠ a
  qa : q ≠ a
  pIq : p ∉ Iq
  pIa : p ∉ Ia
  qIp : q ∉ Ip
  qIa : q ∉ Ia
  aIp : a ∉ Ip
  aIq : a ∉ Iq
  IpIq : ∀ y ∈ Ip, y ∉ Iq
  IpIa : ∀ y ∈ Ip, y ∉ Ia
  IqIa : ∀ y ∈ Iq, y ∉ Ia
theorem Three.rot {s : St} {p q a : Nat} {lp lq la : List IV} {Ip Iq Ia : List Nat} (h : Three s p q a lp lq la Ip Iq Ia) : Three s q a p lq la lp Iq Ia Ip :=
  ⟨h.Q, h.A, h.P, h.qa, h.pq.symm, h.pa.symm, h.qIa, h.qIp, h.aIq, h.aIp, h.pIq, h.pIa, h.IqIa, fun y hy hp => h.IpIq y hp hy, fun y hy hp => h.IpIa y hp hy⟩
theorem Three.idle {s s' : St} {p q a : Nat} {lp lq la : List IV} {Ip Iq Ia J : List Nat} (h : Three s p q a lp lq la Ip Iq Ia) (hF : Frm s s' J) (hJ : ∀ y ∈ J, s.next ≤ y) : Three s' p q a lp lq la Ip Iq Ia := by
  have n1 := h.P.h.sl.1
  have n2 := h.Q.h.sl.1
  have n3 := h.A.h.sl.1
  have i1 := h.P.h.ltI
  have i2 := h.Q.h.ltI
  have i3 := h.A.h.ltI
  have nj : ∀ y, y < s.next → y ∉ J := fun y hy h => by have := hJ y h; omega
  exact ⟨h.P.move hF (nj _ n1) (fun y hy => nj _ (i1 y hy)), h.Q.move hF (nj _ n2) (fun y hy => nj _ (i2 y hy)), h.A.move hF (nj _ n3) (fun y hy => nj _ (i3 y hy)), h.pq, h.pa, h.qa, h.pIq, h.pIa, h.qIp, h.qIa, h.aIp, h.aIq, h.IpIq, h.IpIa, h.IqIa⟩
/-- One of them is changed. -/
theorem Three.step {s s' : St} {p q a : Nat} {lp lq la l' : List IV} {Ip Iq Ia I' : List Nat} (h : Three s p q a lp lq la Ip Iq Ia) (hP : PAt s' p l' I') (hI : I' = Ip ∨ ∀ y ∈ I', s.next ≤ y) (hF : Frm s s' (p :: Ip)) : Three s' p q a l' lq la I' Iq Ia := by
  have n2 := h.Q.h.sl.1
  have n3 := h.A.h.sl.1
  have i2 := h.Q.h.ltI
  have i3 := h.A.h.ltI
  have hQ : PAt s' q lq Iq := h.Q.move hF (by simp only [List.mem_cons, not_or]; exact ⟨h.pq.symm, h.qIp⟩) (fun y hy => by simp only [List.mem_cons, not_or]; exact ⟨fun e => h.pIq (e ▸ hy), fun e => h.IpIq y e hy⟩)
  have hA : PAt s' a la Ia := h.A.move hF (by simp only [List.mem_cons, not_or]; exact ⟨h.pa.symm, h.aIp⟩) (fun y hy => by simp only [List.mem_cons, not_or]; exact ⟨fun e => h.pIa (e ▸ hy), fun e => h.IpIa y e hy⟩)
  rcases hI with rfl | hI
  · exact ⟨hP, hQ, hA, h.pq, h.pa, h.qa, h.pIq, h.pIa, h.qIp, h.qIa, h.aIp, h.aIq, h.IpIq, h.IpIa, h.IqIa⟩
  · exact ⟨hP, hQ, hA, h.pq, h.pa, h.qa, h.pIq, h.pIa, fun e => by have := hI _ e; omega, h.qIa, fun e => by have := hI _ e; omega, h.aIq, fun y hy e => by have := hI _ hy; have := i2 _ e; omega, fun y hy e => by have := hI _ hy; have := i3 _ e; omega, h.IqIa⟩
end Go.Proofs.Ytefgpelodpggkaa.Ve
