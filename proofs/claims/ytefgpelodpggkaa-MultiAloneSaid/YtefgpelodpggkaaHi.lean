import Derived.Test.YtefgpelodpggkaaHh
set_option linter.unusedVariables false
set_option linter.unusedSimpArgs false
namespace Go.Proofs.Ytefgpelodpggkaa.Ve
open Go XFlt
set_option maxRecDepth 4000
set_option maxHeartbeats 8000000
section
variable {P : Program} {C : Cfg} {ds : List (Option Tmp)} {os : List Oper} {tm : List V} {st : St} {K : List V → St → List Ent → Prop} {d : Tmp} {t ty : TypeId} {pos : String} {af : Array Edge}
/-- Appending, told what is written. -/
theorem o_appendW {args : Array Operand} {ts : Array TypeId} {xt : TypeId} {sz bs : Nat} {s xv : V} {old new : List (List V)} {I R : List Nat} {a b : Operand} (hab : args.toList = [a, b]) (hsa : envOf tm a = some s) (hxa : envOf tm b = some xv) (ht : ts[0]? = some t) (hxt : ts[1]? = some xt) (ha : AppTy P t xt sz bs) (hs : SlAt st sz s old I) (hx : srcRows st sz xv = some (new, R)) (hne : new ≠ []) (hb : (old.length + new.length) * (bs + 1) ≤ 2 ^ 40)
    (h : ∀ st' i R' W, Frm st st' I → st.next ≤ i → i < st'.next → st'.get i = some ⟨sz, old ++ new⟩ → (∀ z ∈ W, z ∈ I) → wo P C ds os (put tm d (.ow i sz 0 (old ++ new).length)) st' fun tm' st'' l => K tm' st'' (⟨st, st', R', W, .ow i sz 0 (old ++ new).length⟩ :: l)) : wo P C ds (⟨some d, .call { callee := .builtin .append, args := args, argTypes := ts }, ty, pos, af, none⟩ :: os) tm st K := by
  have key : ∃ st' i R' W, appendV P st ts s xv = some (.ow i sz 0 (old ++ new).length, st', R', W) ∧ st.next ≤ i ∧ i < st'.next ∧ st'.get i = some ⟨sz, old ++ new⟩ ∧ (∀ i, i < st.next → i ∉ I → st'.get i = st.get i) ∧ ∀ z ∈ W, z ∈ I := by
    obtain ⟨e, e', info, z, h1, h2, h3, rfl, rfl, h6, h7⟩ := ha
    unfold appendV
    simp only [ht, hxt, h1, h2, h3, h6, h7, ne_eq, not_true_eq_false, if_false, hx]
    cases new with
    | nil => exact absurd rfl hne
    | cons n0 ns =>
      rcases hs with ⟨rfl, rfl, rfl⟩ | ⟨i, r, so, rfl, g0, g2, g3, g4, g5, rfl⟩
      · simp only
        rw [if_pos (by simpa using hb)]
        refine ⟨_, st.next, _, _, by simp; exact ⟨rfl, rfl, rfl⟩, Nat.le_refl _, by simp [St.new], by simp [St.new], fun i hi _ => ?_, by simp⟩
        simp only [St.new]
        rw [if_neg (by omega)]
      · have hsr : srcRows st info.size (.ow i info.size r old.length) = some (old, [i]) := by
          unfold srcRows
          simp only [g2]
          rw [if_pos ⟨g3, g4⟩, g5]
        simp only [hsr]
        rw [if_pos hb]
        have hne : ¬ st.next = i := by omega
        refine ⟨_, st.next, _, _, by simp; exact ⟨rfl, rfl, rfl⟩, Nat.le_refl _, by simp [St.new, St.kill], by simp [St.kill, St.new, hne], fun j hj hj2 => ?_, by simp⟩
        simp only [St.kill, St.new]
        rw [if_neg (by simpa using hj2), if_neg (by omega)]
  obtain ⟨st', i, R', W, h1, h2, h3, h4, h5, h6⟩ := key
  have h8 := h st' i R' W ⟨by omega, h5⟩ h2 h3 h4 h6
  have e0 : put tm d (.ow i sz 0 (old ++ new).length) = setTm tm (some d) (.ow i sz 0 (old ++ new).length) := by
    delta put
    rfl
  rw [e0] at h8
  refine wo_cons rfl ?_ h8
  simp only [vexec, vop, hab, hsa, hxa, h1]
/-- Appending nothing. -/
theorem o_appendE {args : Array Operand} {ts : Array TypeId} {xt : TypeId} {sz bs i r n : Nat} {xv : V} {R : List Nat} {a b : Operand} (hab : args.toList = [a, b]) (hsa : envOf tm a = some (.ow i sz r n)) (hxa : envOf tm b = some xv) (ht : ts[0]? = some t) (hxt : ts[1]? = some xt) (ha : AppTy P t xt sz bs) (hx : srcRows st sz xv = some ([], R))
    (h : wo P C ds os (put tm d (.ow i sz r n)) st fun tm' st'' l => K tm' st'' (⟨st, st, R, [], .ow i sz r n⟩ :: l)) : wo P C ds (⟨some d, .call { callee := .builtin .append, args := args, argTypes := ts }, ty, pos, af, none⟩ :: os) tm st K := by
  obtain ⟨e, e', info, z, h1, h2, h3, rfl, rfl, h6, h7⟩ := ha
  have e0 : put tm d (.ow i info.size r n) = setTm tm (some d) (.ow i info.size r n) := by
    delta put
    rfl
  rw [e0] at h
  refine wo_cons (v := .ow i info.size r n) (st' := st) (R := R) (W := []) rfl ?_ h
  have key : appendV P st ts (.ow i info.size r n) xv = some (.ow i info.size r n, st, R, []) := by
    unfold appendV
    simp only [ht, hxt, h1, h2, h3, h6, h7, ne_eq, not_true_eq_false, if_false, hx]
  simp only [vexec, vop, hab, hsa, hxa, key]
end
theorem HX.src {st : St} {p : Nat} {l : List IV} {I : List Nat} (h : HX st p l I) : ∃ sv, st.get p = some ⟨1, [[sv]]⟩ ∧ ∀ st', (∀ y ∈ I, st'.get y = st.get y) → srcRows st' 2 sv = some (l.map ivV, I) := by
  rcases h with ⟨rfl, hg, hp, rfl⟩ | ⟨a, rest, hH, rfl⟩
  · exact ⟨.nl, hg, fun st' _ => rfl⟩
  · refine ⟨_, hH.gp, fun st' hs => ?_⟩
    unfold srcRows
    simp only [hs a (by simp), hH.ga]
    rw [if_pos ⟨trivial, by simp⟩, List.drop_zero, List.take_left' (by simp)]
/-- Items in order. -/
def Srt (l : List IV) : Prop := l.Pairwise fun x y => ivC x y ≤ 0
theorem fn_pAll {st : St} {p : Nat} {l : List IV} {I : List Nat} (h : PAt st p l I) (hl : l.length < 2 ^ 20) : Fn Try.prog cfg 91 [.ptr p 0 0] st (fun v st' _ W => ∃ out : List IV, v = .pv (.fz (out.map ivP)) ∧ out.Perm l ∧ Srt out ∧ Frm st st' [] ∧ W = []) := by
  obtain ⟨S, hS⟩ : ∃ y, st.next = y := ⟨_, rfl⟩
  have hpn := h.h.sl.1
  have hwf := h.h.sl.2.2.1
  have hIl := h.h.ltI
  obtain ⟨sv, hg, hsrc⟩ := h.h.src
  refine fn_keep (.inr rfl) Try.func91 rfl ?_
  show wc _ _ _ (.ptr p 0 0 :: List.replicate 26 undefV) st _
  (repeat (first | refine w_seq ?_ | refine w_regionL ?_ | refine w_norm ?_ | refine wo_nil ⟨rfl, ?_⟩ | ((first | apply o_assign | apply o_buildSlice | apply o_move | apply o_nil | apply o_fieldAddr | apply o_load) <;> first | refine wo_id ?_ | ((with_reducible apply look_id); (exact look_by); done) | ((with_reducible apply load_id); ((first | (apply ldp; (focus exact get_by); (focus first | exact rfl))); (first | exact part_sc (by first | exact ag164) rfl)); done) | ((with_reducible apply cells_id); (exact cells_by); done) | ((with_reducible apply next_id); (exact next_by); done) | ((with_reducible apply parts_id); (exact parts_by); done) | exact el164 | exact sz36 | exact ze36 | exact fa166_0 _ _ _ | exact rfl)))
  by_cases hl0 : l = []
  · refine o_appendE rfl (by exact look_by) (by exact look_by) rfl rfl (appTy_of el164 el164 by164 ze36 rfl) (R := I) (by rw [hsrc _ (fun y hy => by have := hIl y hy; simp only [St.new]; rw [if_neg (by omega)]), hl0]; rfl) ?_
    (repeat (first | refine w_seq ?_ | refine w_regionL ?_ | refine w_norm ?_ | refine w_block ?_ | refine wo_nil ⟨rfl, ?_⟩ | ((first | apply o_assign | apply o_buildP | apply o_box) <;> first | refine wo_id ?_ | ((with_reducible apply look_id); (exact look_by); done) | ((with_reducible apply cells_id); (exact cells_by); done) | ((with_reducible apply next_id); (exact next_by); done) | ((with_reducible apply parts_id); (exact parts_by); done) | exact bp166 | exact rfl)))
    refine w_loopW (fun x => S ≤ x) (fun q tm s => ∃ (lr : List IV) (I2 : List Nat) (ov : V) (out : List IV) (Jo : List Nat), q = lr.length ∧ lk tm 3 = .ptr (S + 1) 0 0 ∧ lk tm 4 = ov ∧ PAt s (S + 1) lr I2 ∧ SlE s 2 ov (out.map ivV) Jo ∧ (out ++ lr).Perm l ∧ Srt out ∧ (∀ o ∈ out, ∀ y ∈ lr, ivC o y ≤ 0) ∧ Frm st s [] ∧ (∀ y ∈ I2, S ≤ y ∧ y ∉ Jo ∧ y ≠ S + 1) ∧ (∀ y ∈ Jo, S ≤ y ∧ y ≠ S + 1)) l.length rfl
      ⟨[], [S], .nl, [], [], by simp [hl0], by exact lk_by, by exact lk_by, ⟨.inr ⟨S, [], ⟨by omega, by exact lt_by, by exact lt_by, by exact get_by, by exact get_by, by simp, by decide⟩, rfl⟩, fun _ _ _ _ _ _ hc _ _ => absurd hc (Nat.not_lt_zero _)⟩, .inl ⟨rfl, rfl, rfl⟩, by rw [hl0]; exact List.Perm.refl _, List.Pairwise.nil, by simp, by exact frm_by, by simp, by simp⟩ ?_
    rintro q tm1 s ⟨lr, I2, ov, out, Jo, hq, h3, h4, hPA, hSE, hPm, hSt, hmin, hF, hI2, hJo⟩ hK
    obtain ⟨T, hT⟩ : ∃ y, s.next = y := ⟨_, rfl⟩
    have hp2n := hPA.h.sl.1
    have hI2l := hPA.h.ltI
    have hJol := hSE.lt
    have hlen := hPm.length_eq
    simp only [List.length_append] at hlen
    have hLm : (out.map ivV).length = out.length := List.length_map _
    by_cases hlr : lr = []
    · subst hlr
      (repeat (first | refine w_seq ?_ | refine w_regionL ?_ | refine w_block ?_ | ((first | apply o_move) <;> first | refine wo_id ?_ | ((with_reducible apply look_id); (exact look_by); done))))
      refine o_call (by exact args_by) hb94 (fn_pTake0 hPA) ?_
      rintro _ s1 R1 W1 ⟨rfl, hFr1, rfl⟩
      have hn1 := hFr1.next
      have hSE1 := hSE.frm hFr1 (by simp)
      (repeat (first | refine w_seq ?_ | refine w_regionL ?_ | refine w_norm ?_ | refine w_ret' ?_ | refine w_ret ?_ | refine wo_nil ⟨rfl, ?_⟩ | ((first | apply o_assign | apply o_move | apply o_extract | apply o_alloc | apply o_storep | apply o_not) <;> first | refine wo_id ?_ | ((with_reducible apply look_id); (exact look_by); done) | ((with_reducible apply cells_id); (exact cells_by); done) | ((with_reducible apply next_id); (exact next_by); done) | ((with_reducible apply get_id); (exact get_by); done) | ((with_reducible apply setAt_id); (exact setat_by); done) | exact sz36 | exact ze36 | exact rfl) | ((first | apply b_cond) <;> first | refine wc_id ?_ | ((with_reducible apply look_id); (exact look_by); done) | (first | exact tt)) | (refine l_retW (by (focus ((intro z hz; simp [entW] at hz ⊢; first | omega); done))) ?_; intro R3 W3 hW3)))
      (apply ends_ret; (focus exact (e_tmp res_nil)))
      have hF1 : Frm st s1 [] ∧ True := ⟨hF.trans hFr1 (by simp), trivial⟩
      rcases hSE1 with ⟨rfl, h1, -⟩ | ⟨i, rfl, hi, hgi, rfl⟩
      · have ho : out = [] := by simpa using h1
        subst ho
        exact ⟨_, _, _, Leaves.frz (by decide) _ _ (by exact fz_by), [], rfl, by simpa using hPm, hSt, hF1.1.trans (J := []) (by exact frm_by) (by simp), List.filter_eq_nil_iff.2 (by intro z hz; simp [entW] at hz ⊢; first | done | omega | grind)⟩
      · have eV : out.map ivV = (out.map ivP).map (·.map .pv) := by simp [ivV]
        rw [eV] at hgi ⊢
        have hlr : ((out.map ivP).map (·.map V.pv)).length = (out.map ivP).length := List.length_map _
        rw [hlr]
        have hiS := (hJo i (by simp)).1
        exact ⟨_, _, _, Leaves.frz (by decide) _ _ (by exact fz_by), out, rfl, by simpa using hPm, hSt, hF1.1.trans (J := [i]) (by exact frm_by) (by simp; omega), List.filter_eq_nil_iff.2 (by intro z hz; simp [entW] at hz ⊢; first | done | omega | grind)⟩
    · obtain ⟨x, hx⟩ : ∃ x, lr[0]? = some x := by
        cases lr with
        | nil => exact absurd rfl hlr
        | cons x xs => exact ⟨x, rfl⟩
      (repeat (first | refine w_seq ?_ | refine w_regionL ?_ | refine w_block ?_ | ((first | apply o_move) <;> first | refine wo_id ?_ | ((with_reducible apply look_id); (exact look_by); done))))
      refine o_call (by exact args_by) hb94 (fn_pTake hPA hx) ?_
      rintro _ s1 R1 W1 ⟨rfl, l', hPA1, hP1, hFr1, hW1⟩
      have hn1 := hFr1.next
      have hSE1 := hSE.frm hFr1 (by intro y hy; have := hJo y hy; simp only [List.mem_cons, not_or]; exact ⟨this.2, fun h => (hI2 y h).2.1 hy⟩)
      obtain ⟨U, hU⟩ : ∃ y, s1.next = y := ⟨_, rfl⟩
      (repeat (first | refine w_seq ?_ | refine w_regionL ?_ | refine w_norm ?_ | refine w_skip ?_ | refine wo_nil ⟨rfl, ?_⟩ | ((first | apply o_assign | apply o_buildSlice | apply o_move | apply o_load | apply o_extract | apply o_alloc | apply o_storep | apply o_not) <;> first | refine wo_id ?_ | ((with_reducible apply look_id); (exact look_by); done) | ((with_reducible apply load_id); ((first | (apply ldp; (focus exact get_by); (focus first | exact rfl))); (first | (apply part_agg; (focus first | exact ag36); (focus first | exact sz36); (focus exact rfl); (focus exact rfl)))); done) | ((with_reducible apply cells_id); (exact cells_by); done) | ((with_reducible apply next_id); (exact next_by); done) | ((with_reducible apply get_id); (exact get_by); done) | ((with_reducible apply setAt_id); (exact setat_by); done) | ((with_reducible apply parts_id); (exact parts_by); done) | exact el164 | exact sz36 | exact ze36 | exact rfl) | ((first | apply b_cond) <;> first | refine wc_id ?_ | ((with_reducible apply look_id); (exact look_by); done) | (first | exact ff))))
      have hfU : ∀ {s' : St}, Frm s1 s' [U] → SlE s' 2 ov (out.map ivV) Jo := fun {s'} hf => hSE1.frm hf (fun y hy => by have := hSE1.lt y hy; simp; omega)
      refine o_appendW (old := out.map ivV) (new := [ivV x]) rfl (by exact look_by) (by exact look_by) rfl rfl (appTy_of el85 el85 by85 ze36 rfl) (hfU (by exact frm_by)).at (src_own (by exact get_by) rfl) (by simp) (by simp; omega) ?_
      intro s5 j R5 W5 hF5 hj1 hj2 hj3 hW5
      have hn5 := hF5.next
      simp only [St.new, St.set] at hj1 hn5
      have hl' : l'.length + 1 = lr.length := by
        have := hP1.length_eq
        simpa using this
      have hmin0 := heap_min hPA.heap hx
      have hFs : Frm s s5 ((S + 1) :: I2 ++ Jo) ∧ True := ⟨((hFr1.wide (J := (S + 1) :: I2 ++ Jo) (by intro y hy; simp only [List.mem_cons] at hy ⊢; simp only [List.mem_append, List.cons_append, List.mem_cons]; rcases hy with h | h; exact .inl h; exact .inr (.inl h))).trans (J := [U]) (by exact frm_by) (by simp; omega)).trans hF5 (fun y hy _ => by simp [hy]), trivial⟩
      (repeat (first | refine wo_nil ⟨rfl, ?_⟩ | ((first | apply o_assign) <;> first | refine wo_id ?_ | ((with_reducible apply look_id); (exact look_by); done)) | (apply l_normW l'.length (by omega) (by (focus ((intro z hz; simp [entW] at hz ⊢; first | grind); done))))))
      refine ⟨l', I2, _, out ++ [x], [j], rfl, by exact lk_by, by exact lk_by, ?_, .inr ⟨j, by simp, hj2, by simpa using hj3, rfl⟩, ?_, ?_, ?_, ?_, ?_, ?_⟩
      · exact (hPA1.move (J := [U]) (by exact frm_by) (by simp; omega) (fun y hy => by have := hI2l y hy; simp; omega)).move hF5 (fun h => (hJo _ h).2 rfl) (fun y hy => (hI2 y hy).2.1)
      · refine List.Perm.trans ?_ hPm
        rw [List.append_assoc]
        exact List.Perm.append_left _ ((List.perm_append_comm).trans hP1)
      · unfold Srt at hSt ⊢
        rw [List.pairwise_append]
        refine ⟨hSt, by simp, fun o ho y hy => ?_⟩
        simp only [List.mem_singleton] at hy
        subst hy
        exact hmin o ho _ (List.mem_of_getElem? hx)
      · intro o ho y hy
        have hyl : y ∈ lr := hP1.subset (List.mem_append_left _ hy)
        rcases List.mem_append.1 ho with ho | ho
        · exact hmin o ho y hyl
        · simp only [List.mem_singleton] at ho
          subst ho
          obtain ⟨k, hk, rfl⟩ := List.getElem_of_mem hyl
          exact hmin0 k _ hk (List.getElem?_eq_getElem hk)
      · exact hF.trans hFs.1 (fun y hy hlt => by
          simp only [List.cons_append, List.mem_cons, List.mem_append] at hy
          rcases hy with h | h | h
          · omega
          · have := (hI2 y h).1
            omega
          · have := (hJo y h).1
            omega)
      · intro y hy
        have h1 := hI2 y hy
        have h2 := hI2l y hy
        simp
        omega
      · simp
        omega
  · refine o_appendW (old := []) (new := l.map ivV) (R := I) rfl (by exact look_by) (by exact look_by) rfl rfl (appTy_of el164 el164 by164 ze36 rfl) (SlAt.own (rows := []) (by exact get_by) (by exact lt_by) rfl) (hsrc _ (fun y hy => by have := hIl y hy; simp only [St.new]; rw [if_neg (by omega)])) (by simpa using hl0) (by simp; omega) ?_
    intro s4 a4 R4 W4 hF4 ha1 ha2 ha3 hW4
    have hn4 := hF4.next
    simp only [St.new] at ha1 hn4
    have e1 : ([] ++ l.map ivV).length = l.length := by simp
    have e2 : [] ++ l.map ivV = l.map ivV ++ [] := by simp
    rw [e1]
    rw [e2] at ha3
    obtain ⟨Q, hQ⟩ : ∃ y, s4.next = y := ⟨_, rfl⟩
    have hF4' : Frm st s4 [] ∧ True := ⟨(show Frm st _ [] by exact frm_by).trans hF4 (by simp; omega), trivial⟩
    (repeat (first | refine w_seq ?_ | refine w_regionL ?_ | refine w_norm ?_ | refine w_block ?_ | refine wo_nil ⟨rfl, ?_⟩ | ((first | apply o_assign | apply o_buildP | apply o_box) <;> first | refine wo_id ?_ | ((with_reducible apply look_id); (exact look_by); done) | ((with_reducible apply cells_id); (exact cells_by); done) | ((with_reducible apply next_id); (exact next_by); done) | ((with_reducible apply parts_id); (exact parts_by); done) | exact bp166 | exact rfl)))
    refine w_loopW (fun x => S ≤ x) (fun q tm s => ∃ (lr : List IV) (I2 : List Nat) (ov : V) (out : List IV) (Jo : List Nat), q = lr.length ∧ lk tm 3 = .ptr (Q) 0 0 ∧ lk tm 4 = ov ∧ PAt s (Q) lr I2 ∧ SlE s 2 ov (out.map ivV) Jo ∧ (out ++ lr).Perm l ∧ Srt out ∧ (∀ o ∈ out, ∀ y ∈ lr, ivC o y ≤ 0) ∧ Frm st s [] ∧ (∀ y ∈ I2, S ≤ y ∧ y ∉ Jo ∧ y ≠ Q) ∧ (∀ y ∈ Jo, S ≤ y ∧ y ≠ Q)) l.length rfl
      ⟨l, [a4], .nl, [], [], rfl, by exact lk_by, by exact lk_by, ⟨.inr ⟨a4, [], ⟨by omega, by exact lt_by, by exact lt_by, by exact get_by, by exact get_by, hwf, by omega⟩, rfl⟩, h.heap⟩, .inl ⟨rfl, rfl, rfl⟩, List.Perm.refl _, List.Pairwise.nil, by simp, hF4'.1.trans (J := []) (by exact frm_by) (by simp), by simp; omega, by simp⟩ ?_
    rintro q tm1 s ⟨lr, I2, ov, out, Jo, hq, h3, h4, hPA, hSE, hPm, hSt, hmin, hF, hI2, hJo⟩ hK
    obtain ⟨T, hT⟩ : ∃ y, s.next = y := ⟨_, rfl⟩
    have hp2n := hPA.h.sl.1
    have hI2l := hPA.h.ltI
    have hJol := hSE.lt
    have hlen := hPm.length_eq
    simp only [List.length_append] at hlen
    have hLm : (out.map ivV).length = out.length := List.length_map _
    by_cases hlr : lr = []
    · subst hlr
      (repeat (first | refine w_seq ?_ | refine w_regionL ?_ | refine w_block ?_ | ((first | apply o_move) <;> first | refine wo_id ?_ | ((with_reducible apply look_id); (exact look_by); done))))
      refine o_call (by exact args_by) hb94 (fn_pTake0 hPA) ?_
      rintro _ s1 R1 W1 ⟨rfl, hFr1, rfl⟩
      have hn1 := hFr1.next
      have hSE1 := hSE.frm hFr1 (by simp)
      (repeat (first | refine w_seq ?_ | refine w_regionL ?_ | refine w_norm ?_ | refine w_ret' ?_ | refine w_ret ?_ | refine wo_nil ⟨rfl, ?_⟩ | ((first | apply o_assign | apply o_move | apply o_extract | apply o_alloc | apply o_storep | apply o_not) <;> first | refine wo_id ?_ | ((with_reducible apply look_id); (exact look_by); done) | ((with_reducible apply cells_id); (exact cells_by); done) | ((with_reducible apply next_id); (exact next_by); done) | ((with_reducible apply get_id); (exact get_by); done) | ((with_reducible apply setAt_id); (exact setat_by); done) | exact sz36 | exact ze36 | exact rfl) | ((first | apply b_cond) <;> first | refine wc_id ?_ | ((with_reducible apply look_id); (exact look_by); done) | (first | exact tt)) | (refine l_retW (by (focus ((intro z hz; simp [entW] at hz ⊢; first | omega); done))) ?_; intro R3 W3 hW3)))
      (apply ends_ret; (focus exact (e_tmp res_nil)))
      have hF1 : Frm st s1 [] ∧ True := ⟨hF.trans hFr1 (by simp), trivial⟩
      rcases hSE1 with ⟨rfl, h1, -⟩ | ⟨i, rfl, hi, hgi, rfl⟩
      · have ho : out = [] := by simpa using h1
        subst ho
        exact ⟨_, _, _, Leaves.frz (by decide) _ _ (by exact fz_by), [], rfl, by simpa using hPm, hSt, hF1.1.trans (J := []) (by exact frm_by) (by simp), List.filter_eq_nil_iff.2 (by intro z hz; simp [entW] at hz ⊢; first | done | omega | grind)⟩
      · have eV : out.map ivV = (out.map ivP).map (·.map .pv) := by simp [ivV]
        rw [eV] at hgi ⊢
        have hlr : ((out.map ivP).map (·.map V.pv)).length = (out.map ivP).length := List.length_map _
        rw [hlr]
        have hiS := (hJo i (by simp)).1
        exact ⟨_, _, _, Leaves.frz (by decide) _ _ (by exact fz_by), out, rfl, by simpa using hPm, hSt, hF1.1.trans (J := [i]) (by exact frm_by) (by simp; omega), List.filter_eq_nil_iff.2 (by intro z hz; simp [entW] at hz ⊢; first | done | omega | grind)⟩
    · obtain ⟨x, hx⟩ : ∃ x, lr[0]? = some x := by
        cases lr with
        | nil => exact absurd rfl hlr
        | cons x xs => exact ⟨x, rfl⟩
      (repeat (first | refine w_seq ?_ | refine w_regionL ?_ | refine w_block ?_ | ((first | apply o_move) <;> first | refine wo_id ?_ | ((with_reducible apply look_id); (exact look_by); done))))
      refine o_call (by exact args_by) hb94 (fn_pTake hPA hx) ?_
      rintro _ s1 R1 W1 ⟨rfl, l', hPA1, hP1, hFr1, hW1⟩
      have hn1 := hFr1.next
      have hSE1 := hSE.frm hFr1 (by intro y hy; have := hJo y hy; simp only [List.mem_cons, not_or]; exact ⟨this.2, fun h => (hI2 y h).2.1 hy⟩)
      obtain ⟨U, hU⟩ : ∃ y, s1.next = y := ⟨_, rfl⟩
      (repeat (first | refine w_seq ?_ | refine w_regionL ?_ | refine w_norm ?_ | refine w_skip ?_ | refine wo_nil ⟨rfl, ?_⟩ | ((first | apply o_assign | apply o_buildSlice | apply o_move | apply o_load | apply o_extract | apply o_alloc | apply o_storep | apply o_not) <;> first | refine wo_id ?_ | ((with_reducible apply look_id); (exact look_by); done) | ((with_reducible apply load_id); ((first | (apply ldp; (focus exact get_by); (focus first | exact rfl))); (first | (apply part_agg; (focus first | exact ag36); (focus first | exact sz36); (focus exact rfl); (focus exact rfl)))); done) | ((with_reducible apply cells_id); (exact cells_by); done) | ((with_reducible apply next_id); (exact next_by); done) | ((with_reducible apply get_id); (exact get_by); done) | ((with_reducible apply setAt_id); (exact setat_by); done) | ((with_reducible apply parts_id); (exact parts_by); done) | exact el164 | exact sz36 | exact ze36 | exact rfl) | ((first | apply b_cond) <;> first | refine wc_id ?_ | ((with_reducible apply look_id); (exact look_by); done) | (first | exact ff))))
      have hfU : ∀ {s' : St}, Frm s1 s' [U] → SlE s' 2 ov (out.map ivV) Jo := fun {s'} hf => hSE1.frm hf (fun y hy => by have := hSE1.lt y hy; simp; omega)
      refine o_appendW (old := out.map ivV) (new := [ivV x]) rfl (by exact look_by) (by exact look_by) rfl rfl (appTy_of el85 el85 by85 ze36 rfl) (hfU (by exact frm_by)).at (src_own (by exact get_by) rfl) (by simp) (by simp; omega) ?_
      intro s5 j R5 W5 hF5 hj1 hj2 hj3 hW5
      have hn5 := hF5.next
      simp only [St.new, St.set] at hj1 hn5
      have hl' : l'.length + 1 = lr.length := by
        have := hP1.length_eq
        simpa using this
      have hmin0 := heap_min hPA.heap hx
      have hFs : Frm s s5 ((Q) :: I2 ++ Jo) ∧ True := ⟨((hFr1.wide (J := (Q) :: I2 ++ Jo) (by intro y hy; simp only [List.mem_cons] at hy ⊢; simp only [List.mem_append, List.cons_append, List.mem_cons]; rcases hy with h | h; exact .inl h; exact .inr (.inl h))).trans (J := [U]) (by exact frm_by) (by simp; omega)).trans hF5 (fun y hy _ => by simp [hy]), trivial⟩
      (repeat (first | refine wo_nil ⟨rfl, ?_⟩ | ((first | apply o_assign) <;> first | refine wo_id ?_ | ((with_reducible apply look_id); (exact look_by); done)) | (apply l_normW l'.length (by omega) (by (focus ((intro z hz; simp [entW] at hz ⊢; first | grind); done))))))
      refine ⟨l', I2, _, out ++ [x], [j], rfl, by exact lk_by, by exact lk_by, ?_, .inr ⟨j, by simp, hj2, by simpa using hj3, rfl⟩, ?_, ?_, ?_, ?_, ?_, ?_⟩
      · exact (hPA1.move (J := [U]) (by exact frm_by) (by simp; omega) (fun y hy => by have := hI2l y hy; simp; omega)).move hF5 (fun h => (hJo _ h).2 rfl) (fun y hy => (hI2 y hy).2.1)
      · refine List.Perm.trans ?_ hPm
        rw [List.append_assoc]
        exact List.Perm.append_left _ ((List.perm_append_comm).trans hP1)
      · unfold Srt at hSt ⊢
        rw [List.pairwise_append]
        refine ⟨hSt, by simp, fun o ho y hy => ?_⟩
        simp only [List.mem_singleton] at hy
        subst hy
        exact hmin o ho _ (List.mem_of_getElem? hx)
      · intro o ho y hy
        have hyl : y ∈ lr := hP1.subset (List.mem_append_left _ hy)
        rcases List.mem_append.1 ho with ho | ho
        · exact hmin o ho y hyl
        · simp only [List.mem_singleton] at ho
          subst ho
          obtain ⟨k, hk, rfl⟩ := List.getElem_of_mem hyl
          exact hmin0 k _ hk (List.getElem?_eq_getElem hk)
      · exact hF.trans hFs.1 (fun y hy hlt => by
          simp only [List.cons_append, List.mem_cons, List.mem_append] at hy
          rcases hy with h | h | h
          · omega
          · have := (hI2 y h).1
            omega
          · have := (hJo y h).1
            omega)
      · intro y hy
        have h1 := hI2 y hy
        have h2 := hI2l y hy
        simp
        omega
      · simp
        omega
end Go.Proofs.Ytefgpelodpggkaa.Ve
