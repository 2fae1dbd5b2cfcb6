import Derived.Test.YtefgpelodpggkaaHd
set_option linter.unusedVariables false
set_option linter.unusedSimpArgs false
namespace Go.Proofs.Ytefgpelodpggkaa.Ve
open Go XFlt
set_option maxRecDepth 4000
set_option maxHeartbeats 8000000
section
variable {P : Program} {C : Cfg} {ds : List (Option Tmp)} {os : List Oper} {tm : List V} {st : St} {K : List V → St → List Ent → Prop} {d : Tmp} {t e ty : TypeId} {x : Operand} {pos : String} {af : Array Edge}
theorem o_slice_ow {i s len m : Nat} {k : IntKind} {h : Int} {hi : Operand} (hx : envOf tm x = some (.ow i s 0 len)) (he : sliceElem P t = some e) (hz : tySize P e = some s) (hh : envOf tm hi = some (.pv (.sc (.int k h)))) (hb : 0 ≤ h ∧ h ≤ len) (hm : h.toNat = m)
    (hk : wo P C ds os (put tm d (.ow i s 0 m)) st fun tm' st'' l => K tm' st'' (⟨st, st, [], [], .ow i s 0 m⟩ :: l)) : wo P C ds (⟨some d, .slice t x none (some hi) none, ty, pos, af, none⟩ :: os) tm st K := by
  refine o_slice hx (fun a h => by cases h) ?_ hk
  simp only [sliceV, he, hz, boundV, hh, asInt?]
  rw [if_pos ⟨Int.le_refl 0, hb.1, hb.2, trivial⟩, hm]
  simp
end
theorem HAt.sl {st : St} {p a : Nat} {l : List IV} {rest : List (List V)} (h : HAt st p a l rest) : SlAt st 2 (.ow a 2 0 l.length) (l.map ivV) [a] :=
  .inr ⟨a, 0, ⟨2, l.map ivV ++ rest⟩, by simp, h.an, h.ga, rfl, by simp, by rw [List.drop_zero, List.take_left], rfl⟩
/-- A pile's items: none yet, or some. -/
def HX (st : St) (p : Nat) (l : List IV) (I : List Nat) : Prop :=
  (l = [] ∧ st.get p = some ⟨1, [[.nl]]⟩ ∧ p < st.next ∧ I = []) ∨ ∃ a rest, HAt st p a l rest ∧ I = [a]
theorem HX.sl {st : St} {p : Nat} {l : List IV} {I : List Nat} (h : HX st p l I) : p < st.next ∧ p ∉ I ∧ (∀ x ∈ l, x.1 < 2 ^ 64) ∧ ∃ sv, st.get p = some ⟨1, [[sv]]⟩ ∧ SlAt st 2 sv (l.map ivV) I := by
  rcases h with ⟨rfl, hg, hp, rfl⟩ | ⟨a, rest, hH, rfl⟩
  · exact ⟨hp, by simp, by simp, .nl, hg, SlAt.nil⟩
  · exact ⟨hH.pn, by simpa using hH.ne, hH.wf, _, hH.gp, hH.sl⟩
theorem fn_pushI {st : St} {p : Nat} {l : List IV} {I : List Nat} (h : HX st p l I) {x : IV} (hx : x.1 < 2 ^ 64) (hl : l.length + 1 < 2 ^ 30) :
    Fn Try.prog cfg 109 [.ptr p 0 0, .pv (.ifc 36 (.agg (ivP x)))] st (fun v st' _ _ => ∃ a, HAt st' p a (l ++ [x]) [] ∧ st.next ≤ a ∧ Frm st st' (p :: I)) := by
  obtain ⟨hp, hpI, hwf, sv, hg, hsl⟩ := h.sl
  obtain ⟨S, hS⟩ : ∃ y, st.next = y := ⟨_, rfl⟩
  refine fn_keep (.inr rfl) Try.func109 rfl ?_
  show wc _ _ _ (.ptr p 0 0 :: .pv (.ifc 36 (.agg (ivP x))) :: List.replicate 11 undefV) st _
  have hIS : ∀ y ∈ I, y < S := fun y hy => by have := hsl.lt y hy; omega
  (repeat (first | refine w_regionL ?_ | ((first | apply o_move | apply o_nil | apply o_load | apply o_assert | apply o_buildSlice) <;> first | refine wo_id ?_ | ((with_reducible apply look_id); (exact look_by); done) | ((with_reducible apply load_id); ((first | (apply ldp; (focus exact get_by); (focus first | exact rfl))); (first | exact part_sc (by first | exact ag164) rfl)); done) | ((with_reducible apply cells_id); (exact cells_by); done) | ((with_reducible apply next_id); (exact next_by); done) | ((with_reducible apply parts_id); (exact parts_by); done) | exact ni36 | exact el164 | exact sz36 | exact ze36 | exact rfl)))
  refine o_appendX (old := l.map ivV) (new := [ivV x]) rfl (by exact look_by) (by exact look_by) rfl rfl (appTy_of el164 el164 by164 ze36 rfl) (hsl.move (by simp [St.new]) (fun i hi => by have := hIS i hi; simp only [St.new]; rw [if_neg (by omega)])) (src_own (by exact get_by) rfl) (by simp) (by simp; omega) ?_
  intro s5 j R5 W5 hF5 hj1 hj2 hj3
  have hn5 := hF5.next
  simp only [St.new] at hj1 hn5
  have hgp5 : s5.get p = some ⟨1, [[sv]]⟩ := hF5.getq (by exact lt_by) hpI (by exact get_by)
  (repeat (first | ((first | apply o_nil | apply o_storep) <;> first | refine wo_id ?_ | ((with_reducible apply look_id); (exact look_by); done) | ((with_reducible apply cells_id); (exact cells_by); done) | ((with_reducible apply get_id); (exact get_by); done) | ((with_reducible apply setAt_id); (exact setat_by); done) | exact ni36 | exact sz164 | exact rfl) | (refine wo_nil ⟨dyn_draw (bs := [0, 0, 0, 1, 0, 0, 2, 3, 0, 3]) ?_ ?_, ?_⟩; (focus ((repeat (first | exact Flags.nil | (apply Flags.cons Flag.dry) | (apply Flags.cons Flag.read) | (apply Flags.cons Flag.mk) | (apply Flags.cons Flag.free))); done)); (focus decide +kernel))))
  refine ends_norm (vs := []) (R' := []) rfl ?_
  have e1 : (l.map ivV ++ [ivV x]).length = (l ++ [x]).length := by simp
  have e2 : l.map ivV ++ [ivV x] = (l ++ [x]).map ivV ++ [] := by simp
  rw [e1]
  rw [e2] at hj3
  refine ⟨_, _, _, leaves_pur (by decide) (by exact fz_by), j, ⟨by omega, by simp only [St.set]; omega, by simpa [St.set] using hj2, by exact get_by, by exact get_by, ?_, by simpa using hl⟩, by omega, ?_⟩
  · intro y hy
    rcases List.mem_append.1 hy with hy | hy
    · exact hwf y hy
    · simp only [List.mem_singleton] at hy
      subst hy
      exact hx
  · exact ((frm_new.wide (J := p :: I) (by simp)).trans hF5 (fun y hy _ => List.mem_cons_of_mem _ hy)).trans (J := [p]) (by exact frm_by) (by simp)
theorem fn_popI {st : St} {p a : Nat} {l : List IV} {x : IV} {rest : List (List V)} (h : HAt st p a (l ++ [x]) rest) :
    Fn Try.prog cfg 108 [.ptr p 0 0] st (fun v st' _ W => v = .pv (.ifc 36 (.agg (ivP x))) ∧ HAt st' p a l (ivV x :: rest) ∧ Frm st st' [p] ∧ ∀ z ∈ W, z ∈ [p]) := by
  obtain ⟨S, hS⟩ : ∃ y, st.next = y := ⟨_, rfl⟩
  have hp := h.pn
  have ha := h.an
  have hne := h.ne
  have hg := h.gp
  have hga := h.ga
  have hlen := h.len
  have e1 : (l ++ [x]).length = l.length + 1 := by simp
  rw [e1] at hg hlen
  have w1 : IntKind.i64.wrap (((l.length + 1 : Nat) : Int) - 1) = (l.length : Int) := by rw [wrap_id (by omega) (by omega)]; omega
  have hrow : ((l ++ [x]).map ivV ++ rest)[0 + ((l.length : Nat) : Int).toNat]? = some (ivV x) := by
    have e : 0 + ((l.length : Nat) : Int).toNat = l.length := by omega
    rw [e, List.map_append, List.append_assoc, List.getElem?_append_right (by simp)]
    simp
  refine fn_keep (.inr rfl) Try.func108 rfl ?_
  show wc _ _ _ (.ptr p 0 0 :: List.replicate 24 undefV) st _
  (repeat (first | refine w_seq ?_ | refine w_regionL ?_ | refine w_norm ?_ | refine wo_nil ⟨rfl, ?_⟩ | (apply o_bin; (focus exact look_by); (focus exact look_by); (focus first | exact br_subw (w1)); (focus exact rfl)) | ((first | apply o_assign | apply o_move | apply o_nil | apply o_load | apply o_len | apply o_indexAddr | apply o_alloc | apply o_storep) <;> first | refine wo_id ?_ | ((with_reducible apply look_id); (exact look_by); done) | ((with_reducible apply load_id); ((first | (apply ldp; (focus exact get_by); (focus first | exact rfl | assumption))); (first | exact part_sc (by first | exact ag164) rfl | (apply part_agg; (focus first | exact ag36); (focus first | exact sz36); (focus exact rfl); (focus exact rfl)))); done) | ((with_reducible apply cells_id); (exact cells_by); done) | ((with_reducible apply next_id); (exact next_by); done) | ((with_reducible apply get_id); (exact get_by); done) | ((with_reducible apply setAt_id); (exact setat_by); done) | exact lnO164 _ _ _ _ | exact ia_ow (iaO164 _ _ _ _ _) (by omega) (by omega) rfl | exact ze36 | exact sz36 | exact ni36 | (intro a h; cases h) | exact rfl)))
  refine o_slice_ow (by exact look_by) el164 sz36 (by exact look_by) ⟨by omega, by omega⟩ (show ((l.length : Nat) : Int).toNat = l.length by omega) ?_
  (repeat (first | refine w_seq ?_ | refine w_regionL ?_ | refine w_norm ?_ | refine w_ret ?_ | refine wo_nil ⟨rfl, ?_⟩ | ((first | apply o_assign | apply o_nil | apply o_load | apply o_storep | apply o_iface) <;> first | refine wo_id ?_ | ((with_reducible apply look_id); (exact look_by); done) | ((with_reducible apply load_id); ((first | (apply ldp; (focus exact get_by); (focus first | exact rfl))); (first | (apply part_agg; (focus first | exact ag36); (focus first | exact sz36); (focus exact rfl); (focus exact rfl)))); done) | ((with_reducible apply cells_id); (exact cells_by); done) | ((with_reducible apply get_id); (exact get_by); done) | ((with_reducible apply setAt_id); (exact setat_by); done) | exact sz164 | exact ni36 | exact rfl)))
  (apply ends_ret; (focus exact (e_tmp res_nil)))
  refine ⟨_, _, _, leaves_pur (by decide) (by exact fz_by), rfl, ⟨hne, by simp only [St.new, St.set]; omega, by simp only [St.new, St.set]; omega, by exact get_by, ?_, fun y hy => h.wf y (List.mem_append_left _ hy), by omega⟩, by exact frm_by, by (intro z hz; simp [entW] at hz ⊢; first | done | omega | grind)⟩
  have e3 : l.map ivV ++ ivV x :: rest = (l ++ [x]).map ivV ++ rest := by simp
  rw [e3]
  exact get_by
end Go.Proofs.Ytefgpelodpggkaa.Ve
