import Derived.Test.YtefgpelodpggkaaPd
set_option linter.unusedVariables false
set_option linter.unusedSimpArgs false
namespace Go.Proofs.Ytefgpelodpggkaa.Ve
open Go XFlt
set_option maxRecDepth 4000
set_option maxHeartbeats 8000000
/-- An item: its priority's word, its value. -/
abbrev IV := Nat × Int
def ivP (x : IV) : List PV := [.sc (.float .f64 x.1), .sc (.int .i64 x.2)]
def ivV (x : IV) : List V := (ivP x).map .pv
def rIV (x : IV) : List PV := [.sc (.int .u64 x.1), .sc (.int .i64 x.2)]
def ivC (x y : IV) : Int := cmpV x.1 x.2 y.1 y.2
/-- A pile's items in a store. -/
structure HAt (st : St) (p a : Nat) (l : List IV) (rest : List (List V)) : Prop where
  ne : p ≠ a
  pn : p < st.next
  an : a < st.next
  gp : st.get p = some ⟨1, [[.ow a 2 0 l.length]]⟩
  ga : st.get a = some ⟨2, l.map ivV ++ rest⟩
  wf : ∀ x ∈ l, x.1 < 2 ^ 64
  len : l.length < 2 ^ 30
/-- The library's view of them. -/
def itf (p : Nat) : V := .ifc 168 (.ptr p 0 0)
theorem recv_itf {st : St} {p a : Nat} {l : List IV} {rest : List (List V)} (h : HAt st p a l rest) {name : String} {g : FuncId} (hm : methodV Try.prog 168 name = some (g, false)) : recvV Try.prog st 168 (.ptr p 0 0) name = some (g, .ow a 2 0 l.length, [p]) := by
  have h1 : ptrElem Try.prog 168 = some (some 164) := by kernel_rfl
  unfold recvV
  simp only [hm, h1]
  have h2 : loadV Try.prog st 164 (.ptr p 0 0) = some (.ow a 2 0 l.length, [p]) := by
    simp only [loadV, h.gp]
    rfl
  simp only [h2]
  rfl
theorem recv_ptr {st : St} {p : Nat} {name : String} {g : FuncId} (hm : methodV Try.prog 168 name = some (g, true)) : recvV Try.prog st 168 (.ptr p 0 0) name = some (g, .ptr p 0 0, []) := by
  have h1 : ptrElem Try.prog 168 = some (some 164) := by kernel_rfl
  unfold recvV
  simp only [hm, h1]
  rfl
theorem m_len : methodV Try.prog 168 "Len" = some (105, false) := by kernel_rfl
theorem m_less : methodV Try.prog 168 "Less" = some (106, false) := by kernel_rfl
theorem m_swap : methodV Try.prog 168 "Swap" = some (107, false) := by kernel_rfl
theorem m_push : methodV Try.prog 168 "Push" = some (109, true) := by kernel_rfl
theorem m_pop : methodV Try.prog 168 "Pop" = some (108, true) := by kernel_rfl
theorem frz_items {st : St} {p a : Nat} {l : List IV} {rest : List (List V)} (h : HAt st p a l rest) (n : Nat) : frz st (n + 1) (.ow a 2 0 l.length) = some (.fz (l.map ivP), [a]) := by
  have h2 : ((l.map ivV ++ rest).drop 0).take l.length = (l.map ivP).map (·.map .pv) := by
    rw [List.drop_zero, List.take_left' (by simp)]
    simp [ivV]
  have h3 : l.length = (l.map ivP).length := by simp
  have h4 := h.ga
  simp only [frz, h4]
  rw [if_pos (by simp), h2, frzss_pv]
theorem sp_less {l : List IV} {i j : Nat} {x y : IV} (hx : l[i]? = some x) (hy : l[j]? = some y) (wx : x.1 < 2 ^ 64) (wy : y.1 < 2 ^ 64) : pcall (Ew Try.prog cfg) 106 [.fz (l.map ivP), .sc (.int .i64 i), .sc (.int .i64 j)] = some (.pv (.sc (.bool (decide (ivC x y < 0))))) := by
  have r1 : (l.map ivP)[((i : Nat) : Int).toNat]? = some (ivP x) := by
    have e : ((i : Nat) : Int).toNat = i := by omega
    rw [e, List.getElem?_map, hx]
    rfl
  have r2 : (l.map ivP)[((j : Nat) : Int).toNat]? = some (ivP y) := by
    have e : ((j : Nat) : Int).toNat = j := by omega
    rw [e, List.getElem?_map, hy]
    rfl
  have hi := (List.getElem?_eq_some_iff.1 hx).1
  have hj := (List.getElem?_eq_some_iff.1 hy).1
  have hl : (l.map ivP).length = l.length := List.length_map _
  have hc := sp_itemCmp x.1 y.1 x.2 y.2 wx wy
  refine pcall_wc Try.func106 rfl (by decide) ?_ rfl
  show wc _ _ _ (.pv (.fz (l.map ivP)) :: .pv (.sc (.int .i64 i)) :: .pv (.sc (.int .i64 j)) :: List.replicate 14 undefV) _ _
  (repeat (first | refine w_seq ?_ | refine w_regionL ?_ | refine w_norm ?_ | refine w_ret ?_ | refine wo_nil ⟨rfl, ?_⟩ | ((first | apply o_assign | apply o_move | apply o_indexAddr | apply o_load | apply o_bin) <;> first | refine wo_id ?_ | ((with_reducible apply look_id); (exact look_by); done) | ((with_reducible apply bin_id); (exact bin_by); done) | ((with_reducible apply load_id); ((first | apply ldf); (first | (apply part_agg; (focus first | exact ag36); (focus first | exact sz36); (focus exact rfl); (focus exact rfl)))); done) | exact ia_fz (iaF164 _ _) (by omega) (by assumption) rfl | exact rfl) | (apply o_pcall; (focus exact args_by); (focus exact hb97); (focus exact rfl); (focus ((repeat (first | exact frzAll_nil | apply frzAll_pv)); done)); (focus exact hc))))
  (apply ends_ret; (focus exact (e_tmp res_nil)))
  exact ⟨_, by exact fz_by⟩
theorem fn_swap {st : St} {p a : Nat} {l : List IV} {rest : List (List V)} (h : HAt st p a l rest) {i j : Nat} {x y : IV} (hx : l[i]? = some x) (hy : l[j]? = some y) :
    Fn Try.prog cfg 107 [.ow a 2 0 l.length, .pv (.sc (.int .i64 i)), .pv (.sc (.int .i64 j))] st (fun v st' _ W => HAt st' p a ((l.set i y).set j x) rest ∧ Frm st st' [a] ∧ ∀ z ∈ W, z ∈ [a]) := by
  have hi := (List.getElem?_eq_some_iff.1 hx).1
  have hj := (List.getElem?_eq_some_iff.1 hy).1
  have h1 := h.an
  have hg := h.ga
  have r1 : (l.map ivV ++ rest)[0 + ((i : Nat) : Int).toNat]? = some (ivV x) := by
    have e : 0 + ((i : Nat) : Int).toNat = i := by omega
    rw [e, List.getElem?_append_left (by simpa using hi), List.getElem?_map, hx]
    rfl
  have r2 : (l.map ivV ++ rest)[0 + ((j : Nat) : Int).toNat]? = some (ivV y) := by
    have e : 0 + ((j : Nat) : Int).toNat = j := by omega
    rw [e, List.getElem?_append_left (by simpa using hj), List.getElem?_map, hy]
    rfl
  have r3 : ((l.map ivV ++ rest).set (0 + ((i : Nat) : Int).toNat) (ivV y))[0 + ((j : Nat) : Int).toNat]? = some (ivV y) := by
    by_cases e : i = j
    · subst e
      exact List.getElem?_set_self (by simp; omega)
    · rw [List.getElem?_set_ne (by omega)]
      exact r2
  refine fn_keep (.inr rfl) Try.func107 rfl ?_
  show wc _ _ _ (.ow a 2 0 l.length :: .pv (.sc (.int .i64 i)) :: .pv (.sc (.int .i64 j)) :: List.replicate 17 undefV) st _
  (repeat (first | refine w_regionL ?_ | ((first | apply o_move | apply o_indexAddr | apply o_load | apply o_storep) <;> first | refine wo_id ?_ | ((with_reducible apply look_id); (exact look_by); done) | ((with_reducible apply load_id); ((first | (apply ldp; (focus exact get_by); (focus first | assumption))); (first | (apply part_agg; (focus first | exact ag36); (focus first | exact sz36); (focus exact rfl); (focus exact rfl)))); done) | ((with_reducible apply cells_id); (exact cells_by); done) | ((with_reducible apply get_id); (exact get_by); done) | ((with_reducible apply setAt_id); (exact setat_by); done) | exact ia_ow (iaO164 _ _ _ _ _) (by omega) (by omega) rfl | exact sz36 | assumption | exact rfl) | (refine wo_nil ⟨dyn_draw (bs := [0, 0, 0, 0, 0, 0, 0, 1, 0, 0, 0, 1, 0, 3, 0, 3]) ?_ ?_, ?_⟩; (focus ((repeat (first | exact Flags.nil | (apply Flags.cons Flag.dry) | (apply Flags.cons Flag.read) | (apply Flags.cons Flag.free))); done)); (focus decide +kernel))))
  refine ends_norm (vs := []) (R' := []) rfl ?_
  refine ⟨_, _, _, leaves_pur (by decide) (by exact fz_by), ⟨h.ne, by have := h.pn; simpa [St.set] using this, by simpa [St.set] using h1, ?_, ?_, ?_, by simpa using h.len⟩, by exact frm_by, by (intro z hz; simp [entW] at hz ⊢; first | done | omega | grind)⟩
  · rw [List.length_set, List.length_set]
    have := h.ne
    have := h.gp
    exact get_by
  · have e1 : 0 + ((i : Nat) : Int).toNat = i := by omega
    have e2 : 0 + ((j : Nat) : Int).toNat = j := by omega
    have e : ((l.set i y).set j x).map ivV ++ rest = ((l.map ivV ++ rest).set (0 + ((i : Nat) : Int).toNat) (ivV y)).set (0 + ((j : Nat) : Int).toNat) (ivV x) := by
      rw [e1, e2, List.map_set, List.map_set, List.set_append_left _ _ (by simpa using hi), List.set_append_left _ _ (by simpa using hj)]
    rw [e]
    exact get_by
  · intro z hz
    rcases List.mem_or_eq_of_mem_set hz with hz | rfl
    · rcases List.mem_or_eq_of_mem_set hz with hz | rfl
      · exact h.wf z hz
      · exact h.wf _ (List.mem_of_getElem? hy)
    · exact h.wf _ (List.mem_of_getElem? hx)
theorem fn_lenI {st : St} {p a : Nat} {l : List IV} {rest : List (List V)} (h : HAt st p a l rest) : Fn Try.prog cfg 105 [.ow a 2 0 l.length] st (fun v st' _ W => v = .pv (.sc (.int .i64 l.length)) ∧ st' = st ∧ W = []) := by
  refine fn_pureF (ps := [.fz (l.map ivP)]) (ids := [a]) rfl ?_ ?_ rfl ⟨rfl, rfl, rfl⟩
  · exact frzAll_cons (frz_items h 3) frzAll_nil
  · have hl : (l.map ivP).length = l.length := List.length_map _
    refine pcall_wc Try.func105 rfl (by decide) ?_ rfl
    show wc _ _ _ (.pv (.fz (l.map ivP)) :: List.replicate 4 undefV) _ _
    (repeat (first | refine w_seq ?_ | refine w_regionL ?_ | refine w_norm ?_ | refine w_ret ?_ | refine wo_nil ⟨rfl, ?_⟩ | ((first | apply o_assign | apply o_move | apply o_len) <;> first | refine wo_id ?_ | ((with_reducible apply look_id); (exact look_by); done) | exact lnF164 _ | (intro a h; cases h) | exact rfl)))
    (apply ends_ret; (focus exact (e_tmp res_nil)))
    rw [hl]
    exact ⟨_, by exact fz_by⟩
theorem fn_less {st : St} {p a : Nat} {l : List IV} {rest : List (List V)} (h : HAt st p a l rest) {i j : Nat} {x y : IV} (hx : l[i]? = some x) (hy : l[j]? = some y) :
    Fn Try.prog cfg 106 [.ow a 2 0 l.length, .pv (.sc (.int .i64 i)), .pv (.sc (.int .i64 j))] st (fun v st' _ W => v = .pv (.sc (.bool (decide (ivC x y < 0)))) ∧ st' = st ∧ W = []) := by
  refine fn_pureF (ps := [.fz (l.map ivP), .sc (.int .i64 i), .sc (.int .i64 j)]) (ids := [a]) rfl ?_ (sp_less hx hy (h.wf _ (List.mem_of_getElem? hx)) (h.wf _ (List.mem_of_getElem? hy))) rfl ⟨rfl, rfl, rfl⟩
  exact frzAll_cons (frz_items h 3) (frzAll_pv (frzAll_pv frzAll_nil))
end Go.Proofs.Ytefgpelodpggkaa.Ve
