import Derived.Test.YtnolgpagdjcjbaaVeV
/-! Lemmas beside the rules: freezing. -/
set_option linter.unusedVariables false
set_option linter.unusedSimpArgs false
namespace Go.Proofs.Ytnolgpagdjcjbaa.Ve
open Go
-- freezing --------------------------------------------------------------------
theorem frz_pv {st : St} {n : Nat} {p : PV} : frz st n (.pv p) = some (p, []) := by cases n <;> rfl
theorem frz_nl {st : St} {n : Nat} : frz st n .nl = some (.fz [], []) := by cases n <;> rfl
theorem frzs_nil {f : V → Option (PV × List Nat)} : frz.frzs f [] = some ([], []) := rfl
theorem frzs_cons {f : V → Option (PV × List Nat)} {v : V} {vs : List V} {p : PV} {ps : List PV} {i1 i2 : List Nat} (h1 : f v = some (p, i1)) (h2 : frz.frzs f vs = some (ps, i2)) : frz.frzs f (v :: vs) = some (p :: ps, i1 ++ i2) := by simp only [frz.frzs, h1, h2]
theorem frzs_pv1 {st : St} {n : Nat} {p : PV} {vs : List V} {ps : List PV} {ids : List Nat} (h : frz.frzs (frz st n) vs = some (ps, ids)) : frz.frzs (frz st n) (.pv p :: vs) = some (p :: ps, ids) := by
  have := frzs_cons (f := frz st n) (v := .pv p) frz_pv h
  simpa using this
theorem frzs_nl1 {st : St} {n : Nat} {vs : List V} {ps : List PV} {ids : List Nat} (h : frz.frzs (frz st n) vs = some (ps, ids)) : frz.frzs (frz st n) (.nl :: vs) = some (.fz [] :: ps, ids) := by
  have := frzs_cons (f := frz st n) (v := .nl) frz_nl h
  simpa using this
theorem frzs_pv {st : St} {n : Nat} : ∀ (ps : List PV), frz.frzs (frz st n) (ps.map .pv) = some (ps, [])
  | [] => rfl
  | p :: ps => by
    have := frzs_cons (f := frz st n) (v := .pv p) frz_pv (frzs_pv ps)
    simpa using this
theorem frzss_pv {st : St} {n : Nat} : ∀ (rows : List (List PV)), frz.frzss (frz st n) (rows.map (·.map .pv)) = some (rows, [])
  | [] => rfl
  | r :: rs => by simp only [List.map_cons, frz.frzss, frzs_pv, frzss_pv rs, List.append_nil]
theorem frz_own {st : St} {n i s len : Nat} {rs : List (List V)} {rows : List (List PV)} (h : st.get i = some ⟨s, rs⟩) (hr : rs = rows.map (·.map .pv)) (hl : len = rows.length) : frz st (n + 1) (.ow i s 0 len) = some (.fz rows, [i]) := by
  subst hr hl
  have e : List.take rows.length (rows.map fun r => r.map V.pv) = rows.map fun r => r.map V.pv := List.take_of_length_le (by simp)
  simp [frz, h, e, frzss_pv]
theorem frz_agg {st : St} {n : Nat} {cs : List V} {ps : List PV} {ids : List Nat} (h : frz.frzs (frz st n) cs = some (ps, ids)) : frz st (n + 1) (.agg cs) = some (.agg ps, ids) := by simp only [frz, h]
theorem frzAll_cons {st : St} {v : V} {vs : List V} {p : PV} {ps : List PV} {i1 i2 : List Nat} (h1 : frz st 4 v = some (p, i1)) (h2 : frzAll st vs = some (ps, i2)) : frzAll st (v :: vs) = some (p :: ps, i1 ++ i2) := by simp only [frzAll, h1, h2]
theorem frzRes_pv {st : St} {p : PV} : frzRes st (.pv p) = some (.pv p, []) := rfl
theorem frzRes_nl {st : St} : frzRes st .nl = some (.pv (.fz []), []) := rfl
theorem frzRes_agg {st : St} {cs : List V} {p : PV} {ids : List Nat} (h : frz st 4 (.agg cs) = some (p, ids)) : frzRes st (.agg cs) = some (.pv p, ids) := by simp only [frzRes, h]
theorem frzRes_ow {st : St} {i s r n : Nat} {p : PV} {ids : List Nat} (h : frz st 4 (.ow i s r n) = some (p, ids)) : frzRes st (.ow i s r n) = some (.pv p, ids) := by simp only [frzRes, h]
theorem frzRes_tup {st : St} {vs : List V} {ps : List PV} {ids : List Nat} {v : V} (h : frzAll st vs = some (ps, ids)) (hv : v = .tup (ps.map .pv)) : frzRes st (.tup vs) = some (v, ids) := by simp only [frzRes, h, hv]

theorem SlE.frm {st st' : St} {sz : Nat} {v : V} {rows : List (List V)} {I K : List Nat} (h : SlE st sz v rows I) (hf : Frm st st' K) (hI : ∀ x ∈ I, x ∉ K) : SlE st' sz v rows I := h.move hf.next fun x hx => hf.get x (h.lt x hx) (hI x hx)
theorem get_new_hitE {st : St} {o o' : SO} {i : Nat} (h : st.next = i) (ho : o = o') : (st.new o).get i = some o' := ho ▸ get_new_hit h
theorem get_set_hitE {st : St} {o o' : SO} {i : Nat} (ho : o = o') : (st.set i o).get i = some o' := ho ▸ get_set_hit
theorem leaves_pur {pol : Pol} {st0 st : St} {v v' : V} (h : pol ≠ .keep) (hf : frzRes st v = some (v', [])) : Leaves pol st0 v st v' st [] := Leaves.frz h v' [] hf
-- rules that take one answer of two ---------------------------------------------
section
variable {P : Program} {C : Cfg} {ds : List (Option Tmp)} {os : List Oper} {tm : List V} {st : St} {K : List V → St → List Ent → Prop} {Q : QPost}
theorem wo_id (h : wo P C ds os tm st K) : wo P C ds os tm st K := h
theorem wc_id {c : Code} (h : wc P C c tm st Q) : wc P C c tm st Q := h
theorem ldp {t : TypeId} {i r off : Nat} {so : SO} {row : List V} {v : V} (hg : st.get i = some so) (hr : so.rows[r]? = some row) (hp : partV P t row off = some v) : loadV P st t (.ptr i r off) = some (v, [i]) := by simp only [loadV, hg, hr, hp]
theorem ldf {t : TypeId} {cs : List PV} {v : V} (hp : partV P t (cs.map .pv) 0 = some v) : loadV P st t (.fe cs) = some (v, []) := by simp only [loadV, hp]
theorem b_cond {c : Operand} {a b : Code} {t u : Bool} (hc : envOf tm c = some (.pv (.sc (.bool t)))) (ht : t = u) (h : wc P C (bif u then a else b) tm st Q) : wc P C (.cond c a b) tm st Q := by
  subst ht
  cases t with
  | true => exact w_cond_t hc rfl h
  | false => exact w_cond_f hc rfl h
theorem b_pick {d : Tmp} {ty : TypeId} {pos : String} {af : Array Edge} {c x y : Operand} {t u : Bool} {v : V} (hc : envOf tm c = some (.pv (.sc (.bool t)))) (ht : t = u) (hx : envOf tm (bif u then x else y) = some v) (h : wo P C ds os (put tm d v) st fun tm' st'' l => K tm' st'' (⟨st, st, [], [], v⟩ :: l)) : wo P C ds (⟨some d, .pick c x y, ty, pos, af, none⟩ :: os) tm st K := by
  subst ht
  cases t with
  | true => exact o_pick_t hc rfl hx h
  | false => exact o_pick_f hc rfl hx h
/-- Behind a guard: the operation, or nothing. -/
theorem b_in {d : Option Tmp} {op : Go.Op} {ty : TypeId} {pos : String} {af : Array Edge} {j : Nat} {want t u : Bool} (hy : vyieldL ds tm j = some t) (ht : t = u) (hu : u = want) (h : wo P C ds (⟨d, op, ty, pos, af, none⟩ :: os) tm st K) : wo P C ds (⟨d, op, ty, pos, af, some (j, want)⟩ :: os) tm st K := g_in hy (ht.trans hu) h
theorem b_out {d : Tmp} {op : Go.Op} {ty : TypeId} {pos : String} {af : Array Edge} {j : Nat} {want t u : Bool} (hy : vyieldL ds tm j = some t) (ht : t = u) (hu : u = !want) (h : wo P C ds os (put tm d undefV) st fun tm' st'' l => K tm' st'' (⟨st, st, [], [], undefV⟩ :: l)) : wo P C ds (⟨some d, op, ty, pos, af, some (j, want)⟩ :: os) tm st K := g_out hy (ht.trans hu) h
theorem cells_id {v : V} {cs : List V} (h : v.cells = cs) : v.cells = cs := h
theorem next_id {st : St} {n : Nat} (h : st.next = n) : st.next = n := h
theorem setAt_id {cs xs r : List V} {n : Nat} (h : setAt cs n xs = r) : setAt cs n xs = r := h
theorem get_id {st : St} {i : Nat} {r : Option SO} (h : st.get i = r) : st.get i = r := h
theorem parts_id {env : Operand → Option V} {l : List (Nat × Operand)} {r : Option (List (Nat × V))} (h : envParts env l = r) : envParts env l = r := h
theorem args_id {env : Operand → Option V} {l : List Operand} {r : Option (List V)} (h : envAll env l = r) : envAll env l = r := h
theorem yield_id {ds : List (Option Tmp)} {tm : List V} {j : Nat} {r : Option Bool} (h : vyieldL ds tm j = r) : vyieldL ds tm j = r := h
theorem load_id {P : Program} {st : St} {t : TypeId} {p : V} {r : Option (V × List Nat)} (h : loadV P st t p = r) : loadV P st t p = r := h
theorem bin_id {P : Program} {op : BinOp} {t : TypeId} {x y : Operand} {a b : Value} {r : Option Value} (h : binRun P op t x y a b = r) : binRun P op t x y a b = r := h
theorem look_id {tm : List V} {x : Operand} {r : Option V} (h : envOf tm x = r) : envOf tm x = r := h
theorem ut {t : Bool} (h : t = true) : t = true := h
theorem uf {t : Bool} (h : t = false) : t = false := h
theorem tt : true = true := rfl
theorem ff : false = false := rfl
end
-- places of a slice ---------------------------------------------------------------
theorem ia_fz {P : Program} {t : TypeId} {rows : List (List PV)} {k : Int} {row : List PV} {n : Nat} (hf : indexAddrV P t (.pv (.fz rows)) k = (if 0 ≤ k then match rows[k.toNat]? with | some row => if row.length = n then some (.fe row) else none | none => none else none)) (hk : 0 ≤ k) (hr : rows[k.toNat]? = some row) (hl : row.length = n) : indexAddrV P t (.pv (.fz rows)) k = some (.fe row) := by
  rw [hf, if_pos hk, hr]
  simp only [hl, if_true]
theorem ia_ow {P : Program} {t : TypeId} {i s r len n : Nat} {k : Int} (hf : indexAddrV P t (.ow i s r len) k = (if 0 ≤ k ∧ k < len ∧ s = n then some (.ptr i (r + k.toNat) 0) else none)) (h0 : 0 ≤ k) (h1 : k < len) (hs : s = n) : indexAddrV P t (.ow i s r len) k = some (.ptr i (r + k.toNat) 0) := by
  rw [hf, if_pos ⟨h0, h1, hs⟩]
end Go.Proofs.Ytnolgpagdjcjbaa.Ve
