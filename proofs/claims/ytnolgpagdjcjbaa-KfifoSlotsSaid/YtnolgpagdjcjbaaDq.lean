import Derived.Test.YtnolgpagdjcjbaaDs
set_option linter.unusedVariables false
set_option linter.unusedSimpArgs false
namespace Go.Proofs.Ytnolgpagdjcjbaa.Ve
open Go
set_option maxRecDepth 4000
set_option maxHeartbeats 8000000
def rOps (ops : List (List Rw)) : List (List PV) := ops.map fun l => [.fz (l.map rRw)]
def iR (x : Int) : List PV := [.sc (.int .i64 x)]
/-- What stands around a Drive: the machine, the document's step, who looks on. -/
structure Around (kind : Int) (own : Rw → Opd) (rv : V) (g : FuncId) (z : V) (rs : StepR) (FR : List V → RF → Prop) (Ok : Pts → RF → Prop) (ops : List (List Rw)) (gN : FuncId) (cN : List V) (KN : List Nat) (JN : St → Prop) (gS : FuncId) (cS : List V) (J : St → List Nat → DS → Prop) (Inv : DS → Prop) : Prop where
  owns : ∀ x, RwOk x → pcall (Ew Try.prog cfg) 17 [.sc (.int .i64 kind), .agg (rRw x)] = some (.pv (.agg (gOp (own x))))
  tolds : ∀ x, RwOk x → pcall (Ew Try.prog cfg) 72 [.sc (.int .i64 kind), .agg (rRw x)] = some (.pv (.agg (rRF (toldF (own x)))))
  mach : Mach rv g z rs FR Ok
  nilS : nilCheckV Try.prog (.fn (.method "Step") [rv] []) = some (.fn (.method "Step") [rv] [])
  fr0 : ∀ o : Opd, FR (pRow o.it.pri (toldF o) .nl .nl) (toldF o)
  bN : hasBody Try.prog gN = true
  next : ∀ st, JN st → ∀ ps f, Ok ps f → Wf ps → ∀ xv : V, (xv = .pv (rMem ps) ∨ xv = .agg [.nl] ∧ ps = []) → Fn Try.prog cfg gN (xv :: .pv (.agg (rRF f)) :: cN) st (fun v st' _ _ => v = .tup [.pv (rMem (rs ps f).1), .pv (.agg (rRF (rs ps f).2.1)), .pv (.agg (rAn (rs ps f).2.2.1)), .pv (.sc (.bool (rs ps f).2.2.2))] ∧ Frm st st' [])
  keepN : ∀ st st' F, JN st → Frm st st' F → (∀ x ∈ KN, x ∉ F) → JN st'
  ltN : ∀ st, JN st → ∀ x ∈ KN, x < st.next
  bS : hasBody Try.prog gS = true
  see : ∀ st K D k D' m I c Jc, D.n < 200 → Inv D → dbeg own ops D k = some D' → J st K D → MemAt st m I (dmov rs D' k).ps → SlE st 12 c ((dmov rs D' k).C.map cRow) Jc → (∀ x ∈ K, x ≠ m ∧ x ∉ I ∧ x ∉ Jc) →
    Fn Try.prog cfg gS (.agg [.ptr m 0 0, .pv (.fz ((dmov rs D' k).ps.map rPt)), c, .pv (.sc (.int .i64 (dmov rs D' k).n))] :: .pv (.sc (.bool (decide (∃ t, D'.T[k]? = some t ∧ (rs D'.ps t.f).2.2.2 = true)))) :: cS) st (fun v st' _ _ => v = .pv (.sc (.bool true)) ∧ ∃ K', J st' K' (dmov rs D' k) ∧ Frm st st' K ∧ ∀ x ∈ K', x ∈ K ∨ st.next ≤ x)
  keepS : ∀ st st' F K D, J st K D → Frm st st' F → (∀ x ∈ K, x ∉ F) → J st' K D
  ltS : ∀ st K D, J st K D → ∀ x ∈ K, x < st.next
  inv : ∀ D k D', D.n < 200 → Inv D → dbeg own ops D k = some D' → (∀ t, D'.T[k]? = some t → Ok D'.ps t.f) ∧ Inv (dmov rs D' k)
def zT : List V := [.pv (.sc (.int .i64 0)), .pv (.sc (.int .u64 0)), .pv (.sc (.int .i64 0)), .pv (.sc (.int .i64 0)), .pv (.sc (.int .i64 0)), .pv (.sc (.int .i64 0)), .pv (.sc (.int .i64 0)), .pv (.sc (.int .i64 0)), .pv (.sc (.int .i64 0)), .pv (.sc (.int .i64 0)), .pv (.sc (.bool false)), .pv (.sc (.int .i64 0)), .pv (.sc (.int .i64 0)), .pv (.sc (.int .i64 0)), .nl, .pv (.sc (.int .i64 0)), .nl]
def nilP : V := .pv (.sc (.pointer none))
/-- What holds ahead of each pick. -/
structure DrI (n nx N m : Nat) (st0 : St) (K0 : List Nat) (FR : List V → RF → Prop) (JN : St → Prop) (J : St → List Nat → DS → Prop) (Inv : DS → Prop) (s : St) (D : DS) (I Jc K : List Nat) (x c : V) (fr : Nat → Nat) (rA rO rT rC : List (List V)) : Prop where
  run : s.get N = some ⟨4, [[.ptr m 0 0, x, c, .pv (.sc (.int .i64 D.n))]]⟩
  res : s.get nx = some ⟨4, [[nilP, .nl, .nl, .pv (.sc (.int .i64 0))]]⟩
  gA : s.get (N + 1) = some ⟨1, rA⟩
  gO : s.get (N + 1 + 1) = some ⟨1, rO⟩
  gT : s.get (N + 1 + 1 + 1) = some ⟨17, rT⟩
  gC : s.get (N + 1 + 1 + 1 + 1) = some ⟨1, rC⟩
  lx : Lx x (D.ps.map rPt)
  mem : MemAt s m I D.ps
  calls : SlE s 12 c (D.C.map cRow) Jc
  tl : D.T.length = n
  aA : RowsAre rA D.T (fun _ t r => r = [.pv (.sc (.int .i64 t.at_))])
  aO : RowsAre rO D.T (fun k t r => r = [if t.on = true then .ptr (fr k) 0 0 else nilP])
  aT : RowsAre rT D.T (fun _ t r => r.length = 17 ∧ (t.on = true → r = (rRF t.f).map .pv))
  aC : RowsAre rC D.T (fun _ t r => ∃ j : Int, r = [.pv (.sc (.int .i64 j))] ∧ (t.on = true → j = t.call))
  call : ∀ (k : Nat) (t : TH), D.T[k]? = some t → t.on = true → t.call < D.C.length
  at8 : ∀ (k : Nat) (t : TH), D.T[k]? = some t → t.at_ ≤ 8
  frm : ∀ (k : Nat) (t : TH), D.T[k]? = some t → t.on = true → ∃ row, s.get (fr k) = some ⟨17, [row]⟩ ∧ FR row t.f ∧ N + 4 < fr k ∧ fr k < s.next ∧ fr k ∉ I ∧ fr k ∉ Jc ∧ fr k ∉ K
  frd : ∀ (k k' : Nat) (t t' : TH), D.T[k]? = some t → D.T[k']? = some t' → t.on = true → t'.on = true → fr k = fr k' → k = k'
  iI : ∀ y ∈ I, N + 4 < y
  iJ : ∀ y ∈ Jc, N + 4 < y ∧ y ∉ I
  iK : ∀ y ∈ K, (y < nx ∨ N + 4 < y) ∧ y ∉ I ∧ y ∉ Jc
  kk : ∀ y ∈ K, y ∈ K0 ∨ nx ≤ y
  jk : J s K D
  jn : JN s
  inv : Inv D
  keep : Frm st0 s K0
  nxt : N + 4 < s.next
  cl : D.C.length ≤ D.n + 1
theorem rep_th {n k : Nat} {t : TH} (h : (List.replicate n th0)[k]? = some t) : t = th0 := by
  rw [List.getElem?_replicate] at h
  split at h
  · exact (Option.some.inj h).symm
  · cases h
theorem Lx.cell1 {x : V} {rows : List (List PV)} (h : Lx x rows) : x.cell1 = true := by
  rcases h with rfl | ⟨rfl, -⟩ <;> rfl
theorem Lx.norm {x : V} {rows : List (List PV)} (h : Lx x rows) : x.norm = .pv (.fz rows) := by
  rcases h with rfl | ⟨rfl, rfl⟩ <;> simp [V.norm]
/-- The calls, as a run that is over keeps them. -/
def CallsV (st : St) (c : V) (C : List CL) (Jc : List Nat) : Prop := (c = .pv (.fz []) ∧ C = []) ∨ SlE st 12 c (C.map cRow) Jc
theorem callsV_norm {st : St} {c : V} {C : List CL} {Jc : List Nat} (h : SlE st 12 c (C.map cRow) Jc) : CallsV st c.norm C Jc := by
  rcases h with ⟨rfl, h, -⟩ | ⟨i, rfl, h⟩
  · exact .inl ⟨by simp [V.norm], List.map_eq_nil_iff.1 h⟩
  · exact .inr (.inr ⟨i, by simp [V.norm], h⟩)
theorem norm_run {m : Nat} {x c n : V} (hn : n.norm = n) : V.norm (resOne [mkAgg [.ptr m 0 0, x, c, n], .pv (.sc (.bool true))]) = .tup [.agg [.ptr m 0 0, x.norm, c.norm, n], .pv (.sc (.bool true))] := by
  simp [resOne, V.norm, V.norm.V.norms, mkAgg, allPv, hn]
theorem len17 {α : Type} {r : List α} (h : r.length = 17) : ∃ a0 a1 a2 a3 a4 a5 a6 a7 a8 a9 a10 a11 a12 a13 a14 a15 a16, r = [a0, a1, a2, a3, a4, a5, a6, a7, a8, a9, a10, a11, a12, a13, a14, a15, a16] := by
  match r, h with
  | [a0, a1, a2, a3, a4, a5, a6, a7, a8, a9, a10, a11, a12, a13, a14, a15, a16], _ => exact ⟨_, _, _, _, _, _, _, _, _, _, _, _, _, _, _, _, _, rfl⟩
def starts (n : Nat) : Code → Bool
  | .region i _ _ => Nat.beq i n
  | _ => false
/-- The code from a region on. -/
def codeAt (n : Nat) : Code → Option Code
  | .seq a b => bif starts n a then some (.seq a b) else match codeAt n a with
    | some c => some c
    | none => codeAt n b
  | .region i o d => bif Nat.beq i n then some (.region i o d) else none
  | .cond _ a b => match codeAt n a with
    | some c => some c
    | none => codeAt n b
  | .block _ c => codeAt n c
  | .loop c => codeAt n c
  | .scope c => codeAt n c
  | _ => none
theorem w_at {P : Program} {C : Cfg} {c c' : Code} {o : Option Code} {tm : List V} {st : St} {Q : QPost} (hc : o = some c) (h : o = some c') (hw : wc P C c' tm st Q) : wc P C c tm st Q := by
  rw [h] at hc
  cases hc
  exact hw
end Go.Proofs.Ytnolgpagdjcjbaa.Ve
