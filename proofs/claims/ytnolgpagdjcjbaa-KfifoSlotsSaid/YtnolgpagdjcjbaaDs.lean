import Derived.Test.YtnolgpagdjcjbaaSa
set_option linter.unusedVariables false
set_option linter.unusedSimpArgs false
namespace Go.Proofs.Ytnolgpagdjcjbaa.Ve
open Go
set_option maxRecDepth 4000
/-- A thread: how many of its operations were begun; is one under way, and how far; which call it is. -/
structure TH where
  at_ : Nat
  on : Bool
  f : RF
  call : Nat
/-- A call. -/
structure CL where
  th : Nat
  o : Opd
  beg : Nat
  en : Int
  an : An
def gCall (c : CL) : List PV := .sc (.int .i64 c.th) :: (gOp c.o ++ [.sc (.int .i64 c.beg), .sc (.int .i64 c.en)] ++ gAn c.an)
def cRow (c : CL) : List V := (gCall c).map .pv
/-- A run. -/
structure DS where
  ps : Pts
  T : List TH
  C : List CL
  n : Nat
def an00 : An := ⟨false, ⟨0, 0⟩, 0⟩
def th0 : TH := ⟨0, false, toldF ⟨0, ⟨0, 0⟩, 0, 0⟩, 0⟩
def ds0 (n : Nat) : DS := ⟨[], List.replicate n th0, [], 0⟩
abbrev StepR := Pts → RF → Pts × RF × An × Bool
/-- A thread is picked: it has an operation under way, or begins one. -/
def dbeg (own : Rw → Opd) (ops : List (List Rw)) (D : DS) (k : Nat) : Option DS :=
  match D.T[k]?, ops[k]? with
  | some t, some l =>
    if t.on = true then some D
    else if t.at_ < 8 then
      match l[t.at_]? with
      | some x => some { D with T := D.T.set k ⟨t.at_ + 1, true, toldF (own x), D.C.length⟩, C := D.C ++ [⟨k, own x, D.n, -1, an00⟩] }
      | none => none
    else none
  | _, _ => none
def endC (C : List CL) (i : Nat) (n : Nat) (a : An) : List CL := match C[i]? with
  | some c => C.set i { c with en := n, an := a }
  | none => C
/-- A thread's step. -/
def dmov (rs : StepR) (D : DS) (k : Nat) : DS := match D.T[k]? with
  | some t =>
    if (rs D.ps t.f).2.2.2 = true then ⟨(rs D.ps t.f).1, D.T.set k { t with on := false }, endC D.C t.call D.n (rs D.ps t.f).2.2.1, D.n + 1⟩
    else ⟨(rs D.ps t.f).1, D.T.set k { t with f := (rs D.ps t.f).2.1 }, D.C, D.n + 1⟩
  | none => D
def dstep (own : Rw → Opd) (rs : StepR) (ops : List (List Rw)) (D : DS) (p : Int) : DS :=
  if ops.length = 0 then D else match dbeg own ops D (into p ops.length).toNat with
  | some D' => dmov rs D' (into p ops.length).toNat
  | none => D
def drun (own : Rw → Opd) (rs : StepR) (ops : List (List Rw)) (picks : List Int) (D : DS) : DS := picks.foldl (dstep own rs ops) D
theorem drun_snoc {own : Rw → Opd} {rs : StepR} {ops : List (List Rw)} {picks : List Int} {i : Nat} {p : Int} {D : DS} (h : picks[i]? = some p) : drun own rs ops (picks.take (i + 1)) D = dstep own rs ops (drun own rs ops (picks.take i) D) p := by
  rw [take_snoc h]
  unfold drun
  rw [List.foldl_append]
  rfl
/-- Rows that tell of each thread. -/
def RowsAre (rows : List (List V)) (T : List TH) (g : Nat → TH → List V → Prop) : Prop :=
  rows.length = T.length ∧ ∀ k t, T[k]? = some t → ∃ r, rows[k]? = some r ∧ g k t r
theorem RowsAre.set {rows : List (List V)} {T : List TH} {g : Nat → TH → List V → Prop} (h : RowsAre rows T g) {k : Nat} {t : TH} {r : List V} (hg : g k t r) : RowsAre (rows.set k r) (T.set k t) g := by
  refine ⟨by rw [List.length_set, List.length_set]; exact h.1, fun j u hu => ?_⟩
  by_cases e : k = j
  · subst e
    have hk : k < (T.set k t).length := (List.getElem?_eq_some_iff.1 hu).1
    rw [List.length_set] at hk
    rw [List.getElem?_set_self hk] at hu
    cases hu
    exact ⟨r, List.getElem?_set_self (by rw [h.1]; exact hk), hg⟩
  · rw [List.getElem?_set_ne e] at hu
    rw [List.getElem?_set_ne e]
    exact h.2 j u hu
theorem RowsAre.keep {rows : List (List V)} {T : List TH} {g : Nat → TH → List V → Prop} (h : RowsAre rows T g) {k : Nat} {t : TH} (hg : ∀ u r, T[k]? = some u → g k u r → g k t r) : RowsAre rows (T.set k t) g := by
  refine ⟨by rw [List.length_set]; exact h.1, fun j u hu => ?_⟩
  by_cases e : k = j
  · subst e
    have hk : k < (T.set k t).length := (List.getElem?_eq_some_iff.1 hu).1
    rw [List.length_set] at hk
    rw [List.getElem?_set_self hk] at hu
    cases hu
    obtain ⟨r, h1, h2⟩ := h.2 k _ (List.getElem?_eq_getElem hk)
    exact ⟨r, h1, hg _ _ (List.getElem?_eq_getElem hk) h2⟩
  · rw [List.getElem?_set_ne e] at hu
    exact h.2 j u hu
theorem RowsAre.mono {rows : List (List V)} {T : List TH} {g g' : Nat → TH → List V → Prop} (h : RowsAre rows T g) (hg : ∀ k t r, T[k]? = some t → g k t r → g' k t r) : RowsAre rows T g' :=
  ⟨h.1, fun k t ht => by
    obtain ⟨r, h1, h2⟩ := h.2 k t ht
    exact ⟨r, h1, hg k t r ht h2⟩⟩
theorem RowsAre.zero {n : Nat} {r : List V} {g : Nat → TH → List V → Prop} (hg : ∀ k, g k th0 r) : RowsAre (List.replicate n r) (List.replicate n th0) g := by
  refine ⟨by simp, fun k t ht => ?_⟩
  rw [List.getElem?_replicate] at ht ⊢
  split at ht
  · rename_i h
    cases ht
    exact ⟨r, by rw [if_pos h], hg k⟩
  · cases ht
section
variable {P : Program} {C : Cfg} {ds : List (Option Tmp)} {os : List Oper} {tm : List V} {st : St} {K : List V → St → List Ent → Prop} {d : Tmp} {ty : TypeId} {pos : String} {af : Array Edge} {x y : Operand} {t e t' : TypeId}
theorem bp_nils (h : P.underlying t = some (.pointer e)) : binRun P .eql t x y (.pointer none) (.pointer none) = some (.bool true) := by
  obtain ⟨n, hn⟩ : ∃ n, Op.maxDepth = n + 1 := ⟨9999, rfl⟩
  delta binRun
  simp only [pureRun_bind, eqGuard, binOp, Op.equal, hn]
  simp [Op.equalIn, pureRun_bind, pureRun_under h, pureRun, pure]
theorem o_eqlN {p : V} {b : Bool} (hx : envOf tm x = some p) (hy : envOf tm y = some (.pv (.sc (.pointer none)))) (hp : (p = .pv (.sc (.pointer none)) ∧ b = true) ∨ ((∃ i r o, p = .ptr i r o) ∧ b = false)) (hu : P.underlying t = some (.pointer e))
    (h : wo P C ds os (put tm d (.pv (.sc (.bool b)))) st fun tm' st'' l => K tm' st'' (⟨st, st, [], [], .pv (.sc (.bool b))⟩ :: l)) : wo P C ds (⟨some d, .binOp .eql t x y t', ty, pos, af, none⟩ :: os) tm st K := by
  rcases hp with ⟨rfl, rfl⟩ | ⟨⟨i, r, o, rfl⟩, rfl⟩
  · exact o_bin hx hy (bp_nils hu) rfl h
  · have e0 : put tm d (.pv (.sc (.bool false))) = setTm tm (some d) (.pv (.sc (.bool false))) := by
      delta put
      rfl
    rw [e0] at h
    refine wo_cons (v := .pv (.sc (.bool false))) (st' := st) (R := []) (W := []) rfl ?_ h
    simp [vexec, vop, binPlain, hx, hy, V.val?, eqV, hu, one]
theorem o_slice_fz {rows rows' : List (List PV)} {k : IntKind} {h : Int} {hi : Operand} {sz : Nat} (hx : envOf tm x = some (.pv (.fz rows))) (he : sliceElem P t = some e) (hz : tySize P e = some sz) (hh : envOf tm hi = some (.pv (.sc (.int k h)))) (hb : 0 ≤ h ∧ h ≤ rows.length) (hr : rows.take h.toNat = rows')
    (hk : wo P C ds os (put tm d (.pv (.fz rows'))) st fun tm' st'' l => K tm' st'' (⟨st, st, [], [], .pv (.fz rows')⟩ :: l)) : wo P C ds (⟨some d, .slice t x none (some hi) none, ty, pos, af, none⟩ :: os) tm st K := by
  refine o_slice hx (fun a h => by cases h) ?_ hk
  simp only [sliceV, he, hz, boundV, hh, asInt?]
  rw [if_pos ⟨Int.le_refl 0, hb.1, hb.2, .inl rfl⟩, hr]
  rfl
end
end Go.Proofs.Ytnolgpagdjcjbaa.Ve
