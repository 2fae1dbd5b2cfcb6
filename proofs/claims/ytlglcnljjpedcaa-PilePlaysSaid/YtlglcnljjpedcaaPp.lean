import Derived.Test.YtlglcnljjpedcaaHq
import Derived.Test.YtlglcnljjpedcaaHl
set_option linter.unusedVariables false
set_option linter.unusedSimpArgs false
namespace Go.Proofs.Ytlglcnljjpedcaa.Ve
open Go XFlt
set_option maxRecDepth 4000
set_option maxHeartbeats 8000000
theorem br_andw {P : Program} {t : TypeId} {x y : Operand} {k : IntKind} {a b c : Int} (h : k.wrap (BitVec.ofInt k.bits a &&& BitVec.ofInt k.bits b).toNat = c) : binRun P .and t x y (.int k a) (.int k b) = some (.int k c) := by rw [← h]; exact br_and
def starts (n : Nat) : Code → Bool
  | .region i _ _ => Nat.beq i n
  | _ => false
/-- The code from a region on. -/
def codeAt (n : Nat) : Code → Option Code
  | .seq a b => bif starts n a then some (.seq a b) else match codeAt n a with
    | some c => some c
    | none => codeAt n b
  | .region i o d => bif Nat.beq i n then some (.region i o d) else none
  | .cond _ a b => match codeAt n a with
    | some c => some c
    | none => codeAt n b
  | .block _ c => codeAt n c
  | .loop c => codeAt n c
  | .scope c => codeAt n c
  | _ => none
theorem w_at {P : Program} {C : Cfg} {c c' : Code} {o : Option Code} {tm : List V} {st : St} {Q : QPost} (hc : o = some c) (h : o = some c') (hw : wc P C c' tm st Q) : wc P C c tm st Q := by
  rw [h] at hc
  cases hc
  exact hw
theorem len_put {tm : List V} {i n : Nat} {v : V} (h : tm.length = n) : (put tm i v).length = n := by
  unfold put
  rw [List.length_set]
  exact h
theorem mask1 (v : Int) (hv : -(2 ^ 63) ≤ v ∧ v < 2 ^ 63) : IntKind.i64.wrap (BitVec.ofInt IntKind.i64.bits v &&& BitVec.ofInt IntKind.i64.bits 1).toNat = v % 2 := by
  have h1 : (BitVec.ofInt IntKind.i64.bits v &&& BitVec.ofInt IntKind.i64.bits 1).toNat = (v % 2).toNat := by
    rw [BitVec.toNat_and, BitVec.toNat_ofInt, BitVec.toNat_ofInt]
    have hb : ((2 ^ IntKind.i64.bits : Nat) : Int) = 18446744073709551616 := rfl
    rw [hb]
    have e1 : ((1 : Int) % 18446744073709551616).toNat = 2 ^ 1 - 1 := by decide
    rw [e1, Nat.and_two_pow_sub_one_eq_mod]
    omega
  rw [h1, wrap_id (by omega) (by omega)]
  omega
section
variable {P : Program} {C : Cfg} {ds : List (Option Tmp)} {os : List Oper} {tm : List V} {st : St} {K : List V → St → List Ent → Prop} {d : Tmp} {ty : TypeId} {pos : String} {af : Array Edge} {x : Operand} {t e : TypeId}
/-- A list from a place on. -/
theorem p_drop_fz {rows rows' : List (List PV)} {k : IntKind} {sz : Nat} {y : Operand} {n : Int} (hx : envOf tm x = some (.pv (.fz rows))) (he : sliceElem P t = some e) (hz : tySize P e = some sz) (hy : envOf tm y = some (.pv (.sc (.int k n)))) (hn : 0 ≤ n ∧ n ≤ rows.length) (hr : (rows.all (·.length == sz)) = true) (hd : rows.drop n.toNat = rows')
    (hk : wo P C ds os (put tm d (.pv (.fz rows'))) st fun tm' st'' l => K tm' st'' (⟨st, st, [], [], .pv (.fz rows')⟩ :: l)) : wo P C ds (⟨some d, .slice t x (some y) none none, ty, pos, af, none⟩ :: os) tm st K := by
  refine o_slice hx (fun a h => by cases h) ?_ hk
  have e1 : boundV (envOf tm) (0 : Int).toNat (some y) = some n := by
    simp only [boundV, hy, asInt?]
  have e2 : boundV (envOf tm) (rows.length : Int).toNat none = some (rows.length : Int) := by
    show some _ = _
    congr 1
  simp only [sliceV, he, hz]
  rw [e1, e2]
  have h1 : 0 ≤ n ∧ n ≤ (rows.length : Int) ∧ (rows.length : Int) ≤ (rows.length : Int) ∧ (n = 0 ∨ (rows.all (·.length == sz)) = true) := ⟨hn.1, hn.2, Int.le_refl _, .inr hr⟩
  simp only [if_pos h1]
  have h2 : ((rows.length : Int)).toNat = rows.length := by omega
  rw [h2, List.take_length, hd]
/-- An owned list of none, from its start on. -/
theorem p_drop_ow0 {k : IntKind} {i s : Nat} {y : Operand} {n : Int} (hx : envOf tm x = some (.ow i s 0 0)) (he : sliceElem P t = some e) (hz : tySize P e = some s) (hy : envOf tm y = some (.pv (.sc (.int k n)))) (hn : n = 0)
    (hk : wo P C ds os (put tm d (.ow i s 0 0)) st fun tm' st'' l => K tm' st'' (⟨st, st, [], [], .ow i s 0 0⟩ :: l)) : wo P C ds (⟨some d, .slice t x (some y) none none, ty, pos, af, none⟩ :: os) tm st K := by
  subst hn
  refine o_slice hx (fun a h => by cases h) ?_ hk
  have e1 : boundV (envOf tm) (0 : Int).toNat (some y) = some 0 := by
    simp only [boundV, hy, asInt?]
  have e2 : boundV (envOf tm) ((0 : Nat) : Int).toNat none = some 0 := rfl
  simp only [sliceV, he, hz]
  rw [e1, e2]
  simp
end
section
variable {P : Program} {C : Cfg} {ds : List (Option Tmp)} {os : List Oper} {tm : List V} {st : St} {K : List V → St → List Ent → Prop} {d : Tmp} {ty : TypeId} {pos : String} {af : Array Edge} {x y : Operand} {t t' : TypeId}
/-- An operation of two structs. -/
theorem o_binA {op : BinOp} {va vb : V} {a b r : Value} (hx : envOf tm x = some va) (hy : envOf tm y = some vb) (ha : va.val? = some a) (hb : vb.val? = some b) (hr : binRun P op t x y a b = some r) (ho : ofValue r = .pv (.sc r)) (h : wo P C ds os (put tm d (.pv (.sc r))) st fun tm' st'' l => K tm' st'' (⟨st, st, [], [], .pv (.sc r)⟩ :: l)) : wo P C ds (⟨some d, .binOp op t x y t', ty, pos, af, none⟩ :: os) tm st K := by
  have e0 : put tm d (.pv (.sc r)) = setTm tm (some d) (.pv (.sc r)) := by
    delta put
    rfl
  rw [e0] at h
  refine wo_cons (v := .pv (.sc r)) (st' := st) (R := []) (W := []) rfl ?_ h
  rw [← ho]
  exact vexec_bin hx hy ha hb hr
end
theorem eq_item0 : binRun Try.prog .neq 44 (.tmp 92) (.tmp 93) (.agg #[.float .f64 0, .int .i64 0]) (.agg #[.float .f64 0, .int .i64 0]) = some (.bool false) := by kernel_rfl
structure Ac where
  k : Int
  x : IV
def rAc (a : Ac) : List PV := [.sc (.int .i64 a.k), .sc (.int .u64 a.x.1), .sc (.int .i64 a.x.2)]
structure AcOk (a : Ac) : Prop where
  k : -(2 ^ 63) ≤ a.k ∧ a.k < 2 ^ 63
  x : a.x.1 < 2 ^ 64
/-- The document's list, as it stands in a store: an empty list at first, later what the document's functions hand out. -/
def XV (s : St) (xv : V) (X : List IV) (p : Nat) (I : List Nat) : Prop :=
  xv = .pv (.fz (X.map rIV)) ∨ X = [] ∧ ∃ i, xv = .ow i 2 0 0 ∧ s.get i = some ⟨2, []⟩ ∧ i < s.next ∧ i ≠ p ∧ i ∉ I
/-- A pile and the document's list. -/
structure PX (s : St) (p : Nat) (l : List IV) (I : List Nat) (X : List IV) : Prop where
  at_ : PAt s p l I
  perm : l.Perm X
  cnl : Cnl X
  srt : Srt X
theorem PX.move {s s' : St} {p : Nat} {l X : List IV} {I J : List Nat} (h : PX s p l I X) (hf : Frm s s' J) (hp : p ∉ J) (hI : ∀ y ∈ I, y ∉ J) : PX s' p l I X := ⟨h.at_.move hf hp hI, h.perm, h.cnl, h.srt⟩
theorem PX.first {s : St} {p : Nat} {l X : List IV} {I : List Nat} {w : IV} (h : PX s p l I (w :: X)) : l[0]? = some w := by
  have hl := h.perm.length_eq
  simp at hl
  obtain ⟨z, hz⟩ : ∃ z, l[0]? = some z := ⟨_, List.getElem?_eq_getElem (by omega)⟩
  have h1 := heap_all h.at_.heap hz
  have hzm := List.mem_of_getElem? hz
  have e : z = w := by
    refine merge_eq (lp := l) (lq := []) (la := w :: X) h.cnl (by simpa using h.perm) (by simpa using hzm) (by simpa using h1) (by simp) (fun y hy => ?_)
    rcases List.mem_cons.1 hy with rfl | hy
    · have h9 : ivC y y = - ivC y y := ivC_swap y y
      omega
    · exact (List.pairwise_cons.1 h.srt).1 y hy
  rw [hz, e]
theorem PX.put {s : St} {p : Nat} {l l' X : List IV} {I I' : List Nat} {x : IV} (h : PX s p l I X) {s' : St} (hA : PAt s' p l' I') (hp : l'.Perm (l ++ [x])) (hx : canonB x.1 = x.1 ∧ x.1 < 2 ^ 64) : PX s' p l' I' (withL X x) where
  at_ := hA
  perm := by
    refine hp.trans ?_
    refine List.Perm.trans ?_ (withL_perm X x).symm
    exact (List.perm_append_comm (l₁ := l) (l₂ := [x])).trans (h.perm.cons x)
  cnl := fun y hy => by
    rcases List.mem_cons.1 ((withL_perm X x).subset hy) with rfl | hy
    · exact hx
    · exact h.cnl y hy
  srt := withL_srt h.srt
theorem PX.take {s : St} {p : Nat} {l l' X : List IV} {I : List Nat} {w : IV} (h : PX s p l I (w :: X)) {s' : St} (hA : PAt s' p l' I) (hp : (l' ++ [w]).Perm l) : PX s' p l' I X where
  at_ := hA
  perm := List.Perm.cons_inv (a := w) ((List.perm_append_comm (l₁ := [w]) (l₂ := l')).trans (hp.trans h.perm))
  cnl := fun y hy => h.cnl y (List.mem_cons_of_mem _ hy)
  srt := (List.pairwise_cons.1 h.srt).2
theorem PX.all {s : St} {p : Nat} {l X out : List IV} {I : List Nat} (h : PX s p l I X) (hp : out.Perm l) (hs : Srt out) : out = X :=
  (srt_eq h.cnl h.srt hs (h.perm.symm.trans hp.symm)).symm
theorem PX.nil {s : St} {p : Nat} {l : List IV} {I : List Nat} (h : PX s p l I []) : l = [] := h.perm.eq_nil
theorem PX.len {s : St} {p : Nat} {l X : List IV} {I : List Nat} (h : PX s p l I X) : l.length = X.length := h.perm.length_eq
end Go.Proofs.Ytlglcnljjpedcaa.Ve
