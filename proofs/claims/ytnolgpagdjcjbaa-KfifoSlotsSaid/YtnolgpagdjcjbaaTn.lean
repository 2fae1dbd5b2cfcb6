import Derived.Test.YtnolgpagdjcjbaaVeCfg1
import Derived.Test.YtnolgpagdjcjbaaVeZ
set_option linter.unusedVariables false
set_option linter.unusedSimpArgs false
namespace Go.Proofs.Ytnolgpagdjcjbaa.Ve
open Go
theorem wrap_id {n : Int} (h0 : -(2 ^ 63) ≤ n) (h1 : n < 2 ^ 63) : IntKind.i64.wrap n = n := by
  have e : n % 2 ^ IntKind.i64.bits = n % 2 ^ 64 := rfl
  simp only [IntKind.wrap, e]
  have hb : IntKind.i64.bits = 64 := rfl
  have hs : IntKind.i64.signed = true := rfl
  rw [hb, hs]
  simp only [Bool.true_and, decide_eq_true_eq]
  split <;> omega
theorem wrap_u64 {n : Int} (h0 : 0 ≤ n) (h1 : n < 2 ^ 64) : IntKind.u64.wrap n = n := by
  have hb : IntKind.u64.bits = 64 := rfl
  have hs : IntKind.u64.signed = false := rfl
  simp only [IntKind.wrap, hb, hs, Bool.false_and]
  have : n % 2 ^ 64 = n := Int.emod_eq_of_lt h0 h1
  rw [this]
  simp

/-- A draw among so many. -/
def into (draw n : Int) : Int := if n ≤ 0 then 0 else draw % n
theorem into_emod (draw n : Int) (h : 0 < n) (hd : -(2 ^ 63) ≤ draw ∧ draw < 2 ^ 63) (hn : n < 2 ^ 63) : (if draw.tmod n < 0 then IntKind.i64.wrap (draw.tmod n + n) else draw.tmod n) = into draw n := by
  unfold into
  have hn0 : ¬ n ≤ 0 := by omega
  simp only [hn0, if_false]
  have h4 := Int.emod_nonneg draw (show n ≠ 0 by omega)
  have h5 := Int.emod_lt_of_pos draw h
  have h0 : (n.natAbs : Int) = n := by omega
  have h3 := Int.tmod_eq_emod (a := draw) (b := n)
  split at h3
  · have h6 : ¬ draw.tmod n < 0 := by omega
    rw [if_neg h6]
    omega
  · have hd : ¬ n ∣ draw := by
      intro hh
      simp [hh] at *
    have h7 : draw % n ≠ 0 := fun e => hd (Int.dvd_of_emod_eq_zero e)
    have h6 : draw.tmod n < 0 := by omega
    rw [if_pos h6, wrap_id (by omega) (by omega)]
    omega
section
variable {P : Program} {C : Cfg} {ds : List (Option Tmp)} {os : List Oper} {tm : List V} {st : St} {K : List V → St → List Ent → Prop} {d : Tmp} {t t' ty : TypeId} {x y : Operand} {pos : String} {af : Array Edge}
/-- A pure function's call upon what lies in objects: these are gone behind it. -/
theorem o_pcallK {g : FuncId} {args : Array Operand} {ts : Array TypeId} {vs : List V} {ps : List PV} {i : Nat} {ids : List Nat} {v : V} (hargs : envAll (envOf tm) args.toList = some vs) (hb : hasBody P g = true) (hp : C.pol g = .pure) (hf : frzAll st vs = some (ps, i :: ids)) (hv : pcall (Ew P C) g ps = some v) (hfl : v.flat = false)
    (h : wo P C ds os (put tm d v) (st.kills (i :: ids)) fun tm' st'' l => K tm' st'' (⟨st, st.kills (i :: ids), i :: ids, i :: ids, v⟩ :: l)) : wo P C ds (⟨some d, .call { callee := .value (.func g), args := args, argTypes := ts }, ty, pos, af, none⟩ :: os) tm st K := by
  have e : put tm d v = setTm tm (some d) v := by
    delta put
    rfl
  rw [e] at h
  refine wo_cons (v := v) (st' := st.kills (i :: ids)) (R := i :: ids) (W := i :: ids) rfl ?_ h
  simp [vexec, targetV, hargs, look_func, hb, docall, hp, hf, hv, hfl]
end
end Go.Proofs.Ytnolgpagdjcjbaa.Ve
