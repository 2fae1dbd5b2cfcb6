import Derived.Test.YtfieppbehmglbaaWiC
set_option linter.unusedVariables false
set_option linter.unusedSimpArgs false
namespace Go.Proofs.Ytfieppbehmglbaa.Ve
open Go
def gateB (w : Int) : List PV → Bool
  | [.sc (.int .i64 a), .sc (.int .i64 b)] => decide (a ≠ b ∧ 0 ≤ a ∧ 0 ≤ b ∧ a < w ∧ b < w)
  | _ => false
def wireB (w : Int) : List PV → Bool
  | [.sc (.int .i64 a)] => decide (0 ≤ a ∧ a < w)
  | _ => false
def key : List PV → Int
  | [.sc (.int .i64 a)] => a
  | _ => 0
theorem gate_of {w : Int} {row : List PV} (h : gateB w row = true) : gateOk w row := by
  unfold gateB at h
  split at h
  · rename_i a b
    obtain ⟨h1, h2, h3, h4, h5⟩ := of_decide_eq_true h
    exact ⟨a, b, rfl, h1, h2, h3, h4, h5⟩
  · cases h
theorem gates_of {w : Int} {l : List (List PV)} (h : l.all (gateB w) = true) (k : Nat) (row : List PV) (hk : l[k]? = some row) : gateOk w row :=
  gate_of (List.all_eq_true.mp h row (List.mem_of_getElem? hk))
theorem wires_of {w : Int} {l : List (List PV)} (h : l.all (wireB w) = true) (k : Nat) (row : List PV) (hk : l[k]? = some row) : ∃ v : Int, row = [.sc (.int .i64 v)] ∧ 0 ≤ v ∧ v < w := by
  have hb := List.all_eq_true.mp h row (List.mem_of_getElem? hk)
  unfold wireB at hb
  split at hb
  · rename_i a
    obtain ⟨h1, h2⟩ := of_decide_eq_true hb
    exact ⟨a, rfl, h1, h2⟩
  · cases hb
theorem apart_of {l : List (List PV)} (h : (l.map key).Nodup) (i k : Nat) (row : List PV) (hi : l[i]? = some row) (hk : l[k]? = some row) : i = k := by
  have hl : i < (l.map key).length := by
    rw [List.length_map]
    exact (List.getElem?_eq_some_iff.mp hi).1
  refine (List.getElem?_inj hl h).mp ?_
  rw [List.getElem?_map, List.getElem?_map, hi, hk]
@[irreducible] def gr1 : List (List PV) := []
@[irreducible] def outs1 : List (List PV) := [[.sc (.int .i64 0)]]
@[irreducible] def gr2 : List (List PV) := [[.sc (.int .i64 0), .sc (.int .i64 1)]]
@[irreducible] def outs2 : List (List PV) := [[.sc (.int .i64 0)], [.sc (.int .i64 1)]]
@[irreducible] def gr4 : List (List PV) := [[.sc (.int .i64 0), .sc (.int .i64 1)], [.sc (.int .i64 2), .sc (.int .i64 3)], [.sc (.int .i64 0), .sc (.int .i64 3)], [.sc (.int .i64 1), .sc (.int .i64 2)], [.sc (.int .i64 0), .sc (.int .i64 1)], [.sc (.int .i64 3), .sc (.int .i64 2)]]
@[irreducible] def outs4 : List (List PV) := [[.sc (.int .i64 0)], [.sc (.int .i64 1)], [.sc (.int .i64 3)], [.sc (.int .i64 2)]]
@[irreducible] def gr8 : List (List PV) := [[.sc (.int .i64 0), .sc (.int .i64 1)], [.sc (.int .i64 2), .sc (.int .i64 3)], [.sc (.int .i64 0), .sc (.int .i64 3)], [.sc (.int .i64 1), .sc (.int .i64 2)], [.sc (.int .i64 0), .sc (.int .i64 1)], [.sc (.int .i64 3), .sc (.int .i64 2)], [.sc (.int .i64 4), .sc (.int .i64 5)], [.sc (.int .i64 6), .sc (.int .i64 7)], [.sc (.int .i64 4), .sc (.int .i64 7)], [.sc (.int .i64 5), .sc (.int .i64 6)], [.sc (.int .i64 4), .sc (.int .i64 5)], [.sc (.int .i64 7), .sc (.int .i64 6)], [.sc (.int .i64 0), .sc (.int .i64 6)], [.sc (.int .i64 3), .sc (.int .i64 5)], [.sc (.int .i64 0), .sc (.int .i64 3)], [.sc (.int .i64 6), .sc (.int .i64 5)], [.sc (.int .i64 1), .sc (.int .i64 7)], [.sc (.int .i64 2), .sc (.int .i64 4)], [.sc (.int .i64 1), .sc (.int .i64 2)], [.sc (.int .i64 7), .sc (.int .i64 4)], [.sc (.int .i64 0), .sc (.int .i64 1)], [.sc (.int .i64 3), .sc (.int .i64 2)], [.sc (.int .i64 6), .sc (.int .i64 7)], [.sc (.int .i64 5), .sc (.int .i64 4)]]
@[irreducible] def outs8 : List (List PV) := [[.sc (.int .i64 0)], [.sc (.int .i64 1)], [.sc (.int .i64 3)], [.sc (.int .i64 2)], [.sc (.int .i64 6)], [.sc (.int .i64 7)], [.sc (.int .i64 5)], [.sc (.int .i64 4)]]
@[irreducible] def gr16 : List (List PV) := [[.sc (.int .i64 0), .sc (.int .i64 1)], [.sc (.int .i64 2), .sc (.int .i64 3)], [.sc (.int .i64 0), .sc (.int .i64 3)], [.sc (.int .i64 1), .sc (.int .i64 2)], [.sc (.int .i64 0), .sc (.int .i64 1)], [.sc (.int .i64 3), .sc (.int .i64 2)], [.sc (.int .i64 4), .sc (.int .i64 5)], [.sc (.int .i64 6), .sc (.int .i64 7)], [.sc (.int .i64 4), .sc (.int .i64 7)], [.sc (.int .i64 5), .sc (.int .i64 6)], [.sc (.int .i64 4), .sc (.int .i64 5)], [.sc (.int .i64 7), .sc (.int .i64 6)], [.sc (.int .i64 0), .sc (.int .i64 6)], [.sc (.int .i64 3), .sc (.int .i64 5)], [.sc (.int .i64 0), .sc (.int .i64 3)], [.sc (.int .i64 6), .sc (.int .i64 5)], [.sc (.int .i64 1), .sc (.int .i64 7)], [.sc (.int .i64 2), .sc (.int .i64 4)], [.sc (.int .i64 1), .sc (.int .i64 2)], [.sc (.int .i64 7), .sc (.int .i64 4)], [.sc (.int .i64 0), .sc (.int .i64 1)], [.sc (.int .i64 3), .sc (.int .i64 2)], [.sc (.int .i64 6), .sc (.int .i64 7)], [.sc (.int .i64 5), .sc (.int .i64 4)], [.sc (.int .i64 8), .sc (.int .i64 9)], [.sc (.int .i64 10), .sc (.int .i64 11)], [.sc (.int .i64 8), .sc (.int .i64 11)], [.sc (.int .i64 9), .sc (.int .i64 10)], [.sc (.int .i64 8), .sc (.int .i64 9)], [.sc (.int .i64 11), .sc (.int .i64 10)], [.sc (.int .i64 12), .sc (.int .i64 13)], [.sc (.int .i64 14), .sc (.int .i64 15)], [.sc (.int .i64 12), .sc (.int .i64 15)], [.sc (.int .i64 13), .sc (.int .i64 14)], [.sc (.int .i64 12), .sc (.int .i64 13)], [.sc (.int .i64 15), .sc (.int .i64 14)], [.sc (.int .i64 8), .sc (.int .i64 14)], [.sc (.int .i64 11), .sc (.int .i64 13)], [.sc (.int .i64 8), .sc (.int .i64 11)], [.sc (.int .i64 14), .sc (.int .i64 13)], [.sc (.int .i64 9), .sc (.int .i64 15)], [.sc (.int .i64 10), .sc (.int .i64 12)], [.sc (.int .i64 9), .sc (.int .i64 10)], [.sc (.int .i64 15), .sc (.int .i64 12)], [.sc (.int .i64 8), .sc (.int .i64 9)], [.sc (.int .i64 11), .sc (.int .i64 10)], [.sc (.int .i64 14), .sc (.int .i64 15)], [.sc (.int .i64 13), .sc (.int .i64 12)], [.sc (.int .i64 0), .sc (.int .i64 12)], [.sc (.int .i64 6), .sc (.int .i64 10)], [.sc (.int .i64 0), .sc (.int .i64 6)], [.sc (.int .i64 12), .sc (.int .i64 10)], [.sc (.int .i64 3), .sc (.int .i64 15)], [.sc (.int .i64 5), .sc (.int .i64 9)], [.sc (.int .i64 3), .sc (.int .i64 5)], [.sc (.int .i64 15), .sc (.int .i64 9)], [.sc (.int .i64 0), .sc (.int .i64 3)], [.sc (.int .i64 6), .sc (.int .i64 5)], [.sc (.int .i64 12), .sc (.int .i64 15)], [.sc (.int .i64 10), .sc (.int .i64 9)], [.sc (.int .i64 1), .sc (.int .i64 13)], [.sc (.int .i64 7), .sc (.int .i64 11)], [.sc (.int .i64 1), .sc (.int .i64 7)], [.sc (.int .i64 13), .sc (.int .i64 11)], [.sc (.int .i64 2), .sc (.int .i64 14)], [.sc (.int .i64 4), .sc (.int .i64 8)], [.sc (.int .i64 2), .sc (.int .i64 4)], [.sc (.int .i64 14), .sc (.int .i64 8)], [.sc (.int .i64 1), .sc (.int .i64 2)], [.sc (.int .i64 7), .sc (.int .i64 4)], [.sc (.int .i64 13), .sc (.int .i64 14)], [.sc (.int .i64 11), .sc (.int .i64 8)], [.sc (.int .i64 0), .sc (.int .i64 1)], [.sc (.int .i64 3), .sc (.int .i64 2)], [.sc (.int .i64 6), .sc (.int .i64 7)], [.sc (.int .i64 5), .sc (.int .i64 4)], [.sc (.int .i64 12), .sc (.int .i64 13)], [.sc (.int .i64 15), .sc (.int .i64 14)], [.sc (.int .i64 10), .sc (.int .i64 11)], [.sc (.int .i64 9), .sc (.int .i64 8)]]
@[irreducible] def outs16 : List (List PV) := [[.sc (.int .i64 0)], [.sc (.int .i64 1)], [.sc (.int .i64 3)], [.sc (.int .i64 2)], [.sc (.int .i64 6)], [.sc (.int .i64 7)], [.sc (.int .i64 5)], [.sc (.int .i64 4)], [.sc (.int .i64 12)], [.sc (.int .i64 13)], [.sc (.int .i64 15)], [.sc (.int .i64 14)], [.sc (.int .i64 10)], [.sc (.int .i64 11)], [.sc (.int .i64 9)], [.sc (.int .i64 8)]]
theorem made1 : pcall (Ew Try.prog cfg) 37 [.sc (.int .i64 1)] = some (.tup [.pv (.agg [.sc (.int .i64 1), .fz gr1, .fz outs1]), .pv (.sc (.int .i64 0))]) := pcall_evN (n := 300) (by kernel_rfl)
theorem ww0 (n : Int) (h : logOf n = 0) : pcall (Ew Try.prog cfg) 9 [.sc (.int .i64 n)] = some (.pv (.sc (.bool true))) :=
  wwg n 1 0 gr1 outs1 h (by rw [width_call n (by rw [h]; decide), h]; rfl) made1 (by decide) (by decide) (gates_of (by kernel_rfl)) (of_decide_eq_true (by kernel_rfl)) (of_decide_eq_true (by kernel_rfl)) (wires_of (by kernel_rfl)) (apart_of (of_decide_eq_true (by kernel_rfl))) (by kernel_rfl) (of_decide_eq_true (by kernel_rfl))
theorem made2 : pcall (Ew Try.prog cfg) 37 [.sc (.int .i64 2)] = some (.tup [.pv (.agg [.sc (.int .i64 2), .fz gr2, .fz outs2]), .pv (.sc (.int .i64 0))]) := pcall_evN (n := 300) (by kernel_rfl)
theorem ww1 (n : Int) (h : logOf n = 1) : pcall (Ew Try.prog cfg) 9 [.sc (.int .i64 n)] = some (.pv (.sc (.bool true))) :=
  wwg n 2 1 gr2 outs2 h (by rw [width_call n (by rw [h]; decide), h]; rfl) made2 (by decide) (by decide) (gates_of (by kernel_rfl)) (of_decide_eq_true (by kernel_rfl)) (of_decide_eq_true (by kernel_rfl)) (wires_of (by kernel_rfl)) (apart_of (of_decide_eq_true (by kernel_rfl))) (by kernel_rfl) (of_decide_eq_true (by kernel_rfl))
theorem made4 : pcall (Ew Try.prog cfg) 37 [.sc (.int .i64 4)] = some (.tup [.pv (.agg [.sc (.int .i64 4), .fz gr4, .fz outs4]), .pv (.sc (.int .i64 0))]) := pcall_evN (n := 300) (by kernel_rfl)
theorem ww2 (n : Int) (h : logOf n = 2) : pcall (Ew Try.prog cfg) 9 [.sc (.int .i64 n)] = some (.pv (.sc (.bool true))) :=
  wwg n 4 2 gr4 outs4 h (by rw [width_call n (by rw [h]; decide), h]; rfl) made4 (by decide) (by decide) (gates_of (by kernel_rfl)) (of_decide_eq_true (by kernel_rfl)) (of_decide_eq_true (by kernel_rfl)) (wires_of (by kernel_rfl)) (apart_of (of_decide_eq_true (by kernel_rfl))) (by kernel_rfl) (of_decide_eq_true (by kernel_rfl))
theorem made8 : pcall (Ew Try.prog cfg) 37 [.sc (.int .i64 8)] = some (.tup [.pv (.agg [.sc (.int .i64 8), .fz gr8, .fz outs8]), .pv (.sc (.int .i64 0))]) := pcall_evN (n := 300) (by kernel_rfl)
theorem ww3 (n : Int) (h : logOf n = 3) : pcall (Ew Try.prog cfg) 9 [.sc (.int .i64 n)] = some (.pv (.sc (.bool true))) :=
  wwg n 8 3 gr8 outs8 h (by rw [width_call n (by rw [h]; decide), h]; rfl) made8 (by decide) (by decide) (gates_of (by kernel_rfl)) (of_decide_eq_true (by kernel_rfl)) (of_decide_eq_true (by kernel_rfl)) (wires_of (by kernel_rfl)) (apart_of (of_decide_eq_true (by kernel_rfl))) (by kernel_rfl) (of_decide_eq_true (by kernel_rfl))
theorem made16 : pcall (Ew Try.prog cfg) 37 [.sc (.int .i64 16)] = some (.tup [.pv (.agg [.sc (.int .i64 16), .fz gr16, .fz outs16]), .pv (.sc (.int .i64 0))]) := pcall_evN (n := 300) (by kernel_rfl)
theorem ww4 (n : Int) (h : logOf n = 4) : pcall (Ew Try.prog cfg) 9 [.sc (.int .i64 n)] = some (.pv (.sc (.bool true))) :=
  wwg n 16 4 gr16 outs16 h (by rw [width_call n (by rw [h]; decide), h]; rfl) made16 (by decide) (by decide) (gates_of (by kernel_rfl)) (of_decide_eq_true (by kernel_rfl)) (of_decide_eq_true (by kernel_rfl)) (wires_of (by kernel_rfl)) (apart_of (of_decide_eq_true (by kernel_rfl))) (by kernel_rfl) (of_decide_eq_true (by kernel_rfl))
theorem logOf_lt (n : Int) : 0 ≤ logOf n ∧ logOf n < 5 := by
  have hm : (BitVec.ofInt IntKind.i64.bits n &&& BitVec.ofInt IntKind.i64.bits 255).toNat ≤ 255 := by
    rw [BitVec.toNat_and]
    exact Nat.le_trans Nat.and_le_right (by decide)
  unfold logOf
  generalize (BitVec.ofInt IntKind.i64.bits n &&& BitVec.ofInt IntKind.i64.bits 255).toNat = m at hm
  rw [wrap_id (by omega) (by omega), Int.tmod_eq_emod_of_nonneg (by omega)]
  omega
theorem ww (n : Int) : pcall (Ew Try.prog cfg) 9 [.sc (.int .i64 n)] = some (.pv (.sc (.bool true))) := by
  obtain ⟨h0, h5⟩ := logOf_lt n
  have : logOf n = 0 ∨ logOf n = 1 ∨ logOf n = 2 ∨ logOf n = 3 ∨ logOf n = 4 := by omega
  rcases this with h | h | h | h | h
  · exact ww0 n h
  · exact ww1 n h
  · exact ww2 n h
  · exact ww3 n h
  · exact ww4 n h
end Go.Proofs.Ytfieppbehmglbaa.Ve
