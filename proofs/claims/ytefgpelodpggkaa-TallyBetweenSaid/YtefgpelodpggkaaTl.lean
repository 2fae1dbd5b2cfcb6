import Derived.Test.YtefgpelodpggkaaTw
set_option linter.unusedVariables false
set_option linter.unusedSimpArgs false
namespace Go.Proofs.Ytefgpelodpggkaa.Ve
open Go
set_option maxRecDepth 4000
set_option maxHeartbeats 4000000
theorem br_andw {P : Program} {t : TypeId} {x y : Operand} {k : IntKind} {a b c : Int} (h : k.wrap (BitVec.ofInt k.bits a &&& BitVec.ofInt k.bits b).toNat = c) : binRun P .and t x y (.int k a) (.int k b) = some (.int k c) := by rw [← h]; exact br_and
/-- What so many cells have together. -/
def sumTo (ps : Pts) : Nat → Int
  | 0 => 0
  | k + 1 => sumTo ps k + (rd ps k).2.n
theorem sumTo_snoc (ps : Pts) (k : Int) (v : Vl) : ∀ n : Nat, sumTo (ps ++ [⟨k, v⟩]) n = sumTo ps n + (if 0 ≤ k ∧ k < n then v.n - (rd ps k).2.n else 0)
  | 0 => by
    have : ¬ (0 ≤ k ∧ k < (0 : Nat)) := by omega
    simp only [sumTo, if_neg this]
    omega
  | n + 1 => by
    simp only [sumTo, sumTo_snoc ps k v n, rd_snoc]
    by_cases e : k = (n : Int)
    · subst e
      rw [if_pos rfl, if_neg (by omega), if_pos (by omega)]
      show sumTo ps n + 0 + v.n = _
      omega
    · rw [if_neg e]
      by_cases h : 0 ≤ k ∧ k < (n : Int)
      · rw [if_pos h, if_pos (by omega)]
        omega
      · rw [if_neg h, if_neg (by omega)]
        omega
/-- A counter's memory. -/
structure TMem (n : Int) (ps : Pts) : Prop where
  len : ps.length < 2 ^ 10
  at_ : ∀ p ∈ ps, 0 ≤ p.at_ ∧ p.at_ < n
  cell : ∀ i, 0 ≤ (rd ps i).2.n ∧ (rd ps i).2.n ≤ ps.length * 2 ^ 32
theorem TMem.cell' {n : Int} {ps : Pts} (h : TMem n ps) (i : Int) : 0 ≤ (rd ps i).2.n ∧ (rd ps i).2.n ≤ 2 ^ 52 := by
  have h1 := h.cell i
  have h2 := h.len
  omega
theorem TMem.snoc {n : Int} {ps : Pts} (h : TMem n ps) (hl : ps.length + 1 < 2 ^ 10) {k v : Int} (hk : 0 ≤ k ∧ k < n) (c : Vl) (hc : 0 ≤ c.n ∧ c.n ≤ ps.length * 2 ^ 32) (hv : 0 ≤ v ∧ v < 2 ^ 32) : TMem n (ps ++ [⟨k, ⟨c.n + v, []⟩⟩]) where
  len := by simpa using hl
  at_ := fun p hp => by
    rcases List.mem_append.mp hp with h' | h'
    · exact h.at_ p h'
    · simp only [List.mem_singleton] at h'
      subst h'
      exact hk
  cell := fun i => by
    rw [rd_snoc]
    have h1 := h.cell i
    simp only [List.length_append, List.length_singleton]
    split
    · show 0 ≤ c.n + v ∧ c.n + v ≤ _
      omega
    · omega
theorem ln_le {n : Int} (hn : 0 ≤ n) : ∀ ps : Pts, (∀ p ∈ ps, p.at_ < n) → ln ps ≤ n := by
  refine snoc_ind (fun _ => hn) fun l a ih h => ?_
  rw [ln_snoc]
  have h1 := ih fun p hp => h p (by simp [hp])
  have h2 := h a (by simp)
  omega
def addOp (v d : Int) : Opd := ⟨5, ⟨0, v⟩, d, 0⟩
def sumOp : Opd := ⟨6, ⟨0, 0⟩, 0, 0⟩
theorem alone_add {n : Int} {ps : Pts} (hn : 1 ≤ n ∧ n ≤ 16) (h : TMem n ps) (v d : Int) :
    aloneR (tallyR n) 2 ps (toldF (addOp v d)) = (ps ++ [⟨into d n, ⟨(rd ps (into d n)).2.n + v, []⟩⟩], ⟨true, ⟨0, 0⟩, 0⟩, true) := by
  have hk := into_range d n (by omega)
  have hm : may ps (into d n) ((rd ps (into d n)).1 : Nat) := ⟨hk.1, by omega, rfl⟩
  simp [aloneR, tallyR, toldF, addOp, wr', hm]
theorem ok_add {n : Int} {ps : Pts} (hn : 1 ≤ n ∧ n ≤ 16) (h : TMem n ps) (v d : Int) (hv : 0 ≤ v ∧ v < 2 ^ 32) (hd : i64 d) : okRun (tallyR n) (TOk n) 2 ps (toldF (addOp v d)) := by
  have hl := h.len
  have e1 : tallyR n ps (toldF (addOp v d)) = (ps, { toldF (addOp v d) with pc := 1, v0 := (rd ps (into d n)).1, c0 := (rd ps (into d n)).2 }, an0, false) := by simp [tallyR, toldF, addOp]
  refine ⟨⟨hn, by omega, h.cell', ⟨Int.le_refl 0, (by decide : (0 : Int) ≤ 2 ^ 52)⟩, fun _ => hv, hd, ⟨Int.le_refl 0, by show (0 : Int) < n; omega⟩, ⟨Int.le_refl 0, (by decide : (0 : Int) ≤ 0 * 2 ^ 52)⟩⟩, fun _ => ?_⟩
  rw [e1]
  refine ⟨⟨hn, by show ps.length < 2 ^ 20; omega, h.cell', h.cell' _, fun _ => hv, hd, ⟨Int.le_refl 0, by show (0 : Int) < n; omega⟩, ⟨Int.le_refl 0, (by decide : (0 : Int) ≤ 0 * 2 ^ 52)⟩⟩, fun _ => trivial⟩
theorem alone_sum {n : Int} {ps : Pts} (hn : 1 ≤ n ∧ n ≤ 16) : ∀ (m : Nat) (f : RF), f.k = 6 → 0 ≤ f.at_ → f.at_ + m = n → 0 < m →
    aloneR (tallyR n) m ps f = (ps, ⟨true, ⟨0, 0⟩, f.tot + (sumTo ps n.toNat - sumTo ps f.at_.toNat)⟩, true)
  | 0, f, _, _, _, h => by omega
  | m + 1, f, hk, h0, hm, _ => by
    obtain ⟨a, ha⟩ : ∃ a : Nat, f.at_ = a := ⟨f.at_.toNat, by omega⟩
    simp only [aloneR, tallyR, if_pos hk]
    by_cases hlast : f.at_ + 1 < n
    · have ih := alone_sum hn (ps := ps) m { f with tot := f.tot + (rd ps f.at_).2.n, at_ := f.at_ + 1 } hk (by show 0 ≤ f.at_ + 1; omega) (by show f.at_ + 1 + m = n; omega) (by omega)
      rw [if_neg (by simp [hlast])]
      rw [ih]
      have e1 : ((a : Int) + 1).toNat = a + 1 := by omega
      simp only [ha, e1, Int.toNat_natCast, sumTo]
      congr 3
      omega
    · have e1 : n.toNat = a + 1 := by omega
      have e2 : f.at_.toNat = a := by omega
      rw [if_pos (by simp [hlast]), if_neg hlast]
      have e4 : (rd ps f.at_).2.n = sumTo ps n.toNat - sumTo ps f.at_.toNat := by
        rw [e2, e1, ha]
        simp only [sumTo]
        omega
      rw [e4]
theorem ok_sum {n : Int} {ps : Pts} (hn : 1 ≤ n ∧ n ≤ 16) (h : TMem n ps) : ∀ (m : Nat) (f : RF), f.k = 6 → 0 ≤ f.at_ → f.at_ + m = n → (0 ≤ f.c0.n ∧ f.c0.n ≤ 2 ^ 52) → (0 ≤ f.it.val ∧ f.it.val < 2 ^ 32) → i64 f.d0 → (0 ≤ f.tot ∧ f.tot ≤ f.at_ * 2 ^ 52) → okRun (tallyR n) (TOk n) m ps f
  | 0, f, _, _, _, _, _, _, _ => trivial
  | m + 1, f, hk, h0, hm, hc, hv, hd, ht => by
    have hl := h.len
    have hcc := h.cell' f.at_
    refine ⟨⟨hn, by omega, h.cell', hc, fun _ => hv, hd, ⟨h0, by omega⟩, ht⟩, fun _ => ?_⟩
    have e1 : (tallyR n ps f).1 = ps := by simp [tallyR, hk]
    have e2 : (tallyR n ps f).2.1 = { f with tot := f.tot + (rd ps f.at_).2.n, at_ := f.at_ + 1 } := by simp [tallyR, hk]
    rw [e1, e2]
    refine ok_sum hn h m _ hk (by show 0 ≤ f.at_ + 1; omega) (by show f.at_ + 1 + m = n; omega) hc hv hd ?_
    show 0 ≤ f.tot + (rd ps f.at_).2.n ∧ f.tot + (rd ps f.at_).2.n ≤ (f.at_ + 1) * 2 ^ 52
    omega
end Go.Proofs.Ytefgpelodpggkaa.Ve
