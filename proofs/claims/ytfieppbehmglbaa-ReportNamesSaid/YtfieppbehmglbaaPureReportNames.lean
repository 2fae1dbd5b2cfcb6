/-
  Proved: for every kind, every error number and every text of at most 20 bytes the names that package report tells are those of the document, and the law answers true. No condition but the row's own.
-/
import Derived.Test.YtfieppbehmglbaaPReportNamesx2
namespace Go.Proofs.Ytfieppbehmglbaa.Pure
open Go.RowKit Go.Proofs.Ytfieppbehmglbaa.PReportNames Go.Proofs.YtfieppbehmglbaaW.PrintWords Go.Proofs.YtfieppbehmglbaaW.PrintLast

theorem awake_true : carryoverlaw27_awake.f 60 = some true := by decide +kernel

def multi : List UInt8 := [109, 117, 108, 116, 105]
def kfifo : List UInt8 := [107, 102, 105, 102, 111]
def tally : List UInt8 := [116, 97, 108, 108, 121]
def net : List UInt8 := [110, 101, 116]

def want (l : List UInt8) : Int := if l = multi then 1 else if l = kfifo then 2 else if l = tally then 3 else if l = net then 4 else 0


theorem w1 : wrap64 (0 + 1) = 1 := by decide +kernel
theorem w2 : wrap64 (1 + 1) = 2 := by decide +kernel
theorem w3 : wrap64 (2 + 1) = 3 := by decide +kernel
theorem w4 : wrap64 (3 + 1) = 4 := by decide +kernel
theorem w5 : wrap64 (4 + 1) = 5 := by decide +kernel

theorem kind_is (t : ByteArray) (k : Nat) : report_Kind.f (k + 6) t = some (want t.toList) := by
  unfold report_Kind.f report_names.f slices_Index_string_string.f
  have e0 : (⟨#[]⟩ : ByteArray).toList = [] := by decide +kernel
  have e1 : (⟨#[109, 117, 108, 116, 105]⟩ : ByteArray).toList = multi := by decide +kernel
  have e2 : (⟨#[107, 102, 105, 102, 111]⟩ : ByteArray).toList = kfifo := by decide +kernel
  have e3 : (⟨#[116, 97, 108, 108, 121]⟩ : ByteArray).toList = tally := by decide +kernel
  have e4 : (⟨#[110, 101, 116]⟩ : ByteArray).toList = net := by decide +kernel
  simp only [slices_Index_string_string.l0, Option.bind_some, rdOf, List.length_cons, List.length_nil, w1, w2, w3, w4, w5]
  simp [e0, e1, e2, e3, e4]
  generalize t.toList = l
  by_cases h0 : l = []
  · subst h0; decide +kernel
  by_cases h1 : l = multi
  · subst h1; decide +kernel
  by_cases h2 : l = kfifo
  · subst h2; decide +kernel
  by_cases h3 : l = tally
  · subst h3; decide +kernel
  by_cases h4 : l = net
  · subst h4; decide +kernel
  simp [h0, h1, h2, h3, h4, want, mx]

theorem cut_some (a : ByteArray) : ∃ t, carryoverlaw01_Cut.f a 20 = some t := by
  unfold carryoverlaw01_Cut.f
  by_cases h : (a.size : Int) > 20
  · rw [if_pos h, if_pos (by decide), if_pos (by omega)]; exact ⟨_, rfl⟩
  · rw [if_neg h]; exact ⟨_, rfl⟩

theorem name_is (x : Int) : report_Name.f x = carryoverref27_Name.f x := by
  unfold report_Name.f report_names.f carryoverref27_Name.f
  simp only [Option.bind_some, List.length_cons, List.length_nil, rdOf]
  by_cases h0 : x < 0
  · rw [if_pos h0, if_neg (by omega), if_neg (by omega), if_neg (by omega), if_neg (by omega)]
  by_cases h5 : x ≥ 5
  · rw [if_neg h0, if_pos (by simpa using h5), if_neg (by omega), if_neg (by omega), if_neg (by omega), if_neg (by omega)]
  obtain h | h | h | h | h : x = 0 ∨ x = 1 ∨ x = 2 ∨ x = 3 ∨ x = 4 := by omega
  all_goals (subst h; rfl)

theorem name_some (x : Int) : ∃ t, carryoverref27_Name.f x = some t := by
  unfold carryoverref27_Name.f
  split <;> (try split) <;> (try split) <;> (try split) <;> exact ⟨_, rfl⟩

def words : List ByteArray := [(⟨#[111, 107]⟩ : ByteArray), (⟨#[101, 110, 100]⟩ : ByteArray), (⟨#[102, 111, 114, 109]⟩ : ByteArray), (⟨#[98, 105, 103]⟩ : ByteArray), (⟨#[97, 114, 103]⟩ : ByteArray), (⟨#[112, 97, 114, 97, 109]⟩ : ByteArray), (⟨#[107, 105, 110, 100]⟩ : ByteArray), (⟨#[115, 117, 109]⟩ : ByteArray), (⟨#[118, 101, 114, 115, 105, 111, 110]⟩ : ByteArray), (⟨#[98, 97, 115, 101]⟩ : ByteArray), (⟨#[109, 97, 103, 105, 99]⟩ : ByteArray), (⟨#[98, 117, 115, 121]⟩ : ByteArray), (⟨#[115, 116, 97, 116, 101]⟩ : ByteArray), (⟨#[110, 111, 110, 101]⟩ : ByteArray), (⟨#[111, 114, 100, 101, 114]⟩ : ByteArray)]
def other : ByteArray := ⟨#[111, 116, 104, 101, 114]⟩
def wordOf (e : Int) : ByteArray := if e < 0 then other else if e ≥ 15 then other else rdOf ByteArray.empty words e

theorem error_is (e : Int) : report_Error.f e = some (wordOf e) := by
  show (if e < 0 then (some other) else (if e ≥ ((15 : Nat) : Int) then (some other) else (if 0 ≤ e then (if e < ((15 : Nat) : Int) then (some (rdOf ByteArray.empty words e)) else none) else none))) = _
  unfold wordOf
  by_cases h0 : e < 0
  · rw [if_pos h0, if_pos h0]
  by_cases h1 : e ≥ 15
  · rw [if_neg h0, if_pos (by omega), if_neg h0, if_pos h1]
  · rw [if_neg h0, if_neg (by omega), if_pos (by omega), if_pos (by omega), if_neg h0, if_neg h1]

theorem j2_is (k : Nat) (x0 e : Int) (t : ByteArray) : carryoverlaw27_ReportNames.j2 (k + 7) x0 e t (want t.toList) (wordOf e) = some true := by
  obtain ⟨n, hn⟩ := name_some x0
  have h1 := kind_is t k
  have h2 := error_is e
  have h3 := name_is x0
  rw [hn] at h3
  generalize wordOf e = z at *
  generalize want t.toList = y at *
  show (report_Name.f x0).bind (fun t143 => ((carryoverref27_Name.f x0).bind fun t144 => (if t143.toList = t144.toList then ((report_Kind.f (k + 6) t).bind fun t145 => (if t145 = y then ((report_Error.f e).bind fun t146 => (some (t146.toList == z.toList))) else (some false))) else (some false)))) = _
  rw [h3, hn]
  simp only [Option.bind_some, if_true]
  rw [h1, h2]
  simp only [Option.bind_some, if_true]
  rw [beq_self_eq_true]

theorem tail_is (k : Nat) (x0 e : Int) (t : ByteArray) : (if e ≥ 0 then (carryoverlaw27_ReportNames.j1 (k + 8) x0 e t (want t.toList) words other (decide (e < ((15 : Nat) : Int)))) else (carryoverlaw27_ReportNames.j1 (k + 8) x0 e t (want t.toList) words other false)) = some true := by
  have hj := j2_is k x0 e t
  have hw : wordOf e = if e < 0 then other else if e ≥ 15 then other else rdOf ByteArray.empty words e := rfl
  have jf : ∀ (y : Int) (l : List ByteArray) (z : ByteArray), carryoverlaw27_ReportNames.j1 (k + 8) x0 e t y l z false = carryoverlaw27_ReportNames.j2 (k + 7) x0 e t y z := fun _ _ _ => rfl
  have jt : ∀ (y : Int) (l : List ByteArray) (z : ByteArray), carryoverlaw27_ReportNames.j1 (k + 8) x0 e t y l z true = (if 0 ≤ e then (if e < (l.length : Int) then (carryoverlaw27_ReportNames.j2 (k + 7) x0 e t y (rdOf ByteArray.empty l e)) else (none)) else (none)) := fun _ _ _ => rfl
  generalize want t.toList = y at *
  have hl : words.length = 15 := rfl
  generalize words = l at *
  generalize other = o at *
  rw [jf]
  by_cases h0 : e < 0
  · rw [if_pos h0] at hw
    rw [hw] at hj
    rw [if_neg (by omega)]
    exact hj
  rw [if_neg h0] at hw
  rw [if_pos (by omega)]
  by_cases h1 : e ≥ 15
  · rw [if_pos h1] at hw
    have : decide (e < ((15 : Nat) : Int)) = false := decide_eq_false (by omega)
    rw [hw] at hj
    rw [this, jf]
    exact hj
  · rw [if_neg h1] at hw
    have h2 : decide (e < ((15 : Nat) : Int)) = true := decide_eq_true (by omega)
    rw [hw] at hj
    rw [h2, jt, if_pos (by omega), if_pos (by rw [hl]; omega)]
    exact hj

theorem l0_step (k : Nat) (x0 e : Int) (t : ByteArray) (x7 x8 : Int) (n : ByteArray) (h : x8 ≤ 4) (hn : carryoverref27_Name.f x8 = some n) :
    carryoverlaw27_ReportNames.l0 (k + 1) x0 e t x7 x8 = carryoverlaw27_ReportNames.l0 k x0 e t (if n.toList = t.toList then x8 else x7) (wrap64 (x8 + 1)) := by
  rw [carryoverlaw27_ReportNames.l0, if_pos h, hn]
  simp only [Option.bind_some]
  by_cases c : n.toList = t.toList
  · rw [if_pos c, if_pos c]
  · rw [if_neg c, if_neg c]

theorem loop_is (k : Nat) (x0 e : Int) (t : ByteArray) : carryoverlaw27_ReportNames.l0 (k + 13) x0 e t 0 1 = some true := by
  have e1 : (⟨#[109, 117, 108, 116, 105]⟩ : ByteArray).toList = multi := by decide +kernel
  have e2 : (⟨#[107, 102, 105, 102, 111]⟩ : ByteArray).toList = kfifo := by decide +kernel
  have e3 : (⟨#[116, 97, 108, 108, 121]⟩ : ByteArray).toList = tally := by decide +kernel
  have e4 : (⟨#[110, 101, 116]⟩ : ByteArray).toList = net := by decide +kernel
  have n1 : carryoverref27_Name.f 1 = some ⟨#[109, 117, 108, 116, 105]⟩ := rfl
  have n2 : carryoverref27_Name.f 2 = some ⟨#[107, 102, 105, 102, 111]⟩ := rfl
  have n3 : carryoverref27_Name.f 3 = some ⟨#[116, 97, 108, 108, 121]⟩ := rfl
  have n4 : carryoverref27_Name.f 4 = some ⟨#[110, 101, 116]⟩ := rfl
  have ht := tail_is k x0 e t
  have fin : ∀ x7, x7 = want t.toList → carryoverlaw27_ReportNames.l0 (k + 8 + 1) x0 e t x7 5 = some true := by
    intro x7 hx; subst hx
    rw [carryoverlaw27_ReportNames.l0, if_neg (by decide)]
    exact ht
  rw [l0_step (k + 12) x0 e t 0 1 _ (by decide) n1, l0_step (k + 11) x0 e t _ _ _ (by rw [w2]; decide) (by rw [w2]; exact n2), l0_step (k + 10) x0 e t _ _ _ (by rw [w2, w3]; decide) (by rw [w2, w3]; exact n3), l0_step (k + 9) x0 e t _ _ _ (by rw [w2, w3, w4]; decide) (by rw [w2, w3, w4]; exact n4), w2, w3, w4, w5, e1, e2, e3, e4]
  refine fin _ ?_
  generalize t.toList = l
  unfold want
  by_cases h1 : l = multi
  · subst h1; decide +kernel
  by_cases h2 : l = kfifo
  · subst h2; decide +kernel
  by_cases h3 : l = tally
  · subst h3; decide +kernel
  by_cases h4 : l = net
  · subst h4; decide +kernel
  rw [if_neg h1, if_neg h2, if_neg h3, if_neg h4, if_neg (fun h => h4 h.symm), if_neg (fun h => h3 h.symm), if_neg (fun h => h2 h.symm), if_neg (fun h => h1 h.symm)]

theorem ReportNames : carryoverlaw27_ReportNames.Pure := by
  intro a0 a1 a2 _ _ _
  obtain ⟨t, ht⟩ := cut_some a2
  refine ⟨47 + 13, ?_⟩
  unfold carryoverlaw27_ReportNames.f
  rw [ht]
  simp only [Option.bind_some]
  rw [show carryoverlaw27_awake.f (47 + 13) = some true from awake_true]
  simp only [Option.bind_some, if_true]
  exact loop_is 47 a0 a1 t

end Go.Proofs.Ytfieppbehmglbaa.Pure
