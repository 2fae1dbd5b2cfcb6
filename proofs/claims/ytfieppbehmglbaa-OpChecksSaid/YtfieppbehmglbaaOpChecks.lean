/-
  The walk of the law OpChecks: every kind and every operation, case by case.
-/
import Derived.Test.YtfieppbehmglbaaProg
import Derived.Test.YtfieppbehmglbaaFlt
import Derived.WalkKit
import Derived.LoopTactic
import Derived.Outline
import Derived.BigQuiet
import Derived.Deep.QuietTactic
import Derived.WalkLawsBesides
import Derived.WalkSpells
import Derived.Lib.Hide
import Derived.Handy
import Derived.LoopN
set_option linter.unusedVariables false
namespace Go.Proofs.Ytfieppbehmglbaa
open Go.RowKit
namespace XOpChecks

def Yes (w : World) (e : Ending) (w' : World) : Prop := e = .returned (.bool true) ∧ Below w.heap.size w w'
theorem yes_mk {w w' : World} {b : Bool} (h : b = true) (hb : Below w.heap.size w w') : Yes w (.returned (.bool b)) w' := ⟨by rw [h], hb⟩

set_option maxHeartbeats 1000000 in
theorem c1a (k val : Int) (w : World) (hk : k < 1) :
    Calls Try.prog 5 #[.int .i64 1, .int .i64 k, .int .i64 val] w (Yes w) := by
  go_enter Try.func5, Try.ntmps5
  go_wp2
  go_rounds 3
  go_rounds 3
  all_goals
    go_ret
    refine yes_mk (by simp; try omega) ?_
    repeat (first | exact Below.refl _ _ | refine Below.alloc ?_ (by simp; try omega) _ | refine Below.setCell ?_ (by simp; try omega) _ | refine Below.drew ?_)

set_option maxHeartbeats 1000000 in
theorem c1d (k val : Int) (w : World) (hk : 2 < k) :
    Calls Try.prog 5 #[.int .i64 1, .int .i64 k, .int .i64 val] w (Yes w) := by
  go_enter Try.func5, Try.ntmps5
  go_wp2
  go_rounds 3
  go_rounds 3
  all_goals
    go_ret
    refine yes_mk (by simp; try omega) ?_
    repeat (first | exact Below.refl _ _ | refine Below.alloc ?_ (by simp; try omega) _ | refine Below.setCell ?_ (by simp; try omega) _ | refine Below.drew ?_)

set_option maxHeartbeats 1000000 in
theorem c2a (k val : Int) (w : World) (hk : k < 3) :
    Calls Try.prog 5 #[.int .i64 2, .int .i64 k, .int .i64 val] w (Yes w) := by
  go_enter Try.func5, Try.ntmps5
  go_wp2
  go_rounds 3
  go_rounds 3
  all_goals
    go_ret
    refine yes_mk (by simp; try omega) ?_
    repeat (first | exact Below.refl _ _ | refine Below.alloc ?_ (by simp; try omega) _ | refine Below.setCell ?_ (by simp; try omega) _ | refine Below.drew ?_)

set_option maxHeartbeats 1000000 in
theorem c2d (k val : Int) (w : World) (hk : 4 < k) :
    Calls Try.prog 5 #[.int .i64 2, .int .i64 k, .int .i64 val] w (Yes w) := by
  go_enter Try.func5, Try.ntmps5
  go_wp2
  go_rounds 3
  go_rounds 3
  all_goals
    go_ret
    refine yes_mk (by simp; try omega) ?_
    repeat (first | exact Below.refl _ _ | refine Below.alloc ?_ (by simp; try omega) _ | refine Below.setCell ?_ (by simp; try omega) _ | refine Below.drew ?_)

set_option maxHeartbeats 1000000 in
theorem c3a (k val : Int) (w : World) (hk : k < 5) :
    Calls Try.prog 5 #[.int .i64 3, .int .i64 k, .int .i64 val] w (Yes w) := by
  go_enter Try.func5, Try.ntmps5
  go_wp2
  go_rounds 3
  go_rounds 3
  all_goals
    go_ret
    refine yes_mk (by simp; try omega) ?_
    repeat (first | exact Below.refl _ _ | refine Below.alloc ?_ (by simp; try omega) _ | refine Below.setCell ?_ (by simp; try omega) _ | refine Below.drew ?_)

set_option maxHeartbeats 1000000 in
theorem c3d (k val : Int) (w : World) (hk : 6 < k) :
    Calls Try.prog 5 #[.int .i64 3, .int .i64 k, .int .i64 val] w (Yes w) := by
  go_enter Try.func5, Try.ntmps5
  go_wp2
  go_rounds 3
  go_rounds 3
  all_goals
    go_ret
    refine yes_mk (by simp; try omega) ?_
    repeat (first | exact Below.refl _ _ | refine Below.alloc ?_ (by simp; try omega) _ | refine Below.setCell ?_ (by simp; try omega) _ | refine Below.drew ?_)

set_option maxHeartbeats 1000000 in
theorem c4a (k val : Int) (w : World) (hk : k < 7) :
    Calls Try.prog 5 #[.int .i64 4, .int .i64 k, .int .i64 val] w (Yes w) := by
  go_enter Try.func5, Try.ntmps5
  go_wp2
  go_rounds 3
  go_rounds 3
  all_goals
    go_ret
    refine yes_mk (by simp; try omega) ?_
    repeat (first | exact Below.refl _ _ | refine Below.alloc ?_ (by simp; try omega) _ | refine Below.setCell ?_ (by simp; try omega) _ | refine Below.drew ?_)

set_option maxHeartbeats 1000000 in
theorem c4d (k val : Int) (w : World) (hk : 7 < k) :
    Calls Try.prog 5 #[.int .i64 4, .int .i64 k, .int .i64 val] w (Yes w) := by
  go_enter Try.func5, Try.ntmps5
  go_wp2
  go_rounds 3
  go_rounds 3
  all_goals
    go_ret
    refine yes_mk (by simp; try omega) ?_
    repeat (first | exact Below.refl _ _ | refine Below.alloc ?_ (by simp; try omega) _ | refine Below.setCell ?_ (by simp; try omega) _ | refine Below.drew ?_)

set_option maxHeartbeats 1000000 in
theorem c1b (val : Int) (w : World)  :
    Calls Try.prog 5 #[.int .i64 1, .int .i64 1, .int .i64 val] w (Yes w) := by
  go_enter Try.func5, Try.ntmps5
  go_wp2
  go_rounds 3
  go_rounds 3
  all_goals
    go_ret
    refine yes_mk (by simp; try omega) ?_
    repeat (first | exact Below.refl _ _ | refine Below.alloc ?_ (by simp; try omega) _ | refine Below.setCell ?_ (by simp; try omega) _ | refine Below.drew ?_)

set_option maxHeartbeats 1000000 in
theorem c1c (val : Int) (w : World)  :
    Calls Try.prog 5 #[.int .i64 1, .int .i64 2, .int .i64 val] w (Yes w) := by
  go_enter Try.func5, Try.ntmps5
  go_wp2
  go_rounds 3
  go_rounds 3
  all_goals
    go_ret
    refine yes_mk (by simp; try omega) ?_
    repeat (first | exact Below.refl _ _ | refine Below.alloc ?_ (by simp; try omega) _ | refine Below.setCell ?_ (by simp; try omega) _ | refine Below.drew ?_)

set_option maxHeartbeats 1000000 in
theorem c2b (val : Int) (w : World)  :
    Calls Try.prog 5 #[.int .i64 2, .int .i64 3, .int .i64 val] w (Yes w) := by
  go_enter Try.func5, Try.ntmps5
  go_wp2
  go_rounds 3
  go_rounds 3
  all_goals
    go_ret
    refine yes_mk (by simp; try omega) ?_
    repeat (first | exact Below.refl _ _ | refine Below.alloc ?_ (by simp; try omega) _ | refine Below.setCell ?_ (by simp; try omega) _ | refine Below.drew ?_)

set_option maxHeartbeats 1000000 in
theorem c2c (val : Int) (w : World)  :
    Calls Try.prog 5 #[.int .i64 2, .int .i64 4, .int .i64 val] w (Yes w) := by
  go_enter Try.func5, Try.ntmps5
  go_wp2
  go_rounds 3
  go_rounds 3
  all_goals
    go_ret
    refine yes_mk (by simp; try omega) ?_
    repeat (first | exact Below.refl _ _ | refine Below.alloc ?_ (by simp; try omega) _ | refine Below.setCell ?_ (by simp; try omega) _ | refine Below.drew ?_)

set_option maxHeartbeats 1000000 in
theorem c3b0 (val : Int) (w : World) (hv : val < 0) :
    Calls Try.prog 5 #[.int .i64 3, .int .i64 5, .int .i64 val] w (Yes w) := by
  go_enter Try.func5, Try.ntmps5
  go_wp2
  go_rounds 3
  go_rounds 3
  all_goals
    go_ret
    refine yes_mk (by simp; try omega) ?_
    repeat (first | exact Below.refl _ _ | refine Below.alloc ?_ (by simp; try omega) _ | refine Below.setCell ?_ (by simp; try omega) _ | refine Below.drew ?_)

set_option maxHeartbeats 1000000 in
theorem c3b1 (val : Int) (w : World) (hv : 4294967296 < val) :
    Calls Try.prog 5 #[.int .i64 3, .int .i64 5, .int .i64 val] w (Yes w) := by
  go_enter Try.func5, Try.ntmps5
  go_wp2
  go_rounds 3
  go_rounds 3
  all_goals
    go_ret
    refine yes_mk (by simp; try omega) ?_
    repeat (first | exact Below.refl _ _ | refine Below.alloc ?_ (by simp; try omega) _ | refine Below.setCell ?_ (by simp; try omega) _ | refine Below.drew ?_)

set_option maxHeartbeats 1000000 in
theorem c3b2 (val : Int) (w : World) (h0 : 0 ≤ val) (hv : val ≤ 4294967296) :
    Calls Try.prog 5 #[.int .i64 3, .int .i64 5, .int .i64 val] w (Yes w) := by
  go_enter Try.func5, Try.ntmps5
  go_wp2
  go_rounds 3
  go_rounds 3
  all_goals
    go_ret
    refine yes_mk (by simp; try omega) ?_
    repeat (first | exact Below.refl _ _ | refine Below.alloc ?_ (by simp; try omega) _ | refine Below.setCell ?_ (by simp; try omega) _ | refine Below.drew ?_)

set_option maxHeartbeats 1000000 in
theorem c3c (val : Int) (w : World)  :
    Calls Try.prog 5 #[.int .i64 3, .int .i64 6, .int .i64 val] w (Yes w) := by
  go_enter Try.func5, Try.ntmps5
  go_wp2
  go_rounds 3
  go_rounds 3
  all_goals
    go_ret
    refine yes_mk (by simp; try omega) ?_
    repeat (first | exact Below.refl _ _ | refine Below.alloc ?_ (by simp; try omega) _ | refine Below.setCell ?_ (by simp; try omega) _ | refine Below.drew ?_)

set_option maxHeartbeats 1000000 in
theorem c4b (val : Int) (w : World)  :
    Calls Try.prog 5 #[.int .i64 4, .int .i64 7, .int .i64 val] w (Yes w) := by
  go_enter Try.func5, Try.ntmps5
  go_wp2
  go_rounds 3
  go_rounds 3
  all_goals
    go_ret
    refine yes_mk (by simp; try omega) ?_
    repeat (first | exact Below.refl _ _ | refine Below.alloc ?_ (by simp; try omega) _ | refine Below.setCell ?_ (by simp; try omega) _ | refine Below.drew ?_)

set_option maxHeartbeats 1000000 in
theorem c0 (kind k val : Int) (w : World) (hk : kind < 1) :
    Calls Try.prog 5 #[.int .i64 kind, .int .i64 k, .int .i64 val] w (Yes w) := by
  go_enter Try.func5, Try.ntmps5
  go_wp2
  go_rounds 3
  go_rounds 3
  all_goals
    go_ret
    refine yes_mk (by simp; try omega) ?_
    repeat (first | exact Below.refl _ _ | refine Below.alloc ?_ (by simp; try omega) _ | refine Below.setCell ?_ (by simp; try omega) _ | refine Below.drew ?_)

set_option maxHeartbeats 1000000 in
theorem c5 (kind k val : Int) (w : World) (hk : 4 < kind) :
    Calls Try.prog 5 #[.int .i64 kind, .int .i64 k, .int .i64 val] w (Yes w) := by
  go_enter Try.func5, Try.ntmps5
  go_wp2
  go_rounds 3
  go_rounds 3
  all_goals
    go_ret
    refine yes_mk (by simp; try omega) ?_
    repeat (first | exact Below.refl _ _ | refine Below.alloc ?_ (by simp; try omega) _ | refine Below.setCell ?_ (by simp; try omega) _ | refine Below.drew ?_)

theorem walk (kind k val : Int) (w : World) (w0 : (Lit.int .i64 kind).wf = true) (w1 : (Lit.int .i64 k).wf = true) (w2 : (Lit.int .i64 val).wf = true) :
    Calls Try.prog 5 #[.int .i64 kind, .int .i64 k, .int .i64 val] w fun e w' => e = .returned (.bool true) ∧ Below w.heap.size w w' := by
  show Calls Try.prog 5 #[.int .i64 kind, .int .i64 k, .int .i64 val] w (Yes w)
  rcases (by omega : kind < 1 ∨ kind = 1 ∨ kind = 2 ∨ kind = 3 ∨ kind = 4 ∨ 4 < kind) with h | h | h | h | h | h
  · exact c0 kind k val w h
  · subst h
    rcases (by omega : k < 1 ∨ k = 1 ∨ k = 2 ∨ 2 < k) with h | h | h | h
    · exact c1a k val w h
    · subst h; exact c1b val w
    · subst h; exact c1c val w
    · exact c1d k val w h
  · subst h
    rcases (by omega : k < 3 ∨ k = 3 ∨ k = 4 ∨ 4 < k) with h | h | h | h
    · exact c2a k val w h
    · subst h; exact c2b val w
    · subst h; exact c2c val w
    · exact c2d k val w h
  · subst h
    rcases (by omega : k < 5 ∨ k = 5 ∨ k = 6 ∨ 6 < k) with h | h | h | h
    · exact c3a k val w h
    · subst h
      rcases (by omega : val < 0 ∨ 4294967296 < val ∨ (0 ≤ val ∧ val ≤ 4294967296)) with h | h | h
      · exact c3b0 val w h
      · exact c3b1 val w h
      · exact c3b2 val w h.1 h.2
    · subst h; exact c3c val w
    · exact c3d k val w h
  · subst h
    rcases (by omega : k < 7 ∨ k = 7 ∨ 7 < k) with h | h | h
    · exact c4a k val w h
    · subst h; exact c4b val w
    · exact c4d k val w h
  · exact c5 kind k val w h

end XOpChecks
end Go.Proofs.Ytfieppbehmglbaa
