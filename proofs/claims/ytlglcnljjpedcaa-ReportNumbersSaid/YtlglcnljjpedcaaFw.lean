/-
  Words beside the print's: a float64 as a kind of its own (by its word), the words of a float and back, the complement of a uint64.
-/
import Derived.Test.YtlglcnljjpedcaaProg
import Derived.Test.YtlglcnljjpedcaaWWords
import Derived.Test.YtlglcnljjpedcaaWFoot
import Derived.Laws.Externs
import Derived.WalkLawsBesides
namespace Go.Proofs.YtlglcnljjpedcaaW.PrintWords
open Go.RowKit

def Kd.flt : Kd Nat := Kd.scalar (Value.float .f64) (fun _ => rfl)
theorem Kd.heap_flt : Kd.Heap Kd.flt := ⟨fun _ h => h⟩
theorem Kd.at_flt {w : World} {A : Option Addr} {n : Nat} {xs : List Nat} (h : Kd.flt.C w A n xs) (i : Int) (h0 : 0 ≤ i) (h1 : i < n) : ∃ ad, A = some ad ∧ w.cell? (ad.add i.toNat) = some (.float .f64 (rdOf (0 : Nat) xs i)) :=
  ReadsOf.at_ (Kd.reads_of_C (enc := Value.float .f64) (d := (0 : Nat)) (h1 := fun _ => rfl) h) i h0 h1

/-- The word of a float, and the float of a word: kept closed in the walks. -/
def toF (n : Int) : Nat := n.toNat
def ofF (b : Nat) : Int := b
theorem toF_ofF (b : Nat) : toF (ofF b) = b := by simp [toF, ofF]
theorem ofF_toF {n : Int} (h : 0 ≤ n) : ofF (toF n) = n := by unfold toF ofF; omega

@[go_sem] theorem run_store_float {P : Program} (w : World) (a : Addr) (b : Nat) (m : Mode) : (store a (.float .f64 b) m).run P w = stored P w a (.float .f64 b) m := run_store P w a _ m rfl
@[go_sem high] theorem unary_xor_u64 (n : Int) : Op.unary .xor (.int .u64 n) = Op.intBits .xor .u64 IntKind.u64.max n := rfl
@[go_sem] theorem run_frombits (n : Int) (w : World) : (callFunc 61 #[.int .u64 n]).run Try.prog w = .ok (.value (.float .f64 (toF n))) w := by
  rw [run_callFunc_extern (fn := Try.f61) (e := Extern.MathFloatBits.float64frombits) Try.func61 (by kernel_rfl) (by kernel_rfl) (by kernel_rfl) (by kernel_rfl)]
  rfl
@[go_sem] theorem run_floatbits (b : Nat) (w : World) : (callFunc 26 #[.float .f64 b]).run Try.prog w = .ok (.value (.int .u64 (ofF b))) w := by
  rw [run_callFunc_extern (fn := Try.f26) (e := Extern.MathFloatBits.float64bits) Try.func26 (by kernel_rfl) (by kernel_rfl) (by kernel_rfl) (by kernel_rfl)]
  rfl
end Go.Proofs.YtlglcnljjpedcaaW.PrintWords
