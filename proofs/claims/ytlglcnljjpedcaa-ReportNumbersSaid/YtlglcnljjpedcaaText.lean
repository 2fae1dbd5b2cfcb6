/-
  The text of a float: a word, or its sixteen digits.
-/
import Derived.Test.YtlglcnljjpedcaaWords
import Derived.Test.YtlglcnljjpedcaaFw
import Derived.Outline
set_option linter.unusedVariables false
set_option linter.unusedSimpArgs false
namespace Go.Proofs.Ytlglcnljjpedcaa
open Go.RowKit Go.Proofs.YtlglcnljjpedcaaW.PrintWords Go.Proofs.YtlglcnljjpedcaaW.PrintLast
namespace XWords
open XFlt
def hexs : List UInt8 := [48, 49, 50, 51, 52, 53, 54, 55, 56, 57, 97, 98, 99, 100, 101, 102]
def hexd (d : Nat) : Int := ((hexs.getD d 0).toNat : Int)
theorem index_hex (d : Nat) (hd : d < 16) (w : World) : (Instr.index 9 (.string ⟨#[48, 49, 50, 51, 52, 53, 54, 55, 56, 57, 97, 98, 99, 100, 101, 102]⟩) (.int .u64 (d : Int))).run Try.prog w = .ok (.int .u8 (hexd d)) w := by
  obtain h | h | h | h | h | h | h | h | h | h | h | h | h | h | h | h : d = 0 ∨ d = 1 ∨ d = 2 ∨ d = 3 ∨ d = 4 ∨ d = 5 ∨ d = 6 ∨ d = 7 ∨ d = 8 ∨ d = 9 ∨ d = 10 ∨ d = 11 ∨ d = 12 ∨ d = 13 ∨ d = 14 ∨ d = 15 := by omega
  all_goals (subst h; kernel_rfl)
theorem digit_at (b p : Nat) (hb : b < 18446744073709551616) : bits .and .u64 (ofF b / (p : Int)) 15 = ((b / p % 16 : Nat) : Int) := by
  have e : ofF b / (p : Int) = ((b / p : Nat) : Int) := by unfold ofF; exact (Int.natCast_ediv b p).symm
  rw [e]
  have h1 : b / p < 18446744073709551616 := Nat.lt_of_le_of_lt (Nat.div_le_self _ _) hb
  have h := u64_and_nat (b / p) 15 h1 (by decide)
  rw [show ((15 : Nat) : Int) = 15 from rfl] at h
  rw [h, nat_mask4]
def hexText (b : Nat) : ByteArray := ⟨([b / 1152921504606846976, b / 72057594037927936, b / 4503599627370496, b / 281474976710656, b / 17592186044416, b / 1099511627776, b / 68719476736, b / 4294967296, b / 268435456, b / 16777216, b / 1048576, b / 65536, b / 4096, b / 256, b / 16, b / 1].map fun d => hexs.getD (d % 16) 0).toArray⟩

set_option maxRecDepth 100000 in
set_option maxHeartbeats 4000000 in
theorem text_hex (b : Nat) (w : World) (hb : b < 18446744073709551616) (hs : ∀ p ∈ tabI, p.1 ≠ ((keyB b : Nat) : Int)) :
    Calls Try.prog 36 #[.float .f64 b] w fun e w' => e = .returned (.string (hexText b)) ∧ Below w.heap.size w w' := by
  have x0 := digit_at b 1152921504606846976 hb
  have x1 := digit_at b 72057594037927936 hb
  have x2 := digit_at b 4503599627370496 hb
  have x3 := digit_at b 281474976710656 hb
  have x4 := digit_at b 17592186044416 hb
  have x5 := digit_at b 1099511627776 hb
  have x6 := digit_at b 68719476736 hb
  have x7 := digit_at b 4294967296 hb
  have x8 := digit_at b 268435456 hb
  have x9 := digit_at b 16777216 hb
  have x10 := digit_at b 1048576 hb
  have x11 := digit_at b 65536 hb
  have x12 := digit_at b 4096 hb
  have x13 := digit_at b 256 hb
  have x14 := digit_at b 16 hb
  have x15 := digit_at b 1 hb
  rw [show ofF b / ((1 : Nat) : Int) = ofF b from Int.ediv_one _] at x15
  simp only [Int.cast_ofNat_Int] at x0 x1 x2 x3 x4 x5 x6 x7 x8 x9 x10 x11 x12 x13 x14
  have y0 : b / 1152921504606846976 % 16 < 16 := Nat.mod_lt _ (by decide)
  have z0 := index_hex _ y0
  have y1 : b / 72057594037927936 % 16 < 16 := Nat.mod_lt _ (by decide)
  have z1 := index_hex _ y1
  have y2 : b / 4503599627370496 % 16 < 16 := Nat.mod_lt _ (by decide)
  have z2 := index_hex _ y2
  have y3 : b / 281474976710656 % 16 < 16 := Nat.mod_lt _ (by decide)
  have z3 := index_hex _ y3
  have y4 : b / 17592186044416 % 16 < 16 := Nat.mod_lt _ (by decide)
  have z4 := index_hex _ y4
  have y5 : b / 1099511627776 % 16 < 16 := Nat.mod_lt _ (by decide)
  have z5 := index_hex _ y5
  have y6 : b / 68719476736 % 16 < 16 := Nat.mod_lt _ (by decide)
  have z6 := index_hex _ y6
  have y7 : b / 4294967296 % 16 < 16 := Nat.mod_lt _ (by decide)
  have z7 := index_hex _ y7
  have y8 : b / 268435456 % 16 < 16 := Nat.mod_lt _ (by decide)
  have z8 := index_hex _ y8
  have y9 : b / 16777216 % 16 < 16 := Nat.mod_lt _ (by decide)
  have z9 := index_hex _ y9
  have y10 : b / 1048576 % 16 < 16 := Nat.mod_lt _ (by decide)
  have z10 := index_hex _ y10
  have y11 : b / 65536 % 16 < 16 := Nat.mod_lt _ (by decide)
  have z11 := index_hex _ y11
  have y12 : b / 4096 % 16 < 16 := Nat.mod_lt _ (by decide)
  have z12 := index_hex _ y12
  have y13 : b / 256 % 16 < 16 := Nat.mod_lt _ (by decide)
  have z13 := index_hex _ y13
  have y14 : b / 16 % 16 < 16 := Nat.mod_lt _ (by decide)
  have z14 := index_hex _ y14
  have y15 : b / 1 % 16 < 16 := Nat.mod_lt _ (by decide)
  have z15 := index_hex _ y15
  have hfin : hexText b = ⟨([hexs.getD (b / 1152921504606846976 % 16) 0, hexs.getD (b / 72057594037927936 % 16) 0, hexs.getD (b / 4503599627370496 % 16) 0, hexs.getD (b / 281474976710656 % 16) 0, hexs.getD (b / 17592186044416 % 16) 0, hexs.getD (b / 1099511627776 % 16) 0, hexs.getD (b / 68719476736 % 16) 0, hexs.getD (b / 4294967296 % 16) 0, hexs.getD (b / 268435456 % 16) 0, hexs.getD (b / 16777216 % 16) 0, hexs.getD (b / 1048576 % 16) 0, hexs.getD (b / 65536 % 16) 0, hexs.getD (b / 4096 % 16) 0, hexs.getD (b / 256 % 16) 0, hexs.getD (b / 16 % 16) 0, hexs.getD (b / 1 % 16) 0]).toArray⟩ := rfl
  generalize b / 1152921504606846976 % 16 = d0 at *
  generalize b / 72057594037927936 % 16 = d1 at *
  generalize b / 4503599627370496 % 16 = d2 at *
  generalize b / 281474976710656 % 16 = d3 at *
  generalize b / 17592186044416 % 16 = d4 at *
  generalize b / 1099511627776 % 16 = d5 at *
  generalize b / 68719476736 % 16 = d6 at *
  generalize b / 4294967296 % 16 = d7 at *
  generalize b / 268435456 % 16 = d8 at *
  generalize b / 16777216 % 16 = d9 at *
  generalize b / 1048576 % 16 = d10 at *
  generalize b / 65536 % 16 = d11 at *
  generalize b / 4096 % 16 = d12 at *
  generalize b / 256 % 16 = d13 at *
  generalize b / 16 % 16 = d14 at *
  generalize b / 1 % 16 = d15 at *
  have HF := Lib.hid hfin
  have HB := Lib.hid hb
  have HS := Lib.hid hs
  clear hb hs hfin
  go_enter Try.func36, Try.ntmps36
  go_wp2_with fail
  refine (words_any _).mono ?_
  rintro e w' ⟨es, clk, rfl, hL, rfl⟩
  have HL := Lib.hid hL
  clear hL
  go_wp2_with fail
  refine (XReal.key_any _ _ HB.out).mono ?_
  rintro e w' ⟨rfl, rfl⟩
  have hlk := lookup_miss (w := (w.alloc (.map es clk)).drew) (g := w.heap.size) HL.out (heap_alloc_new w _) HS.out
  go_wp2
  clear hlk
  refine wp_loop_rounds 17 ?_
  rw [rounds_succ]
  go_wp2
  clear x0 z0
  rw [rounds_succ]
  go_wp2
  clear x1 z1
  rw [rounds_succ]
  go_wp2
  clear x2 z2
  rw [rounds_succ]
  go_wp2
  clear x3 z3
  rw [rounds_succ]
  go_wp2
  clear x4 z4
  rw [rounds_succ]
  go_wp2
  clear x5 z5
  rw [rounds_succ]
  go_wp2
  clear x6 z6
  rw [rounds_succ]
  go_wp2
  clear x7 z7
  rw [rounds_succ]
  go_wp2
  clear x8 z8
  rw [rounds_succ]
  go_wp2
  clear x9 z9
  rw [rounds_succ]
  go_wp2
  clear x10 z10
  rw [rounds_succ]
  go_wp2
  clear x11 z11
  rw [rounds_succ]
  go_wp2
  clear x12 z12
  rw [rounds_succ]
  go_wp2
  clear x13 z13
  rw [rounds_succ]
  go_wp2
  clear x14 z14
  rw [rounds_succ]
  go_wp2
  clear x15 z15
  rw [rounds_succ]
  go_wp2
  have hcv := Go.run_convert_bytes_back (P := Try.prog) ((w.alloc (Obj.map es clk)).alloc (Obj.cells #[Value.int IntKind.u8 (hexd d0), Value.int IntKind.u8 (hexd d1), Value.int IntKind.u8 (hexd d2), Value.int IntKind.u8 (hexd d3), Value.int IntKind.u8 (hexd d4), Value.int IntKind.u8 (hexd d5), Value.int IntKind.u8 (hexd d6), Value.int IntKind.u8 (hexd d7), Value.int IntKind.u8 (hexd d8), Value.int IntKind.u8 (hexd d9), Value.int IntKind.u8 (hexd d10), Value.int IntKind.u8 (hexd d11), Value.int IntKind.u8 (hexd d12), Value.int IntKind.u8 (hexd d13), Value.int IntKind.u8 (hexd d14), Value.int IntKind.u8 (hexd d15)] 93)).drew 94 9 5 ⟨w.heap.size + 1, 0, none⟩ 16 [hexs.getD d0 0, hexs.getD d1 0, hexs.getD d2 0, hexs.getD d3 0, hexs.getD d4 0, hexs.getD d5 0, hexs.getD d6 0, hexs.getD d7 0, hexs.getD d8 0, hexs.getD d9 0, hexs.getD d10 0, hexs.getD d11 0, hexs.getD d12 0, hexs.getD d13 0, hexs.getD d14 0, hexs.getD d15 0] Try.underlying94 Try.underlying5 Try.underlying9 ?_
  rotate_left
  · intro j hj
    have hj : j < 16 := hj
    obtain h | h | h | h | h | h | h | h | h | h | h | h | h | h | h | h : j = 0 ∨ j = 1 ∨ j = 2 ∨ j = 3 ∨ j = 4 ∨ j = 5 ∨ j = 6 ∨ j = 7 ∨ j = 8 ∨ j = 9 ∨ j = 10 ∨ j = 11 ∨ j = 12 ∨ j = 13 ∨ j = 14 ∨ j = 15 := by omega
    all_goals (subst h; go_simp; try rfl)
  simp only [List.length_cons, List.length_nil, Nat.zero_add, Nat.reduceAdd] at hcv
  rw [hcv]
  clear hcv
  go_wp2
  go_ret
  refine ⟨by rw [HF.out]; simp [List.getD], ?_⟩
  exact (((Below.refl _ _).alloc (Nat.le_refl _) _).alloc (by simp) _).drew

/-- The text of a float, by its word. -/
def textB (b : Nat) : ByteArray :=
  if keyB b = 9223372036854775808 then ⟨#[48]⟩ else if keyB b = 9223372036854775807 then ⟨#[45, 48]⟩ else if keyB b = 18442240474082181120 then ⟨#[105, 110, 102]⟩
  else if keyB b = 4503599627370495 then ⟨#[45, 105, 110, 102]⟩ else if keyB b = 18444492273895866368 then ⟨#[110, 97, 110]⟩ else hexText b

theorem text_any (b : Nat) (w : World) (hb : b < 18446744073709551616) : Calls Try.prog 36 #[.float .f64 b] w fun e w' => e = .returned (.string (textB b)) ∧ Below w.heap.size w w' := by
  unfold textB
  by_cases h0 : keyB b = 9223372036854775808
  · rw [if_pos h0]; exact text_word b _ w hb (.inr trivial) (by rw [h0]; exact List.mem_cons_self)
  rw [if_neg h0]
  by_cases h1 : keyB b = 9223372036854775807
  · rw [if_pos h1]; exact text_word b _ w hb (.inr trivial) (by rw [h1]; exact List.mem_cons_of_mem _ List.mem_cons_self)
  rw [if_neg h1]
  by_cases h2 : keyB b = 18442240474082181120
  · rw [if_pos h2]; exact text_word b _ w hb (.inr trivial) (by rw [h2]; exact List.mem_cons_of_mem _ (List.mem_cons_of_mem _ List.mem_cons_self))
  rw [if_neg h2]
  by_cases h3 : keyB b = 4503599627370495
  · rw [if_pos h3]; exact text_word b _ w hb (.inr trivial) (by rw [h3]; exact List.mem_cons_of_mem _ (List.mem_cons_of_mem _ (List.mem_cons_of_mem _ List.mem_cons_self)))
  rw [if_neg h3]
  by_cases h4 : keyB b = 18444492273895866368
  · rw [if_pos h4]; exact text_word b _ w hb (.inr trivial) (by rw [h4]; exact List.mem_cons_of_mem _ (List.mem_cons_of_mem _ (List.mem_cons_of_mem _ (List.mem_cons_of_mem _ List.mem_cons_self))))
  rw [if_neg h4]
  refine text_hex b w hb ?_
  intro p hp e
  simp only [tabI, List.mem_cons, List.not_mem_nil, or_false] at hp
  rcases hp with rfl | rfl | rfl | rfl | rfl <;> dsimp only at e <;> omega
end XWords
end Go.Proofs.Ytlglcnljjpedcaa
