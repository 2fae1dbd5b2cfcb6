/-
  Numbers as lines: package report's digits and the document's are the same, for every number; the law ReportNumbers. No condition but the row's own.
-/
import Derived.Test.YtlglcnljjpedcaaPRepx
import Derived.Test.YtlglcnljjpedcaaFlt
import Derived.Test.YtlglcnljjpedcaaText
set_option linter.unusedVariables false
namespace Go.Proofs.Ytlglcnljjpedcaa.XRep
open Go.RowKit Go.Proofs.Ytlglcnljjpedcaa.PRep Go.Proofs.YtlglcnljjpedcaaW.PrintWords Go.Proofs.YtlglcnljjpedcaaW.PrintLast Go.Proofs.Ytlglcnljjpedcaa.XFlt

def hexB : ByteArray := ⟨#[48, 49, 50, 51, 52, 53, 54, 55, 56, 57, 97, 98, 99, 100, 101, 102]⟩
def hx (d : Nat) : UInt8 := [48, 49, 50, 51, 52, 53, 54, 55, 56, 57, 97, 98, 99, 100, 101, 102].getD d 0
def hi (d : Nat) : Int := ((hx d).toNat : Int)
def str (l : List Nat) : ByteArray := ⟨(l.map hx).toArray⟩

theorem cases16 {d : Nat} {P : Nat → Prop} (h : d < 16) (h0 : ∀ e : Fin 16, P e.1) : P d := h0 ⟨d, h⟩
theorem bt_hex {d : Nat} (h : d < 16) : bt hexB (d : Int) = hi d := by
  refine cases16 (P := fun d => bt hexB (d : Int) = hi d) h ?_
  decide +kernel
theorem str_nums (l : List Nat) : strOfNums (l.map hi) = str l := by
  unfold strOfNums str
  rw [List.map_map]
  have : ((fun n : Int => UInt8.ofNat n.toNat) ∘ hi) = hx := by
    funext d
    simp [hi]
  first | rw [this] | (simp only [Function.comp_def] at this ⊢; simp [this, hi])

/-- The digits, the last one first. -/
def digs (b : Nat) : Nat → Nat → Nat → List Nat
  | 0, _, _ => []
  | f + 1, n, l => if n = 0 ∧ l = 0 then [] else (n % b) :: digs b f (n / b) (l - 1)
theorem digs_len (b : Nat) : ∀ f n l, (digs b f n l).length ≤ f
  | 0, _, _ => Nat.le_refl _
  | f + 1, n, l => by
    unfold digs
    split
    · exact Nat.zero_le _
    · have := digs_len b f (n / b) (l - 1)
      rw [List.length_cons]; omega

theorem rev_loop {n : Nat} (l : List Int) (hn : l.length = n) (hb : n < 1000) : ∀ (m k : Nat) (x : List Int) (i : Nat), n ≤ 2 * i + m → m < k → x.length = n →
    (∀ j, j < n → x.getD j 0 = if j < i ∨ n < j + 1 + i then l.getD (n - 1 - j) 0 else l.getD j 0) → slices_Reverse_byte_byte.l0 k x (i : Int) ((n : Int) - 1 - i) = some l.reverse := by
  have fin : ∀ (x : List Int) (i : Nat), n ≤ 2 * i + 1 → x.length = n → (∀ j, j < n → x.getD j 0 = if j < i ∨ n < j + 1 + i then l.getD (n - 1 - j) 0 else l.getD j 0) → x = l.reverse := by
    intro x i h1 h2 h3
    apply List.ext_getElem
    · rw [List.length_reverse, h2, hn]
    intro j hj1 hj2
    have := h3 j (by omega)
    rw [List.getD_eq_getElem?_getD, List.getElem?_eq_getElem hj1, Option.getD_some] at this
    rw [this, List.getElem_reverse]
    split
    · rw [List.getD_eq_getElem?_getD, List.getElem?_eq_getElem (by omega), Option.getD_some]
      congr 1; omega
    · rw [List.getD_eq_getElem?_getD, List.getElem?_eq_getElem (by omega), Option.getD_some]
      congr 1; omega
  intro m
  induction m with
  | zero =>
    intro k x i h1 hk h2 h3
    obtain ⟨k, rfl⟩ : ∃ q, k = q + 1 := ⟨k - 1, by omega⟩
    rw [slices_Reverse_byte_byte.l0, if_neg (by omega)]
    rw [fin x i (by omega) h2 h3]
  | succ m ih =>
    intro k x i h1 hk h2 h3
    obtain ⟨k, rfl⟩ : ∃ q, k = q + 1 := ⟨k - 1, by omega⟩
    by_cases c : (i : Int) < (n : Int) - 1 - i
    · have w1 : wrap64 ((i : Int) + 1) = ((i + 1 : Nat) : Int) := by unfold wrap64; omega
      have w2 : wrap64 ((n : Int) - 1 - i - 1) = (n : Int) - 1 - ((i + 1 : Nat) : Int) := by unfold wrap64; omega
      have t1 : ((i : Int)).toNat = i := Int.toNat_natCast i
      have t2 : ((n : Int) - 1 - i).toNat = n - 1 - i := by omega
      rw [slices_Reverse_byte_byte.l0, if_pos c, if_pos (by omega), if_pos (by rw [h2]; omega), if_pos (by omega), if_pos (by rw [h2]; omega), w1, w2]
      refine ih k _ (i + 1) (by omega) (by omega) (by rw [List.length_set, List.length_set]; exact h2) ?_
      intro j hj
      rw [t1, t2]
      unfold rd
      rw [t1, t2]
      simp only [List.getD_eq_getElem?_getD, List.getElem?_set, List.length_set]
      have g1 := h3 i (by omega)
      have g2 := h3 (n - 1 - i) (by omega)
      have g3 := h3 j hj
      simp only [List.getD_eq_getElem?_getD] at g1 g2 g3
      by_cases c1 : n - 1 - i = j
      · rw [if_pos c1, if_pos (by omega), Option.getD_some, g1, if_neg (by omega), if_pos (by omega)]
        congr 2; omega
      rw [if_neg c1]
      by_cases c2 : i = j
      · rw [if_pos c2, if_pos (by omega), Option.getD_some, g2, if_neg (by omega), if_pos (by omega)]
        congr 2; omega
      rw [if_neg c2, g3]
      by_cases c3 : j < i ∨ n < j + 1 + i
      · rw [if_pos c3, if_pos (by omega)]
      · rw [if_neg c3, if_neg (by omega)]
    · rw [slices_Reverse_byte_byte.l0, if_neg c]
      rw [fin x i (by omega) h2 h3]

theorem reverse_f (k : Nat) (l : List Int) (hb : l.length < 1000) (hk : l.length < k) : slices_Reverse_byte_byte.f k l = some l.reverse := by
  unfold slices_Reverse_byte_byte.f
  have w : wrap64 ((l.length : Int) - 1) = (l.length : Int) - 1 - ((0 : Nat) : Int) := by unfold wrap64; omega
  rw [w]
  exact rev_loop l rfl hb l.length k l 0 (by omega) hk rfl (fun j hj => by rw [if_neg (by omega)])

theorem digits_loop (b least : Nat) (hb2 : 2 ≤ b) (hb : b ≤ 16) (hl : least ≤ 20) : ∀ (f k n : Nat) (acc : List Nat), n < b ^ f → n < 18446744073709551616 → least - acc.length ≤ f → acc.length + f ≤ 40 → f + 50 < k →
    report_digits.l0 k (n : Int) (b : Int) (least : Int) (acc.map hi) = some (str (acc ++ digs b f n (least - acc.length)).reverse) := by
  intro f
  induction f with
  | zero =>
    intro k n acc h1 h2 h3 h4 hk
    obtain ⟨k, rfl⟩ : ∃ q, k = q + 1 := ⟨k - 1, by omega⟩
    have hn : n = 0 := by simpa using h1
    subst hn
    rw [report_digits.l0, if_neg (by omega), if_neg (by rw [List.length_map]; omega), reverse_f k _ (by rw [List.length_map]; omega) (by rw [List.length_map]; omega)]
    simp only [Option.bind_some, digs, List.append_nil]
    rw [← List.map_reverse, str_nums]
  | succ f ih =>
    intro k n acc h1 h2 h3 h4 hk
    obtain ⟨k, rfl⟩ : ∃ q, k = q + 1 := ⟨k - 1, by omega⟩
    have hm : n % b < b := Nat.mod_lt _ (by omega)
    have hd : n / b < b ^ f := by rw [Nat.div_lt_iff_lt_mul (by omega), ← Nat.pow_succ]; exact h1
    have hd2 : n / b ≤ n := Nat.div_le_self _ _
    have tm : Int.tmod (n : Int) (b : Int) = ((n % b : Nat) : Int) := rfl
    have td : IntKind.u64.wrap (Int.tdiv (n : Int) (b : Int)) = ((n / b : Nat) : Int) := by
      have : Int.tdiv (n : Int) (b : Int) = ((n / b : Nat) : Int) := rfl
      rw [this, IntKind.wrap_u64]
      have hq : n / b < 18446744073709551616 := by omega
      generalize n / b = q at hq
      omega
    have hbt := bt_hex (d := n % b) (by omega)
    have push : report_digits.l0 k ((n / b : Nat) : Int) (b : Int) (least : Int) (acc.map hi ++ [hi (n % b)]) = some (str (acc ++ (n % b) :: digs b f (n / b) (least - acc.length - 1)).reverse) := by
      have := ih k (n / b) (acc ++ [n % b]) hd (by omega) (by rw [List.length_append, List.length_singleton]; omega) (by rw [List.length_append, List.length_singleton]; omega) (by omega)
      rw [List.map_append, List.length_append, List.length_singleton, List.append_assoc] at this
      rw [show least - acc.length - 1 = least - (acc.length + 1) from by omega]
      exact this
    have step : (if (b : Int) = 0 then none else (if 0 ≤ (Int.tmod (n : Int) (b : Int)) then (if (Int.tmod (n : Int) (b : Int)) < 16 then (if (acc.map hi).length < 140737488355328 then (report_digits.l0 k (IntKind.u64.wrap (Int.tdiv (n : Int) (b : Int))) (b : Int) (least : Int) (acc.map hi ++ [bt hexB (Int.tmod (n : Int) (b : Int))])) else none) else none) else none)) = some (str (acc ++ (n % b) :: digs b f (n / b) (least - acc.length - 1)).reverse) := by
      rw [if_neg (by omega), tm, if_pos (by omega), if_pos (by omega), if_pos (by rw [List.length_map]; omega), td, hbt]
      exact push
    unfold digs
    by_cases c : n = 0
    · by_cases c2 : least - acc.length = 0
      · rw [if_pos ⟨c, c2⟩, report_digits.l0, if_neg (by omega), if_neg (by rw [List.length_map]; omega), reverse_f k _ (by rw [List.length_map]; omega) (by rw [List.length_map]; omega)]
        simp only [Option.bind_some, List.append_nil]
        rw [← List.map_reverse, str_nums]
      · rw [if_neg (fun h => c2 h.2), report_digits.l0, if_neg (by omega), if_pos (by rw [List.length_map]; omega)]
        exact step
    · rw [if_neg (fun h => c h.1), report_digits.l0, if_pos (by omega)]
      exact step

theorem digits_f (b least n f : Nat) (hb2 : 2 ≤ b) (hb : b ≤ 16) (hl : least ≤ 20) (hn : n < b ^ f) (hn2 : n < 18446744073709551616) (hlf : least ≤ f) (hf : f ≤ 20) (k : Nat) (hk : 100 ≤ k) :
    report_digits.f k (n : Int) (b : Int) (least : Int) = some (str (digs b f n least).reverse) := by
  have := digits_loop b least hb2 hb hl f k n [] hn hn2 (by simpa using hlf) (by simp; omega) (by omega)
  simpa [report_digits.f] using this


/-- A number in at least so many digits. -/
def dec (n : Nat) : ByteArray := str (digs 10 20 n 1).reverse
def dec64 (n : Int) : ByteArray := if n < 0 then (⟨#[45]⟩ : ByteArray) ++ dec n.natAbs else dec n.natAbs
theorem str_size (l : List Nat) : (str l).size = l.length := by unfold str ByteArray.size; simp
theorem dec_size (n : Nat) : (dec n).size ≤ 20 := by unfold dec; rw [str_size, List.length_reverse]; exact digs_len _ _ _ _
theorem digits10 (n k : Nat) (hn : n < 18446744073709551616) (hk : 100 ≤ k) : report_digits.f k (n : Int) 10 1 = some (dec n) :=
  digits_f 10 1 n 20 (by decide) (by decide) (by decide) (Nat.lt_of_lt_of_le hn (by decide)) hn (by decide) (by decide) k hk
theorem u64_neg {a : Int} (h1 : -9223372036854775808 ≤ a) (h2 : a < 0) : IntKind.u64.wrap (-(IntKind.u64.wrap a)) = (a.natAbs : Int) := by
  simp only [IntKind.wrap_u64]; omega
theorem u64_pos {a : Int} (h1 : 0 ≤ a) (h2 : a ≤ 9223372036854775807) : IntKind.u64.wrap a = (a.natAbs : Int) := by
  simp only [IntKind.wrap_u64]; omega
theorem dec_f {a : Int} (h1 : -9223372036854775808 ≤ a) (h2 : a ≤ 9223372036854775807) (k : Nat) (hk : 100 ≤ k) : report_Dec.f k a = some (dec64 a) := by
  unfold report_Dec.f dec64
  by_cases c : a < 0
  · have hs := dec_size a.natAbs
    rw [if_pos c, if_pos c, u64_neg h1 c, digits10 _ k (by omega) hk, Option.bind_some, if_pos (by omega)]
  · rw [if_neg c, if_neg c, u64_pos (by omega) h2, digits10 _ k (by omega) hk, Option.bind_some]

/-! The document's -/
theorem one_char {d : Nat} (h : d < 10) : (⟨#[48, 49, 50, 51, 52, 53, 54, 55, 56, 57]⟩ : ByteArray).extract d (d + 1) = str [d] := by
  have : ∀ e : Fin 10, (⟨#[48, 49, 50, 51, 52, 53, 54, 55, 56, 57]⟩ : ByteArray).extract e.1 (e.1 + 1) = str [e.1] := by decide +kernel
  exact this ⟨d, h⟩
theorem one_char16 {d : Nat} (h : d < 16) : hexB.extract d (d + 1) = str [d] := by
  have : ∀ e : Fin 16, hexB.extract e.1 (e.1 + 1) = str [e.1] := by decide +kernel
  exact this ⟨d, h⟩
theorem str_app (a b : List Nat) : str a ++ str b = str (a ++ b) := by
  apply ByteArray.ext
  simp [str]

theorem digs_more (b : Nat) (hb : 2 ≤ b) : ∀ (f g n l : Nat), n < b ^ f → l ≤ f → f ≤ g → digs b g n l = digs b f n l := by
  intro f
  induction f with
  | zero =>
    intro g n l h1 h2 h3
    have hn : n = 0 := by simpa using h1
    have hl : l = 0 := by omega
    subst hn hl
    cases g with
    | zero => rfl
    | succ g => unfold digs; rw [if_pos ⟨rfl, rfl⟩]
  | succ f ih =>
    intro g n l h1 h2 h3
    obtain ⟨g, rfl⟩ : ∃ q, g = q + 1 := ⟨g - 1, by omega⟩
    unfold digs
    split
    · rfl
    · rw [ih g (n / b) (l - 1) (by rw [Nat.div_lt_iff_lt_mul (by omega), ← Nat.pow_succ]; exact h1) (by omega) (by omega)]

theorem count_loop : ∀ (f k n : Nat) (s : List Nat), n < 10 ^ f → n < 18446744073709551616 → 1 ≤ f → f < k → s.length + f ≤ 100 →
    carryoverref27_Count.l0 k (n : Int) (str s) = some (str ((digs 10 f n 1).reverse ++ s)) := by
  intro f
  induction f with
  | zero => intro k n s _ _ h; omega
  | succ f ih =>
    intro k n s h1 h2 h3 hk hs
    obtain ⟨k, rfl⟩ : ∃ q, k = q + 1 := ⟨k - 1, by omega⟩
    have tm : Int.tmod (n : Int) 10 = ((n % 10 : Nat) : Int) := rfl
    have td : IntKind.u64.wrap (Int.tdiv (n : Int) 10) = ((n / 10 : Nat) : Int) := by
      have : Int.tdiv (n : Int) 10 = ((n / 10 : Nat) : Int) := rfl
      rw [this, IntKind.wrap_u64]; omega
    have wr : IntKind.u64.wrap (((n % 10 : Nat) : Int) + 1) = ((n % 10 + 1 : Nat) : Int) := by rw [IntKind.wrap_u64]; omega
    have hm : n % 10 < 10 := Nat.mod_lt _ (by decide)
    have t1 : (((n % 10 : Nat) : Int)).toNat = n % 10 := Int.toNat_natCast _
    have t2 : (((n % 10 + 1 : Nat) : Int)).toNat = n % 10 + 1 := Int.toNat_natCast _
    rw [carryoverref27_Count.l0, tm, td, wr, t1, t2, one_char hm, if_pos (by omega), if_pos (by omega), if_pos (by omega), str_app, if_pos (by rw [str_size, str_size]; simp; omega)]
    have dg : digs 10 (f + 1) n 1 = (n % 10) :: digs 10 f (n / 10) 0 := by
      show (if n = 0 ∧ 1 = 0 then [] else _) = _
      rw [if_neg (by omega)]
    rw [dg, List.reverse_cons, List.append_assoc]
    by_cases c : n / 10 = 0
    · rw [if_pos (by omega), c]
      have : digs 10 f 0 0 = [] := by
        cases f with
        | zero => rfl
        | succ f => unfold digs; rw [if_pos ⟨rfl, rfl⟩]
      rw [this]
      rfl
    · rw [if_neg (by omega)]
      have hf : 1 ≤ f := by
        rcases Nat.eq_zero_or_pos f with h | h
        · subst h; simp at h1; omega
        · exact h
      rw [ih k (n / 10) _ (by rw [Nat.div_lt_iff_lt_mul (by omega), ← Nat.pow_succ]; exact h1) (by omega) hf (by omega) (by simp; omega)]
      have e : digs 10 f (n / 10) 1 = digs 10 f (n / 10) 0 := by
        cases f with
        | zero => rfl
        | succ f =>
          show (if n / 10 = 0 ∧ 1 = 0 then [] else _) = (if n / 10 = 0 ∧ 0 = 0 then [] else _)
          rw [if_neg (by omega), if_neg (by omega)]
      rw [e]
theorem count_f (n k : Nat) (hn : n < 18446744073709551616) (hk : 100 ≤ k) : carryoverref27_Count.f k (n : Int) = some (dec n) := by
  have := count_loop 20 k n [] (Nat.lt_of_lt_of_le hn (by decide)) hn (by decide) (by omega) (by simp)
  rw [List.append_nil] at this
  exact this
theorem rdec_f {a : Int} (h1 : -9223372036854775808 ≤ a) (h2 : a ≤ 9223372036854775807) (k : Nat) (hk : 100 ≤ k) : carryoverref27_Dec.f k a = some (dec64 a) := by
  unfold carryoverref27_Dec.f dec64
  by_cases c : a < 0
  · have hs := dec_size a.natAbs
    have e : IntKind.u64.wrap ((IntKind.u64.wrap (wrap64 (-(wrap64 (a + 1))))) + 1) = (a.natAbs : Int) := by
      have e1 : wrap64 (a + 1) = a + 1 := by unfold wrap64; omega
      have e2 : wrap64 (-(a + 1)) = -(a + 1) := by unfold wrap64; omega
      rw [e1, e2]
      simp only [IntKind.wrap_u64]; omega
    rw [if_pos c, if_pos c, e, count_f _ k (by omega) hk, Option.bind_some, if_pos (by omega)]
  · rw [if_neg c, if_neg c, u64_pos (by omega) h2, count_f _ k (by omega) hk, Option.bind_some]

/-- Eight digits of sixteen. -/
def fix16 : Nat → Nat → List Nat
  | 0, _ => []
  | f + 1, n => fix16 f (n / 16) ++ [n % 16]
theorem fix_digs : ∀ (f n : Nat), n < 16 ^ f → (digs 16 f n f).reverse = fix16 f n := by
  intro f
  induction f with
  | zero => intro n _; rfl
  | succ f ih =>
    intro n h
    have e : digs 16 (f + 1) n (f + 1) = (n % 16) :: digs 16 f (n / 16) f := by
      show (if n = 0 ∧ f + 1 = 0 then [] else _) = _
      rw [if_neg (by omega)]
      rfl
    rw [e, List.reverse_cons, ih (n / 16) (by rw [Nat.div_lt_iff_lt_mul (by omega), ← Nat.pow_succ]; exact h)]
    rfl
theorem hex_f (n k : Nat) (hn : n < 4294967296) (hk : 100 ≤ k) : report_Hex.f k (n : Int) = some (str (fix16 8 n)) := by
  unfold report_Hex.f
  have e : IntKind.u64.wrap (n : Int) = (n : Int) := by rw [IntKind.wrap_u64]; omega
  have h := digits_f 16 8 n 8 (by decide) (by decide) (by decide) (Nat.lt_of_lt_of_le hn (by decide)) (by omega) (by decide) (by decide) k hk
  rw [fix_digs 8 n (Nat.lt_of_lt_of_le hn (by decide))] at h
  rw [e]
  have h' : report_digits.f k (n : Int) 16 8 = some (str (fix16 8 n)) := h
  rw [h', Option.bind_some]
theorem hex_loop : ∀ (m k n i : Nat) (s : List Nat), i + m = 8 → m < k → n < 4294967296 → s.length + m ≤ 20 →
    carryoverref27_Hex.l0 k (n : Int) (str s) (i : Int) = some (str (fix16 m n ++ s)) := by
  intro m
  induction m with
  | zero =>
    intro k n i s h1 hk hn hs
    obtain ⟨k, rfl⟩ : ∃ q, k = q + 1 := ⟨k - 1, by omega⟩
    rw [carryoverref27_Hex.l0, if_neg (by omega)]
    rfl
  | succ m ih =>
    intro k n i s h1 hk hn hs
    obtain ⟨k, rfl⟩ : ∃ q, k = q + 1 := ⟨k - 1, by omega⟩
    have hm : n % 16 < 16 := Nat.mod_lt _ (by decide)
    have q1 : (i : Int) < 8 := by omega
    have q2 : 0 ≤ ((n % 16 : Nat) : Int) := by omega
    have q3 : ((n % 16 : Nat) : Int) ≤ ((n % 16 + 1 : Nat) : Int) := by omega
    have q4 : ((n % 16 + 1 : Nat) : Int) ≤ 16 := by omega
    have q5 : i + 1 + m = 8 := by omega
    have q6 : m < k := by omega
    have q7 : n / 16 < 4294967296 := by omega
    have q9 : ([n % 16] ++ s).length + m ≤ 20 := by rw [List.length_append, List.length_singleton]; omega
    have hsz : (str [n % 16]).size + (str s).size ≤ 9223372036854775807 := by rw [str_size, str_size]; simp; omega
    have tm : Int.tmod (n : Int) 16 = ((n % 16 : Nat) : Int) := rfl
    have td : (Int.tdiv (n : Int) 16) % 4294967296 = ((n / 16 : Nat) : Int) := by
      have : Int.tdiv (n : Int) 16 = ((n / 16 : Nat) : Int) := rfl
      rw [this]; omega
    have hm : n % 16 < 16 := Nat.mod_lt _ (by decide)
    have wr : (((n % 16 : Nat) : Int) + 1) % 4294967296 = ((n % 16 + 1 : Nat) : Int) := by omega
    have t1 : (((n % 16 : Nat) : Int)).toNat = n % 16 := Int.toNat_natCast _
    have t2 : (((n % 16 + 1 : Nat) : Int)).toNat = n % 16 + 1 := Int.toNat_natCast _
    have w1 : wrap64 ((i : Int) + 1) = ((i + 1 : Nat) : Int) := by unfold wrap64; omega
    have oc : (⟨#[48, 49, 50, 51, 52, 53, 54, 55, 56, 57, 97, 98, 99, 100, 101, 102]⟩ : ByteArray).extract (n % 16) (n % 16 + 1) = str [n % 16] := one_char16 hm
    rw [carryoverref27_Hex.l0]
    refine (if_pos q1).trans ?_
    refine (if_pos (by rw [tm]; exact q2)).trans ?_
    refine (if_pos (by rw [tm, wr]; exact q3)).trans ?_
    refine (if_pos (by rw [tm, wr]; exact q4)).trans ?_
    rw [tm, td, wr, t1, t2, oc, w1]
    refine (if_pos hsz).trans ?_
    rw [str_app, ih k (n / 16) (i + 1) ([n % 16] ++ s) q5 q6 q7 q9]
    show some (str (fix16 m (n / 16) ++ ([n % 16] ++ s))) = some (str ((fix16 m (n / 16) ++ [n % 16]) ++ s))
    rw [List.append_assoc]
theorem rhex_f (n k : Nat) (hn : n < 4294967296) (hk : 100 ≤ k) : carryoverref27_Hex.f k (n : Int) = some (str (fix16 8 n)) := by
  have := hex_loop 8 k n 0 [] rfl (by omega) hn (by simp)
  rw [List.append_nil] at this
  exact this

theorem text_loop : ∀ (m k n i : Nat) (s : List Nat), i + m = 16 → m < k → n < 18446744073709551616 → s.length + m ≤ 20 →
    carryoverref03_Text.l0 k (n : Int) (str s) (i : Int) = some (str (fix16 m n ++ s)) := by
  intro m
  induction m with
  | zero =>
    intro k n i s h1 hk hn hs
    obtain ⟨k, rfl⟩ : ∃ q, k = q + 1 := ⟨k - 1, by omega⟩
    rw [carryoverref03_Text.l0, if_neg (by omega)]
    rfl
  | succ m ih =>
    intro k n i s h1 hk hn hs
    obtain ⟨k, rfl⟩ : ∃ q, k = q + 1 := ⟨k - 1, by omega⟩
    have hm : n % 16 < 16 := Nat.mod_lt _ (by decide)
    have q1 : (i : Int) < 16 := by omega
    have q2 : 0 ≤ ((n % 16 : Nat) : Int) := by omega
    have q3 : ((n % 16 : Nat) : Int) ≤ ((n % 16 + 1 : Nat) : Int) := by omega
    have q4 : ((n % 16 + 1 : Nat) : Int) ≤ 16 := by omega
    have q5 : i + 1 + m = 16 := by omega
    have q6 : m < k := by omega
    have q7 : n / 16 < 18446744073709551616 := by omega
    have q9 : ([n % 16] ++ s).length + m ≤ 20 := by rw [List.length_append, List.length_singleton]; omega
    have hsz : (str [n % 16]).size + (str s).size ≤ 9223372036854775807 := by rw [str_size, str_size]; simp; omega
    have tm : Int.tmod (n : Int) 16 = ((n % 16 : Nat) : Int) := rfl
    have td : IntKind.u64.wrap (Int.tdiv (n : Int) 16) = ((n / 16 : Nat) : Int) := by
      have : Int.tdiv (n : Int) 16 = ((n / 16 : Nat) : Int) := rfl
      rw [this, IntKind.wrap_u64]; omega
    have hm : n % 16 < 16 := Nat.mod_lt _ (by decide)
    have wr : IntKind.u64.wrap (((n % 16 : Nat) : Int) + 1) = ((n % 16 + 1 : Nat) : Int) := by rw [IntKind.wrap_u64]; omega
    have t1 : (((n % 16 : Nat) : Int)).toNat = n % 16 := Int.toNat_natCast _
    have t2 : (((n % 16 + 1 : Nat) : Int)).toNat = n % 16 + 1 := Int.toNat_natCast _
    have w1 : wrap64 ((i : Int) + 1) = ((i + 1 : Nat) : Int) := by unfold wrap64; omega
    have oc : (⟨#[48, 49, 50, 51, 52, 53, 54, 55, 56, 57, 97, 98, 99, 100, 101, 102]⟩ : ByteArray).extract (n % 16) (n % 16 + 1) = str [n % 16] := one_char16 hm
    rw [carryoverref03_Text.l0]
    refine (if_pos q1).trans ?_
    refine (if_pos (by rw [tm]; exact q2)).trans ?_
    refine (if_pos (by rw [tm, wr]; exact q3)).trans ?_
    refine (if_pos (by rw [tm, wr]; exact q4)).trans ?_
    rw [tm, td, wr, t1, t2, oc, w1]
    refine (if_pos hsz).trans ?_
    rw [str_app, ih k (n / 16) (i + 1) ([n % 16] ++ s) q5 q6 q7 q9]
    show some (str (fix16 m (n / 16) ++ ([n % 16] ++ s))) = some (str ((fix16 m (n / 16) ++ [n % 16]) ++ s))
    rw [List.append_assoc]
theorem hexText_fix (b : Nat) : XWords.hexText b = str (fix16 16 b) := by
  unfold XWords.hexText str
  simp only [fix16, Nat.div_div_eq_div_mul, List.nil_append, List.cons_append, List.map_cons, List.map_nil, Nat.reduceMul]
  simp only [hx, XWords.hexs, Nat.div_one]

theorem rbits_f (b : Nat) : carryoverref03_Bits.f (b : Int) = some ((canonB b : Nat) : Int) := by
  unfold carryoverref03_Bits.f
  have tm : Int.tmod (b : Int) 9223372036854775808 = ((mag b : Nat) : Int) := rfl
  rw [tm]
  cases h : nan b
  · have : ¬ 9218868437227405312 < mag b := of_decide_eq_false h
    rw [if_neg (by omega), canon_num h]
  · have : 9218868437227405312 < mag b := of_decide_eq_true h
    rw [if_pos (by omega), canon_nan h]; rfl

theorem rtext_f {b : Nat} (hb : b < 18446744073709551616) (k : Nat) (hk : 100 ≤ k) : carryoverref03_Text.f k ((canonB b : Nat) : Int) = some (XWords.textB b) := by
  have hc := canon_lt hb
  have kb : keyB b = if 9223372036854775808 ≤ canonB b then 18446744073709551615 - canonB b else canonB b + 9223372036854775808 := rfl
  unfold carryoverref03_Text.f XWords.textB
  rw [rbits_f, canon_canon, Option.bind_some]
  have lp := text_loop 16 k (canonB b) 0 [] rfl (by omega) hc (by simp)
  rw [List.append_nil] at lp
  have hn : canonB b ≠ 9221120237041090560 → canonB b = b := by
    intro h
    cases e : nan b
    · exact canon_num e
    · exact absurd (canon_nan e) h
  rw [hexText_fix]
  generalize hcb : canonB b = c at *
  generalize keyB b = q at *
  have r0 : q = 9223372036854775808 ↔ c = 0 := by split at kb <;> omega
  have r1 : q = 9223372036854775807 ↔ c = 9223372036854775808 := by split at kb <;> omega
  have r2 : q = 18442240474082181120 ↔ c = 9218868437227405312 := by split at kb <;> omega
  have r3 : q = 4503599627370495 ↔ c = 18442240474082181120 := by split at kb <;> omega
  have r4 : q = 18444492273895866368 ↔ c = 9221120237041090560 := by split at kb <;> omega
  by_cases h0 : c = 0
  · rw [if_pos (show (c : Int) = 0 by omega), if_pos (r0.2 h0)]
  rw [if_neg (show ¬ (c : Int) = 0 by omega), if_neg (fun e => h0 (r0.1 e))]
  by_cases h1 : c = 9223372036854775808
  · rw [if_pos (show (c : Int) = 9223372036854775808 by omega), if_pos (r1.2 h1)]
  rw [if_neg (show ¬ (c : Int) = 9223372036854775808 by omega), if_neg (fun e => h1 (r1.1 e))]
  by_cases h2 : c = 9218868437227405312
  · rw [if_pos (show (c : Int) = 9218868437227405312 by omega), if_pos (r2.2 h2)]
  rw [if_neg (show ¬ (c : Int) = 9218868437227405312 by omega), if_neg (fun e => h2 (r2.1 e))]
  by_cases h3 : c = 18442240474082181120
  · rw [if_pos (show (c : Int) = 18442240474082181120 by omega), if_pos (r3.2 h3)]
  rw [if_neg (show ¬ (c : Int) = 18442240474082181120 by omega), if_neg (fun e => h3 (r3.1 e))]
  by_cases h4 : c = 9221120237041090560
  · rw [if_pos (show (c : Int) = 9221120237041090560 by omega), if_pos (r4.2 h4)]
  rw [if_neg (show ¬ (c : Int) = 9221120237041090560 by omega), if_neg (fun e => h4 (r4.1 e))]
  have e := hn h4
  rw [e] at lp ⊢
  exact lp
theorem text_size (b : Nat) : (XWords.textB b).size ≤ 16 := by
  unfold XWords.textB
  split
  · decide
  split
  · decide
  split
  · decide
  split
  · decide
  split
  · decide
  rw [hexText_fix, str_size]
  simp [fix16]

theorem awake_f : carryoverlaw27_awake.f 100 = some true := by decide +kernel

theorem ReportNumbers (a m w2 : Int) (p v : Int) (ha : (Lit.int .i64 a).wf = true) (hm : (Lit.int .u64 m).wf = true) (hw : (Lit.int .u32 w2).wf = true) (hp : (Lit.int .u64 p).wf = true) (hv : (Lit.int .i64 v).wf = true) :
    carryoverlaw27_ReportNumbers.f 100 a m w2 p v = some true := by
  have a2 : -9223372036854775808 ≤ a ∧ a ≤ 9223372036854775807 := by simpa [Lit.wf, IntKind.min, IntKind.max, IntKind.signed, IntKind.bits] using ha
  have v2 : -9223372036854775808 ≤ v ∧ v ≤ 9223372036854775807 := by simpa [Lit.wf, IntKind.min, IntKind.max, IntKind.signed, IntKind.bits] using hv
  have m2 : 0 ≤ m ∧ m ≤ 18446744073709551615 := by simpa [Lit.wf, IntKind.min, IntKind.max, IntKind.signed, IntKind.bits] using hm
  have w3 : 0 ≤ w2 ∧ w2 ≤ 4294967295 := by simpa [Lit.wf, IntKind.min, IntKind.max, IntKind.signed, IntKind.bits] using hw
  have p2 : 0 ≤ p ∧ p ≤ 18446744073709551615 := by simpa [Lit.wf, IntKind.min, IntKind.max, IntKind.signed, IntKind.bits] using hp
  obtain ⟨m, rfl⟩ := Int.eq_ofNat_of_zero_le m2.1
  obtain ⟨w2, rfl⟩ := Int.eq_ofNat_of_zero_le w3.1
  obtain ⟨p, rfl⟩ := Int.eq_ofNat_of_zero_le p2.1
  have lp : p < 18446744073709551616 := by omega
  have c1 : report_Count.f 100 (m : Int) = some (dec m) := by unfold report_Count.f; rw [digits10 m 100 (by omega) (Nat.le_refl _), Option.bind_some]
  have own : carryoverlaw04_Own.f (p : Int) v = some (p, v) := by
    have e : toF (p : Int) = p := by unfold toF; exact Int.toNat_natCast p
    unfold carryoverlaw04_Own.f carryoverlaw03_F.f
    rw [e, Option.bind_some]
  have told : carryoverlaw04_Told.f (p : Int) v = some (((canonB p : Nat) : Int), v) := by
    unfold carryoverlaw04_Told.f carryoverref04_Make.f
    rw [rbits_f, Option.bind_some, Option.bind_some]
  have ts := text_size p
  have ds : (dec64 v).size ≤ 21 := by
    unfold dec64
    have := dec_size v.natAbs
    split
    · rw [ByteArray.size_append]; show 1 + _ ≤ 21; omega
    · omega
  have s1 : (XWords.textB p ++ (⟨#[32]⟩ : ByteArray)).size = (XWords.textB p).size + 1 := by rw [ByteArray.size_append]; rfl
  have i1 : report_Item.f 100 p v = some ((XWords.textB p ++ (⟨#[32]⟩ : ByteArray)) ++ dec64 v) := by
    unfold report_Item.f real_Text.f
    rw [if_pos lp, Option.bind_some, if_pos (by omega), dec_f v2.1 v2.2 100 (Nat.le_refl _), Option.bind_some, if_pos (by first | omega | (rw [s1]; omega))]
  have i2 : carryoverref27_Item.f 100 ((canonB p : Nat) : Int) v = some ((XWords.textB p ++ (⟨#[32]⟩ : ByteArray)) ++ dec64 v) := by
    unfold carryoverref27_Item.f
    rw [rtext_f lp 100 (Nat.le_refl _), Option.bind_some, if_pos (by omega), rdec_f v2.1 v2.2 100 (Nat.le_refl _), Option.bind_some, if_pos (by first | omega | (rw [s1]; omega))]
  unfold carryoverlaw27_ReportNumbers.f
  rw [awake_f, Option.bind_some, if_pos rfl, dec_f a2.1 a2.2 100 (Nat.le_refl _), Option.bind_some, rdec_f a2.1 a2.2 100 (Nat.le_refl _), Option.bind_some, if_pos rfl, c1, Option.bind_some, count_f m 100 (by omega) (Nat.le_refl _), Option.bind_some, if_pos rfl,
    hex_f w2 100 (by omega) (Nat.le_refl _), Option.bind_some, rhex_f w2 100 (by omega) (Nat.le_refl _), Option.bind_some, if_pos rfl, own, Option.bind_some, i1, Option.bind_some, told, Option.bind_some, i2, Option.bind_some, beq_self_eq_true]

structure S42 where
  f0 : Int
  f1 : Int
def k42 : Kd S42 := Kd.iso (Kd.pair (Kd.int .u64) (Kd.int .i64)) (fun x => (x.f0, x.f1))
theorem k42_open {w : World} {x : S42} {cs : List Value} (h : k42.K w x cs) : cs = [.int .u64 x.f0, .int .i64 x.f1] := by
  obtain ⟨_, _, rfl, rfl, rfl⟩ := h
  rfl

theorem walk (a0 a1 a2 : Int) (x3 : S42) (w : World) (w0 : (Lit.int .i64 a0).wf = true) (w1 : (Lit.int .u64 a1).wf = true) (w2 : (Lit.int .u32 a2).wf = true) (w3 : (Lit.int .u64 x3.f0).wf = true ∧ (Lit.int .i64 x3.f1).wf = true) :
    Calls Try.prog 14 #[.int .i64 a0, .int .u64 a1, .int .u32 a2, .agg #[.int .u64 x3.f0, .int .i64 x3.f1]] w fun e w' => e = .returned (.bool true) ∧ Below w.heap.size w w' :=
  carryoverlaw27_ReportNumbers.calls 100 a0 a1 a2 x3.f0 x3.f1 true w (ReportNumbers a0 a1 a2 x3.f0 x3.f1 w0 w1 w2 w3.1 w3.2)

end Go.Proofs.Ytlglcnljjpedcaa.XRep
