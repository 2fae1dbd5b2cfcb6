/-
  The map of package real's words: whatever order its entries are laid in, it holds the five words of the document, each under its key.
-/
import Derived.Test.YtlglcnljjpedcaaProg
import Derived.Test.YtlglcnljjpedcaaReal
import Derived.Test.YtlglcnljjpedcaaWInv
import Derived.Test.YtlglcnljjpedcaaWInvWords
import Derived.Test.YtlglcnljjpedcaaWGuard
import Derived.WalkKit
import Derived.Handy
import Derived.MapKept
import Derived.Lib.Hide
import Derived.WalkLawsBesides
import Derived.WalkSpells
set_option linter.unusedVariables false
set_option linter.unusedSimpArgs false
namespace Go.Proofs.Ytlglcnljjpedcaa
open Go.RowKit Go.Proofs.YtlglcnljjpedcaaW.PrintWords Go.Proofs.YtlglcnljjpedcaaW.PrintLast
namespace XWords
open XFlt

def T1 : Bool × List (List Nat × List Nat) := (true, [([], []), ([], []), ([0, 1], [0, 1]), ([1], []), ([3, 3], [3]), ([0, 4], [0, 4]), ([4], []), ([6, 6], [6]), ([0, 7], [0, 7]), ([7], []), ([9, 9], [9]), ([0, 10], [0, 10]), ([10], []), ([12, 12], [12]), ([0, 13], [0, 13]), ([0, 1, 2, 3, 4, 5, 6, 7, 8, 9, 10, 11, 12, 13, 14], [0]), ([15, 13, 0, 1, 2, 3, 4, 5, 6, 7, 8, 9, 10, 11, 12, 13, 14, 15], [15])])
def B1 : List Nat := [0, 0, 3, 2, 10, 27, 26, 90, 219, 218, 730, 1755, 1754, 5850, 14043, 32767, 65535]
theorem tab1 : rtab .any (opsOf Try.f63 1) = T1 := by kernel_rfl
theorem bits1 : waitsOk T1.2 B1 = true := by kernel_rfl

/-- Which operation lays which entry. -/
def tab : List (Nat × Value × Value) := [(2, .int .u64 9223372036854775808, .string ⟨#[48]⟩), (5, .int .u64 9223372036854775807, .string ⟨#[45, 48]⟩), (8, .int .u64 18442240474082181120, .string ⟨#[105, 110, 102]⟩), (11, .int .u64 4503599627370495, .string ⟨#[45, 105, 110, 102]⟩), (14, .int .u64 18444492273895866368, .string ⟨#[110, 97, 110]⟩)]
def Laid (b : Nat → Bool) (es : Array MapEntry) (clk : Nat) : Prop :=
  (es.toList.map fun e => (e.key, e.val)).Perm ((tab.filter fun t => b t.1).map (·.2)) ∧ (∀ e ∈ es.toList, e.born < clk) ∧ (es.toList.map (·.born)).Nodup

theorem filter_up {γ : Type} {b : Nat → Bool} {i : Nat} {x : γ} : ∀ {l : List (Nat × γ)}, (l.map Prod.fst).Nodup → (i, x) ∈ l → b i = false → ((l.filter fun t => up b i t.1).map (·.2)).Perm (x :: (l.filter fun t => b t.1).map (·.2))
  | [], _, h, _ => by cases h
  | t :: l, hn, h, hb => by
    have hn' : (l.map Prod.fst).Nodup := (List.nodup_cons.1 hn).2
    have hnot : t.1 ∉ l.map Prod.fst := (List.nodup_cons.1 hn).1
    rcases List.mem_cons.1 h with e | e
    · subst e
      have hnot' : i ∉ l.map Prod.fst := hnot
      have same : ∀ s ∈ l, up b i s.1 = b s.1 := fun s hs => up_ne (fun e => hnot' (e ▸ List.mem_map_of_mem (f := Prod.fst) hs))
      have e2 : (l.filter fun t => up b i t.1) = l.filter fun t => b t.1 := List.filter_congr (fun s hs => by rw [same s hs])
      rw [List.filter_cons_of_pos (by simp [up_self]), List.filter_cons_of_neg (by simp [hb]), e2]
      exact List.Perm.refl _
    · have hne : t.1 ≠ i := fun e2 => hnot (e2 ▸ List.mem_map_of_mem (f := Prod.fst) e)
      have ih := filter_up hn' e hb
      have hu : up b i t.1 = b t.1 := up_ne hne
      cases ht : b t.1
      · rw [List.filter_cons_of_neg (by simp [hu, ht]), List.filter_cons_of_neg (by simp [ht])]; exact ih
      · rw [List.filter_cons_of_pos (by simp [hu, ht]), List.filter_cons_of_pos (by simp [ht])]
        exact (ih.cons _).trans (List.Perm.swap _ _ _)

theorem filter_same {γ : Type} {b : Nat → Bool} {i : Nat} {l : List (Nat × γ)} (h : i ∉ l.map Prod.fst) : (l.filter fun t => up b i t.1) = l.filter fun t => b t.1 :=
  List.filter_congr (fun s hs => by
    have hne : s.1 ≠ i := fun e => h (e ▸ List.mem_map_of_mem (f := Prod.fst) hs)
    rw [up_ne hne])

theorem laid_same {b : Nat → Bool} {i : Nat} {es : Array MapEntry} {clk : Nat} (h : Laid b es clk) (hi : i ∉ tab.map Prod.fst) : Laid (up b i) es clk := by
  unfold Laid
  rw [filter_same hi]
  exact h
theorem laid_none : Laid (fun _ => false) #[] 0 := by
  refine ⟨List.Perm.refl _, ?_, ?_⟩
  · intro e he; simp at he
  · simp
theorem laid_put {b : Nat → Bool} {i : Nat} {k v : Value} {es : Array MapEntry} {clk : Nat} (h : Laid b es clk) (hi : (i, k, v) ∈ tab) (hb : b i = false) : Laid (up b i) (es.push { key := k, val := v, born := clk }) (clk + 1) := by
  obtain ⟨h1, h2, h3⟩ := h
  refine ⟨?_, ?_, ?_⟩
  · rw [Array.toList_push, List.map_append]
    exact (List.perm_append_comm.trans (h1.cons _)).trans (filter_up (by decide) hi hb).symm
  · intro e he
    rw [Array.toList_push] at he
    rcases List.mem_append.1 he with he | he
    · have := h2 e he; omega
    · rw [List.mem_singleton.1 he]; exact Nat.lt_succ_self _
  · rw [Array.toList_push, List.map_append]
    refine List.nodup_append.2 ⟨h3, by simp, ?_⟩
    intro x hx y hy e
    obtain ⟨z, hz, rfl⟩ := List.mem_map.1 hx
    have := h2 z hz
    simp at hy
    omega

/-- No entry of another key is found. -/
theorem find_none {n : Int} : ∀ (l : List MapEntry) (i : Nat), (∀ e ∈ l, ∃ m : Int, e.key = .int .u64 m ∧ m ≠ n) → Instr.findNow (.int .u64) (.int .u64 n) l i = some none
  | [], _, _ => rfl
  | e :: l, i, h => by
    obtain ⟨m, hm, hne⟩ := h e List.mem_cons_self
    have ih := find_none l (i + 1) (fun x hx => h x (List.mem_cons_of_mem _ hx))
    unfold Instr.findNow
    rw [hm]
    have : Instr.sameNow (.int .u64) (.int .u64 n) (.int .u64 m) = some false := by simp [Instr.sameNow]; omega
    rw [this]
    exact ih
theorem find_some {n : Int} {v : Value} : ∀ (l : List MapEntry) (i : Nat), (∀ e ∈ l, ∃ m : Int, e.key = .int .u64 m ∧ (m = n → e.val = v)) → (∃ e ∈ l, e.key = .int .u64 n) → ∃ j, Instr.findNow (.int .u64) (.int .u64 n) l i = some (some (j, v))
  | [], _, _, h => by obtain ⟨e, he, _⟩ := h; cases he
  | e :: l, i, h, hx => by
    obtain ⟨m, hm, hv⟩ := h e List.mem_cons_self
    unfold Instr.findNow
    rw [hm]
    by_cases c : n = m
    · have : Instr.sameNow (.int .u64) (.int .u64 n) (.int .u64 m) = some true := by simp [Instr.sameNow, c]
      rw [this]
      exact ⟨i, by rw [hv c.symm]⟩
    · have : Instr.sameNow (.int .u64) (.int .u64 n) (.int .u64 m) = some false := by simp [Instr.sameNow, c]
      rw [this]
      refine find_some l (i + 1) (fun x hx => h x (List.mem_cons_of_mem _ hx)) ?_
      obtain ⟨y, hy, hk⟩ := hx
      rcases List.mem_cons.1 hy with e2 | e2
      · subst e2; rw [hm] at hk; injection hk with _ hk; exact absurd hk.symm c
      · exact ⟨y, e2, hk⟩

theorem put_map (w : World) (es es' : Array MapEntry) (c c' : Nat) : { (w.alloc (.map es c)) with heap := (w.alloc (.map es c)).heap.setIfInBounds w.heap.size (.map es' c') } = w.alloc (.map es' c') := by
  have : (w.heap.push (Obj.map es c)).setIfInBounds w.heap.size (Obj.map es' c') = w.heap.push (Obj.map es' c') := by
    apply Array.ext'
    rw [Array.toList_setIfInBounds, Array.toList_push, Array.toList_push, ← Array.length_toList, List.set_append_right _ _ (Nat.le_refl _)]
    simp
  show World.mk ((w.heap.push (Obj.map es c)).setIfInBounds w.heap.size (Obj.map es' c')) _ _ _ _ = World.mk (w.heap.push (Obj.map es' c')) _ _ _ _
  rw [this]
  rfl

theorem run_update {w : World} {es : Array MapEntry} {clk : Nat} {n : Int} {v : Value} (h : ∀ e ∈ es.toList, ∃ m : Int, e.key = .int .u64 m ∧ m ≠ n) :
    (Instr.mapUpdate 91 (.map (some w.heap.size)) (.int .u64 n) v).run Try.prog (w.alloc (.map es clk)) = .ok () (w.alloc (.map (es.push { key := .int .u64 n, val := v, born := clk }) (clk + 1))) := by
  have h1 := find_none (n := n) es.toList 0 h
  have hg : (w.alloc (.map es clk)).heap[w.heap.size]? = some (.map es clk) := heap_alloc_new w _
  have hp := put_map w es (es.push { key := .int .u64 n, val := v, born := clk }) clk (clk + 1)
  unfold Instr.mapUpdate
  have e1 := Go.MapKept.run_getObj_map (P := Try.prog) hg
  have e2 : (setObj w.heap.size (.map (es.push { key := .int .u64 n, val := v, born := clk }) (clk + 1))).run Try.prog (w.alloc (.map es clk)) = .ok () (w.alloc (.map (es.push { key := .int .u64 n, val := v, born := clk }) (clk + 1))) :=
    (Go.MapKept.run_setObj_map (P := Try.prog) _ hg).trans (congrArg (Result.ok ()) hp)
  have e3 : (Instr.checkKey false 10000 22 (.int .u64 n)).run Try.prog (w.alloc (.map es clk)) = .ok () (w.alloc (.map es clk)) := Go.MapKept.run_checkKey Try.underlying22 (by exact rfl) _ _
  have e4 : (Instr.findKey 22 (.int .u64 n) es.toList).run Try.prog (w.alloc (.map es clk)) = .ok none (w.alloc (.map es clk)) := Go.MapKept.run_findKey Try.underlying22 h1
  rw [Sem.run_bind, run_underlying Try.underlying91]
  simp only [Result.andThen]
  rw [Sem.run_bind, e1]
  simp only [Result.andThen]
  rw [Sem.run_bind, e3]
  simp only [Result.andThen]
  rw [Sem.run_bind, e4]
  exact e2

theorem hrun_of {a : Act} {o : Oper} {w w1 : World} {m k g : Nat} {n : Int} {s : Value} (ho : o.op = .insert 91 (.tmp m) (.tmp k) (.const s)) (hm : a.eval (.tmp m) = .map (some g)) (hk : a.eval (.tmp k) = .int .u64 n)
    (h : (Instr.mapUpdate 91 (.map (some g)) (.int .u64 n) s).run Try.prog w = .ok () w1) : (execOp a.eval o).run Try.prog w = .ok .skip w1 := by
  have e : execOp a.eval o = (Instr.mapUpdate 91 (a.eval (.tmp m)) (a.eval (.tmp k)) s >>= fun _ => pure Next.skip) := by
    unfold execOp
    rw [ho]
    rfl
  rw [e, hm, hk, Sem.run_bind, h]
  rfl

theorem upd_ {ops : Array Oper} {Q : Exit → Act → World → Prop} {a : Act} {oi : Oper} {w w1 : World} {K : Act → World → Prop} {m k g : Nat} {n : Int} {s : Value} (hwt : Region.wanted oi (yielded ops a.tmps) = true) (hN : oi.dst = none)
    (ho : oi.op = .insert 91 (.tmp m) (.tmp k) (.const s)) (hm : a.eval (.tmp m) = .map (some g)) (hk : a.eval (.tmp k) = .int .u64 n)
    (h : (Instr.mapUpdate 91 (.map (some g)) (.int .u64 n) s).run Try.prog w = .ok () w1) (hK : K (a.put none undef) w1) : if Region.wanted oi (yielded ops a.tmps) = true then Oper.wp Try.prog oi a w K Q else K (a.put oi.dst undef) w := by
  rw [if_pos hwt]
  unfold Oper.wp
  rw [hrun_of ho hm hk h]
  show K (a.put oi.dst undef) w1
  rw [hN]
  exact hK

def lst (w : World) : List (Nat × Tmp × Value) := [(0, 1, .map (some w.heap.size)), (1, 2, .int .u64 9223372036854775808), (3, 3, .float .f64 9223372036854775808), (4, 4, .int .u64 9223372036854775807), (6, 5, .float .f64 9218868437227405312), (7, 6, .int .u64 18442240474082181120), (9, 7, .float .f64 18442240474082181120), (10, 8, .int .u64 4503599627370495), (12, 9, .float .f64 9221120237041090561), (13, 10, .int .u64 18444492273895866368), (15, 11, .map (some w.heap.size)), (16, 0, .map (some w.heap.size))]
def Rel (w : World) (a0 : Act) (b : Nat → Bool) (a : Act) (w' : World) : Prop :=
  ∃ es clk, a = putSel a0 b (lst w) ∧ Laid b es clk ∧ (b 0 = false → es = #[] ∧ clk = 0) ∧ (b 0 = true → w' = w.drew.alloc (.map es clk)) ∧ (b 0 = false → w' = w.drew)

theorem keys_of {b : Nat → Bool} {es : Array MapEntry} {clk : Nat} (h : Laid b es clk) : ∀ e ∈ es.toList, ∃ t ∈ tab, b t.1 = true ∧ e.key = t.2.1 ∧ e.val = t.2.2 := by
  intro e he
  have h1 := (h.1.mem_iff (a := (e.key, e.val))).1 (List.mem_map_of_mem (f := fun e : MapEntry => (e.key, e.val)) he)
  obtain ⟨t, ht, e2⟩ := List.mem_map.1 h1
  obtain ⟨ht1, ht2⟩ := List.mem_filter.1 ht
  exact ⟨t, ht1, ht2, by rw [e2], by rw [e2]⟩

theorem other_keys {b : Nat → Bool} {es : Array MapEntry} {clk : Nat} (h : Laid b es clk) {i : Nat} {n : Int} (hb : b i = false) (hn : ∀ t ∈ tab, t.1 ≠ i → ∃ m : Int, t.2.1 = .int .u64 m ∧ m ≠ n) : ∀ e ∈ es.toList, ∃ m : Int, e.key = .int .u64 m ∧ m ≠ n := by
  intro e he
  obtain ⟨t, ht, hb1, hk, _⟩ := keys_of h e he
  obtain ⟨m, hm, hne⟩ := hn t ht (fun e2 => by rw [e2, hb] at hb1; cases hb1)
  exact ⟨m, hk.trans hm, hne⟩

theorem k0 : keyB 0 = 9223372036854775808 := by decide +kernel
theorem k1 : keyB 9223372036854775808 = 9223372036854775807 := by decide +kernel
theorem k2 : keyB 9218868437227405312 = 18442240474082181120 := by decide +kernel
theorem k3 : keyB 18442240474082181120 = 4503599627370495 := by decide +kernel
theorem k4 : keyB 9221120237041090561 = 18444492273895866368 := by decide +kernel

set_option maxRecDepth 100000 in
set_option maxHeartbeats 1000000 in
theorem words_any (w : World) : Calls Try.prog 63 #[] w fun e w' => ∃ es clk, e = .returned (.map (some w.heap.size)) ∧ Laid (fun _ => true) es clk ∧ w' = w.drew.alloc (.map es clk) := by
  go_enter Try.func63, Try.ntmps63
  go_wp2
  refine start_ (n := 17) (S := fun w' => True) (ds := []) #[false, false, false, false, false, false, false, false, false, false, false, false, false, false, false, false, false] (by kernel_rfl) rfl rfl trivial (fun hHeld => ?_)
  refine with_tabW tab1 bits1 (fun HT_ HW_ => ?_)
  refine inv_at [0, 1, 2, 3, 4, 5, 6, 7, 8, 9, 10, 11, 12, 13, 14, 15, 16] (Rel w) HT_.out HW_.out (by kernel_rfl) (by kernel_rfl) ?_ ?_ ?_
  · exact ⟨#[], 0, by simp only [putSel, lst, Bool.false_eq_true, if_false], laid_none, fun _ => ⟨rfl, rfl⟩, fun h => (by cases h), fun _ => rfl⟩
  · skip
    refine steps_cons ?_ ?_
    · rintro b a w' ⟨es, clk, ha, hL, hz, h1, h0⟩ hb hon hoff
      refine ⟨_, rfl, fun K hK => ?_⟩
      obtain ⟨rfl, rfl⟩ := hz hb
      obtain rfl := h0 hb
      refine value_ (w1 := w.drew.alloc (.map #[] 0)) (v := .map (some w.heap.size)) (by rfl) rfl rfl ?_
      exact hK.out _ _ ⟨#[], 0, (by rw [ha]; exact putSel_upk 0 hb rfl rfl rfl), laid_same hL (by decide), fun _ => ⟨rfl, rfl⟩, fun _ => rfl, fun h => (by rw [up_self] at h; cases h)⟩
    refine steps_cons ?_ ?_
    · rintro b a w' ⟨es, clk, ha, hL, hz, h1, h0⟩ hb hon hoff
      refine ⟨_, rfl, fun K hK => ?_⟩
      refine goes_ Try.func22 (by kernel_rfl) rfl #[.float .f64 0] (by rfl) rfl rfl (by simp [Act.eval]) ?_
      refine (XReal.key_any _ _ (by decide)).mono ?_
      rintro e w1 ⟨rfl, rfl⟩
      rw [k0]
      exact ⟨_, rfl, hK.out _ _ ⟨es, clk, (by rw [ha]; exact putSel_upk 1 hb rfl rfl rfl), laid_same hL (by decide), (fun h => hz (by rw [up_ne (by decide)] at h; exact h)), (fun h => h1 (by rw [up_ne (by decide)] at h; exact h)), (fun h => h0 (by rw [up_ne (by decide)] at h; exact h))⟩⟩
    refine steps_cons ?_ ?_
    · rintro b a w' ⟨es, clk, ha, hL, hz, h1, h0⟩ hb hon hoff
      refine ⟨_, rfl, fun K hK => ?_⟩
      have e1 : a.tmps[1]? = some (.map (some w.heap.size)) := by rw [ha]; exact putSel_on (e := (0, 1, .map (some w.heap.size))) 0 rfl rfl (hon 0 (by kernel_rfl)) rfl
      have e2 : a.tmps[2]? = some (.int .u64 9223372036854775808) := by rw [ha]; exact putSel_on (e := (1, 2, .int .u64 9223372036854775808)) 1 rfl rfl (hon 1 (by kernel_rfl)) rfl
      have hw := h1 (hon 0 (by kernel_rfl))
      have hk := other_keys (n := 9223372036854775808) hL hb (by intro t ht hne; simp only [tab, List.mem_cons, List.not_mem_nil, or_false] at ht; rcases ht with rfl | rfl | rfl | rfl | rfl <;> first | exact absurd rfl hne | exact ⟨_, rfl, by decide⟩)
      have hu := run_update (w := w.drew) (es := es) (clk := clk) (v := .string ⟨#[48]⟩) hk
      refine upd_ (by rfl) rfl rfl (eval_of e1) (eval_of e2) (hw ▸ hu) ?_
      exact hK.out _ _ ⟨_, _, (by rw [ha]; exact putSel_none (v := undef) rfl), laid_put hL (by simp [tab]) hb, (fun h => by rw [up_ne (by decide), hon 0 (by kernel_rfl)] at h; cases h), fun _ => rfl, (fun h => by rw [up_ne (by decide), hon 0 (by kernel_rfl)] at h; cases h)⟩
    refine steps_cons ?_ ?_
    · rintro b a w' ⟨es, clk, ha, hL, hz, h1, h0⟩ hb hon hoff
      refine ⟨_, rfl, fun K hK => ?_⟩
      refine goes_ Try.func21 (by kernel_rfl) rfl #[.float .f64 0, .float .f64 13830554455654793216] (by rfl) rfl rfl (by simp [Act.eval]) ?_
      refine (XReal.neg_zero _).mono ?_
      rintro e w1 ⟨rfl, rfl⟩
      exact ⟨_, rfl, hK.out _ _ ⟨es, clk, (by rw [ha]; exact putSel_upk 2 hb rfl rfl rfl), laid_same hL (by decide), (fun h => hz (by rw [up_ne (by decide)] at h; exact h)), (fun h => h1 (by rw [up_ne (by decide)] at h; exact h)), (fun h => h0 (by rw [up_ne (by decide)] at h; exact h))⟩⟩
    refine steps_cons ?_ ?_
    · rintro b a w' ⟨es, clk, ha, hL, hz, h1, h0⟩ hb hon hoff
      refine ⟨_, rfl, fun K hK => ?_⟩
      have e3 : a.tmps[3]? = some (.float .f64 9223372036854775808) := by rw [ha]; exact putSel_on (e := (3, 3, .float .f64 9223372036854775808)) 2 rfl rfl (hon 3 (by kernel_rfl)) rfl
      refine goes_ Try.func22 (by kernel_rfl) rfl #[.float .f64 9223372036854775808] (by rfl) rfl rfl (by simp [eval_of e3]) ?_
      refine (XReal.key_any _ _ (by decide)).mono ?_
      rintro e w1 ⟨rfl, rfl⟩
      rw [k1]
      exact ⟨_, rfl, hK.out _ _ ⟨es, clk, (by rw [ha]; exact putSel_upk 3 hb rfl rfl rfl), laid_same hL (by decide), (fun h => hz (by rw [up_ne (by decide)] at h; exact h)), (fun h => h1 (by rw [up_ne (by decide)] at h; exact h)), (fun h => h0 (by rw [up_ne (by decide)] at h; exact h))⟩⟩
    refine steps_cons ?_ ?_
    · rintro b a w' ⟨es, clk, ha, hL, hz, h1, h0⟩ hb hon hoff
      refine ⟨_, rfl, fun K hK => ?_⟩
      have e1 : a.tmps[1]? = some (.map (some w.heap.size)) := by rw [ha]; exact putSel_on (e := (0, 1, .map (some w.heap.size))) 0 rfl rfl (hon 0 (by kernel_rfl)) rfl
      have e4 : a.tmps[4]? = some (.int .u64 9223372036854775807) := by rw [ha]; exact putSel_on (e := (4, 4, .int .u64 9223372036854775807)) 3 rfl rfl (hon 4 (by kernel_rfl)) rfl
      have hw := h1 (hon 0 (by kernel_rfl))
      have hk := other_keys (n := 9223372036854775807) hL hb (by intro t ht hne; simp only [tab, List.mem_cons, List.not_mem_nil, or_false] at ht; rcases ht with rfl | rfl | rfl | rfl | rfl <;> first | exact absurd rfl hne | exact ⟨_, rfl, by decide⟩)
      have hu := run_update (w := w.drew) (es := es) (clk := clk) (v := .string ⟨#[45, 48]⟩) hk
      refine upd_ (by rfl) rfl rfl (eval_of e1) (eval_of e4) (hw ▸ hu) ?_
      exact hK.out _ _ ⟨_, _, (by rw [ha]; exact putSel_none (v := undef) rfl), laid_put hL (by simp [tab]) hb, (fun h => by rw [up_ne (by decide), hon 0 (by kernel_rfl)] at h; cases h), fun _ => rfl, (fun h => by rw [up_ne (by decide), hon 0 (by kernel_rfl)] at h; cases h)⟩
    refine steps_cons ?_ ?_
    · rintro b a w' ⟨es, clk, ha, hL, hz, h1, h0⟩ hb hon hoff
      refine ⟨_, rfl, fun K hK => ?_⟩
      refine goes_ Try.func20 (by kernel_rfl) rfl #[.int .i64 1] (by rfl) rfl rfl (by simp [Act.eval]) ?_
      refine (XReal.inf_pos _).mono ?_
      rintro e w1 ⟨rfl, rfl⟩
      exact ⟨_, rfl, hK.out _ _ ⟨es, clk, (by rw [ha]; exact putSel_upk 4 hb rfl rfl rfl), laid_same hL (by decide), (fun h => hz (by rw [up_ne (by decide)] at h; exact h)), (fun h => h1 (by rw [up_ne (by decide)] at h; exact h)), (fun h => h0 (by rw [up_ne (by decide)] at h; exact h))⟩⟩
    refine steps_cons ?_ ?_
    · rintro b a w' ⟨es, clk, ha, hL, hz, h1, h0⟩ hb hon hoff
      refine ⟨_, rfl, fun K hK => ?_⟩
      have e5 : a.tmps[5]? = some (.float .f64 9218868437227405312) := by rw [ha]; exact putSel_on (e := (6, 5, .float .f64 9218868437227405312)) 4 rfl rfl (hon 6 (by kernel_rfl)) rfl
      refine goes_ Try.func22 (by kernel_rfl) rfl #[.float .f64 9218868437227405312] (by rfl) rfl rfl (by simp [eval_of e5]) ?_
      refine (XReal.key_any _ _ (by decide)).mono ?_
      rintro e w1 ⟨rfl, rfl⟩
      rw [k2]
      exact ⟨_, rfl, hK.out _ _ ⟨es, clk, (by rw [ha]; exact putSel_upk 5 hb rfl rfl rfl), laid_same hL (by decide), (fun h => hz (by rw [up_ne (by decide)] at h; exact h)), (fun h => h1 (by rw [up_ne (by decide)] at h; exact h)), (fun h => h0 (by rw [up_ne (by decide)] at h; exact h))⟩⟩
    refine steps_cons ?_ ?_
    · rintro b a w' ⟨es, clk, ha, hL, hz, h1, h0⟩ hb hon hoff
      refine ⟨_, rfl, fun K hK => ?_⟩
      have e1 : a.tmps[1]? = some (.map (some w.heap.size)) := by rw [ha]; exact putSel_on (e := (0, 1, .map (some w.heap.size))) 0 rfl rfl (hon 0 (by kernel_rfl)) rfl
      have e6 : a.tmps[6]? = some (.int .u64 18442240474082181120) := by rw [ha]; exact putSel_on (e := (7, 6, .int .u64 18442240474082181120)) 5 rfl rfl (hon 7 (by kernel_rfl)) rfl
      have hw := h1 (hon 0 (by kernel_rfl))
      have hk := other_keys (n := 18442240474082181120) hL hb (by intro t ht hne; simp only [tab, List.mem_cons, List.not_mem_nil, or_false] at ht; rcases ht with rfl | rfl | rfl | rfl | rfl <;> first | exact absurd rfl hne | exact ⟨_, rfl, by decide⟩)
      have hu := run_update (w := w.drew) (es := es) (clk := clk) (v := .string ⟨#[105, 110, 102]⟩) hk
      refine upd_ (by rfl) rfl rfl (eval_of e1) (eval_of e6) (hw ▸ hu) ?_
      exact hK.out _ _ ⟨_, _, (by rw [ha]; exact putSel_none (v := undef) rfl), laid_put hL (by simp [tab]) hb, (fun h => by rw [up_ne (by decide), hon 0 (by kernel_rfl)] at h; cases h), fun _ => rfl, (fun h => by rw [up_ne (by decide), hon 0 (by kernel_rfl)] at h; cases h)⟩
    refine steps_cons ?_ ?_
    · rintro b a w' ⟨es, clk, ha, hL, hz, h1, h0⟩ hb hon hoff
      refine ⟨_, rfl, fun K hK => ?_⟩
      refine goes_ Try.func20 (by kernel_rfl) rfl #[.int .i64 (-1)] (by rfl) rfl rfl (by simp [Act.eval]) ?_
      refine (XReal.inf_neg _).mono ?_
      rintro e w1 ⟨rfl, rfl⟩
      exact ⟨_, rfl, hK.out _ _ ⟨es, clk, (by rw [ha]; exact putSel_upk 6 hb rfl rfl rfl), laid_same hL (by decide), (fun h => hz (by rw [up_ne (by decide)] at h; exact h)), (fun h => h1 (by rw [up_ne (by decide)] at h; exact h)), (fun h => h0 (by rw [up_ne (by decide)] at h; exact h))⟩⟩
    refine steps_cons ?_ ?_
    · rintro b a w' ⟨es, clk, ha, hL, hz, h1, h0⟩ hb hon hoff
      refine ⟨_, rfl, fun K hK => ?_⟩
      have e7 : a.tmps[7]? = some (.float .f64 18442240474082181120) := by rw [ha]; exact putSel_on (e := (9, 7, .float .f64 18442240474082181120)) 6 rfl rfl (hon 9 (by kernel_rfl)) rfl
      refine goes_ Try.func22 (by kernel_rfl) rfl #[.float .f64 18442240474082181120] (by rfl) rfl rfl (by simp [eval_of e7]) ?_
      refine (XReal.key_any _ _ (by decide)).mono ?_
      rintro e w1 ⟨rfl, rfl⟩
      rw [k3]
      exact ⟨_, rfl, hK.out _ _ ⟨es, clk, (by rw [ha]; exact putSel_upk 7 hb rfl rfl rfl), laid_same hL (by decide), (fun h => hz (by rw [up_ne (by decide)] at h; exact h)), (fun h => h1 (by rw [up_ne (by decide)] at h; exact h)), (fun h => h0 (by rw [up_ne (by decide)] at h; exact h))⟩⟩
    refine steps_cons ?_ ?_
    · rintro b a w' ⟨es, clk, ha, hL, hz, h1, h0⟩ hb hon hoff
      refine ⟨_, rfl, fun K hK => ?_⟩
      have e1 : a.tmps[1]? = some (.map (some w.heap.size)) := by rw [ha]; exact putSel_on (e := (0, 1, .map (some w.heap.size))) 0 rfl rfl (hon 0 (by kernel_rfl)) rfl
      have e8 : a.tmps[8]? = some (.int .u64 4503599627370495) := by rw [ha]; exact putSel_on (e := (10, 8, .int .u64 4503599627370495)) 7 rfl rfl (hon 10 (by kernel_rfl)) rfl
      have hw := h1 (hon 0 (by kernel_rfl))
      have hk := other_keys (n := 4503599627370495) hL hb (by intro t ht hne; simp only [tab, List.mem_cons, List.not_mem_nil, or_false] at ht; rcases ht with rfl | rfl | rfl | rfl | rfl <;> first | exact absurd rfl hne | exact ⟨_, rfl, by decide⟩)
      have hu := run_update (w := w.drew) (es := es) (clk := clk) (v := .string ⟨#[45, 105, 110, 102]⟩) hk
      refine upd_ (by rfl) rfl rfl (eval_of e1) (eval_of e8) (hw ▸ hu) ?_
      exact hK.out _ _ ⟨_, _, (by rw [ha]; exact putSel_none (v := undef) rfl), laid_put hL (by simp [tab]) hb, (fun h => by rw [up_ne (by decide), hon 0 (by kernel_rfl)] at h; cases h), fun _ => rfl, (fun h => by rw [up_ne (by decide), hon 0 (by kernel_rfl)] at h; cases h)⟩
    refine steps_cons ?_ ?_
    · rintro b a w' ⟨es, clk, ha, hL, hz, h1, h0⟩ hb hon hoff
      refine ⟨_, rfl, fun K hK => ?_⟩
      refine goes_ Try.func60 (by kernel_rfl) rfl #[] (by rfl) rfl rfl (by simp [Act.eval]) ?_
      refine (XReal.nan_any _).mono ?_
      rintro e w1 ⟨rfl, rfl⟩
      exact ⟨_, rfl, hK.out _ _ ⟨es, clk, (by rw [ha]; exact putSel_upk 8 hb rfl rfl rfl), laid_same hL (by decide), (fun h => hz (by rw [up_ne (by decide)] at h; exact h)), (fun h => h1 (by rw [up_ne (by decide)] at h; exact h)), (fun h => h0 (by rw [up_ne (by decide)] at h; exact h))⟩⟩
    refine steps_cons ?_ ?_
    · rintro b a w' ⟨es, clk, ha, hL, hz, h1, h0⟩ hb hon hoff
      refine ⟨_, rfl, fun K hK => ?_⟩
      have e9 : a.tmps[9]? = some (.float .f64 9221120237041090561) := by rw [ha]; exact putSel_on (e := (12, 9, .float .f64 9221120237041090561)) 8 rfl rfl (hon 12 (by kernel_rfl)) rfl
      refine goes_ Try.func22 (by kernel_rfl) rfl #[.float .f64 9221120237041090561] (by rfl) rfl rfl (by simp [eval_of e9]) ?_
      refine (XReal.key_any _ _ (by decide)).mono ?_
      rintro e w1 ⟨rfl, rfl⟩
      rw [k4]
      exact ⟨_, rfl, hK.out _ _ ⟨es, clk, (by rw [ha]; exact putSel_upk 9 hb rfl rfl rfl), laid_same hL (by decide), (fun h => hz (by rw [up_ne (by decide)] at h; exact h)), (fun h => h1 (by rw [up_ne (by decide)] at h; exact h)), (fun h => h0 (by rw [up_ne (by decide)] at h; exact h))⟩⟩
    refine steps_cons ?_ ?_
    · rintro b a w' ⟨es, clk, ha, hL, hz, h1, h0⟩ hb hon hoff
      refine ⟨_, rfl, fun K hK => ?_⟩
      have e1 : a.tmps[1]? = some (.map (some w.heap.size)) := by rw [ha]; exact putSel_on (e := (0, 1, .map (some w.heap.size))) 0 rfl rfl (hon 0 (by kernel_rfl)) rfl
      have e10 : a.tmps[10]? = some (.int .u64 18444492273895866368) := by rw [ha]; exact putSel_on (e := (13, 10, .int .u64 18444492273895866368)) 9 rfl rfl (hon 13 (by kernel_rfl)) rfl
      have hw := h1 (hon 0 (by kernel_rfl))
      have hk := other_keys (n := 18444492273895866368) hL hb (by intro t ht hne; simp only [tab, List.mem_cons, List.not_mem_nil, or_false] at ht; rcases ht with rfl | rfl | rfl | rfl | rfl <;> first | exact absurd rfl hne | exact ⟨_, rfl, by decide⟩)
      have hu := run_update (w := w.drew) (es := es) (clk := clk) (v := .string ⟨#[110, 97, 110]⟩) hk
      refine upd_ (by rfl) rfl rfl (eval_of e1) (eval_of e10) (hw ▸ hu) ?_
      exact hK.out _ _ ⟨_, _, (by rw [ha]; exact putSel_none (v := undef) rfl), laid_put hL (by simp [tab]) hb, (fun h => by rw [up_ne (by decide), hon 0 (by kernel_rfl)] at h; cases h), fun _ => rfl, (fun h => by rw [up_ne (by decide), hon 0 (by kernel_rfl)] at h; cases h)⟩
    refine steps_cons ?_ ?_
    · rintro b a w' ⟨es, clk, ha, hL, hz, h1, h0⟩ hb hon hoff
      refine ⟨_, rfl, fun K hK => ?_⟩
      have e1 : a.tmps[1]? = some (.map (some w.heap.size)) := by rw [ha]; exact putSel_on (e := (0, 1, .map (some w.heap.size))) 0 rfl rfl (hon 0 (by kernel_rfl)) rfl
      refine value_ (w1 := w') (v := .map (some w.heap.size)) (by rfl) rfl ?_ ?_
      · simp [execOp, eval_of e1]
      exact hK.out _ _ ⟨es, clk, (by rw [ha]; exact putSel_upk 10 hb rfl rfl rfl), laid_same hL (by decide), (fun h => hz (by rw [up_ne (by decide)] at h; exact h)), (fun h => h1 (by rw [up_ne (by decide)] at h; exact h)), (fun h => h0 (by rw [up_ne (by decide)] at h; exact h))⟩
    refine steps_cons ?_ ?_
    · rintro b a w' ⟨es, clk, ha, hL, hz, h1, h0⟩ hb hon hoff
      refine ⟨_, rfl, fun K hK => ?_⟩
      have e11 : a.tmps[11]? = some (.map (some w.heap.size)) := by rw [ha]; exact putSel_on (e := (15, 11, .map (some w.heap.size))) 10 rfl rfl (hon 15 (by kernel_rfl)) rfl
      refine value_ (w1 := w') (v := .map (some w.heap.size)) (by rfl) rfl ?_ ?_
      · simp [execOp, eval_of e11]
      exact hK.out _ _ ⟨es, clk, (by rw [ha]; exact putSel_upk 11 hb rfl rfl rfl), laid_same hL (by decide), (fun h => hz (by rw [up_ne (by decide)] at h; exact h)), (fun h => h1 (by rw [up_ne (by decide)] at h; exact h)), (fun h => h0 (by rw [up_ne (by decide)] at h; exact h))⟩
    exact steps_nil
  · rintro b a w' hall ⟨es, clk, ha, hL, hz, h1, h0⟩
    obtain rfl := h1 (hall 0 (by kernel_rfl))
    have hb : ∀ t ∈ tab, b t.1 = true := by
      intro t ht
      refine hall t.1 ?_
      simp only [tab, List.mem_cons, List.not_mem_nil, or_false] at ht
      rcases ht with rfl | rfl | rfl | rfl | rfl <;> rfl
    have hl : Laid (fun _ => true) es clk := by
      refine ⟨?_, hL.2⟩
      have := hL.1
      rwa [List.filter_congr (q := fun t => true) (fun t ht => by rw [hb t ht])] at this
    have b0 := hall 0 (by kernel_rfl)
    have b1 := hall 1 (by kernel_rfl)
    have b2 := hall 2 (by kernel_rfl)
    have b3 := hall 3 (by kernel_rfl)
    have b4 := hall 4 (by kernel_rfl)
    have b5 := hall 5 (by kernel_rfl)
    have b6 := hall 6 (by kernel_rfl)
    have b7 := hall 7 (by kernel_rfl)
    have b8 := hall 8 (by kernel_rfl)
    have b9 := hall 9 (by kernel_rfl)
    have b10 := hall 10 (by kernel_rfl)
    have b11 := hall 11 (by kernel_rfl)
    have b12 := hall 12 (by kernel_rfl)
    have b13 := hall 13 (by kernel_rfl)
    have b14 := hall 14 (by kernel_rfl)
    have b15 := hall 15 (by kernel_rfl)
    have b16 := hall 16 (by kernel_rfl)
    subst ha
    simp only [putSel, lst, b0, b1, b2, b3, b4, b5, b6, b7, b8, b9, b10, b11, b12, b13, b14, b15, b16, if_true, Act.put, List.setIfInBounds_toArray, List.set_cons_zero, List.set_cons_succ]
    clear b0 b1 b2 b3 b4 b5 b6 b7 b8 b9 b10 b11 b12 b13 b14 b15 b16 hall hb hL hz h1 h0
    go_wp2
    go_ret
    exact ⟨es, clk, rfl, hl, rfl⟩

theorem entries {es : Array MapEntry} {clk : Nat} (h : Laid (fun _ => true) es clk) : (∀ t ∈ tab, ∃ e ∈ es.toList, e.key = t.2.1 ∧ e.val = t.2.2) ∧ (∀ e ∈ es.toList, ∃ t ∈ tab, e.key = t.2.1 ∧ e.val = t.2.2) := by
  refine ⟨fun t ht => ?_, fun e he => ?_⟩
  · have h1 : t.2 ∈ es.toList.map fun e => (e.key, e.val) := (h.1.mem_iff).2 (List.mem_map_of_mem (f := fun t : Nat × Value × Value => t.2) (List.mem_filter.2 ⟨ht, rfl⟩))
    obtain ⟨e, he, h2⟩ := List.mem_map.1 h1
    exact ⟨e, he, by rw [← h2], by rw [← h2]⟩
  · obtain ⟨t, ht, _, h2⟩ := keys_of h e he
    exact ⟨t, ht, h2⟩

def tabI : List (Int × ByteArray) := [(9223372036854775808, ⟨#[48]⟩), (9223372036854775807, ⟨#[45, 48]⟩), (18442240474082181120, ⟨#[105, 110, 102]⟩), (4503599627370495, ⟨#[45, 105, 110, 102]⟩), (18444492273895866368, ⟨#[110, 97, 110]⟩)]
theorem tab_tabI : ∀ t ∈ tab, ∃ p ∈ tabI, t.2.1 = .int .u64 p.1 ∧ t.2.2 = .string p.2 := by
  intro t ht
  simp only [tab, List.mem_cons, List.not_mem_nil, or_false] at ht
  rcases ht with rfl | rfl | rfl | rfl | rfl
  · exact ⟨_, List.mem_cons_self, rfl, rfl⟩
  · exact ⟨_, List.mem_cons_of_mem _ List.mem_cons_self, rfl, rfl⟩
  · exact ⟨_, List.mem_cons_of_mem _ (List.mem_cons_of_mem _ List.mem_cons_self), rfl, rfl⟩
  · exact ⟨_, List.mem_cons_of_mem _ (List.mem_cons_of_mem _ (List.mem_cons_of_mem _ List.mem_cons_self)), rfl, rfl⟩
  · exact ⟨_, List.mem_cons_of_mem _ (List.mem_cons_of_mem _ (List.mem_cons_of_mem _ (List.mem_cons_of_mem _ List.mem_cons_self))), rfl, rfl⟩
theorem tabI_tab : ∀ p ∈ tabI, ∃ t ∈ tab, t.2.1 = .int .u64 p.1 ∧ t.2.2 = .string p.2 := by
  intro t ht
  simp only [tabI, List.mem_cons, List.not_mem_nil, or_false] at ht
  rcases ht with rfl | rfl | rfl | rfl | rfl
  · exact ⟨_, List.mem_cons_self, rfl, rfl⟩
  · exact ⟨_, List.mem_cons_of_mem _ List.mem_cons_self, rfl, rfl⟩
  · exact ⟨_, List.mem_cons_of_mem _ (List.mem_cons_of_mem _ List.mem_cons_self), rfl, rfl⟩
  · exact ⟨_, List.mem_cons_of_mem _ (List.mem_cons_of_mem _ (List.mem_cons_of_mem _ List.mem_cons_self)), rfl, rfl⟩
  · exact ⟨_, List.mem_cons_of_mem _ (List.mem_cons_of_mem _ (List.mem_cons_of_mem _ (List.mem_cons_of_mem _ List.mem_cons_self))), rfl, rfl⟩
theorem tabI_fun : ∀ p ∈ tabI, ∀ q ∈ tabI, p.1 = q.1 → p = q := by
  intro p hp q hq h
  simp only [tabI, List.mem_cons, List.not_mem_nil, or_false] at hp hq
  rcases hp with rfl | rfl | rfl | rfl | rfl <;> rcases hq with rfl | rfl | rfl | rfl | rfl <;> first | rfl | (exact absurd h (by decide))

theorem run_lookup_of {w : World} {es : Array MapEntry} {clk g : Nat} {n : Int} {r : Option (Nat × Value)} (hw : w.heap[g]? = some (.map es clk)) (h : Instr.findNow (.int .u64) (.int .u64 n) es.toList 0 = some r) :
    (Instr.lookup 91 (.map (some g)) (.int .u64 n) true).run Try.prog w = .ok (match r with | some (_, v) => .tuple #[v, .bool true] | none => .tuple #[.string ⟨#[]⟩, .bool false]) w := by
  have e1 := Go.MapKept.run_getObj_map (P := Try.prog) hw
  have e3 : (Instr.checkKey es.isEmpty 10000 22 (.int .u64 n)).run Try.prog w = .ok () w := Go.MapKept.run_checkKey Try.underlying22 (by exact rfl) _ _
  have e4 : (Instr.findKey 22 (.int .u64 n) es.toList).run Try.prog w = .ok r w := Go.MapKept.run_findKey Try.underlying22 h
  have e5 : (zeroValue 9).run Try.prog w = .ok (.string ⟨#[]⟩) w := by kernel_rfl
  unfold Instr.lookup
  rw [Sem.run_bind, run_underlying Try.underlying91]
  simp only [Result.andThen]
  rw [Sem.run_bind, e1]
  simp only [Result.andThen, Sem.run_pure, pure_bind]
  rw [Sem.run_bind, e3]
  simp only [Result.andThen]
  rw [Sem.run_bind, e4]
  simp only [Result.andThen]
  cases r with
  | none => simp only [Sem.run_bind, e5, Result.andThen, Sem.run_pure]; rfl
  | some p => rfl

theorem lookup_hit {w : World} {es : Array MapEntry} {clk g : Nat} {n : Int} {s : ByteArray} (hL : Laid (fun _ => true) es clk) (hw : w.heap[g]? = some (.map es clk)) (h : (n, s) ∈ tabI) :
    (Instr.lookup 91 (.map (some g)) (.int .u64 n) true).run Try.prog w = .ok (.tuple #[.string s, .bool true]) w := by
  obtain ⟨h1, h2⟩ := entries hL
  obtain ⟨j, hj⟩ := find_some (n := n) (v := .string s) es.toList 0 (fun e he => by
    obtain ⟨t, ht, hk, hv⟩ := h2 e he
    obtain ⟨p, hp, a1, a2⟩ := tab_tabI t ht
    exact ⟨p.1, hk.trans a1, fun hm => by rw [hv, a2, tabI_fun p hp _ h hm]⟩) (by
    obtain ⟨t, ht, a1, a2⟩ := tabI_tab _ h
    obtain ⟨e, he, hk, hv⟩ := h1 t ht
    exact ⟨e, he, hk.trans a1⟩)
  exact run_lookup_of hw hj
theorem lookup_miss {w : World} {es : Array MapEntry} {clk g : Nat} {n : Int} (hL : Laid (fun _ => true) es clk) (hw : w.heap[g]? = some (.map es clk)) (h : ∀ p ∈ tabI, p.1 ≠ n) :
    (Instr.lookup 91 (.map (some g)) (.int .u64 n) true).run Try.prog w = .ok (.tuple #[.string ⟨#[]⟩, .bool false]) w := by
  obtain ⟨h1, h2⟩ := entries hL
  exact run_lookup_of (r := none) hw (find_none es.toList 0 (fun e he => by
    obtain ⟨t, ht, hk, hv⟩ := h2 e he
    obtain ⟨p, hp, a1, a2⟩ := tab_tabI t ht
    exact ⟨p.1, hk.trans a1, h p hp⟩))

/-- The text of what is told by a word. -/
theorem text_word (b : Nat) (s : ByteArray) (w : World) (hb : b < 18446744073709551616) (h : ((keyB b : Nat) : Int) = 0 ∨ True) (hs : (((keyB b : Nat) : Int), s) ∈ tabI) :
    Calls Try.prog 36 #[.float .f64 b] w fun e w' => e = .returned (.string s) ∧ Below w.heap.size w w' := by
  have HB := Lib.hid hb
  have HS := Lib.hid hs
  clear hb hs h
  go_enter Try.func36, Try.ntmps36
  go_wp2_with fail
  refine (words_any _).mono ?_
  rintro e w' ⟨es, clk, rfl, hL, rfl⟩
  have HL := Lib.hid hL
  clear hL
  go_wp2_with fail
  refine (XReal.key_any _ _ HB.out).mono ?_
  rintro e w' ⟨rfl, rfl⟩
  have hlk := lookup_hit (w := (w.alloc (.map es clk)).drew) (g := w.heap.size) HL.out (heap_alloc_new w _) HS.out
  go_wp2
  go_ret
  exact ⟨rfl, ((Below.refl _ _).alloc (Nat.le_refl _) _).drew⟩

end XWords
end Go.Proofs.Ytlglcnljjpedcaa
