import Derived.Test.YtfieppbehmglbaaVeQ
/-! A region whose order is open: one more operation. -/
set_option linter.unusedVariables false
set_option linter.unusedSimpArgs false
namespace Go.Proofs.Ytfieppbehmglbaa.Ve
open Go

section
variable {P : Program} {C : Cfg} {E : Task → Option Out} {ops : Array Oper} {n : Nat} {S : Nat → St} {T : Nat → List V} {en : Nat → Ent} {op : Nat → Oper}
variable {ρ₀ : Ren} {F₀ : Nat → Prop} {w₀ : World}

noncomputable def curO (n : Nat) (S : Nat → St) (en : Nat → Ent) (L : Nat → Bool) (i : Nat) : Option SO := cur (fun k => (S k).get i) (touchO S en i) L n
noncomputable def curT (n : Nat) (T : Nat → List V) (op : Nat → Oper) (L : Nat → Bool) (t : Nat) : V := cur (fun k => (T k).getD t undefV) (touchT n op t) L n

/-- What a region's operations read, write or make. -/
def inR (n : Nat) (en : Nat → Ent) (i : Nat) : Prop := ∃ k, k < n ∧ i ∈ (en k).R
def inW (n : Nat) (en : Nat → Ent) (i : Nat) : Prop := ∃ k, k < n ∧ i ∈ (en k).W

/-- The blocks that the region may change. -/
def claim (ρ₀ : Ren) (w₀ : World) (S : Nat → St) (n : Nat) (en : Nat → Ent) (B : Nat) : Prop := w₀.heap.size ≤ B ∨ ∃ j, j < (S 0).next ∧ inW n en j ∧ blk ρ₀ j = some B

structure Inv (n : Nat) (S : Nat → St) (T : Nat → List V) (en : Nat → Ent) (op : Nat → Oper) (ρ₀ : Ren) (F₀ : Nat → Prop) (w₀ : World) (L : Nat → Bool) (ρ : Ren) (F : Nat → Prop) (a : Act) (w : World) : Prop where
  size : a.tmps.size = (T 0).length
  tm : ∀ t, t < a.tmps.size → VRel ρ F w (curT n T op L t) (a.tmps.getD t undef)
  defers : a.defers = []
  rle : RLe ρ₀ ρ
  rnew : ∀ i, ρ i ≠ ρ₀ i → ∃ k, k < n ∧ L k = true ∧ (S k).next ≤ i ∧ i < (S (k + 1)).next
  fle : ∀ B, F₀ B → F B
  fnew : ∀ B, F B → F₀ B ∨ claim ρ₀ w₀ S n en B
  fok : ∀ B, F B → B < w.heap.size
  hsize : w₀.heap.size ≤ w.heap.size
  shp : Shp w₀ w
  heap : ∀ B, B < w₀.heap.size → ¬ claim ρ₀ w₀ S n en B → w.heap[B]? = w₀.heap[B]?
  obj : ∀ i so, (inR n en i ∨ inW n en i ∨ (S 0).next ≤ i) → curO n S en L i = some so → ObjRel ρ F w i so ∧ ((inW n en i ∨ (S 0).next ≤ i) → ∀ B, blk ρ i = some B → claim ρ₀ w₀ S n en B)
  inj : ∀ i j, (inW n en i ∨ (S 0).next ≤ i) → (inR n en j ∨ inW n en j ∨ (S 0).next ≤ j) → (curO n S en L i).isSome → (curO n S en L j).isSome → i ≠ j → blk ρ i ≠ blk ρ j

/-- No order between i and what is done, or to be done, matters. -/
def Cpt (ops : Array Oper) (n : Nat) (en : Nat → Ent) (op : Nat → Oper) (L : Nat → Bool) (i : Nat) : Prop :=
  (∀ k, k < n → k < i → L k = false → (en k).clash (en i) = false ∧ (op k).apart ops (op i) = true) ∧
  (∀ k, k < n → i < k → L k = true → (en i).clash (en k) = false ∧ (op i).apart ops (op k) = true)

theorem clash_false {a b : Ent} (h : a.clash b = false) : (∀ x ∈ a.W, x ∉ b.R ∧ x ∉ b.W) ∧ (∀ x ∈ b.W, x ∉ a.R) ∧ (∀ x, x ∈ b.R ∨ x ∈ b.W → ¬ (a.pre.next ≤ x ∧ x < a.post.next)) := by
  unfold Ent.clash at h
  simp only [Bool.or_eq_false_iff, List.any_eq_false, Bool.and_eq_true, decide_eq_true_eq, List.contains_eq_mem, List.mem_append, Bool.or_eq_true, not_or] at h
  obtain ⟨⟨h1, h2⟩, h3⟩ := h
  exact ⟨fun x hx => by simpa using h1 x hx, fun x hx => by simpa using h2 x hx, fun x hx => h3 x hx⟩

theorem getD_set {tm : List V} {d t : Nat} {v : V} (h : t < tm.length) : (tm.set d v).getD t undefV = if d = t then v else tm.getD t undefV := by
  simp only [List.getD_eq_getElem?_getD, List.getElem?_set]
  by_cases e : d = t
  · subst e
    simp [h]
  · simp [e]

theorem getD_putTm {a : Act} {dst : Option Tmp} {x : Value} {t : Nat} (h : t < a.tmps.size) : (a.put dst x).tmps.getD t undef = if dst = some t then x else a.tmps.getD t undef := by
  cases dst with
  | none => simp [Act.put]
  | some d =>
    simp only [Act.put, Option.some.injEq]
    by_cases e : d = t
    · subst e
      simp [h]
    · simp only [e, if_false]
      simp [Array.getElem?_setIfInBounds_ne e]

theorem put_size {a : Act} {dst : Option Tmp} {x : Value} : (a.put dst x).tmps.size = a.tmps.size := by cases dst <;> simp [Act.put]

theorem yield_rel {ρ : Ren} {F : Nat → Prop} {w : World} {x : V} {v : Value} (h : VRel ρ F w x v) : (∃ b, x = .pv (.sc (.bool b)) ∧ v = .bool b) ∨ ((∀ b, x ≠ .pv (.sc (.bool b))) ∧ ∀ b, v ≠ .bool b) := by
  cases x with
  | pv p =>
    cases p with
    | sc y => simp only [VRel, PRel] at h; subst h; cases v <;> first | exact .inl ⟨_, rfl, rfl⟩ | exact .inr ⟨by simp, by simp⟩
    | fz rows => simp only [VRel, PRel] at h; obtain ⟨a, cap, rfl, -⟩ := h; exact .inr ⟨by simp, by simp⟩
    | agg cs => simp only [VRel, PRel] at h; obtain ⟨l, rfl, -⟩ := h; exact .inr ⟨by simp, by simp⟩
    | ifc t p => simp only [VRel, PRel] at h; obtain ⟨u, rfl, -⟩ := h; exact .inr ⟨by simp, by simp⟩
  | ptr i r off => simp only [VRel] at h; obtain ⟨B, o, s, -, rfl⟩ := h; exact .inr ⟨by simp, by simp⟩
  | fe cs => simp only [VRel] at h; obtain ⟨B, o, -, rfl, -⟩ := h; exact .inr ⟨by simp, by simp⟩
  | ow i s r len => simp only [VRel] at h; obtain ⟨B, o, a, cap, -, rfl, -⟩ := h; exact .inr ⟨by simp, by simp⟩
  | nl => simp only [VRel] at h; subst h; exact .inr ⟨by simp, by simp⟩
  | agg cs => simp only [VRel] at h; obtain ⟨l, rfl, -⟩ := h; exact .inr ⟨by simp, by simp⟩
  | tup cs => simp only [VRel] at h; obtain ⟨l, rfl, -⟩ := h; exact .inr ⟨by simp, by simp⟩
  | ifc t y => simp only [VRel] at h; obtain ⟨u, rfl, -⟩ := h; exact .inr ⟨by simp, by simp⟩
  | fn f a c => simp only [VRel] at h; obtain ⟨a', c', rfl, -⟩ := h; exact .inr ⟨by simp, by simp⟩

theorem yield_no {ops : Array Oper} {tmps : Array Value} {j : Nat} {o : Oper} {d : Tmp} {v : Value} (ho : ops[j]? = some o) (hd : o.dst = some d) (hv : tmps[d]? = some v) (hn : ∀ b, v ≠ .bool b) : yielded ops tmps j = none := by
  unfold yielded
  simp only [ho, hd, Option.bind_some, hv]
  cases v <;> first | rfl | exact absurd rfl (hn _)

theorem yield_noV {ops : Array Oper} {tm : List V} {j : Nat} {o : Oper} {d : Tmp} {x : V} (ho : ops[j]? = some o) (hd : o.dst = some d) (hv : tm[d]? = some x) (hn : ∀ b, x ≠ .pv (.sc (.bool b))) : vyield ops tm j = none := by
  unfold vyield
  simp only [ho, hd, hv]
  split
  · rename_i b heq
    simp only [Option.some.injEq] at heq
    exact absurd heq (hn b)
  · rfl

theorem setTm_length {tm : List V} {d : Option Tmp} {v : V} : (setTm tm d v).length = tm.length := by cases d <;> simp [setTm]

theorem Trace.len (h : Trace P C E ops n S T en op) : ∀ k, k ≤ n → (T k).length = (T 0).length
  | 0, _ => rfl
  | k + 1, hk => by rw [h.tm k (by omega), setTm_length]; exact h.len k (by omega)

theorem sameT (h : Trace P C E ops n S T en op) {t : Nat} (ht : t < (T 0).length) (k : Nat) (hk : k < n) (hn : ¬ touchT n op t k) : (T (k + 1)).getD t undefV = (T k).getD t undefV := by
  rw [h.tm k hk]
  unfold setTm
  cases hd : (op k).dst with
  | none => rfl
  | some d =>
    have hne : d ≠ t := fun e => hn ⟨hk, by rw [hd, e]⟩
    simp only
    rw [getD_set (by rw [h.len k (by omega)]; exact ht), if_neg hne]

theorem curT_at (h : Trace P C E ops n S T en op) {t i : Nat} (ht : t < (T 0).length) (hi : i < n) {L : Nat → Bool} (h1 : ∀ k, k < i → (op k).dst = some t → L k = true) (h2 : ∀ k, i ≤ k → k < n → L k = true → (op k).dst ≠ some t) :
    curT n T op L t = (T i).getD t undefV := by
  unfold curT
  rw [cur_keep (i := i) n (by omega) (fun k a b c d => h2 k a b c d.2)]
  have gen : ∀ j, j ≤ i → cur (fun k => (T k).getD t undefV) (touchT n op t) L j = (T j).getD t undefV := by
    intro j
    induction j with
    | zero => intro _; rfl
    | succ j ih =>
      intro hj
      simp only [cur]
      by_cases htt : touchT n op t j
      · rw [if_pos ⟨h1 j (by omega) htt.2, htt⟩]
      · rw [if_neg (fun x => htt x.2), ih (by omega), sameT h ht j (by omega) htt]
  exact gen i (Nat.le_refl _)

theorem curT_last (h : Trace P C E ops n S T en op) {t : Nat} (ht : t < (T 0).length) {L : Nat → Bool} (hL : ∀ k, k < n → L k = true) : curT n T op L t = (T n).getD t undefV := by
  unfold curT
  have gen : ∀ j, j ≤ n → cur (fun k => (T k).getD t undefV) (touchT n op t) L j = (T j).getD t undefV := by
    intro j
    induction j with
    | zero => intro _; rfl
    | succ j ih =>
      intro hj
      simp only [cur]
      by_cases htt : touchT n op t j
      · rw [if_pos ⟨hL j (by omega), htt⟩]
      · rw [if_neg (fun x => htt x.2), ih (by omega), sameT h ht j (by omega) htt]
  exact gen n (Nat.le_refl _)

theorem sameO (hf : ∀ k, k < n → (S k).WF ∧ Fine (S k) (S (k + 1)) (en k).W ∧ Live (S k) (en k).R (en k).W ∧ ∀ i ∈ (en k).W, i < (S k).next) {i k : Nat} (hk : k < n) (hn : ¬ touchO S en i k) : (S (k + 1)).get i = (S k).get i := by
  obtain ⟨h1, h2, h3⟩ := hf k hk
  unfold touchO at hn
  simp only [not_or, not_and, Nat.not_lt] at hn
  by_cases hlt : i < (S k).next
  · exact h2.same i hlt hn.1
  · rw [h1 i (by omega), h2.wf i (hn.2 (by omega))]

theorem curO_at (hf : ∀ k, k < n → (S k).WF ∧ Fine (S k) (S (k + 1)) (en k).W ∧ Live (S k) (en k).R (en k).W ∧ ∀ i ∈ (en k).W, i < (S k).next) {i j : Nat} (hi : i < n) {L : Nat → Bool} (h1 : ∀ k, k < i → touchO S en j k → L k = true) (h2 : ∀ k, i ≤ k → k < n → L k = true → ¬ touchO S en j k) :
    curO n S en L j = (S i).get j := by
  unfold curO
  rw [cur_keep (i := i) n (by omega) h2]
  have gen : ∀ m, m ≤ i → cur (fun k => (S k).get j) (touchO S en j) L m = (S m).get j := by
    intro m
    induction m with
    | zero => intro _; rfl
    | succ m ih =>
      intro hm
      simp only [cur]
      by_cases htt : touchO S en j m
      · rw [if_pos ⟨h1 m (by omega) htt, htt⟩]
      · rw [if_neg (fun x => htt x.2), ih (by omega), sameO hf (by omega) htt]
  exact gen i (Nat.le_refl _)

theorem curO_last (hf : ∀ k, k < n → (S k).WF ∧ Fine (S k) (S (k + 1)) (en k).W ∧ Live (S k) (en k).R (en k).W ∧ ∀ i ∈ (en k).W, i < (S k).next) {j : Nat} {L : Nat → Bool} (hL : ∀ k, k < n → L k = true) : curO n S en L j = (S n).get j := by
  unfold curO
  have gen : ∀ m, m ≤ n → cur (fun k => (S k).get j) (touchO S en j) L m = (S m).get j := by
    intro m
    induction m with
    | zero => intro _; rfl
    | succ m ih =>
      intro hm
      simp only [cur]
      by_cases htt : touchO S en j m
      · rw [if_pos ⟨hL m (by omega), htt⟩]
      · rw [if_neg (fun x => htt x.2), ih (by omega), sameO hf (by omega) htt]
  exact gen n (Nat.le_refl _)

set_option maxHeartbeats 1600000 in
theorem inv_step (h : Trace P C E ops n S T en op) (hE : CallSound P E) (hO : OrcSound P C) (hf : ∀ k, k < n → (S k).WF ∧ Fine (S k) (S (k + 1)) (en k).W ∧ Live (S k) (en k).R (en k).W ∧ ∀ i ∈ (en k).W, i < (S k).next)
    (hp₀ : ∀ i, i < (S 0).next → inR n en i ∨ inW n en i → ∃ so, (S 0).get i = some so ∧ ObjRel ρ₀ F₀ w₀ i so) (hfr : ∀ i, (S 0).next ≤ i → i < (S n).next → ρ₀ i = none)
    {L : Nat → Bool} {i : Nat} (hi : i < n) (hLi : L i = false) (hc : Cpt ops n en op L i) {ρ : Ren} {F : Nat → Prop} {a : Act} {w : World} (hI : Inv n S T en op ρ₀ F₀ w₀ L ρ F a w)
    {K : Act → World → Prop} {Q : Exit → Act → World → Prop} (hK : ∀ ρ' F' a' w', Inv n S T en op ρ₀ F₀ w₀ (addL L i) ρ' F' a' w' → K a' w') : wpOp P ops Q i K a w := by
  have hle : ∀ {i k : Nat}, i ≤ k → k ≤ n → (S i).next ≤ (S k).next := fun h1 h2 => Trace.next_le hf _ h1 h2
  -- the temporaries that it looks at
  have tmAt : ∀ t, t < a.tmps.size → t ∈ (op i).looksAt ops → curT n T op L t = (T i).getD t undefV := by
    intro t ht hl
    refine curT_at h (by rw [← hI.size]; exact ht) hi (fun k hk hd => ?_) (fun k hk hkn hLk hd => ?_)
    · cases hL : L k with
      | true => rfl
      | false =>
        obtain ⟨-, hap⟩ := hc.1 k (by omega) hk hL
        obtain ⟨h1, -, -⟩ := Oper.apart_spec hap
        exact absurd hl (h1 t hd)
    · by_cases e : k = i
      · subst e; rw [hLi] at hLk; cases hLk
      · obtain ⟨-, hap⟩ := hc.2 k hkn (by omega) hLk
        obtain ⟨-, -, h3⟩ := Oper.apart_spec hap
        exact absurd hl (h3 t hd)
  have tmOut : ∀ t, ¬ t < a.tmps.size → (T i).getD t undefV = undefV ∧ a.tmps.getD t undef = undef := by
    intro t ht
    have h1 : (T i).length ≤ t := by rw [h.len i (by omega), ← hI.size]; omega
    exact ⟨by simp [List.getD_eq_getElem?_getD, List.getElem?_eq_none h1], by simp [Array.getElem?_eq_none (Nat.le_of_not_lt ht)]⟩
  have tmRel : ∀ t, t ∈ (op i).looksAt ops → VRel ρ F w ((T i).getD t undefV) (a.tmps.getD t undef) := by
    intro t hl
    by_cases ht : t < a.tmps.size
    · rw [← tmAt t ht hl]
      exact hI.tm t ht
    · obtain ⟨e1, e2⟩ := tmOut t ht
      rw [e1, e2]
      exact rel_undef
  -- is it wanted?
  have hwant : Region.wanted (op i) (yielded ops a.tmps) = vwanted ops (T i) (op i) := by
    unfold Region.wanted vwanted
    cases hg : (op i).guard with
    | none => rfl
    | some gw =>
      obtain ⟨g, want⟩ := gw
      simp only
      cases hog : ops[g]? with
      | none => unfold yielded vyield; simp [hog]
      | some og =>
        cases hdg : og.dst with
        | none => unfold yielded vyield; simp [hog, hdg]
        | some d =>
          have hl : d ∈ (op i).looksAt ops := by
            unfold Oper.looksAt
            simp [hg, hog, hdg]
          have hr := tmRel d hl
          by_cases hd : d < a.tmps.size
          · have h1 : a.tmps[d]? = some (a.tmps.getD d undef) := by simp [hd]
            have h2 : (T i)[d]? = some ((T i).getD d undefV) := by
              have : d < (T i).length := by rw [h.len i (by omega), ← hI.size]; exact hd
              simp [List.getD_eq_getElem?_getD, this]
            rcases yield_rel hr with ⟨b, e1, e2⟩ | ⟨n1, n2⟩
            · unfold yielded vyield
              simp only [hog, hdg, Option.bind_some, h1, h2, e1, e2]
              cases b <;> cases want <;> rfl
            · rw [yield_no hog hdg h1 n2, yield_noV hog hdg h2 n1]
              rfl
          · have h1 : a.tmps[d]? = none := Array.getElem?_eq_none (Nat.le_of_not_lt hd)
            have h2 : (T i)[d]? = none := List.getElem?_eq_none (by rw [h.len i (by omega), ← hI.size]; exact Nat.le_of_not_lt hd)
            unfold yielded vyield
            simp [hog, hdg, h1, h2]
  -- the temporaries behind it
  have tmNext : ∀ (ρ' : Ren) (F' : Nat → Prop) (w' : World) (x : Value), RLe ρ ρ' → Ext F w F' w' → VRel ρ' F' w' (en i).v x → ∀ t, t < a.tmps.size → VRel ρ' F' w' (curT n T op (addL L i) t) ((a.put (op i).dst x).tmps.getD t undef) := by
    intro ρ' F' w' x hr he hx t ht
    rw [getD_putTm ht]
    by_cases hd : (op i).dst = some t
    · rw [if_pos hd]
      have : curT n T op (addL L i) t = (T (i + 1)).getD t undefV := by
        unfold curT
        exact cur_add_touch hi ⟨hi, hd⟩ (fun k hk hkn hLk hn => by
          obtain ⟨-, hap⟩ := hc.2 k hkn hk hLk
          obtain ⟨-, h2, -⟩ := Oper.apart_spec hap
          exact h2 t hd hn.2)
      rw [this, h.tm i hi]
      unfold setTm
      rw [hd]
      simp only
      rw [getD_set (by rw [h.len i (by omega), ← hI.size]; exact ht), if_pos rfl]
      exact hx
    · rw [if_neg hd]
      have : curT n T op (addL L i) t = curT n T op L t := by
        unfold curT
        exact cur_add_no fun hn => hd hn.2
      rw [this]
      exact VRel.mono he hr _ _ (hI.tm t ht)
  unfold wpOp
  rw [h.opk i hi]
  simp only [hwant]
  rcases h.run i hi with ⟨hw, hx⟩ | ⟨hw, hv, hS, hR, hW⟩
  · -- it is done
    rw [hw]
    simp only [if_true]
    refine .inl ?_
    obtain ⟨-, -, hrun⟩ := vexec_sound hE hO hx (hf i hi).1
    have hlive := (hf i hi).2.2.1
    have hwlt := (hf i hi).2.2.2
    have hwfi := (hf i hi).1
    -- the objects that it looks at stand as in the text's order
    have objAt : ∀ j, j < (S i).next → (j ∈ (en i).R ∨ j ∈ (en i).W) → curO n S en L j = (S i).get j := by
      intro j hj hm
      refine curO_at hf hi (fun k hk ht => ?_) (fun k hk hkn hLk ht => ?_)
      · cases hL : L k with
        | true => rfl
        | false =>
          obtain ⟨hcl, -⟩ := hc.1 k (by omega) hk hL
          obtain ⟨c1, c2, c3⟩ := clash_false hcl
          rcases ht with ht | ht
          · obtain ⟨d1, d2⟩ := c1 j ht
            exact absurd hm (by simp [d1, d2])
          · have := c3 j hm
            rw [h.pre k (by omega), h.post k (by omega)] at this
            exact absurd ht this
      · by_cases e : k = i
        · subst e; rw [hLi] at hLk; cases hLk
        · obtain ⟨hcl, -⟩ := hc.2 k hkn (by omega) hLk
          obtain ⟨c1, c2, c3⟩ := clash_false hcl
          rcases ht with ht | ht
          · rcases hm with hm | hm
            · exact c2 j ht hm
            · exact (c1 j hm).2 ht
          · have := hle (i := i) (k := k) (by omega) (by omega)
            omega
    have inAll : ∀ j, (j ∈ (en i).R ∨ j ∈ (en i).W) → inR n en j ∨ inW n en j ∨ (S 0).next ≤ j := fun j hm => hm.elim (fun h => .inl ⟨i, hi, h⟩) (fun h => .inr (.inl ⟨i, hi, h⟩))
    have hpre : Pre ρ F w (S i) (en i).R (en i).W (S (i + 1)).next := by
      refine ⟨hI.fok, fun j hj hm => ?_, fun j k hj hk hjm hkm hne => ?_, fun j h1 h2 => ?_⟩
      · obtain ⟨so, hso⟩ := hlive j hm hj
        exact ⟨so, hso, (hI.obj j so (inAll j hm) (by rw [objAt j hj hm]; exact hso)).1⟩
      · obtain ⟨so, hso⟩ := hlive j (.inr hjm) hj
        obtain ⟨so', hso'⟩ := hlive k hkm hk
        exact hI.inj j k (.inl ⟨i, hi, hjm⟩) (inAll k hkm) (by rw [objAt j hj (.inr hjm), hso]; rfl) (by rw [objAt k hk hkm, hso']; rfl) hne
      · cases hq : ρ j with
        | none => rfl
        | some x =>
          have h0 : ρ₀ j = none := hfr j (Nat.le_trans (hle (Nat.zero_le i) (by omega)) h1) (Nat.lt_of_lt_of_le h2 (hle (i := i + 1) (by omega) (Nat.le_refl n)))
          obtain ⟨k, hk, hLk, hk1, hk2⟩ := hI.rnew j (by rw [hq, h0]; simp)
          have hki : k = i := by
            rcases Nat.lt_trichotomy k i with hlt | heq | hgt
            · have := hle (i := k + 1) (k := i) (by omega) (by omega)
              omega
            · exact heq
            · have := hle (i := i + 1) (k := k) (by omega) (by omega)
              omega
          subst hki
          rw [hLi] at hLk
          cases hLk
    have henv : EnvRel ρ F w (envOf (T i)) a.eval (op i).op.operands.toList := by
      intro x hx v hv
      cases x with
      | tmp t =>
        simp only [envOf, Option.some.injEq] at hv
        subst hv
        refine tmRel t ?_
        unfold Oper.looksAt
        refine List.mem_append_left _ (List.mem_filterMap.2 ⟨.tmp t, by simpa using hx, rfl⟩)
      | const c =>
        simp only [envOf, Option.some.injEq] at hv
        subst hv
        exact rel_ofValue c
      | global g => simp [envOf] at hv
      | func f =>
        simp only [envOf, Option.some.injEq] at hv
        subst hv
        simp only [VRel, Act.eval]
        exact ⟨#[], #[], rfl, by simp [VList], by simp [VList]⟩
    refine hrun ρ F w a K Q hpre henv fun x w' ρ' F' hxr hpost => ?_
    have hWW : ∀ j, j < (S i).next → j ∈ (en i).W → j ∈ (en i).W := fun _ _ h => h
    have hext := hpost.ext hpre hWW
    -- the blocks that the operation changes
    have blk0 : ∀ j B, j < (S 0).next → (inR n en j ∨ inW n en j) → blk ρ j = some B → blk ρ₀ j = some B := by
      intro j B hj hm hb
      obtain ⟨so, -, ho⟩ := hp₀ j hj hm
      obtain ⟨B', hB', -⟩ := ho.lt
      exact blk_back hI.rle hb ⟨B', hB'⟩
    have wclaim : ∀ j B, j < (S i).next → j ∈ (en i).W → blk ρ j = some B → claim ρ₀ w₀ S n en B := by
      intro j B hj hm hb
      obtain ⟨so, hso⟩ := hlive j (.inr hm) hj
      exact (hI.obj j so (inAll j (.inr hm)) (by rw [objAt j hj (.inr hm)]; exact hso)).2 (.inl ⟨i, hi, hm⟩) B hb
    have hheap : ∀ B, B < w₀.heap.size → ¬ claim ρ₀ w₀ S n en B → w'.heap[B]? = w₀.heap[B]? := by
      intro B hB hn
      rw [hpost.heap B (Nat.lt_of_lt_of_le hB hI.hsize) (fun j hj hm hb => hn (wclaim j B hj hm hb))]
      exact hI.heap B hB hn
    have bclaim : ∀ B, (w.heap.size ≤ B ∨ ∃ j, j < (S i).next ∧ j ∈ (en i).W ∧ blk ρ j = some B) → claim ρ₀ w₀ S n en B := by
      intro B hB
      rcases hB with hge | ⟨j, hj, hm, hb⟩
      · exact .inl (Nat.le_trans hI.hsize hge)
      · exact wclaim j B hj hm hb
    -- an object that the operation leaves alone
    have alone : ∀ j so, ¬ touchO S en j i → (inR n en j ∨ inW n en j ∨ (S 0).next ≤ j) → curO n S en L j = some so → ∃ B, blk ρ j = some B ∧ B < w.heap.size ∧ ∀ k, k < (S i).next → k ∈ (en i).W → blk ρ k ≠ some B := by
      intro j so hn hA hso
      obtain ⟨ho, -⟩ := hI.obj j so hA hso
      obtain ⟨B, hB, hlt⟩ := ho.lt
      refine ⟨B, hB, hlt, fun k hk hm e => ?_⟩
      have hne : k ≠ j := fun e => hn (.inl (e ▸ hm))
      obtain ⟨so', hso'⟩ := hlive k (.inr hm) hk
      exact hI.inj k j (.inl ⟨i, hi, hm⟩) hA (by rw [objAt k hk (.inr hm), hso']; rfl) (by rw [hso]; rfl) hne (e.trans hB.symm)
    have curTouch : ∀ j, touchO S en j i → curO n S en (addL L i) j = (S (i + 1)).get j := by
      intro j ht
      unfold curO
      refine cur_add_touch hi ht fun k hk hkn hLk hn => ?_
      obtain ⟨hcl, -⟩ := hc.2 k hkn hk hLk
      obtain ⟨c1, c2, c3⟩ := clash_false hcl
      have hik := hle (i := i + 1) (k := k) (by omega) (by omega)
      have hii := (hf i hi).2.1.next
      rcases ht with ht | ht
      · rcases hn with hn | hn
        · exact (c1 j ht).2 hn
        · have hlt : j < (S i).next := hwlt j ht
          omega
      · rcases hn with hn | hn
        · have := c3 j (.inr hn)
          rw [h.pre i hi, h.post i hi] at this
          exact this ht
        · omega
    have curNo : ∀ j, ¬ touchO S en j i → curO n S en (addL L i) j = curO n S en L j := fun j hn => by
      unfold curO
      exact cur_add_no hn
    refine hK ρ' F' _ w' ⟨?_, ?_, ?_, fun j y hj => hpost.rle j y (hI.rle j y hj), fun j hj => ?_, fun B hB => hpost.fle B (hI.fle B hB), fun B hB => ?_, hpost.fok, Nat.le_trans hI.hsize hpost.size, hI.shp.trans hpost.shp, hheap, fun j so hA hg => ?_, fun j k hj hk gj gk hne => ?_⟩
    · rw [put_size]; exact hI.size
    · intro t ht
      rw [put_size] at ht
      exact tmNext ρ' F' w' x hpost.rle hext hxr t ht
    · cases hd : (op i).dst <;> exact hI.defers
    · by_cases e : ρ' j = ρ j
      · rw [e] at hj
        obtain ⟨k, hk, hLk, h1, h2⟩ := hI.rnew j hj
        exact ⟨k, hk, by simp [addL, hLk], h1, h2⟩
      · have := hpost.rnew j e
        exact ⟨i, hi, by simp [addL], this.1, this.2⟩
    · rcases hpost.fnew B hB with h1 | h1 | h1
      · exact hI.fnew B h1
      · exact .inr (bclaim B (.inl h1))
      · exact .inr (bclaim B (.inr h1))
    · by_cases ht : touchO S en j i
      · rw [curTouch j ht] at hg
        have hm : j < (S i).next ∧ j ∈ (en i).W ∨ (S i).next ≤ j := by
          rcases ht with ht | ht
          · by_cases hlt : j < (S i).next
            · exact .inl ⟨hlt, ht⟩
            · exact .inr (by omega)
          · exact .inr ht.1
        obtain ⟨ho, hcl⟩ := hpost.obj j so hm hg
        exact ⟨ho, fun _ B hB => bclaim B (hcl B hB)⟩
      · rw [curNo j ht] at hg
        obtain ⟨ho, hcl⟩ := hI.obj j so hA hg
        obtain ⟨B, hB, hBlt, hno⟩ := alone j so ht hA hg
        refine ⟨ho.keep hext hpost.rle fun B' hB' => ?_, fun hw B' hB' => hcl hw B' (blk_back hpost.rle hB' ⟨B, hB⟩)⟩
        rw [hB] at hB'
        cases hB'
        refine ⟨hpost.heap B hBlt hno, fun hF => ?_⟩
        rcases hpost.fnew B hF with hF | hge | ⟨k, hk, hkm, hkb⟩
        · obtain ⟨B'', o, c, e, hρ, hnF, -⟩ := ho
          rw [blk_of hρ] at hB
          simp only [Option.some.injEq] at hB
          exact hnF (hB ▸ hF)
        · omega
        · exact hno k hk hkm hkb
    · have cls : ∀ j, touchO S en j i → (j < (S i).next ∧ j ∈ (en i).W ∨ (S i).next ≤ j) := fun j ht => by
        rcases ht with ht | ht
        · by_cases hlt : j < (S i).next
          · exact .inl ⟨hlt, ht⟩
          · exact .inr (by omega)
        · exact .inr ht.1
      have mixed : ∀ j k, touchO S en j i → ¬ touchO S en k i → (inR n en k ∨ inW n en k ∨ (S 0).next ≤ k) → (curO n S en (addL L i) j).isSome → (curO n S en (addL L i) k).isSome → blk ρ' j ≠ blk ρ' k := by
        intro j k hj hk hA gj gk e
        rw [curTouch j hj] at gj
        rw [curNo k hk] at gk
        cases hg : curO n S en L k with
        | none => rw [hg] at gk; cases gk
        | some so =>
          cases hg2 : (S (i + 1)).get j with
          | none => rw [hg2] at gj; cases gj
          | some so2 =>
            obtain ⟨B, hB, hBlt, hno⟩ := alone k so hk hA hg
            have hB' := blk_le hpost.rle hB
            obtain ⟨-, hcl⟩ := hpost.obj j so2 (cls j hj) hg2
            rcases hcl B (e.trans hB') with hge | ⟨m, hm1, hm2, hm3⟩
            · omega
            · exact hno m hm1 hm2 hm3
      have hjA : inR n en j ∨ inW n en j ∨ (S 0).next ≤ j := .inr hj
      by_cases htj : touchO S en j i <;> by_cases htk : touchO S en k i
      · rw [curTouch j htj] at gj
        rw [curTouch k htk] at gk
        exact hpost.inj j k (cls j htj) (cls k htk) gj gk hne
      · exact mixed j k htj htk hk gj gk
      · exact fun e => mixed k j htk htj hjA gk gj e.symm
      · rw [curNo j htj] at gj
        rw [curNo k htk] at gk
        have hne2 := hI.inj j k hj hk gj gk hne
        cases hg : curO n S en L j with
        | none => rw [hg] at gj; cases gj
        | some so =>
          cases hg2 : curO n S en L k with
          | none => rw [hg2] at gk; cases gk
          | some so2 =>
            obtain ⟨B, hB, -⟩ := alone j so htj hjA hg
            obtain ⟨B', hB', -⟩ := alone k so2 htk hk hg2
            intro e
            rw [blk_le hpost.rle hB, blk_le hpost.rle hB'] at e
            exact hne2 (hB.trans (e.trans hB'.symm))
  · -- it is passed by
    rw [hw]
    simp only [Bool.false_eq_true, if_false]
    have nt : ∀ j, ¬ touchO S en j i := by
      intro j ht
      rcases ht with ht | ht
      · rw [hW] at ht; cases ht
      · rw [hS] at ht; omega
    have hcO : ∀ j, curO n S en (addL L i) j = curO n S en L j := fun j => by
      unfold curO
      exact cur_add_no (nt j)
    refine hK ρ F _ w ⟨?_, ?_, ?_, hI.rle, fun j hj => ?_, hI.fle, hI.fnew, hI.fok, hI.hsize, hI.shp, hI.heap, fun j so hA hg => ?_, fun j k hj hk gj gk hne => ?_⟩
    · rw [put_size]; exact hI.size
    · intro t ht
      rw [put_size] at ht
      exact tmNext ρ F w undef (rle_refl ρ) (Ext.refl F w) (by rw [hv]; exact rel_undef) t ht
    · cases hd : (op i).dst <;> exact hI.defers
    · obtain ⟨k, hk, hLk, h1, h2⟩ := hI.rnew j hj
      exact ⟨k, hk, by simp [addL, hLk], h1, h2⟩
    · rw [hcO] at hg
      exact hI.obj j so hA hg
    · rw [hcO] at gj gk
      exact hI.inj j k hj hk gj gk hne

end

end Go.Proofs.Ytfieppbehmglbaa.Ve
