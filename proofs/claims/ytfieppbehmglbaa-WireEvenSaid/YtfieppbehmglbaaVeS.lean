import Derived.Test.YtfieppbehmglbaaVeR
/-! A region, whole. -/
set_option linter.unusedVariables false
set_option linter.unusedSimpArgs false
namespace Go.Proofs.Ytfieppbehmglbaa.Ve
open Go

/-- i must be done ahead of j. -/
inductive Reach (ops : Array Oper) : Nat → Nat → Prop where
  | direct {j : Nat} {o : Oper} {e : Edge} (ho : ops[j]? = some o) (he : e ∈ o.after) (hb : Region.binds .any e = true) : Reach ops e.on j
  | step {i j : Nat} {o : Oper} {e : Edge} (ho : ops[j]? = some o) (he : e ∈ o.after) (hb : Region.binds .any e = true) (h : Reach ops i e.on) : Reach ops i j

theorem testBit_fold (acc : Array Nat) (i : Nat) : ∀ (l : List Edge) (s : Nat), (l.foldl (fun s e => if Region.binds .any e then s ||| 2 ^ e.on ||| acc.getD e.on 0 else s) s).testBit i = true → s.testBit i = true ∨ ∃ e ∈ l, Region.binds .any e = true ∧ (e.on = i ∨ (acc.getD e.on 0).testBit i = true)
  | [], s, h => .inl h
  | e :: l, s, h => by
    simp only [List.foldl_cons] at h
    rcases testBit_fold acc i l _ h with h | ⟨e', he', hb, h⟩
    · by_cases hb : Region.binds .any e = true
      · rw [if_pos hb] at h
        simp only [Nat.testBit_or, Bool.or_eq_true, Nat.testBit_two_pow] at h
        rcases h with (h | h) | h
        · exact .inl h
        · exact .inr ⟨e, by simp, hb, .inl (by simpa using h)⟩
        · exact .inr ⟨e, by simp, hb, .inr h⟩
      · rw [if_neg hb] at h
        exact .inl h
    · exact .inr ⟨e', by simp [he'], hb, h⟩

theorem before_reach (ops : Array Oper) : ∀ (l : List Oper) (acc : Array Nat), (∀ k o, l[k]? = some o → ops[acc.size + k]? = some o) → (∀ j i, (acc.getD j 0).testBit i = true → Reach ops i j) →
    ∀ j i, ((l.foldl (fun acc o => acc.push (o.after.foldl (fun s e => if Region.binds .any e then s ||| 2 ^ e.on ||| acc.getD e.on 0 else s) 0)) acc).getD j 0).testBit i = true → Reach ops i j
  | [], acc, _, ha, j, i, h => ha j i h
  | o :: l, acc, hl, ha, j, i, h => by
    simp only [List.foldl_cons] at h
    refine before_reach ops l _ (fun k o' hk => ?_) (fun j' i' hb => ?_) j i h
    · have := hl (k + 1) o' (by simpa using hk)
      rw [Array.size_push, show acc.size + 1 + k = acc.size + (k + 1) by omega]
      exact this
    · by_cases hj : j' < acc.size
      · refine ha j' i' ?_
        rw [Array.getD_eq_getD_getElem?, Array.getElem?_push, if_neg (by omega)] at hb
        rw [Array.getD_eq_getD_getElem?]
        exact hb
      · by_cases hj2 : j' = acc.size
        · subst hj2
          rw [Array.getD_eq_getD_getElem?, Array.getElem?_push, if_pos rfl, Option.getD_some] at hb
          rw [← Array.foldl_toList] at hb
          have ho : ops[acc.size]? = some o := by simpa using hl 0 o rfl
          rcases testBit_fold acc i' _ 0 hb with hb | ⟨e, he, hbb, hb⟩
          · simp at hb
          · rcases hb with hb | hb
            · rw [← hb]
              exact .direct ho (by simpa using he) hbb
            · exact .step ho (by simpa using he) hbb (ha _ _ hb)
        · rw [Array.getD_eq_getD_getElem?, Array.getElem?_push, if_neg hj2, Array.getElem?_eq_none (by omega)] at hb
          simp at hb

theorem ord_reach {ops : Array Oper} {i j : Nat} (h : ord ops i j = true) : Reach ops i j := by
  unfold ord Region.before at h
  rw [← Array.foldl_toList] at h
  refine before_reach ops ops.toList #[] (fun k o hk => by simpa using hk) (fun j i h => by simp at h) j i ?_
  exact h

/-- What is done has all done that must stand ahead of it. -/
def Closed (ops : Array Oper) (L : Nat → Bool) : Prop := ∀ j o, ops[j]? = some o → L j = true → ∀ e ∈ o.after, Region.binds .any e = true → L e.on = true

theorem Closed.reach {ops : Array Oper} {L : Nat → Bool} (hc : Closed ops L) {i j : Nat} (h : Reach ops i j) : (∀ o, ops[j]? = some o → ∀ e ∈ o.after, Region.binds .any e = true → L e.on = true) → L i = true := by
  induction h with
  | direct ho he hb => exact fun hj => hj _ ho _ he hb
  | step ho he hb _ ih => exact fun hj => ih (fun o' ho' e' he' hb' => hc _ o' ho' (hj _ ho _ he hb) e' he' hb')

/-- How many are done. -/
def cnt (L : Nat → Bool) : Nat → Nat
  | 0 => 0
  | k + 1 => cnt L k + if L k then 1 else 0

theorem cnt_le (L : Nat → Bool) : ∀ n, cnt L n ≤ n
  | 0 => Nat.le_refl _
  | n + 1 => by have := cnt_le L n; simp only [cnt]; split <;> omega

theorem cnt_all {L : Nat → Bool} : ∀ n, n ≤ cnt L n → ∀ k, k < n → L k = true
  | 0, _, k, hk => absurd hk (Nat.not_lt_zero _)
  | n + 1, h, k, hk => by
    have := cnt_le L n
    simp only [cnt] at h
    by_cases hn : L n = true
    · rw [if_pos hn] at h
      by_cases e : k = n
      · rw [e]; exact hn
      · exact cnt_all n (by omega) k (by omega)
    · rw [if_neg hn] at h
      omega

theorem cnt_congr {L L' : Nat → Bool} : ∀ n, (∀ k, k < n → L k = L' k) → cnt L n = cnt L' n
  | 0, _ => rfl
  | n + 1, h => by
    simp only [cnt]
    rw [cnt_congr n (fun k hk => h k (Nat.lt_succ_of_lt hk)), h n (Nat.lt_succ_self n)]

theorem cnt_add {L : Nat → Bool} {i : Nat} (hL : L i = false) : ∀ n, i < n → cnt (addL L i) n = cnt L n + 1
  | 0, h => absurd h (Nat.not_lt_zero _)
  | n + 1, h => by
    simp only [cnt]
    by_cases e : i = n
    · subst e
      rw [cnt_congr (L := addL L i) (L' := L) i (fun k hk => by simp [addL, show k ≠ i by omega])]
      simp [addL, hL]
    · rw [cnt_add hL n (by omega)]
      have : addL L i n = L n := by simp [addL, show n ≠ i by omega]
      rw [this]
      omega

section
variable {P : Program} {C : Cfg} {E : Task → Option Out} {ops : Array Oper} {n : Nat} {S : Nat → St} {T : Nat → List V} {en : Nat → Ent} {op : Nat → Oper}
variable {ρ₀ : Ren} {F₀ : Nat → Prop} {w₀ : World}

theorem inv_init {R W : List Nat} (hwf : (S 0).WF) (hp : Pre ρ₀ F₀ w₀ (S 0) R W (S n).next) (hR : ∀ i, inR n en i → i ∈ R) (hW : ∀ i, inW n en i → i ∈ W) {a : Act} (ht : VList ρ₀ F₀ w₀ (T 0) a.tmps.toList) (hd : a.defers = []) {w₁ : World} (hh : w₁.heap = w₀.heap) (hout : Outs w₀ w₁)
    {L : Nat → Bool} (hL : ∀ k, L k = false) : Inv n S T en op ρ₀ F₀ w₀ L ρ₀ F₀ a w₁ := by
  have hsz : a.tmps.size = (T 0).length := by have := ht.length; simpa using this
  have hO : ∀ i, curO n S en L i = (S 0).get i := fun i => by unfold curO; exact cur_none hL n
  have hext : Ext F₀ w₀ F₀ w₁ := ext_same hh hout
  refine ⟨hsz, fun t htt => ?_, hd, rle_refl _, fun i h => absurd rfl h, fun _ h => h, fun _ h => .inl h, fun B hB => by rw [hh]; exact hp.fok B hB, by rw [hh]; exact Nat.le_refl _, shp_same hh hout, fun B _ _ => by rw [hh], fun i so hA hg => ?_, fun i j hi hj gi gj hne => ?_⟩
  · have : curT n T op L t = (T 0).getD t undefV := by unfold curT; exact cur_none hL n
    rw [this]
    have hlt : t < (T 0).length := by omega
    obtain ⟨v, hv, hr⟩ := ht.get t ((T 0).getD t undefV) (by simp [List.getD_eq_getElem?_getD, hlt])
    have : a.tmps.getD t undef = v := by
      have : a.tmps[t]? = some v := by simpa using hv
      simp [this]
    rw [this]
    exact VRel.mono hext (rle_refl _) _ _ hr
  · rw [hO] at hg
    have hlt := get_lt hwf hg
    have hm : i ∈ R ∨ i ∈ W := by
      rcases hA with h | h | h
      · exact .inl (hR i h)
      · exact .inr (hW i h)
      · omega
    obtain ⟨so', hg', ho⟩ := hp.obj i hlt hm
    rw [hg] at hg'
    cases hg'
    refine ⟨ho.keep hext (rle_refl _) (fun B hB => ⟨by rw [hh], fun hF => ?_⟩), fun hw B hB => ?_⟩
    · obtain ⟨B', o, c, e, hρ, hnF, -⟩ := ho
      rw [blk_of hρ] at hB
      simp only [Option.some.injEq] at hB
      exact hnF (hB ▸ hF)
    · rcases hw with hw | hw
      · exact .inr ⟨i, hlt, hw, hB⟩
      · omega
  · rw [hO] at gi gj
    cases hgi : (S 0).get i with
    | none => rw [hgi] at gi; cases gi
    | some so =>
      cases hgj : (S 0).get j with
      | none => rw [hgj] at gj; cases gj
      | some so' =>
        have hi' := get_lt hwf hgi
        have hj' := get_lt hwf hgj
        refine hp.inj i j hi' hj' ?_ ?_ hne
        · rcases hi with h | h
          · exact hW i h
          · omega
        · rcases hj with h | h | h
          · exact .inl (hR j h)
          · exact .inr (hW j h)
          · omega

theorem inv_last (h : Trace P C E ops n S T en op) (hf : ∀ k, k < n → (S k).WF ∧ Fine (S k) (S (k + 1)) (en k).W ∧ Live (S k) (en k).R (en k).W ∧ ∀ i ∈ (en k).W, i < (S k).next) {W : List Nat} (hW : ∀ i, inW n en i ↔ i ∈ W)
    {L : Nat → Bool} (hL : ∀ k, k < n → L k = true) {ρ : Ren} {F : Nat → Prop} {a : Act} {w : World} (hI : Inv n S T en op ρ₀ F₀ w₀ L ρ F a w) :
    Post ρ₀ F₀ w₀ (S 0) ρ F w (S n) W ∧ VList ρ F w (T n) a.tmps.toList ∧ a.defers = [] := by
  have hcl : ∀ B, claim ρ₀ w₀ S n en B ↔ (w₀.heap.size ≤ B ∨ ∃ i, i < (S 0).next ∧ i ∈ W ∧ blk ρ₀ i = some B) := fun B => by
    unfold claim
    constructor
    · exact fun h => h.imp id fun ⟨j, h1, h2, h3⟩ => ⟨j, h1, (hW j).1 h2, h3⟩
    · exact fun h => h.imp id fun ⟨j, h1, h2, h3⟩ => ⟨j, h1, (hW j).2 h2, h3⟩
  have hle : ∀ {i k : Nat}, i ≤ k → k ≤ n → (S i).next ≤ (S k).next := fun h1 h2 => Trace.next_le (fun k hk => ⟨(hf k hk).1, (hf k hk).2.1, (hf k hk).2.2⟩) _ h1 h2
  refine ⟨⟨hI.rle, fun i hi => ?_, hI.fle, fun B hB => (hI.fnew B hB).imp id (hcl B).1, hI.fok, hI.hsize, hI.shp, fun B hB hn => hI.heap B hB (fun hc => ?_), fun i so hi hg => ?_, fun i j hi hj gi gj hne => ?_⟩, ?_, hI.defers⟩
  · obtain ⟨k, hk, -, h1, h2⟩ := hI.rnew i hi
    exact ⟨Nat.le_trans (hle (Nat.zero_le k) (by omega)) h1, Nat.lt_of_lt_of_le h2 (hle (i := k + 1) (by omega) (Nat.le_refl n))⟩
  · rcases (hcl B).1 hc with h | ⟨i, h1, h2, h3⟩
    · omega
    · exact hn i h1 h2 h3
  · have hA : inW n en i ∨ (S 0).next ≤ i := hi.imp (fun h => (hW i).2 h.2) id
    obtain ⟨ho, hc⟩ := hI.obj i so (.inr hA) (by rw [curO_last hf hL]; exact hg)
    exact ⟨ho, fun B hB => (hcl B).1 (hc hA B hB)⟩
  · exact hI.inj i j (hi.imp (fun h => (hW i).2 h.2) id) (.inr (hj.imp (fun h => (hW j).2 h.2) id)) (by rw [curO_last hf hL]; exact gi) (by rw [curO_last hf hL]; exact gj) hne
  · refine VList.intro (by rw [h.len n (Nat.le_refl n), ← hI.size]; simp) fun t x hx => ?_
    have hlt : t < (T n).length := (List.getElem?_eq_some_iff.1 hx).1
    have hlt' : t < a.tmps.size := by rw [hI.size, ← h.len n (Nat.le_refl n)]; exact hlt
    have := hI.tm t hlt'
    rw [curT_last h (by rw [← hI.size]; exact hlt') hL] at this
    have e1 : (T n).getD t undefV = x := by simp [List.getD_eq_getElem?_getD, hx]
    rw [e1] at this
    exact ⟨_, by simp [hlt'], this⟩

theorem statFrom_get {ops : Array Oper} {o : Oper} {i : Nat} : ∀ {l : List Oper} {j : Nat}, statFrom ops o i l j = true → ∀ k o', l[k]? = some o' → ord ops i (j + k) = true ∨ o.apart ops o' = true
  | [], j, _, k, o', hk => by simp at hk
  | x :: l, j, h, k, o', hk => by
    simp only [statFrom, Bool.and_eq_true, Bool.or_eq_true] at h
    cases k with
    | zero => simp at hk; subst hk; exact h.1
    | succ k =>
      rw [show j + (k + 1) = j + 1 + k by omega]
      exact statFrom_get h.2 k o' (by simpa using hk)

theorem statOk_get {ops : Array Oper} : ∀ {l : List Oper} {i : Nat}, statOk ops l i = true → (∀ j k o o', l[j]? = some o → l[k]? = some o' → j < k → ord ops (i + j) (i + k) = true ∨ o.apart ops o' = true) ∧ ∀ j o, l[j]? = some o → ∀ e ∈ o.after, Region.binds .any e = true → e.on < i + j
  | [], i, _ => ⟨fun j k o o' hj => by simp at hj, fun j o hj => by simp at hj⟩
  | x :: l, i, h => by
    simp only [statOk, Bool.and_eq_true] at h
    obtain ⟨⟨h0, h1⟩, h2⟩ := h
    obtain ⟨g1, g2⟩ := statOk_get h2
    constructor
    · intro j k o o' hj hk hjk
      cases k with
      | zero => omega
      | succ k =>
        cases j with
        | zero =>
          simp at hj
          subst hj
          have := statFrom_get h1 k o' (by simpa using hk)
          rw [show i + (k + 1) = i + 1 + k by omega]
          exact this
        | succ j =>
          have := g1 j k o o' (by simpa using hj) (by simpa using hk) (by omega)
          rw [show i + (k + 1) = i + 1 + k by omega, show i + (j + 1) = i + 1 + j by omega]
          exact this
    · intro j o hj e he hb
      cases j with
      | zero =>
        simp at hj
        subst hj
        have := List.all_eq_true.1 h0 e (by simpa using he)
        simp only [hb, Bool.not_true, Bool.false_or, decide_eq_true_eq] at this
        simpa using this
      | succ j =>
        have := g2 j o (by simpa using hj) e he hb
        omega

theorem dynFrom_get {ops : Array Oper} {e : Ent} {i : Nat} : ∀ {l : List Ent} {j : Nat}, dynFrom ops e i l j = true → ∀ k e', l[k]? = some e' → ord ops i (j + k) = true ∨ e.clash e' = false
  | [], j, _, k, o', hk => by simp at hk
  | x :: l, j, h, k, e', hk => by
    simp only [dynFrom, Bool.and_eq_true, Bool.or_eq_true, Bool.not_eq_true'] at h
    cases k with
    | zero =>
      simp at hk
      subst hk
      rcases h.1 with (⟨h1, h2⟩ | h1) | h1
      · right
        simp only [Ent.wr, Bool.or_eq_false_iff, Bool.not_eq_false', List.isEmpty_iff, decide_eq_false_iff_not, ne_eq, Decidable.not_not] at h1 h2
        unfold Ent.clash
        rw [h1.1, h2.1]
        simp only [List.any_nil, Bool.false_or, List.append_nil, List.any_eq_false, Bool.and_eq_true, decide_eq_true_eq]
        intro x _ hx
        omega
      · exact .inl h1
      · exact .inr h1
    | succ k =>
      rw [show j + (k + 1) = j + 1 + k by omega]
      exact dynFrom_get h.2 k e' (by simpa using hk)

theorem dynOk_get {ops : Array Oper} : ∀ {l : List Ent} {i : Nat}, dynOk ops l i = true → ∀ j k e e', l[j]? = some e → l[k]? = some e' → j < k → ord ops (i + j) (i + k) = true ∨ e.clash e' = false
  | [], i, _, j, k, o, o', hj, _, _ => by simp at hj
  | x :: l, i, h, j, k, e, e', hj, hk, hjk => by
    simp only [dynOk, Bool.and_eq_true] at h
    cases k with
    | zero => omega
    | succ k =>
      cases j with
      | zero =>
        simp at hj
        subst hj
        have := dynFrom_get h.1 k e' (by simpa using hk)
        rw [show i + (k + 1) = i + 1 + k by omega]
        exact this
      | succ j =>
        have := dynOk_get h.2 j k e e' (by simpa using hj) (by simpa using hk) (by omega)
        rw [show i + (k + 1) = i + 1 + k by omega, show i + (j + 1) = i + 1 + j by omega]
        exact this

theorem region_sound (hE : CallSound P E) (hO : OrcSound P C) (hmix : P.follows .mixedOrders = true) {id : Nat} {draw : Bool} {tm tm' : List V} {st st' : St} {log : List Ent}
    (h : vops P C E ops ops.toList tm st = some (tm', st', log)) (hstat : draw = true → statOk ops ops.toList 0 = true) (hcond : (!draw || dynOk ops log 0) = true) (hwf : st.WF) :
    Fine st st' (entW log) ∧ Live st (entR log) (entW log) ∧ ∀ ρ F w (a : Act) (Q : Exit → Act → World → Prop), Pre ρ F w st (entR log) (entW log) st'.next → VList ρ F w tm a.tmps.toList → a.defers = [] →
      (∀ a' w' ρ' F', Post ρ F w st ρ' F' w' st' (entW log) → VList ρ' F' w' tm' a'.tmps.toList → a'.defers = [] → Q .normal a' w') → (Code.region id ops draw).wp P Q a w := by
  obtain ⟨S, T, en, op, rfl, rfl, rfl, rfl, hlen, hall⟩ := vops_trace h
  have hn : ops.toList.length = ops.size := by simp
  rw [hn] at hall hlen h ⊢
  have htr : Trace P C E ops ops.size S T en op := ⟨fun k hk => by simpa using (hall k hk).1, fun k hk => (hall k hk).2.2.1, fun k hk => (hall k hk).2.2.2.1, fun k hk => (hall k hk).2.2.2.2.1, fun k hk => (hall k hk).2.2.2.2.2⟩
  have hf0 := Trace.fine htr hE hO hwf
  have hf : ∀ k, k < ops.size → (S k).WF ∧ Fine (S k) (S (k + 1)) (en k).W ∧ Live (S k) (en k).R (en k).W ∧ ∀ i ∈ (en k).W, i < (S k).next := hf0
  have mlog : ∀ e, e ∈ log ↔ ∃ k, k < ops.size ∧ en k = e := fun e => by
    rw [List.mem_iff_getElem?]
    constructor
    · rintro ⟨k, hk⟩
      have hlt : k < ops.size := by have := (List.getElem?_eq_some_iff.1 hk).1; omega
      exact ⟨k, hlt, by have := (hall k hlt).2.1; rw [hk] at this; simpa using this.symm⟩
    · rintro ⟨k, hk, rfl⟩
      exact ⟨k, (hall k hk).2.1⟩
  have hR : ∀ i, inR ops.size en i ↔ i ∈ entR log := fun i => by
    unfold inR entR
    simp only [List.mem_flatMap, mlog]
    constructor
    · rintro ⟨k, hk, hi⟩; exact ⟨_, ⟨k, hk, rfl⟩, hi⟩
    · rintro ⟨e, ⟨k, hk, rfl⟩, hi⟩; exact ⟨k, hk, hi⟩
  have hW : ∀ i, inW ops.size en i ↔ i ∈ entW log := fun i => by
    unfold inW entW
    simp only [List.mem_flatMap, mlog]
    constructor
    · rintro ⟨k, hk, hi⟩; exact ⟨_, ⟨k, hk, rfl⟩, hi⟩
    · rintro ⟨e, ⟨k, hk, rfl⟩, hi⟩; exact ⟨k, hk, hi⟩
  have hwfn : ∀ k, k ≤ ops.size → (S k).WF := fun k hk => by
    cases k with
    | zero => exact hwf
    | succ k => exact (hf k (by omega)).2.1.wf
  have hle : ∀ {i k : Nat}, i ≤ k → k ≤ ops.size → (S i).next ≤ (S k).next := fun h1 h2 => Trace.next_le hf _ h1 h2
  have hsame : ∀ i, i < (S 0).next → ¬ inW ops.size en i → ∀ k, k ≤ ops.size → (S k).get i = (S 0).get i := by
    intro i hi hn k
    induction k with
    | zero => intro _; rfl
    | succ k ih =>
      intro hk
      rw [(hf k (by omega)).2.1.same i (Nat.lt_of_lt_of_le hi (hle (Nat.zero_le k) (by omega))) (fun hm => hn ⟨k, by omega, hm⟩), ih (by omega)]
  have hlive : Live (S 0) (entR log) (entW log) := by
    intro i hi hlt
    -- the first operation that touches it
    have key : ∀ k, k < ops.size → (i ∈ (en k).R ∨ i ∈ (en k).W) → ∃ so, (S 0).get i = some so := by
      intro k
      induction k using Nat.strongRecOn with
      | _ k ih =>
        intro hk hm
        obtain ⟨so, hso⟩ := (hf k hk).2.2.1 i hm (Nat.lt_of_lt_of_le hlt (hle (Nat.zero_le k) (by omega)))
        by_cases hex : ∃ k', k' < k ∧ i ∈ (en k').W
        · obtain ⟨k', hk', hm'⟩ := hex
          exact ih k' hk' (by omega) (.inr hm')
        · have : ∀ m, m ≤ k → (S m).get i = (S 0).get i := by
            intro m
            induction m with
            | zero => intro _; rfl
            | succ m ihm =>
              intro hmk
              rw [(hf m (by omega)).2.1.same i (Nat.lt_of_lt_of_le hlt (hle (Nat.zero_le m) (by omega))) (fun hx => hex ⟨m, by omega, hx⟩), ihm (by omega)]
          rw [this k (Nat.le_refl k)] at hso
          exact ⟨so, hso⟩
    rcases hi with hi | hi
    · obtain ⟨k, hk, hm⟩ := (hR i).2 hi
      exact key k hk (.inl hm)
    · obtain ⟨k, hk, hm⟩ := (hW i).2 hi
      exact key k hk (.inr hm)
  refine ⟨⟨hle (Nat.zero_le _) (Nat.le_refl _), fun i hi hm => hsame i hi (fun h => hm ((hW i).1 h)) _ (Nat.le_refl _), hwfn _ (Nat.le_refl _)⟩, hlive, ?_⟩
  intro ρ F w a Q hp ht hd hQ
  have hp₀ : ∀ i, i < (S 0).next → inR ops.size en i ∨ inW ops.size en i → ∃ so, (S 0).get i = some so ∧ ObjRel ρ F w i so := fun i hi hm => hp.obj i hi (hm.imp (hR i).1 (hW i).1)
  have hfr : ∀ i, (S 0).next ≤ i → i < (S ops.size).next → ρ i = none := hp.fresh
  have hfin : ∀ (L : Nat → Bool), (∀ k, k < ops.size → L k = true) → ∀ ρ' F' a' w', Inv ops.size S T en op ρ F w L ρ' F' a' w' → Q .normal a' w' := by
    intro L hL ρ' F' a' w' hI
    obtain ⟨h1, h2, h3⟩ := inv_last htr hf hW hL hI
    exact hQ a' w' ρ' F' h1 h2 h3
  cases draw with
  | false =>
    refine wp_region ?_
    have gen : ∀ (m k : Nat), k + m = ops.size → ∀ ρ' F' a' w', Inv ops.size S T en op ρ F w (fun j => decide (j < k)) ρ' F' a' w' → wpOps P ops Q (List.range' k m) a' w' := by
      intro m
      induction m with
      | zero =>
        intro k hk ρ' F' a' w' hI
        simp only [List.range'_zero, wpOps]
        exact hfin _ (fun j hj => by simp; omega) ρ' F' a' w' hI
      | succ m ih =>
        intro k hk ρ' F' a' w' hI
        rw [List.range'_succ, wpOps_cons]
        refine inv_step htr hE hO hf hp₀ hfr (i := k) (by omega) (by simp) ⟨fun j hj hjk hL => ?_, fun j hj hkj hL => ?_⟩ hI fun ρ'' F'' a'' w'' hI' => ?_
        · simp only [decide_eq_false_iff_not] at hL; omega
        · simp only [decide_eq_true_eq] at hL; omega
        · refine ih (k + 1) (by omega) ρ'' F'' a'' w'' ?_
          have e : addL (fun j => decide (j < k)) k = fun j => decide (j < k + 1) := by
            funext j
            simp only [addL]
            by_cases hjk : j = k
            · simp [hjk]
            · simp only [hjk, if_false]
              by_cases h1 : j < k
              · simp [h1, show j < k + 1 by omega]
              · simp [h1, show ¬ j < k + 1 by omega]
          rw [← e]
          exact hI'
    rw [List.range_eq_range']
    exact gen ops.size 0 (by omega) ρ F a w (inv_init hwf hp (fun i h => (hR i).1 h) (fun i h => (hW i).1 h) ht hd rfl (Outs.refl w) (fun k => by simp))
  | true =>
    simp only [Bool.not_true, Bool.false_or] at hcond
    obtain ⟨hs1, hs2⟩ := statOk_get (hstat rfl)
    have hd1 := dynOk_get hcond
    simp only [Nat.zero_add] at hs1 hs2 hd1
    refine wp_region_any hmix ?_
    have gen : ∀ (f : Nat) (listed : Array Bool) ρ' F' a' w', listed.size = ops.size → Closed ops (fun k => listed.getD k false) → ops.size ≤ cnt (fun k => listed.getD k false) ops.size + f →
        Inv ops.size S T en op ρ F w (fun k => listed.getD k false) ρ' F' a' w' → wpAny P .any ops Q f listed a' w' := by
      intro f
      induction f with
      | zero =>
        intro listed ρ' F' a' w' hsz hcl hc hI
        have hL := cnt_all (L := fun k => listed.getD k false) ops.size (by simpa using hc)
        refine ⟨?_, hfin _ hL ρ' F' a' w' hI⟩
        rw [List.eq_nil_iff_forall_not_mem]
        intro j hj
        obtain ⟨h1, o, ho, -⟩ := mem_ready.1 hj
        have hlt : j < ops.size := (Array.getElem?_eq_some_iff.1 ho).1
        have := hL j hlt
        simp only [Array.getD_eq_getD_getElem?] at h1 this
        rw [Array.getElem?_eq_getElem (by omega)] at h1 this
        simp at h1 this
        rw [h1] at this
        cases this
      | succ f ih =>
        intro listed ρ' F' a' w' hsz hcl hc hI
        refine ⟨fun hnil => ?_, fun i hi => ?_⟩
        · refine hfin _ (fun k => ?_) ρ' F' a' w' hI
          induction k using Nat.strongRecOn with
          | _ k ihk =>
            intro hk
            cases hl : listed.getD k false with
            | true => rfl
            | false =>
              exfalso
              have hmem : k ∈ Region.ready .any ops listed := by
                rw [mem_ready]
                refine ⟨?_, op k, htr.opk k hk, fun e he hb => ?_⟩
                · simp only [Array.getD_eq_getD_getElem?] at hl ⊢
                  rw [Array.getElem?_eq_getElem (by omega)] at hl ⊢
                  simpa using hl
                · have hon := hs2 k (op k) (by simpa using htr.opk k hk) e he hb
                  exact ihk e.on hon (by omega)
              rw [hnil] at hmem
              cases hmem
        · obtain ⟨h1, o, ho, hpre⟩ := mem_ready.1 hi
          have hilt : i < ops.size := (Array.getElem?_eq_some_iff.1 ho).1
          have hLi : listed.getD i false = false := by
            simp only [Array.getD_eq_getD_getElem?] at h1 ⊢
            rw [Array.getElem?_eq_getElem (by omega)] at h1 ⊢
            simpa using h1
          have hready : ∀ o', ops[i]? = some o' → ∀ e ∈ o'.after, Region.binds .any e = true → listed.getD e.on false = true := fun o' ho' e he hb => by
            rw [ho] at ho'
            cases ho'
            exact hpre e he hb
          have hcpt : Cpt ops ops.size en op (fun k => listed.getD k false) i := by
            constructor
            · intro k hk hki hLk
              have hno : ord ops k i ≠ true := fun hord => by
                have : listed.getD k false = true := hcl.reach (ord_reach hord) hready
                have hLk' : listed.getD k false = false := hLk
                rw [hLk'] at this
                cases this
              exact ⟨(hd1 k i (en k) (en i) (hall k hk).2.1 (hall i hilt).2.1 hki).resolve_left hno, (hs1 k i (op k) (op i) (by simpa using htr.opk k hk) (by simpa using htr.opk i hilt) hki).resolve_left hno⟩
            · intro k hk hik hLk
              have hno : ord ops i k ≠ true := fun hord => by
                have : listed.getD i false = true := hcl.reach (ord_reach hord) (fun o' ho' e he hb => hcl k o' ho' hLk e he hb)
                rw [hLi] at this
                cases this
              exact ⟨(hd1 i k (en i) (en k) (hall i hilt).2.1 (hall k hk).2.1 hik).resolve_left hno, (hs1 i k (op i) (op k) (by simpa using htr.opk i hilt) (by simpa using htr.opk k hk) hik).resolve_left hno⟩
          refine inv_step htr hE hO hf hp₀ hfr hilt hLi hcpt hI fun ρ'' F'' a'' w'' hI' => ?_
          have e : (fun k => (listed.setIfInBounds i true).getD k false) = addL (fun k => listed.getD k false) i := by
            funext k
            simp only [addL]
            by_cases hki : k = i
            · subst hki
              rw [if_pos rfl]
              simp [show k < listed.size by omega]
            · rw [if_neg hki]
              exact getD_set_ne false (Ne.symm hki)
          refine ih _ ρ'' F'' a'' w'' (by simp [hsz]) ?_ ?_ (by rw [e]; exact hI')
          · rw [e]
            intro j o' ho' hj e' he' hb'
            simp only [addL] at hj ⊢
            split
            · rfl
            · split at hj
              · rename_i hji
                subst hji
                exact hready o' ho' e' he' hb'
              · exact hcl j o' ho' hj e' he' hb'
          · rw [e, cnt_add hLi ops.size hilt]
            omega
    have hL0 : ∀ k, (Array.replicate ops.size false).getD k false = false := fun k => by
      simp only [Array.getD_eq_getD_getElem?, Array.getElem?_replicate]
      split <;> rfl
    refine gen ops.size _ ρ F a _ (by simp) (fun j o ho hj => by have hj' : (Array.replicate ops.size false).getD j false = true := hj; rw [hL0] at hj'; cases hj') (by omega) (inv_init (w₁ := { w with drawn := w.drawn + 1 }) hwf hp (fun i h => (hR i).1 h) (fun i h => (hW i).1 h) ht hd rfl ⟨rfl, rfl, rfl⟩ hL0)

end

end Go.Proofs.Ytfieppbehmglbaa.Ve
