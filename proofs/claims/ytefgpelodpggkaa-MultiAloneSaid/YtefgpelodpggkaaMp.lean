import Derived.Test.YtefgpelodpggkaaHo
import Derived.Test.YtefgpelodpggkaaGi
set_option linter.unusedVariables false
set_option linter.unusedSimpArgs false
namespace Go.Proofs.Ytefgpelodpggkaa.Ve
open Go XFlt
set_option maxRecDepth 4000
theorem canonB_eq (b : Nat) : canonB b = canon b := by
  unfold canonB canon nan mag
  by_cases h : 9218868437227405312 < b % 9223372036854775808
  · rw [if_pos (decide_eq_true h), if_pos h]
  · rw [if_neg (by simpa using h), if_neg h]
def ivI (x : It) : IV := (x.pri, x.val)
def itI (x : IV) : It := ⟨x.1, x.2⟩
theorem gIt_iv (l : List It) : l.map gIt = (l.map ivI).map ivP := by
  rw [List.map_map]
  rfl
theorem rIt_iv (l : List It) : l.map rIt = (l.map ivI).map rIV := by
  rw [List.map_map]
  rfl
theorem iv_it (l : List IV) : (l.map itI).map ivI = l := by
  rw [List.map_map]
  exact List.map_id _
theorem it_iv (l : List It) : (l.map ivI).map itI = l := by
  rw [List.map_map]
  exact List.map_id _
/-- Items in order, and one more. -/
def withI (l : List It) (x : It) : List It := (withL (l.map ivI) (ivI x)).map itI
/-- A shard's items. -/
structure GL (l : List It) : Prop where
  srt : Srt (l.map ivI)
  cnl : Cnl (l.map ivI)
  len : l.length ≤ 62
theorem gl0 : GL [] := ⟨List.Pairwise.nil, (fun x hx => by cases hx), by decide⟩
/-- A canonical item. -/
def CI (x : It) : Prop := canon x.pri = x.pri ∧ x.pri < 2 ^ 64
theorem withI_len (l : List It) (x : It) : (withI l x).length = l.length + 1 := by
  unfold withI
  rw [List.length_map, withL_len, List.length_map]
theorem GL.with {l : List It} {x : It} (h : GL l) (hx : CI x) (hl : l.length ≤ 61) : GL (withI l x) where
  srt := by
    unfold withI
    rw [iv_it]
    exact withL_srt h.srt
  cnl := by
    unfold withI
    rw [iv_it]
    intro y hy
    rcases List.mem_cons.1 ((withL_perm _ _).subset hy) with rfl | hy
    · exact ⟨(canonB_eq _).trans hx.1, hx.2⟩
    · exact h.cnl y hy
  len := by
    rw [withI_len]
    omega
theorem GL.tail {x : It} {l : List It} (h : GL (x :: l)) : GL l where
  srt := (List.pairwise_cons.1 h.srt).2
  cnl := fun y hy => h.cnl y (List.mem_cons_of_mem _ hy)
  len := by
    have := h.len
    simp at this
    omega
/-- Is the second one of two lists the better one? -/
def secB : List It → List It → Bool
  | [], _ => true
  | _ :: _, [] => false
  | x :: _, y :: _ => decide (ivC (ivI y) (ivI x) < 0)
def hdI (l : List It) : It := l.headD ⟨0, 0⟩
/-- A write that is done, or isn't. -/
def wrR (ps : Pts) (f : RF) (at_ ver : Int) (l : List It) (a : It) : Pts × RF × An × Bool :=
  if may ps at_ ver then (ps ++ [⟨at_, ⟨0, l⟩⟩], { f with pc := 0 }, ⟨true, a, 0⟩, true) else (ps, { f with pc := 0 }, an00, false)
def insR (n : Int) (ps : Pts) (f : RF) : Pts × RF × An × Bool :=
  if f.pc = 0 then (ps, { f with pc := 1, v0 := (rd ps (into f.d0 n)).1, c0 := (rd ps (into f.d0 n)).2 }, an00, decide (61 < (rd ps (into f.d0 n)).2.l.length))
  else wrR ps f (into f.d0 n) f.v0 (withI f.c0.l f.it) f.it
def delR (n : Int) (ps : Pts) (f : RF) : Pts × RF × An × Bool :=
  if f.pc = 0 then (ps, { f with pc := 1, v0 := (rd ps (into f.d0 n)).1, c0 := (rd ps (into f.d0 n)).2 }, an00, false)
  else if f.pc = 1 then (ps, { f with pc := 2, v1 := (rd ps (into f.d1 n)).1, c1 := (rd ps (into f.d1 n)).2 }, an00, decide (f.c0.l.length + (rd ps (into f.d1 n)).2.l.length = 0))
  else if secB f.c0.l f.c1.l = true then wrR ps f (into f.d1 n) f.v1 f.c1.l.tail (hdI f.c1.l)
  else wrR ps f (into f.d0 n) f.v0 f.c0.l.tail (hdI f.c0.l)
/-- A step of a queue in shards. -/
def multiR (n : Int) (ps : Pts) (f : RF) : Pts × RF × An × Bool := if f.k = 1 then insR n ps f else delR n ps f
structure MMem (N : Nat) (ps : Pts) : Prop where
  gl : ∀ i, GL (rd ps i).2.l
  len : ps.length ≤ N
structure MFr (f : RF) : Prop where
  k : f.k = 1 ∨ f.k = 2
  it : CI f.it
  d0 : i64 f.d0
  d1 : i64 f.d1
  pc : f.pc = 0 ∨ f.pc = 1 ∨ f.pc = 2 ∧ f.k = 2
  c0 : GL f.c0.l
  c1 : GL f.c1.l
  ins : f.k = 1 → f.pc = 1 → f.c0.l.length ≤ 61
  del : f.k = 2 → f.pc = 2 → ¬ f.c0.l.length + f.c1.l.length = 0
/-- An operation under way in a memory. -/
structure MOk (n : Int) (ps : Pts) (f : RF) : Prop where
  nn : 1 ≤ n ∧ n ≤ 16
  len : ps.length < 2 ^ 20
  mem : ∀ i, GL (rd ps i).2.l
  fr : MFr f
theorem MMem.put {N : Nat} {ps : Pts} (h : MMem N ps) {at_ : Int} {l : List It} (hl : GL l) (k : Int) : MMem (N + 1) (ps ++ [⟨at_, ⟨k, l⟩⟩]) where
  gl := fun i => by
    rw [rd_snoc]
    split
    · exact hl
    · exact h.gl i
  len := by
    have := h.len
    simp
    omega
theorem MMem.up {N : Nat} {ps : Pts} (h : MMem N ps) : MMem (N + 1) ps := ⟨h.gl, by have := h.len; omega⟩
theorem wrR_inv {N : Nat} {ps : Pts} {f : RF} {at_ ver : Int} {l : List It} {a : It} (hm : MMem N ps) (hf : MFr { f with pc := 0 }) (hl : GL l) : MMem (N + 1) (wrR ps f at_ ver l a).1 ∧ ((wrR ps f at_ ver l a).2.2.2 = false → MFr (wrR ps f at_ ver l a).2.1) := by
  unfold wrR
  split
  · exact ⟨hm.put hl 0, fun _ => hf⟩
  · exact ⟨hm.up, fun _ => hf⟩
theorem multiR_inv (n : Int) (N : Nat) (ps : Pts) (f : RF) (hm : MMem N ps) (h : MFr f) : MMem (N + 1) (multiR n ps f).1 ∧ ((multiR n ps f).2.2.2 = false → MFr (multiR n ps f).2.1) := by
  have h0 : MFr { f with pc := 0 } := ⟨h.k, h.it, h.d0, h.d1, .inl rfl, h.c0, h.c1, (fun _ h => by cases h), (fun _ h => by cases h)⟩
  unfold multiR
  by_cases hk : f.k = 1
  · rw [if_pos hk]
    unfold insR
    by_cases hp : f.pc = 0
    · rw [if_pos hp]
      refine ⟨hm.up, fun hd => ⟨h.k, h.it, h.d0, h.d1, .inr (.inl rfl), hm.gl _, h.c1, fun _ _ => ?_, fun h2 => absurd (hk.symm.trans h2) (by decide)⟩⟩
      have hd : decide (61 < (rd ps (into f.d0 n)).2.l.length) = false := hd
      have := of_decide_eq_false hd
      show (rd ps (into f.d0 n)).2.l.length ≤ 61
      omega
    · rw [if_neg hp]
      have h1 : f.pc = 1 := by
        rcases h.pc with h1 | h1 | ⟨-, h2⟩
        · exact absurd h1 hp
        · exact h1
        · exact absurd (hk.symm.trans h2) (by decide)
      exact wrR_inv hm h0 (h.c0.with h.it (h.ins hk h1))
  · have hk2 : f.k = 2 := h.k.resolve_left hk
    rw [if_neg hk]
    unfold delR
    by_cases hp : f.pc = 0
    · rw [if_pos hp]
      exact ⟨hm.up, fun hd => ⟨h.k, h.it, h.d0, h.d1, .inr (.inl rfl), hm.gl _, h.c1, fun h1 => absurd h1 hk, fun _ h => absurd h (by decide : ¬ (1 : Int) = 2)⟩⟩
    · rw [if_neg hp]
      by_cases h1 : f.pc = 1
      · rw [if_pos h1]
        refine ⟨hm.up, fun hd => ⟨h.k, h.it, h.d0, h.d1, .inr (.inr ⟨rfl, hk2⟩), h.c0, hm.gl _, fun h1 => absurd h1 hk, fun _ _ => ?_⟩⟩
        have hd : decide (f.c0.l.length + (rd ps (into f.d1 n)).2.l.length = 0) = false := hd
        exact of_decide_eq_false hd
      · rw [if_neg h1]
        have h2 : f.pc = 2 := by
          rcases h.pc with h2 | h2 | ⟨h2, -⟩
          · exact absurd h2 hp
          · exact absurd h2 h1
          · exact h2
        have ht : ∀ l : List It, GL l → GL l.tail := fun l hl => by
          cases l with
          | nil => exact hl
          | cons x l => exact hl.tail
        split
        · exact wrR_inv hm h0 (ht _ h.c1)
        · exact wrR_inv hm h0 (ht _ h.c0)
theorem canon_idem (b : Nat) : canon (canon b) = canon b := by
  rw [← canonB_eq, ← canonB_eq, canonB_idem]
theorem canon_lt' {b : Nat} (h : b < 2 ^ 64) : canon b < 2 ^ 64 := by
  rw [← canonB_eq]
  exact canon_lt h
theorem mfr_new (x : Rw) (hx : RwOk x) : MFr (toldF (ownOp 1 2 x)) where
  k := by
    have := into_range x.k 2 (by decide)
    show 1 + into x.k (2 - 1 + 1) = 1 ∨ 1 + into x.k (2 - 1 + 1) = 2
    have e : (2 : Int) - 1 + 1 = 2 := by decide
    rw [e]
    omega
  it := ⟨canon_idem _, canon_lt' hx.pri⟩
  d0 := hx.d0
  d1 := hx.d1
  pc := .inl rfl
  c0 := gl0
  c1 := gl0
  ins := fun _ h => by cases h
  del := fun _ h => by cases h
/-- What holds ahead of each pick. -/
abbrev MInv : DS → Prop := GInv MMem fun _ _ => MFr
theorem minv0 (q : Nat) : MInv (ds0 q) := ginv0 ⟨fun _ => gl0, Nat.le_refl 0⟩ q
theorem multi_gstep (n : Int) : GStep MMem (fun _ _ => MFr) (multiR n) := ⟨multiR_inv n, fun _ _ _ _ _ _ h => h⟩
theorem minv_step (n : Int) {ops : List (List Rw)} (hops : ∀ l ∈ ops, ∀ x ∈ l, RwOk x) (D : DS) (k : Nat) (D' : DS) (_ : D.n < 200) (hI : MInv D) (hb : dbeg (ownOp 1 2) ops D k = some D') : MInv (dmov (multiR n) D' k) :=
  ginv_step (fun _ _ x _ hx => mfr_new x hx) (multi_gstep n) hops hI hb
theorem MInv.ok {n : Int} (hn : 1 ≤ n ∧ n ≤ 16) {ops : List (List Rw)} (hops : ∀ l ∈ ops, ∀ x ∈ l, RwOk x) {D D' : DS} {k : Nat} (hD : D.n < 200) (hI : MInv D) (hb : dbeg (ownOp 1 2) ops D k = some D') : ∀ t, D'.T[k]? = some t → MOk n D'.ps t.f := by
  obtain ⟨h1, h2, h2', t0, h3, h4⟩ := g_dbeg (fun _ _ x _ hx => mfr_new x hx) hops hI hb
  intro t ht
  rw [h3] at ht
  cases ht
  have := h1.mem.len
  exact ⟨hn, by omega, h1.mem.gl, h1.fr k _ h3 h4⟩
end Go.Proofs.Ytefgpelodpggkaa.Ve
