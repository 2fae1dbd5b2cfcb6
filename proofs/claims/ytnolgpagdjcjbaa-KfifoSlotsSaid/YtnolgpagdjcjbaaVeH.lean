import Derived.Orders
import Derived.Scope
import Derived.Deep.LoopGhost
import Derived.Laws.World
import Derived.Laws.CopyRow
import Derived.Laws.Cells
import Derived.Deep.MidRow
import Derived.Laws.Entries
import Derived.Great.BuildSlice
/-! Values with owned and frozen slices, stores, and how they stand in a world. -/
set_option linter.unusedVariables false
set_option linter.unusedSimpArgs false
namespace Go.Proofs.Ytnolgpagdjcjbaa.Ve
open Go

/-- Data without addresses of its own: a slice is its rows. -/
inductive PV where
  | sc (x : Value)
  | fz (rows : List (List PV))
  | agg (cs : List PV)
  | ifc (t : TypeId) (p : PV)
  deriving Inhabited

inductive V where
  | pv (p : PV)
  | ptr (i r off : Nat)
  | fe (cs : List PV)
  | ow (i s r len : Nat)
  | nl
  | agg (cs : List V)
  | tup (cs : List V)
  | ifc (t : TypeId) (v : V)
  | fn (f : Fn) (first caps : List V)
  deriving Inhabited

abbrev Ren := Nat → Option (Nat × Nat × Nat)

mutual
def PRel (F : Nat → Prop) (w : World) : PV → Value → Prop
  | .sc x, v => v = x
  | .fz rows, v => ∃ a cap, v = .slice a rows.length cap ∧ rows.length ≤ cap ∧ (rows = [] ∨ ∃ B o s, a = some ⟨B, o, none⟩ ∧ F B ∧ PRows F w B s o rows)
  | .agg cs, v => ∃ l, v = .agg l ∧ PList F w cs l.toList
  | .ifc t p, v => ∃ u, v = .iface t u ∧ PRel F w p u
def PList (F : Nat → Prop) (w : World) : List PV → List Value → Prop
  | [], l => l = []
  | p :: ps, l => ∃ v vs, l = v :: vs ∧ PRel F w p v ∧ PList F w ps vs
def PCells (F : Nat → Prop) (w : World) (B : Nat) : Nat → List PV → Prop
  | _, [] => True
  | o, p :: ps => (∃ v, w.cell? ⟨B, o, none⟩ = some v ∧ v.oneCell' = true ∧ PRel F w p v) ∧ PCells F w B (o + 1) ps
def PRows (F : Nat → Prop) (w : World) (B s : Nat) : Nat → List (List PV) → Prop
  | _, [] => True
  | o, r :: rs => r.length = s ∧ PCells F w B o r ∧ PRows F w B s (o + s) rs
end

/-- A block of cells that holds so many. -/
def HoldsN (w : World) (B n : Nat) : Prop := ∃ (c : Array Value) (e : TypeId), w.heap[B]? = some (.cells c e (0, 0)) ∧ n ≤ c.size

/-- The outside stays as it is. -/
def Outs (w w' : World) : Prop := w'.os = w.os ∧ w'.tape = w.tape ∧ w'.output = w.output

/-- Rows of cells stay rows of as many cells. -/
def Shp (w w' : World) : Prop := Outs w w' ∧ ∀ (B : Nat) (c : Array Value) (e : TypeId) (f : Nat × Nat), w.heap[B]? = some (.cells c e f) → ∃ c' : Array Value, w'.heap[B]? = some (.cells c' e f) ∧ c'.size = c.size

theorem Outs.refl (w : World) : Outs w w := ⟨rfl, rfl, rfl⟩
theorem Outs.trans {w w' w'' : World} (h : Outs w w') (h' : Outs w' w'') : Outs w w'' := ⟨h'.1.trans h.1, h'.2.1.trans h.2.1, h'.2.2.trans h.2.2⟩
theorem Shp.refl (w : World) : Shp w w := ⟨Outs.refl w, fun _ c _ _ h => ⟨c, h, rfl⟩⟩
theorem Shp.trans {w w' w'' : World} (h : Shp w w') (h' : Shp w' w'') : Shp w w'' := ⟨h.1.trans h'.1, fun B c e f hb => by
  obtain ⟨c', h1, h2⟩ := h.2 B c e f hb
  obtain ⟨c'', h3, h4⟩ := h'.2 B c' e f h1
  exact ⟨c'', h3, h4.trans h2⟩⟩
theorem HoldsN.mono {w w' : World} {B n : Nat} (h : HoldsN w B n) (hs : Shp w w') : HoldsN w' B n := by
  obtain ⟨c, e, hb, hn⟩ := h
  obtain ⟨c', h1, h2⟩ := hs.2 B c e _ hb
  exact ⟨c', e, h1, by omega⟩

mutual
def VRel (ρ : Ren) (F : Nat → Prop) (w : World) : V → Value → Prop
  | .pv p, v => PRel F w p v
  | .ptr i r off, v => ∃ B o s, ρ i = some (B, o, s) ∧ v = .pointer (some ⟨B, o + r * s + off, none⟩)
  | .fe cs, v => ∃ B o, F B ∧ v = .pointer (some ⟨B, o, none⟩) ∧ PCells F w B o cs
  | .ow i s r len, v => ∃ B o a cap, ρ i = some (B, o, s) ∧ v = .slice (some ⟨B, a, none⟩) len cap ∧ len ≤ cap ∧ (cap = 0 ∨ a = o + r * s) ∧ HoldsN w B (a + cap * s)
  | .nl, v => v = .slice none 0 0
  | .agg cs, v => ∃ l, v = .agg l ∧ VList ρ F w cs l.toList
  | .tup cs, v => ∃ l, v = .tuple l ∧ VList ρ F w cs l.toList
  | .ifc t x, v => ∃ u, v = .iface t u ∧ VRel ρ F w x u
  | .fn f a c, v => ∃ a' c', v = .func f a' c' ∧ VList ρ F w a a'.toList ∧ VList ρ F w c c'.toList
def VList (ρ : Ren) (F : Nat → Prop) (w : World) : List V → List Value → Prop
  | [], l => l = []
  | p :: ps, l => ∃ v vs, l = v :: vs ∧ VRel ρ F w p v ∧ VList ρ F w ps vs
end

/-- What is frozen is kept. -/
def Ext (F : Nat → Prop) (w : World) (F' : Nat → Prop) (w' : World) : Prop :=
  (∀ B, F B → F' B) ∧ (∀ B, F B → w'.heap[B]? = w.heap[B]?) ∧ Shp w w'

theorem Ext.refl (F : Nat → Prop) (w : World) : Ext F w F w := ⟨fun _ h => h, fun _ _ => rfl, Shp.refl w⟩
theorem Ext.trans {F F' F'' : Nat → Prop} {w w' w'' : World} (h : Ext F w F' w') (h' : Ext F' w' F'' w'') : Ext F w F'' w'' :=
  ⟨fun B hB => h'.1 B (h.1 B hB), fun B hB => (h'.2.1 B (h.1 B hB)).trans (h.2.1 B hB), h.2.2.trans h'.2.2⟩

theorem cell_same {w w' : World} {B : Nat} (h : w'.heap[B]? = w.heap[B]?) (o : Nat) : w'.cell? ⟨B, o, none⟩ = w.cell? ⟨B, o, none⟩ := by
  unfold World.cell?
  simp only [h]

mutual
theorem PRel.mono {F F' : Nat → Prop} {w w' : World} (h : Ext F w F' w') : ∀ (p : PV) (v : Value), PRel F w p v → PRel F' w' p v
  | .sc x, v, hp => by simpa [PRel] using hp
  | .fz rows, v, hp => by
    simp only [PRel] at hp ⊢
    obtain ⟨a, cap, hv, hc, hr⟩ := hp
    refine ⟨a, cap, hv, hc, hr.imp id ?_⟩
    rintro ⟨B, o, s, ha, hF, hR⟩
    exact ⟨B, o, s, ha, h.1 B hF, PRows.mono h B s hF o rows hR⟩
  | .agg cs, v, hp => by
    simp only [PRel] at hp ⊢
    obtain ⟨l, hv, hl⟩ := hp
    exact ⟨l, hv, PList.mono h cs _ hl⟩
  | .ifc t p, v, hp => by
    simp only [PRel] at hp ⊢
    obtain ⟨u, hv, hu⟩ := hp
    exact ⟨u, hv, PRel.mono h p _ hu⟩
theorem PList.mono {F F' : Nat → Prop} {w w' : World} (h : Ext F w F' w') : ∀ (ps : List PV) (l : List Value), PList F w ps l → PList F' w' ps l
  | [], l, hp => by simpa [PList] using hp
  | p :: ps, l, hp => by
    simp only [PList] at hp ⊢
    obtain ⟨v, vs, hl, hv, hvs⟩ := hp
    exact ⟨v, vs, hl, PRel.mono h p v hv, PList.mono h ps vs hvs⟩
theorem PCells.mono {F F' : Nat → Prop} {w w' : World} (h : Ext F w F' w') (B : Nat) (hF : F B) : ∀ (o : Nat) (ps : List PV), PCells F w B o ps → PCells F' w' B o ps
  | _, [], _ => by simp [PCells]
  | o, p :: ps, hp => by
    simp only [PCells] at hp ⊢
    obtain ⟨⟨v, hv, h1, hr⟩, hps⟩ := hp
    exact ⟨⟨v, (cell_same (h.2.1 B hF) o).trans hv, h1, PRel.mono h p v hr⟩, PCells.mono h B hF (o + 1) ps hps⟩
theorem PRows.mono {F F' : Nat → Prop} {w w' : World} (h : Ext F w F' w') (B s : Nat) (hF : F B) : ∀ (o : Nat) (rs : List (List PV)), PRows F w B s o rs → PRows F' w' B s o rs
  | _, [], _ => by simp [PRows]
  | o, r :: rs, hp => by
    simp only [PRows] at hp ⊢
    exact ⟨hp.1, PCells.mono h B hF o r hp.2.1, PRows.mono h B s hF (o + s) rs hp.2.2⟩
end

def RLe (ρ ρ' : Ren) : Prop := ∀ i x, ρ i = some x → ρ' i = some x

mutual
theorem VRel.mono {ρ ρ' : Ren} {F F' : Nat → Prop} {w w' : World} (h : Ext F w F' w') (hr : RLe ρ ρ') : ∀ (x : V) (v : Value), VRel ρ F w x v → VRel ρ' F' w' x v
  | .pv p, v, hx => by simp only [VRel] at hx ⊢; exact PRel.mono h p v hx
  | .ptr i r off, v, hx => by
    simp only [VRel] at hx ⊢
    obtain ⟨B, o, s, hi, hv⟩ := hx
    exact ⟨B, o, s, hr _ _ hi, hv⟩
  | .fe cs, v, hx => by
    simp only [VRel] at hx ⊢
    obtain ⟨B, o, hF, hv, hc⟩ := hx
    exact ⟨B, o, h.1 B hF, hv, PCells.mono h B hF o cs hc⟩
  | .ow i s r len, v, hx => by
    simp only [VRel] at hx ⊢
    obtain ⟨B, o, a, cap, hi, hv, hc, ha, hq⟩ := hx
    exact ⟨B, o, a, cap, hr _ _ hi, hv, hc, ha, hq.mono h.2.2⟩
  | .nl, v, hx => by simpa [VRel] using hx
  | .agg cs, v, hx => by
    simp only [VRel] at hx ⊢
    obtain ⟨l, hv, hl⟩ := hx
    exact ⟨l, hv, VList.mono h hr cs _ hl⟩
  | .tup cs, v, hx => by
    simp only [VRel] at hx ⊢
    obtain ⟨l, hv, hl⟩ := hx
    exact ⟨l, hv, VList.mono h hr cs _ hl⟩
  | .ifc t x, v, hx => by
    simp only [VRel] at hx ⊢
    obtain ⟨u, hv, hu⟩ := hx
    exact ⟨u, hv, VRel.mono h hr x _ hu⟩
  | .fn f a c, v, hx => by
    simp only [VRel] at hx ⊢
    obtain ⟨a', c', hv, ha, hc⟩ := hx
    exact ⟨a', c', hv, VList.mono h hr a _ ha, VList.mono h hr c _ hc⟩
theorem VList.mono {ρ ρ' : Ren} {F F' : Nat → Prop} {w w' : World} (h : Ext F w F' w') (hr : RLe ρ ρ') : ∀ (xs : List V) (l : List Value), VList ρ F w xs l → VList ρ' F' w' xs l
  | [], l, hp => by simpa [VList] using hp
  | p :: ps, l, hp => by
    simp only [VList] at hp ⊢
    obtain ⟨v, vs, hl, hv, hvs⟩ := hp
    exact ⟨v, vs, hl, VRel.mono h hr p v hv, VList.mono h hr ps vs hvs⟩
end

theorem VList.length {ρ : Ren} {F : Nat → Prop} {w : World} : ∀ {xs : List V} {l : List Value}, VList ρ F w xs l → l.length = xs.length
  | [], l, h => by simp only [VList] at h; simp [h]
  | x :: xs, l, h => by
    simp only [VList] at h
    obtain ⟨v, vs, rfl, -, h⟩ := h
    simp [h.length]

theorem VList.get {ρ : Ren} {F : Nat → Prop} {w : World} : ∀ {xs : List V} {l : List Value}, VList ρ F w xs l → ∀ (k : Nat) x, xs[k]? = some x → ∃ v, l[k]? = some v ∧ VRel ρ F w x v
  | [], l, _, k, x, hk => by simp at hk
  | y :: xs, l, h, k, x, hk => by
    simp only [VList] at h
    obtain ⟨v, vs, rfl, hv, h⟩ := h
    cases k with
    | zero => simp at hk; subst hk; exact ⟨v, rfl, hv⟩
    | succ k => exact h.get k x (by simpa using hk)

theorem VList.intro {ρ : Ren} {F : Nat → Prop} {w : World} : ∀ {xs : List V} {l : List Value}, l.length = xs.length → (∀ (k : Nat) x, xs[k]? = some x → ∃ v, l[k]? = some v ∧ VRel ρ F w x v) → VList ρ F w xs l
  | [], l, hl, _ => by simp only [VList]; exact List.eq_nil_of_length_eq_zero (by simpa using hl)
  | y :: xs, [], hl, _ => by simp at hl
  | y :: xs, v :: vs, hl, h => by
    simp only [VList]
    obtain ⟨u, hu, hr⟩ := h 0 y rfl
    obtain rfl : v = u := by simpa using hu
    exact ⟨v, vs, rfl, hr, VList.intro (by simpa using hl) fun k x hk => by simpa using h (k + 1) x (by simpa using hk)⟩

theorem VList.append {ρ : Ren} {F : Nat → Prop} {w : World} : ∀ {xs ys : List V} {l m : List Value}, VList ρ F w xs l → VList ρ F w ys m → VList ρ F w (xs ++ ys) (l ++ m)
  | [], ys, l, m, h, h' => by simp only [VList] at h; simpa [h] using h'
  | x :: xs, ys, l, m, h, h' => by
    simp only [VList] at h
    obtain ⟨v, vs, rfl, hv, h⟩ := h
    simp only [List.cons_append, VList]
    exact ⟨v, vs ++ m, rfl, hv, h.append h'⟩

theorem VList.drop {ρ : Ren} {F : Nat → Prop} {w : World} : ∀ {xs : List V} {l : List Value} (n : Nat), VList ρ F w xs l → VList ρ F w (xs.drop n) (l.drop n)
  | xs, l, 0, h => by simpa using h
  | [], l, n + 1, h => by simp only [VList] at h; subst h; simp [VList]
  | x :: xs, l, n + 1, h => by
    simp only [VList] at h
    obtain ⟨v, vs, rfl, hv, h⟩ := h
    simpa using h.drop n

theorem VList.take {ρ : Ren} {F : Nat → Prop} {w : World} : ∀ {xs : List V} {l : List Value} (n : Nat), VList ρ F w xs l → VList ρ F w (xs.take n) (l.take n)
  | xs, l, 0, h => by simp [VList]
  | [], l, n + 1, h => by simp only [VList] at h; subst h; simp [VList]
  | x :: xs, l, n + 1, h => by
    simp only [VList] at h
    obtain ⟨v, vs, rfl, hv, h⟩ := h
    simp only [List.take_succ_cons, VList]
    exact ⟨v, vs.take n, rfl, hv, h.take n⟩

theorem VList.of_PList {ρ : Ren} {F : Nat → Prop} {w : World} : ∀ {ps : List PV} {l : List Value}, PList F w ps l → VList ρ F w (ps.map .pv) l
  | [], l, h => by simpa [PList, VList] using h
  | p :: ps, l, h => by
    simp only [PList] at h
    obtain ⟨v, vs, rfl, hv, h⟩ := h
    simp only [List.map_cons, VList, VRel]
    exact ⟨v, vs, rfl, hv, VList.of_PList h⟩

theorem PList.of_VList {ρ : Ren} {F : Nat → Prop} {w : World} : ∀ {ps : List PV} {l : List Value}, VList ρ F w (ps.map .pv) l → PList F w ps l
  | [], l, h => by simpa [PList, VList] using h
  | p :: ps, l, h => by
    simp only [List.map_cons, VList, VRel] at h
    obtain ⟨v, vs, rfl, hv, h⟩ := h
    simp only [PList]
    exact ⟨v, vs, rfl, hv, PList.of_VList h⟩

theorem PCells.get {F : Nat → Prop} {w : World} {B : Nat} : ∀ {o : Nat} {ps : List PV}, PCells F w B o ps → ∀ (k : Nat) p, ps[k]? = some p → ∃ v, w.cell? ⟨B, o + k, none⟩ = some v ∧ v.oneCell' = true ∧ PRel F w p v
  | o, [], _, k, p, hk => by simp at hk
  | o, q :: ps, h, k, p, hk => by
    simp only [PCells] at h
    cases k with
    | zero => simp at hk; subst hk; exact h.1
    | succ k =>
      obtain ⟨v, hv, h1, hr⟩ := h.2.get k p (by simpa using hk)
      exact ⟨v, by rw [show o + (k + 1) = o + 1 + k by omega]; exact hv, h1, hr⟩

theorem PCells.intro {F : Nat → Prop} {w : World} {B : Nat} : ∀ {o : Nat} {ps : List PV}, (∀ (k : Nat) p, ps[k]? = some p → ∃ v, w.cell? ⟨B, o + k, none⟩ = some v ∧ v.oneCell' = true ∧ PRel F w p v) → PCells F w B o ps
  | o, [], _ => by simp [PCells]
  | o, q :: ps, h => by
    simp only [PCells]
    refine ⟨by simpa using h 0 q rfl, PCells.intro fun k p hk => ?_⟩
    rw [show o + 1 + k = o + (k + 1) by omega]
    exact h (k + 1) p (by simpa using hk)

theorem PCells.drop {F : Nat → Prop} {w : World} {B o : Nat} {ps : List PV} (h : PCells F w B o ps) (n : Nat) : PCells F w B (o + n) (ps.drop n) :=
  PCells.intro fun k p hk => by
    rw [Nat.add_assoc]
    exact h.get (n + k) p (by simpa using hk)

theorem PRows.get {F : Nat → Prop} {w : World} {B s : Nat} : ∀ {o : Nat} {rs : List (List PV)}, PRows F w B s o rs → ∀ (k : Nat) r, rs[k]? = some r → r.length = s ∧ PCells F w B (o + k * s) r
  | o, [], _, k, p, hk => by simp at hk
  | o, q :: rs, h, k, r, hk => by
    simp only [PRows] at h
    cases k with
    | zero => simp at hk; subst hk; simpa using ⟨h.1, h.2.1⟩
    | succ k =>
      obtain ⟨h1, h2⟩ := h.2.2.get k r (by simpa using hk)
      refine ⟨h1, ?_⟩
      rw [show o + (k + 1) * s = o + s + k * s by rw [Nat.add_mul]; omega]
      exact h2

theorem PRows.intro {F : Nat → Prop} {w : World} {B s : Nat} : ∀ {o : Nat} {rs : List (List PV)}, (∀ (k : Nat) r, rs[k]? = some r → r.length = s ∧ PCells F w B (o + k * s) r) → PRows F w B s o rs
  | o, [], _ => by simp [PRows]
  | o, q :: rs, h => by
    simp only [PRows]
    refine ⟨(h 0 q rfl).1, by simpa using (h 0 q rfl).2, PRows.intro fun k p hk => ?_⟩
    have := h (k + 1) p (by simpa using hk)
    rw [show o + s + k * s = o + (k + 1) * s by rw [Nat.add_mul]; omega]
    exact this

/-- A store: objects by number; an object is rows of cells. -/
structure SO where
  s : Nat
  rows : List (List V)
  deriving Inhabited

structure St where
  next : Nat
  get : Nat → Option SO

def St.empty : St := ⟨0, fun _ => none⟩
def St.set (st : St) (i : Nat) (o : SO) : St := ⟨st.next, fun j => if j = i then some o else st.get j⟩
def St.new (st : St) (o : SO) : St := ⟨st.next + 1, fun j => if j = st.next then some o else st.get j⟩
def St.kill (st : St) (i : Nat) : St := ⟨st.next, fun j => if j = i then none else st.get j⟩
def St.WF (st : St) : Prop := ∀ i, st.next ≤ i → st.get i = none

def OCells (ρ : Ren) (F : Nat → Prop) (w : World) (c : Array Value) (o : Nat) (row : List V) : Prop :=
  ∀ (k : Nat) x, row[k]? = some x → ∃ v, c[o + k]? = some v ∧ v.oneCell' = true ∧ VRel ρ F w x v
def ORows (ρ : Ren) (F : Nat → Prop) (w : World) (c : Array Value) (s o : Nat) (rows : List (List V)) : Prop :=
  ∀ (r : Nat) row, rows[r]? = some row → row.length = s ∧ OCells ρ F w c (o + r * s) row
def ObjRel (ρ : Ren) (F : Nat → Prop) (w : World) (i : Nat) (so : SO) : Prop :=
  ∃ B o c e, ρ i = some (B, o, so.s) ∧ ¬ F B ∧ w.heap[B]? = some (.cells c e (0, 0)) ∧ ORows ρ F w c so.s o so.rows

def blk (ρ : Ren) (i : Nat) : Option Nat := (ρ i).map (·.1)

theorem ObjRel.lt {ρ : Ren} {F : Nat → Prop} {w : World} {i : Nat} {so : SO} (h : ObjRel ρ F w i so) : ∃ B, blk ρ i = some B ∧ B < w.heap.size := by
  obtain ⟨B, o, c, e, hi, -, hb, -⟩ := h
  exact ⟨B, by simp [blk, hi], (Array.getElem?_eq_some_iff.1 hb).1⟩

/-- An object whose block stays as it is. -/
theorem ObjRel.keep {ρ ρ' : Ren} {F F' : Nat → Prop} {w w' : World} {i : Nat} {so : SO} (h : ObjRel ρ F w i so) (he : Ext F w F' w') (hr : RLe ρ ρ')
    (hb : ∀ B, blk ρ i = some B → w'.heap[B]? = w.heap[B]? ∧ ¬ F' B) : ObjRel ρ' F' w' i so := by
  obtain ⟨B, o, c, e, hi, hF, hc, hR⟩ := h
  have h' := hb B (by simp [blk, hi])
  refine ⟨B, o, c, e, hr _ _ hi, h'.2, h'.1.trans hc, fun r row hrow => ?_⟩
  obtain ⟨h1, h2⟩ := hR r row hrow
  refine ⟨h1, fun k x hx => ?_⟩
  obtain ⟨v, hv, h1, hx⟩ := h2 k x hx
  exact ⟨v, hv, h1, VRel.mono he hr x v hx⟩

/-- What must hold where a piece of code starts: 'R', 'W': the objects that it reads and writes; below 'n': the new ones. -/
structure Pre (ρ : Ren) (F : Nat → Prop) (w : World) (st : St) (R W : List Nat) (n : Nat) : Prop where
  fok : ∀ B, F B → B < w.heap.size
  obj : ∀ i, i < st.next → (i ∈ R ∨ i ∈ W) → ∃ so, st.get i = some so ∧ ObjRel ρ F w i so
  inj : ∀ i j, i < st.next → j < st.next → i ∈ W → (j ∈ R ∨ j ∈ W) → i ≠ j → blk ρ i ≠ blk ρ j
  fresh : ∀ i, st.next ≤ i → i < n → ρ i = none

/-- What holds behind it. -/
structure Post (ρ : Ren) (F : Nat → Prop) (w : World) (st : St) (ρ' : Ren) (F' : Nat → Prop) (w' : World) (st' : St) (W : List Nat) : Prop where
  rle : RLe ρ ρ'
  rnew : ∀ i, ρ' i ≠ ρ i → st.next ≤ i ∧ i < st'.next
  fle : ∀ B, F B → F' B
  fnew : ∀ B, F' B → F B ∨ w.heap.size ≤ B ∨ ∃ i, i < st.next ∧ i ∈ W ∧ blk ρ i = some B
  fok : ∀ B, F' B → B < w'.heap.size
  size : w.heap.size ≤ w'.heap.size
  shp : Shp w w'
  heap : ∀ B, B < w.heap.size → (∀ i, i < st.next → i ∈ W → blk ρ i ≠ some B) → w'.heap[B]? = w.heap[B]?
  obj : ∀ i so, (i < st.next ∧ i ∈ W ∨ st.next ≤ i) → st'.get i = some so → ObjRel ρ' F' w' i so ∧ ∀ B, blk ρ' i = some B → w.heap.size ≤ B ∨ ∃ j, j < st.next ∧ j ∈ W ∧ blk ρ j = some B
  inj : ∀ i j, (i < st.next ∧ i ∈ W ∨ st.next ≤ i) → (j < st.next ∧ j ∈ W ∨ st.next ≤ j) → (st'.get i).isSome → (st'.get j).isSome → i ≠ j → blk ρ' i ≠ blk ρ' j

/-- What a piece of code does to a store, whatever the world is. -/
structure Fine (st st' : St) (W : List Nat) : Prop where
  next : st.next ≤ st'.next
  same : ∀ i, i < st.next → i ∉ W → st'.get i = st.get i
  wf : st'.WF

end Go.Proofs.Ytnolgpagdjcjbaa.Ve
/-! An evaluator of Go's code over owned and frozen slices: one order, no addresses. -/
set_option linter.unusedVariables false
set_option linter.unusedSimpArgs false
namespace Go.Proofs.Ytnolgpagdjcjbaa.Ve
open Go

mutual
def PV.val? : PV → Option Value
  | .sc x => some x
  | .fz _ => none
  | .agg cs => match PV.vals? cs with
    | some l => some (.agg l.toArray)
    | none => none
  | .ifc t p => match p.val? with
    | some v => some (.iface t v)
    | none => none
def PV.vals? : List PV → Option (List Value)
  | [] => some []
  | p :: ps => match p.val? with
    | some v => match PV.vals? ps with
      | some vs => some (v :: vs)
      | none => none
    | none => none
end

mutual
def V.val? : V → Option Value
  | .pv p => p.val?
  | .nl => some (.slice none 0 0)
  | .agg cs => match V.vals? cs with
    | some l => some (.agg l.toArray)
    | none => none
  | .tup cs => match V.vals? cs with
    | some l => some (.tuple l.toArray)
    | none => none
  | .ifc t p => match p.val? with
    | some v => some (.iface t v)
    | none => none
  | .fn f a c => match V.vals? a with
    | some a' => match V.vals? c with
      | some c' => some (.func f a'.toArray c'.toArray)
      | none => none
    | none => none
  | _ => none
def V.vals? : List V → Option (List Value)
  | [] => some []
  | p :: ps => match p.val? with
    | some v => match V.vals? ps with
      | some vs => some (v :: vs)
      | none => none
    | none => none
end

def ofCell (x : Value) : V := match x with
  | .slice none 0 0 => .nl
  | x => .pv (.sc x)
def allPv : List V → Option (List PV)
  | [] => some []
  | .pv p :: r => match allPv r with
    | some ps => some (p :: ps)
    | none => none
  | _ => none
def mkAgg (cs : List V) : V := match allPv cs with
  | some ps => .pv (.agg ps)
  | none => .agg cs
def mkIfc (t : TypeId) : V → V
  | .pv p => .pv (.ifc t p)
  | v => .ifc t v
def ofVal1 : Value → V
  | .agg cs => mkAgg (cs.toList.map ofCell)
  | x => ofCell x
def ofValue : Value → V
  | .tuple vs => .tup (vs.toList.map ofVal1)
  | x => ofVal1 x
def undefV : V := .pv (.sc undef)

def V.cells : V → List V
  | .pv (.agg ps) => ps.map .pv
  | .pv (.sc (.agg a)) => a.toList.map ofCell
  | .agg cs => cs
  | v => [v]
/-- May a cell hold it? -/
def V.cell1 : V → Bool
  | .pv (.sc x) => x.oneCell'
  | .pv (.agg _) | .agg _ | .tup _ => false
  | _ => true
def V.isAgg : V → Bool
  | .pv (.agg _) | .pv (.sc (.agg _)) | .agg _ => true
  | _ => false
def V.iface? : V → Option (TypeId × V)
  | .ifc t v => some (t, v)
  | .pv (.ifc t p) => some (t, .pv p)
  | .pv (.sc (.iface t v)) => some (t, ofVal1 v)
  | _ => none

/-- nil slices become frozen ones of no row. -/
def V.norm : V → V
  | .nl => .pv (.fz [])
  | .agg cs => mkAgg (V.norms cs)
  | .ifc t v => mkIfc t v.norm
  | .tup cs => .tup (V.norms cs)
  | v => v
where V.norms : List V → List V
  | [] => []
  | v :: vs => v.norm :: V.norms vs

/-- Frozen: what a value says, as data; which objects it hangs on. -/
def frz (st : St) : Nat → V → Option (PV × List Nat)
  | _, .pv p => some (p, [])
  | _, .nl => some (.fz [], [])
  | n + 1, .agg cs => match frzs (frz st n) cs with
    | some (ps, ids) => some (.agg ps, ids)
    | none => none
  | n + 1, .ifc t v => match frz st n v with
    | some (p, ids) => some (.ifc t p, ids)
    | none => none
  | n + 1, .ow i _ r len => match st.get i with
    | some so => if r + len ≤ so.rows.length then
        match frzss (frz st n) ((so.rows.drop r).take len) with
        | some (rows, ids) => some (.fz rows, i :: ids)
        | none => none
      else none
    | none => none
  | _, _ => none
where
  frzs (f : V → Option (PV × List Nat)) : List V → Option (List PV × List Nat)
    | [] => some ([], [])
    | v :: vs => match f v with
      | some (p, ids) => match frzs f vs with
        | some (ps, ids') => some (p :: ps, ids ++ ids')
        | none => none
      | none => none
  frzss (f : V → Option (PV × List Nat)) : List (List V) → Option (List (List PV) × List Nat)
    | [] => some ([], [])
    | v :: vs => match frzs f v with
      | some (p, ids) => match frzss f vs with
        | some (ps, ids') => some (p :: ps, ids ++ ids')
        | none => none
      | none => none

mutual
/-- No frozen slice within. -/
def PV.flat : PV → Bool
  | .sc _ => true
  | .fz _ => false
  | .agg cs => PV.flats cs
  | .ifc _ p => p.flat
def PV.flats : List PV → Bool
  | [] => true
  | p :: ps => p.flat && PV.flats ps
end
def V.flat : V → Bool
  | .pv p => p.flat
  | .tup cs => flats cs
  | _ => false
where flats : List V → Bool
  | [] => true
  | .pv p :: vs => p.flat && flats vs
  | _ => false

def V.isPure : V → Bool
  | .pv _ => true
  | .tup cs => pures cs
  | _ => false
where pures : List V → Bool
  | [] => true
  | .pv _ :: vs => pures vs
  | _ => false

def pureRun (P : Program) {α : Type} : Sem α → Option α
  | .pure a => some a
  | .program k => pureRun P (k P)
  | .mark _ k => pureRun P k
  | _ => none

section
variable (P : Program)

def tySize (t : TypeId) : Option Nat := (P.info? t).map (·.size)
def tyAgg (t : TypeId) : Option Bool := match P.underlying t with
  | some (.struct _) | some (.array _ _) => some true
  | some _ => some false
  | none => none

def partV (t : TypeId) (cs : List V) (off : Nat) : Option V :=
  match tyAgg P t with
  | some true => match tySize P t with
    | some n => if off + n ≤ cs.length then some (mkAgg ((cs.drop off).take n)) else none
    | none => none
  | some false => cs[off]?
  | none => none

def loadV (st : St) (t : TypeId) : V → Option (V × List Nat)
  | .ptr i r off => match st.get i with
    | some so => match so.rows[r]? with
      | some row => match partV P t row off with
        | some x => some (x, [i])
        | none => none
      | none => none
    | none => none
  | .fe cs => match partV P t (cs.map .pv) 0 with
    | some x => some (x, [])
    | none => none
  | _ => none

def setAt (cs : List V) (off : Nat) (xs : List V) : List V := cs.take off ++ xs ++ cs.drop (off + xs.length)

def storeV (st : St) (t : TypeId) (v : V) : V → Option (St × List Nat)
  | .ptr i r off => match v.cells with
    | [] => if tySize P t = some 0 then some (st, []) else none
    | _ :: _ => match st.get i with
      | some so => match so.rows[r]? with
        | some row => if tySize P t = some v.cells.length ∧ off + v.cells.length ≤ row.length ∧ v.cells.all V.cell1 then
            some (st.set i ⟨so.s, so.rows.set r (setAt row off v.cells)⟩, [i])
          else none
        | none => none
      | none => none
  | _ => none

def zeroV (t : TypeId) : Option V := match P.info? t with
  | some i => match i.zero with
    | some z => some (ofValue z)
    | none => none
  | none => none

def vfill (place : Nat → Option (Nat × Nat)) : List V → List (Nat × V) → Option (List V)
  | cs, [] => some cs
  | cs, (i, v) :: rest => match place i with
    | some (off, size) => if v.cells.length = size ∧ off + v.cells.length ≤ cs.length then vfill place (setAt cs off v.cells) rest else none
    | none => none

def chunk (s : Nat) : Nat → List V → List (List V)
  | 0, _ => []
  | n + 1, cs => cs.take s :: chunk s n (cs.drop s)

abbrev RV := V × St × List Nat × List Nat

def asInt? : V → Option Int
  | .pv (.sc (.int _ n)) => some n
  | _ => none

def envAll (env : Operand → Option V) : List Operand → Option (List V)
  | [] => some []
  | x :: xs => match env x with
    | some v => match envAll env xs with
      | some vs => some (v :: vs)
      | none => none
    | none => none

def envParts (env : Operand → Option V) : List (Nat × Operand) → Option (List (Nat × V))
  | [] => some []
  | (i, x) :: xs => match env x with
    | some v => match envParts env xs with
      | some vs => some ((i, v) :: vs)
      | none => none
    | none => none

def placesOf (fields : Array Field) : Option (List (Nat × Nat)) := fields.toList.mapM fun f => (P.info? f.type).map fun i => (f.offset, i.size)

def buildV (t : TypeId) (parts : List (Nat × V)) : Option V :=
  match zeroV P t with
  | some z => match P.underlying t with
    | some (.struct fields) => match placesOf P fields with
      | some places => match vfill (fun i => places[i]?) z.cells parts with
        | some cs => some (mkAgg cs)
        | none => none
      | none => none
    | some (.array _ elem) => match tySize P elem with
      | some size => match vfill (fun i => some (i * size, size)) z.cells parts with
        | some cs => some (mkAgg cs)
        | none => none
      | none => none
    | _ => none
  | none => none

def sliceElem (t : TypeId) : Option TypeId := match P.underlying t with
  | some (.slice e) => some e
  | _ => none

def buildSliceV (st : St) (t : TypeId) (len : Nat) (parts : List (Nat × V)) : Option RV :=
  match sliceElem P t with
  | some elem => match tySize P elem with
    | some size => match zeroV P elem with
      | some z => if len * size ≤ 2 ^ 24 ∧ z.cells.length = size then
          match vfill (fun i => some (i * size, size)) ((List.range (len * size)).map fun k => z.cells.getD (k % z.cells.length) .nl) (parts.map fun p => (p.1, p.2.norm)) with
          | some cs => if cs.all V.cell1 then some (.ow st.next size 0 len, st.new ⟨size, chunk size len cs⟩, [], []) else none
          | none => none
        else none
      | none => none
    | none => none
  | none => none

def fieldAddrV (s : TypeId) (f : Nat) (x : V) : Option V :=
  match P.underlying s with
  | some (.struct fields) => match fields[f]? with
    | some fd => match tySize P fd.type with
      | some (_ + 1) => match x with
        | .ptr i r off => some (.ptr i r (off + fd.offset))
        | .fe cs => some (.fe (cs.drop fd.offset))
        | _ => none
      | _ => none
    | none => none
  | _ => none

def fieldV (t : TypeId) (f : Nat) (x : V) : Option V :=
  match P.underlying t with
  | some (.struct fields) => match fields[f]? with
    | some fd => if x.isAgg then partV P fd.type x.cells fd.offset else none
    | none => none
  | _ => none

def indexAddrV (t : TypeId) (x : V) (k : Int) : Option V :=
  match P.underlying t with
  | some (.array len elem) => match tySize P elem with
    | some size => if 0 ≤ k ∧ k < len then match x with
        | .ptr i r off => some (.ptr i r (off + k.toNat * size))
        | .fe cs => some (.fe (cs.drop (k.toNat * size)))
        | _ => none
      else none
    | none => none
  | some (.slice elem) => match tySize P elem with
    | some size => match x with
      | .pv (.fz rows) => if 0 ≤ k then match rows[k.toNat]? with
          | some row => if row.length = size then some (.fe row) else none
          | none => none
        else none
      | .ow i s r len => if 0 ≤ k ∧ k < len ∧ s = size then some (.ptr i (r + k.toNat) 0) else none
      | _ => none
    | none => none
  | _ => none

def indexV (t : TypeId) (x : V) (k : Int) : Option V :=
  match P.underlying t with
  | some (.array len elem) => match tySize P elem with
    | some size => if 0 ≤ k ∧ k < len ∧ x.isAgg then partV P elem x.cells (k.toNat * size) else none
    | none => none
  | _ => none

def boundV (env : Operand → Option V) (d : Nat) : Option Operand → Option Int
  | none => some d
  | some x => match env x with
    | some v => asInt? v
    | none => none

def sliceV (t : TypeId) (x : V) (lo hi : Int → Option Int) : Option V :=
  match sliceElem P t with
  | some elem => match tySize P elem with
    | some size => match x with
      | .pv (.fz rows) => match lo 0 with
        | some l => match hi rows.length with
          | some h => if 0 ≤ l ∧ l ≤ h ∧ h ≤ rows.length ∧ (l = 0 ∨ rows.all (·.length == size)) then some (.pv (.fz ((rows.take h.toNat).drop l.toNat))) else none
          | none => none
        | none => none
      | .ow i s r len => match lo 0 with
        | some l => match hi len with
          | some h => if 0 ≤ l ∧ l ≤ h ∧ h ≤ len ∧ s = size then some (.ow i s (r + l.toNat) (h.toNat - l.toNat)) else none
          | none => none
        | none => none
      | .nl => match lo 0 with
        | some l => match hi 0 with
          | some h => if l = 0 ∧ h = 0 then some .nl else none
          | none => none
        | none => none
      | _ => none
    | none => none
  | none => none

def makeSliceV (st : St) (t : TypeId) (l c : Int) : Option RV :=
  match sliceElem P t with
  | some elem => match P.info? elem with
    | some info => match zeroV P elem with
      | some z => if 0 ≤ l ∧ l ≤ c ∧ c ≤ 2 ^ 40 ∧ c * (info.bytes + 1) ≤ 2 ^ 40 ∧ z.cells.length = info.size ∧ z.cells.all V.cell1 then
          some (.ow st.next info.size 0 l.toNat, st.new ⟨info.size, List.replicate c.toNat z.cells⟩, [], [])
        else none
      | none => none
    | none => none
  | none => none

def srcRows (st : St) (size : Nat) : V → Option (List (List V) × List Nat)
  | .nl => some ([], [])
  | .pv (.fz rows) => if rows.all (·.length == size) then some (rows.map (·.map .pv), []) else none
  | .ow j s r len => match st.get j with
    | some so => if so.s = size ∧ r + len ≤ so.rows.length then some ((so.rows.drop r).take len, [j]) else none
    | none => none
  | _ => none

def appendV (st : St) (argTypes : Array TypeId) (s x : V) : Option RV :=
  match argTypes[0]? with
  | some t => match argTypes[1]? with
    | some xt => match sliceElem P t with
      | some elem => match sliceElem P xt with
        | some _ => match P.info? elem with
          | some info => match zeroV P elem with
            | some z => if z.cells.length ≠ info.size then none else match srcRows st info.size x with
              | some (rows, R) => match rows with
                | [] => match s with
                  | .nl | .ow _ _ _ _ => some (s, st, R, [])
                  | _ => none
                | _ :: _ => match s with
                  | .nl => if rows.length * (info.bytes + 1) ≤ 2 ^ 40 then some (.ow st.next info.size 0 rows.length, st.new ⟨info.size, rows⟩, R, []) else none
                  | .ow i _ r len => match srcRows st info.size s with
                    | some (old, R0) => if (len + rows.length) * (info.bytes + 1) ≤ 2 ^ 40 then
                        some (.ow st.next info.size 0 (len + rows.length), (st.new ⟨info.size, old ++ rows⟩).kill i, R0 ++ R, [i])
                      else none
                    | none => none
                  | _ => none
              | none => none
            | none => none
          | none => none
        | none => none
      | none => none
    | none => none
  | none => none

def lenV (t : TypeId) (x : V) : Option Int :=
  match P.underlying t with
  | some (.slice _) => match x with
    | .pv (.fz rows) => some rows.length
    | .ow _ _ _ len => some len
    | .nl => some 0
    | _ => none
  | some (.array n _) => some n
  | _ => none

def methodV (t : TypeId) (name : String) : Option (FuncId × Bool) := match P.info? t with
  | some info => match info.methods.find? (·.name == name) with
    | some m => if m.path.isEmpty then m.func else none
    | none => none
  | none => none

def ptrElem (t : TypeId) : Option (Option TypeId) := match P.underlying t with
  | some (.pointer e) => some (some e)
  | some _ => some none
  | none => none

/-- May a method value be made of this receiver? -/
def nilOk (t : TypeId) (u : V) (name : String) : Bool := match methodV P t name with
  | some (_, true) => true
  | some (_, false) => match ptrElem P t with
    | some none => true
    | some (some _) => match u with
      | .ptr _ _ _ | .fe _ => true
      | _ => false
    | none => false
  | none => false

def nilCheckV (x : V) : Option V := match x with
  | .ptr _ _ _ | .fe _ => some x
  | .fn (.func _) _ _ => some x
  | .fn (.method name) (r :: _) _ => match r.iface? with
    | some (t, u) => if nilOk P t u name then some x else none
    | none => none
  | _ => match x.iface? with
    | some _ => some x
    | none => none

def recvV (st : St) (t : TypeId) (u : V) (name : String) : Option (FuncId × V × List Nat) :=
  match methodV P t name with
  | some (g, pr) => match ptrElem P t with
    | some none => if pr then none else some (g, u, [])
    | some (some e) => if pr then some (g, u, []) else match loadV P st e u with
      | some (x, R) => some (g, x, R)
      | none => none
    | none => none
  | none => none

def targetV (env : Operand → Option V) (st : St) (c : Call) : Option (FuncId × List V × List Nat) :=
  match envAll env c.args.toList with
  | some args => match c.callee with
    | .value f => match env f with
      | some (.fn (.func g) first caps) => some (g, first ++ args ++ caps, [])
      | some (.fn (.method name) first caps) => match first ++ args with
        | r :: rest => match r.iface? with
          | some (t, u) => match recvV P st t u name with
            | some (g, x, R) => some (g, x :: rest, R)
            | none => none
          | none => none
        | [] => none
      | _ => none
    | .invoke r name => match env r with
      | some rv => match rv.iface? with
        | some (t, u) => match recvV P st t u name with
          | some (g, x, R) => some (g, x :: args, R)
          | none => none
        | none => none
      | none => none
    | .builtin _ => none
  | none => none

def eqV (t : TypeId) (x y : V) : Option Bool := match P.underlying t, x, y with
  | some (.pointer _), .ptr _ _ _, .pv (.sc (.pointer none)) | some (.pointer _), .fe _, .pv (.sc (.pointer none)) => some false
  | some (.pointer _), .pv (.sc (.pointer none)), .ptr _ _ _ | some (.pointer _), .pv (.sc (.pointer none)), .fe _ => some false
  | some (.pointer e), .ptr i r o, .ptr i' r' o' => if i = i' ∧ r = r' ∧ o = o' ∧ (tySize P e).getD 0 ≠ 0 then some true else none
  | some (.slice _), .ow _ _ _ _, .nl | some (.slice _), .nl, .ow _ _ _ _ => some false
  | some (.slice _), .pv (.fz (_ :: _)), .nl | some (.slice _), .nl, .pv (.fz (_ :: _)) => some false
  | some (.interface _), x, .pv (.sc .nilIface) => match x.iface? with
    | some _ => some false
    | none => none
  | some (.func _ _ _), .fn _ _ _, .pv (.sc .nilFunc) | some (.func _ _ _), .pv (.sc .nilFunc), .fn _ _ _ => some false
  | _, _, _ => none

/-- An operation whose operands bear no address: the model's own. -/
def scal (env : Operand → Option V) (o : Oper) : Option Value :=
  if o.op.operands.toList.all (fun x => match env x with
    | some v => v.val?.isSome
    | none => false) then
    match pureRun P (execOp (fun x => match env x with
      | some v => v.val?.getD undef
      | none => undef) o) with
    | some (.value v) => some v
    | _ => none
  else none

def one (st : St) : Option V → Option RV
  | some v => some (v, st, [], [])
  | none => none

def binPlain (env : Operand → Option V) (x y : Operand) : Bool := match env x, env y with
  | some a, some b => a.val?.isSome && b.val?.isSome
  | _, _ => false

/-- Every operation but a call of a Go function. -/
def vop (env : Operand → Option V) (o : Oper) (st : St) : Option RV :=
  match o.op with
  | .move x | .assign x => one st (env x)
  | .pick c a b => match env c with
    | some (.pv (.sc (.bool t))) => match t with
      | true => one st (env a)
      | false => one st (env b)
    | _ => none
  | .alloc t => match zeroV P t with
    | some z => if z.cells.all V.cell1 then some (.ptr st.next 0 0, st.new ⟨z.cells.length, [z.cells]⟩, [], []) else none
    | none => none
  | .box _ x => match env x with
    | some v => if v.cells.all V.cell1 then some (.ptr st.next 0 0, st.new ⟨v.cells.length, [v.cells]⟩, [], []) else none
    | none => none
  | .build t parts => match envParts env parts.toList with
    | some ps => one st (buildV P t ps)
    | none => none
  | .buildSlice t len parts => match envParts env parts.toList with
    | some ps => buildSliceV P st t len ps
    | none => none
  | .load t a => match env a with
    | some x => match loadV P st t x with
      | some (v, R) => some (v, st, R, [])
      | none => none
    | none => none
  | .store t a x => match env a with
    | some p => match env x with
      | some v => match storeV P st t v p with
        | some (st', W) => some (undefV, st', [], W)
        | none => none
      | none => none
    | none => none
  | .nilCheck x => match env x with
    | some v => one st (nilCheckV P v)
    | none => none
  | .binOp op t x y _ => if binPlain env x y then one st ((scal P env o).map ofValue) else
    match env x with
    | some a => match env y with
      | some b => match op with
        | .eql => one st ((eqV P t a b).map fun r => .pv (.sc (.bool r)))
        | .neq => one st ((eqV P t a b).map fun r => .pv (.sc (.bool (!r))))
        | _ => none
      | none => none
    | none => none
  | .unOp _ _ _ | .convert _ _ _ => one st ((scal P env o).map ofValue)
  | .makeInterface t x => match env x with
    | some v => match P.underlying t with
      | some (.interface _) => none
      | some _ => some (mkIfc t v, st, [], [])
      | none => none
    | none => none
  | .makeFunc fn first caps => match envAll env first.toList with
    | some a => match envAll env caps.toList with
      | some c => some (.fn fn a c, st, [], [])
      | none => none
    | none => none
  | .makeSlice t l c => match env l with
    | some (.pv (.sc (.int _ l))) => match env c with
      | some (.pv (.sc (.int _ c))) => makeSliceV P st t l c
      | _ => none
    | _ => none
  | .slice t x lo hi none => match env x with
    | some v => match v with
      | .pv (.sc _) => one st ((scal P env o).map ofValue)
      | _ => one st (sliceV P t v (fun d => boundV env d.toNat lo) (fun d => boundV env d.toNat hi))
    | none => none
  | .fieldAddr s x f => match env x with
    | some v => one st (fieldAddrV P s f v)
    | none => none
  | .field t x f => match env x with
    | some v => one st (fieldV P t f v)
    | none => none
  | .indexAddr t x ix => match env x with
    | some v => match env ix with
      | some (.pv (.sc (.int _ k))) => one st (indexAddrV P t v k)
      | _ => none
    | none => none
  | .index t x ix => match env x with
    | some v => match v with
      | .pv (.sc (.string _)) => one st ((scal P env o).map ofValue)
      | _ => match env ix with
        | some (.pv (.sc (.int _ k))) => one st (indexV P t v k)
        | _ => none
    | none => none
  | .typeAssert x _ asserted commaOk => match env x with
    | some v => match v.iface? with
      | some (t, u) => match P.underlying asserted with
        | some (.interface _) => none
        | some _ => if t = asserted then some (if commaOk then .tup [u, .pv (.sc (.bool true))] else u, st, [], []) else none
        | none => none
      | none => none
    | none => none
  | .extract t k => match env t with
    | some (.tup cs) => one st cs[k]?
    | _ => none
  | .call { callee := .builtin .append, args, argTypes } => match args.toList with
    | [s, x] => match env s with
      | some sv => match env x with
        | some xv => appendV P st argTypes sv xv
        | none => none
      | none => none
    | _ => none
  | .call { callee := .builtin .len, args, argTypes } => match args.toList with
    | [x] => match env x with
      | some v => match v with
        | .pv (.sc _) => one st ((scal P env o).map ofValue)
        | _ => match argTypes[0]? with
          | some t => one st ((lenV P t v).map fun n => .pv (.sc (.int .i64 n)))
          | none => none
      | none => none
    | _ => none
  | .call _ => one st ((scal P env o).map ofValue)
  | _ => none

end

inductive Pol where
  | pure | std | res | keep | orc
  deriving DecidableEq

structure Cfg where
  pol : FuncId → Pol
  orc : FuncId → List PV → Option V

inductive Ex where
  | norm | exit (id : Nat) | ret
  deriving DecidableEq

structure Out where
  ex : Ex
  tm : List V
  st : St
  R : List Nat
  W : List Nat

inductive Task where
  | call (f : FuncId) (args : List V) (st : St)
  | loop (c : Code) (tm : List V) (st : St)

def envOf (tm : List V) : Operand → Option V
  | .tmp t => some (tm.getD t undefV)
  | .const v => some (ofValue v)
  | .global _ => none
  | .func f => some (.fn (.func f) [] [])

section
variable (P : Program) (C : Cfg) (E : Task → Option Out)

def frzAll (st : St) : List V → Option (List PV × List Nat)
  | [] => some ([], [])
  | v :: vs => match frz st 4 v with
    | some (p, ids) => match frzAll st vs with
      | some (ps, ids') => some (p :: ps, ids ++ ids')
      | none => none
    | none => none

/-- What can be frozen is; the rest stays. -/
def frzArgs (st : St) : List V → List V × List Nat
  | [] => ([], [])
  | v :: vs => match frz st 4 v with
    | some (p, ids) => (.pv p :: (frzArgs st vs).1, ids ++ (frzArgs st vs).2)
    | none => (v.norm :: (frzArgs st vs).1, (frzArgs st vs).2)

def St.kills (st : St) : List Nat → St
  | [] => st
  | i :: is => (st.kill i).kills is

/-- A callee that sees no object: its answer. -/
def pcall (g : FuncId) (ps : List PV) : Option V := match E (.call g (ps.map .pv) St.empty) with
  | some o => match o.tm with
    | [v] => match v.isPure with
      | true => some v
      | false => none
    | _ => none
  | none => none

/-- A call of a Go function with a body. -/
def docall (g : FuncId) (args : List V) (st : St) : Option RV :=
  match C.pol g with
  | .pure => match frzAll st args with
    | some (ps, ids) => match pcall E g ps with
      | some v => match ids with
        | [] => some (v, st, [], [])
        | _ :: _ => match v.flat with
          | true => some (v, st, ids, [])
          | false => some (v, st.kills ids, ids, ids)
      | none => none
    | none => none
  | .orc => match frzAll st args with
    | some (ps, ids) => match C.orc g ps with
      | some v => match ids with
        | [] => some (v, st, [], [])
        | _ :: _ => match v.flat with
          | true => some (v, st, ids, [])
          | false => none
      | none => none
    | none => none
  | .std => match frzArgs st args with
    | (as, ids) => match E (.call g as (st.kills ids)) with
      | some o => match o.tm with
        | [v] => some (v, o.st, ids ++ o.R, ids ++ o.W)
        | _ => none
      | none => none
  | .res => match E (.call g args st) with
    | some o => match o.tm with
      | [v] => some (v, o.st, o.R, o.W)
      | _ => none
    | none => none
  | .keep => match E (.call g args st) with
    | some o => match o.tm with
      | [v] => some (v, o.st, o.R, o.W)
      | _ => none
    | none => none

def hasBody (g : FuncId) : Bool := match P.funcs[g]? with
  | some fn => fn.body.isSome && fn.name != "runtime.NumGoroutine"
  | none => false

def vexec (env : Operand → Option V) (o : Oper) (st : St) : Option RV :=
  match o.op with
  | .call c => match c.callee with
    | .builtin _ => vop P env o st
    | _ => match targetV P env st c with
      | some (g, args, R0) => if hasBody P g then
          match docall C E g args st with
          | some (v, st', R, W) => some (v, st', R0 ++ R, W)
          | none => none
        else vop P env o st
      | none => none
  | _ => vop P env o st

structure Ent where
  pre : St
  post : St
  R : List Nat
  W : List Nat
  v : V

def vyield (ops : Array Oper) (tm : List V) (j : Nat) : Option Bool :=
  match ops[j]? with
  | some o => match o.dst with
    | some d => match tm[d]? with
      | some (.pv (.sc (.bool b))) => some b
      | _ => none
    | none => none
  | none => none

def vwanted (ops : Array Oper) (tm : List V) (o : Oper) : Bool :=
  match o.guard with
  | none => true
  | some (j, want) => match vyield ops tm j with
    | some b => b == want
    | none => false

def setTm (tm : List V) : Option Tmp → V → List V
  | some d, v => tm.set d v
  | none, _ => tm

def vops (ops : Array Oper) : List Oper → List V → St → Option (List V × St × List Ent)
  | [], tm, st => some (tm, st, [])
  | o :: os, tm, st => match vwanted ops tm o with
    | true => match vexec P C E (envOf tm) o st with
      | some (v, st', R, W) => match vops ops os (setTm tm o.dst v) st' with
        | some (tm', st'', l) => some (tm', st'', ⟨st, st', R, W, v⟩ :: l)
        | none => none
      | none => none
    | false => match vops ops os (setTm tm o.dst undefV) st with
      | some (tm', st'', l) => some (tm', st'', ⟨st, st, [], [], undefV⟩ :: l)
      | none => none

def ord (ops : Array Oper) (i j : Nat) : Bool := ((Region.before ops).getD j 0).testBit i

def Ent.clash (a b : Ent) : Bool :=
  a.W.any (fun x => b.R.contains x || b.W.contains x) || b.W.any (fun x => a.R.contains x) ||
  (b.R ++ b.W).any (fun x => decide (a.pre.next ≤ x) && decide (x < a.post.next))

/-- It writes, or makes. -/
def Ent.wr (e : Ent) : Bool := !e.W.isEmpty || decide (e.pre.next ≠ e.post.next)

/-- Nothing that two operations do in no order clashes. -/
def dynFrom (ops : Array Oper) (e : Ent) (i : Nat) : List Ent → Nat → Bool
  | [], _ => true
  | e' :: l, j => ((!e.wr && !e'.wr) || ord ops i j || !e.clash e') && dynFrom ops e i l (j + 1)
def dynOk (ops : Array Oper) : List Ent → Nat → Bool
  | [], _ => true
  | e :: l, i => dynFrom ops e i l (i + 1) && dynOk ops l (i + 1)

def statFrom (ops : Array Oper) (o : Oper) (i : Nat) : List Oper → Nat → Bool
  | [], _ => true
  | o' :: l, j => (ord ops i j || o.apart ops o') && statFrom ops o i l (j + 1)
def statOk (ops : Array Oper) : List Oper → Nat → Bool
  | [], _ => true
  | o :: l, i => (o.after.toList.all fun e => !Region.binds .any e || decide (e.on < i)) && statFrom ops o i l (i + 1) && statOk ops l (i + 1)

/-- The temporaries of regions that draw their order. -/
def codeStat : Code → Bool
  | .seq a b | .cond _ a b => codeStat a && codeStat b
  | .block _ c | .loop c | .scope c => codeStat c
  | .region _ ops true => statOk ops ops.toList 0
  | _ => true

def progStat (P : Program) : Bool := P.funcs.toList.all fun fn => match fn.body with
  | some c => codeStat c
  | none => true

def entR (l : List Ent) : List Nat := l.flatMap (·.R)
def entW (l : List Ent) : List Nat := l.flatMap (·.W)

def vcode : Code → List V → St → Option Out
  | .skip, tm, st | .label _, tm, st => some ⟨.norm, tm, st, [], []⟩
  | .seq a b, tm, st => match vcode a tm st with
    | some o => match o.ex with
      | .norm => match vcode b o.tm o.st with
        | some o' => some ⟨o'.ex, o'.tm, o'.st, o.R ++ o'.R, o.W ++ o'.W⟩
        | none => none
      | _ => some o
    | none => none
  | .cond c a b, tm, st => match envOf tm c with
    | some (.pv (.sc (.bool t))) => match t with
      | true => vcode a tm st
      | false => vcode b tm st
    | _ => none
  | .block id c, tm, st => match vcode c tm st with
    | some o => some ⟨if o.ex = .exit id then .norm else o.ex, o.tm, o.st, o.R, o.W⟩
    | none => none
  | .loop c, tm, st => E (.loop c tm st)
  | .scope c, tm, st => vcode c tm st
  | .exit id, tm, st => some ⟨.exit id, tm, st, [], []⟩
  | .ret, tm, st => some ⟨.ret, tm, st, [], []⟩
  | .region _ ops draw, tm, st => match vops P C E ops ops.toList tm st with
    | some (tm', st', l) => if (!draw || dynOk ops l 0) = true then some ⟨.norm, tm', st', entR l, entW l⟩ else none
    | none => none
  | _, _, _ => none

def resV (st : St) (tm : List V) : List ResultVar → Option (List V × List Nat)
  | [] => some ([], [])
  | .tmp t :: rs => match resV st tm rs with
    | some (vs, R) => some (tm.getD t undefV :: vs, R)
    | none => none
  | .cell a t :: rs => match loadV P st t (tm.getD a undefV) with
    | some (x, R0) => match resV st tm rs with
      | some (vs, R) => some (x :: vs, R0 ++ R)
      | none => none
    | none => none

def resOne : List V → V
  | [v] => v
  | vs => .tup vs

def frzRes (st : St) : V → Option (V × List Nat)
  | .tup vs => match frzAll st vs with
    | some (ps, ids) => some (.tup (ps.map .pv), ids)
    | none => none
  | v => match frz st 4 v with
    | some (p, ids) => some (.pv p, ids)
    | none => none

def finish (f : FuncId) (st st' : St) (v : V) (R W : List Nat) : Option Out :=
  match C.pol f with
  | .keep => some ⟨.ret, [v], st', R.filter (· < st.next), W.filter (· < st.next)⟩
  | _ => match frzRes st' v with
    | some (v', ids) => some ⟨.ret, [v'], st'.kills ids, (R ++ ids).filter (· < st.next), (W ++ ids).filter (· < st.next)⟩
    | none => match C.pol f with
      | .std | .res => some ⟨.ret, [v.norm], st', R.filter (· < st.next), W.filter (· < st.next)⟩
      | _ => none

def call1 (f : FuncId) (args : List V) (st : St) : Option Out :=
  match P.funcs[f]? with
  | some fn => match fn.body with
    | some c => match vcode P C E c (args ++ List.replicate (fn.ntmps - args.length) undefV) st with
      | some o => match o.ex with
        | .exit _ => none
        | _ => match resV P o.st o.tm fn.results.toList with
          | some (vs, R) => finish C f st o.st (resOne vs) (o.R ++ R) o.W
          | none => none
      | none => none
    | none => none
  | none => none

def stepE : Task → Option Out
  | .call f args st => call1 P C E f args st
  | .loop c tm st => match vcode P C E c tm st with
    | some o => match o.ex with
      | .norm => match E (.loop c o.tm o.st) with
        | some o' => some ⟨o'.ex, o'.tm, o'.st, o.R ++ o'.R, o.W ++ o'.W⟩
        | none => none
      | _ => some o
    | none => none

end

def evN (P : Program) (C : Cfg) : Nat → Task → Option Out
  | 0, _ => none
  | n + 1, t => stepE P C (evN P C n) t

end Go.Proofs.Ytnolgpagdjcjbaa.Ve
/-! The evaluator's data operations, as the model sees them. -/
set_option linter.unusedVariables false
set_option linter.unusedSimpArgs false
namespace Go.Proofs.Ytnolgpagdjcjbaa.Ve
open Go

section
variable {ρ ρ' : Ren} {F F' : Nat → Prop} {w w' : World}

mutual
theorem PRel.val : ∀ (p : PV) (v u : Value), PRel F w p v → p.val? = some u → v = u
  | .sc x, v, u, h, hu => by simp only [PRel] at h; simp only [PV.val?, Option.some.injEq] at hu; exact h.trans hu
  | .fz _, v, u, h, hu => by simp [PV.val?] at hu
  | .agg cs, v, u, h, hu => by
    simp only [PRel] at h
    obtain ⟨l, rfl, hl⟩ := h
    simp only [PV.val?] at hu
    split at hu
    · rename_i l' hl'
      have := PList.val cs l.toList l' hl hl'
      simp only [Option.some.injEq] at hu
      subst hu
      rw [← this]
    · simp at hu
  | .ifc t p, v, u, h, hu => by
    simp only [PRel] at h
    obtain ⟨x, rfl, hx⟩ := h
    simp only [PV.val?] at hu
    split at hu
    · rename_i y hy
      have := PRel.val p x y hx hy
      simp only [Option.some.injEq] at hu
      rw [← hu, this]
    · simp at hu
theorem PList.val : ∀ (ps : List PV) (l m : List Value), PList F w ps l → PV.vals? ps = some m → l = m
  | [], l, m, h, hm => by simp only [PList] at h; simp only [PV.vals?, Option.some.injEq] at hm; rw [h, hm]
  | p :: ps, l, m, h, hm => by
    simp only [PList] at h
    obtain ⟨v, vs, rfl, hv, hvs⟩ := h
    simp only [PV.vals?] at hm
    split at hm
    · rename_i y hy
      split at hm
      · rename_i ys hys
        simp only [Option.some.injEq] at hm
        rw [← hm, PRel.val p v y hv hy, PList.val ps vs ys hvs hys]
      · simp at hm
    · simp at hm
end

mutual
theorem VRel.val : ∀ (x : V) (v u : Value), VRel ρ F w x v → x.val? = some u → v = u
  | .pv p, v, u, h, hu => by simp only [VRel] at h; simp only [V.val?] at hu; exact PRel.val p v u h hu
  | .nl, v, u, h, hu => by simp only [VRel] at h; simp only [V.val?, Option.some.injEq] at hu; exact h.trans hu
  | .agg cs, v, u, h, hu => by
    simp only [VRel] at h
    obtain ⟨l, rfl, hl⟩ := h
    simp only [V.val?] at hu
    split at hu
    · rename_i l' hl'
      have := VList.val cs l.toList l' hl hl'
      simp only [Option.some.injEq] at hu
      subst hu
      rw [← this]
    · simp at hu
  | .tup cs, v, u, h, hu => by
    simp only [VRel] at h
    obtain ⟨l, rfl, hl⟩ := h
    simp only [V.val?] at hu
    split at hu
    · rename_i l' hl'
      have := VList.val cs l.toList l' hl hl'
      simp only [Option.some.injEq] at hu
      subst hu
      rw [← this]
    · simp at hu
  | .ifc t p, v, u, h, hu => by
    simp only [VRel] at h
    obtain ⟨x, rfl, hx⟩ := h
    simp only [V.val?] at hu
    split at hu
    · rename_i y hy
      have := VRel.val p x y hx hy
      simp only [Option.some.injEq] at hu
      rw [← hu, this]
    · simp at hu
  | .fn f a c, v, u, h, hu => by
    simp only [VRel] at h
    obtain ⟨a', c', rfl, ha, hc⟩ := h
    simp only [V.val?] at hu
    split at hu
    · rename_i x hx
      split at hu
      · rename_i y hy
        have h1 := VList.val a a'.toList x ha hx
        have h2 := VList.val c c'.toList y hc hy
        simp only [Option.some.injEq] at hu
        subst hu
        rw [← h1, ← h2]
      · simp at hu
    · simp at hu
  | .ptr _ _ _, v, u, h, hu => by simp [V.val?] at hu
  | .fe _, v, u, h, hu => by simp [V.val?] at hu
  | .ow _ _ _ _, v, u, h, hu => by simp [V.val?] at hu
theorem VList.val : ∀ (ps : List V) (l m : List Value), VList ρ F w ps l → V.vals? ps = some m → l = m
  | [], l, m, h, hm => by simp only [VList] at h; simp only [V.vals?, Option.some.injEq] at hm; rw [h, hm]
  | p :: ps, l, m, h, hm => by
    simp only [VList] at h
    obtain ⟨v, vs, rfl, hv, hvs⟩ := h
    simp only [V.vals?] at hm
    split at hm
    · rename_i y hy
      split at hm
      · rename_i ys hys
        simp only [Option.some.injEq] at hm
        rw [← hm, VRel.val p v y hv hy, VList.val ps vs ys hvs hys]
      · simp at hm
    · simp at hm
end

theorem rel_ofCell (x : Value) : VRel ρ F w (ofCell x) x := by
  unfold ofCell
  split <;> simp [VRel, PRel]

theorem rel_ofCells : ∀ (l : List Value), VList ρ F w (l.map ofCell) l
  | [] => by simp [VList]
  | x :: l => by simp only [List.map_cons, VList]; exact ⟨x, l, rfl, rel_ofCell x, rel_ofCells l⟩

theorem allPv_eq : ∀ (cs : List V) ps, allPv cs = some ps → cs = ps.map .pv
  | [], ps, h => by simp only [allPv, Option.some.injEq] at h; simp [← h]
  | .pv p :: r, ps, h => by
    simp only [allPv] at h
    split at h
    · rename_i qs hqs
      simp only [Option.some.injEq] at h
      rw [← h, allPv_eq r qs hqs]; rfl
    · simp at h
  | .ptr _ _ _ :: _, ps, h | .fe _ :: _, ps, h | .ow _ _ _ _ :: _, ps, h | .nl :: _, ps, h | .agg _ :: _, ps, h | .tup _ :: _, ps, h | .ifc _ _ :: _, ps, h | .fn _ _ _ :: _, ps, h => by simp [allPv] at h

theorem rel_mkAgg {cs : List V} {l : Array Value} (h : VList ρ F w cs l.toList) : VRel ρ F w (mkAgg cs) (.agg l) := by
  unfold mkAgg
  split
  · rename_i ps hps
    have := allPv_eq _ _ hps
    subst this
    simp only [VRel, PRel]
    exact ⟨l, rfl, PList.of_VList h⟩
  · simp only [VRel]
    exact ⟨l, rfl, h⟩

theorem rel_mkIfc {t : TypeId} {x : V} {v : Value} (h : VRel ρ F w x v) : VRel ρ F w (mkIfc t x) (.iface t v) := by
  cases x <;> first
    | (simp only [mkIfc, VRel, PRel] at h ⊢; exact ⟨v, rfl, h⟩)
    | (simp only [mkIfc]; unfold VRel; exact ⟨v, rfl, h⟩)

theorem rel_ofVal1 (x : Value) : VRel ρ F w (ofVal1 x) x := by
  unfold ofVal1
  split
  · exact rel_mkAgg (rel_ofCells _)
  · exact rel_ofCell x

theorem rel_ofVals1 : ∀ (l : List Value), VList ρ F w (l.map ofVal1) l
  | [] => by simp [VList]
  | x :: l => by simp only [List.map_cons, VList]; exact ⟨x, l, rfl, rel_ofVal1 x, rel_ofVals1 l⟩

theorem rel_ofValue (x : Value) : VRel ρ F w (ofValue x) x := by
  unfold ofValue
  split
  · rename_i vs
    simp only [VRel]
    exact ⟨vs, rfl, rel_ofVals1 _⟩
  · exact rel_ofVal1 x

theorem rel_undef : VRel ρ F w undefV undef := by simp [undefV, VRel, PRel]

theorem rel_cells {x : V} {v : Value} (h : VRel ρ F w x v) : VList ρ F w x.cells v.cells.toList := by
  have one : ∀ (y : V) (u : Value), VRel ρ F w y u → (∀ a, u ≠ .agg a) → VList ρ F w [y] u.cells.toList := by
    intro y u hy hu
    have : u.cells = #[u] := by cases u <;> first | rfl | exact absurd rfl (hu _)
    rw [this]
    simp only [VList]
    exact ⟨u, [], rfl, hy, rfl⟩
  cases x with
  | pv p =>
    cases p with
    | sc y =>
      simp only [VRel, PRel] at h
      subst h
      cases v with
      | agg a => exact rel_ofCells _
      | _ => exact one _ _ (by simp [VRel, PRel]) (by simp)
    | fz rows =>
      have h' := h
      simp only [VRel, PRel] at h
      obtain ⟨a, cap, rfl, -⟩ := h
      exact one _ _ h' (by simp)
    | agg ps =>
      simp only [VRel, PRel] at h
      obtain ⟨l, rfl, hl⟩ := h
      exact VList.of_PList hl
    | ifc t p =>
      have h' := h
      simp only [VRel, PRel] at h
      obtain ⟨u, rfl, -⟩ := h
      exact one _ _ h' (by simp)
  | ptr i r off =>
    have h' := h
    simp only [VRel] at h
    obtain ⟨B, o, s, -, rfl⟩ := h
    exact one _ _ h' (by simp)
  | fe cs =>
    have h' := h
    simp only [VRel] at h
    obtain ⟨B, o, -, rfl, -⟩ := h
    exact one _ _ h' (by simp)
  | ow i s r len =>
    have h' := h
    simp only [VRel] at h
    obtain ⟨B, o, a, cap, -, rfl, -, -⟩ := h
    exact one _ _ h' (by simp)
  | nl =>
    have h' := h
    simp only [VRel] at h
    subst h
    exact one _ _ h' (by simp)
  | agg cs =>
    simp only [VRel] at h
    obtain ⟨l, rfl, hl⟩ := h
    exact hl
  | tup cs =>
    have h' := h
    simp only [VRel] at h
    obtain ⟨l, rfl, -⟩ := h
    exact one _ _ h' (by simp)
  | ifc t y =>
    have h' := h
    simp only [VRel] at h
    obtain ⟨u, rfl, -⟩ := h
    exact one _ _ h' (by simp)
  | fn f a c =>
    have h' := h
    simp only [VRel] at h
    obtain ⟨a', c', rfl, -⟩ := h
    exact one _ _ h' (by simp)

theorem rel_cell1 {x : V} {v : Value} (h : VRel ρ F w x v) (h1 : x.cell1 = true) : v.oneCell' = true := by
  cases x with
  | pv p =>
    cases p <;> simp only [VRel, PRel] at h
    · subst h; simpa [V.cell1] using h1
    · obtain ⟨a, cap, rfl, -⟩ := h; rfl
    · simp [V.cell1] at h1
    · obtain ⟨u, rfl, -⟩ := h; rfl
  | ptr i r off => simp only [VRel] at h; obtain ⟨B, o, s, -, rfl⟩ := h; rfl
  | fe cs => simp only [VRel] at h; obtain ⟨B, o, -, rfl, -⟩ := h; rfl
  | ow i s r len => simp only [VRel] at h; obtain ⟨B, o, a, cap, -, rfl, -, -⟩ := h; rfl
  | nl => simp only [VRel] at h; subst h; rfl
  | agg cs => simp [V.cell1] at h1
  | tup cs => simp [V.cell1] at h1
  | ifc t y => simp only [VRel] at h; obtain ⟨u, rfl, -⟩ := h; rfl
  | fn f a c => simp only [VRel] at h; obtain ⟨a', c', rfl, -⟩ := h; rfl

theorem rel_iface {x : V} {v : Value} {t : TypeId} {u : V} (h : VRel ρ F w x v) (hi : x.iface? = some (t, u)) : ∃ y, v = .iface t y ∧ VRel ρ F w u y := by
  cases x with
  | pv p =>
    cases p with
    | sc y =>
      simp only [VRel, PRel] at h
      subst h
      cases v <;> simp [V.iface?] at hi
      obtain ⟨rfl, rfl⟩ := hi
      exact ⟨_, rfl, rel_ofVal1 _⟩
    | ifc t' p =>
      simp only [VRel, PRel] at h
      obtain ⟨y, rfl, hy⟩ := h
      simp [V.iface?] at hi
      obtain ⟨rfl, rfl⟩ := hi
      exact ⟨y, rfl, by simpa [VRel] using hy⟩
    | _ => simp [V.iface?] at hi
  | ifc t' y =>
    simp only [VRel] at h
    obtain ⟨u', rfl, hu⟩ := h
    simp [V.iface?] at hi
    obtain ⟨rfl, rfl⟩ := hi
    exact ⟨u', rfl, hu⟩
  | _ => simp [V.iface?] at hi

theorem isAgg_agg {x : V} {v : Value} (h : VRel ρ F w x v) (ha : x.isAgg = true) : ∃ a, v = .agg a := by
  cases x with
  | pv p =>
    cases p with
    | sc y => simp only [VRel, PRel] at h; subst h; cases v <;> simp [V.isAgg] at ha; exact ⟨_, rfl⟩
    | agg ps => simp only [VRel, PRel] at h; obtain ⟨l, rfl, -⟩ := h; exact ⟨l, rfl⟩
    | _ => simp [V.isAgg] at ha
  | agg cs => simp only [VRel] at h; obtain ⟨l, rfl, -⟩ := h; exact ⟨l, rfl⟩
  | _ => simp [V.isAgg] at ha

mutual
theorem rel_norm : ∀ (x : V) (v : Value), VRel ρ F w x v → VRel ρ F w x.norm v
  | .nl, v, h => by
    simp only [VRel] at h
    subst h
    simp only [V.norm, VRel, PRel]
    exact ⟨none, 0, rfl, by simp, .inl trivial⟩
  | .agg cs, v, h => by
    simp only [VRel] at h
    obtain ⟨l, rfl, hl⟩ := h
    simp only [V.norm]
    exact rel_mkAgg (rel_norms cs _ hl)
  | .ifc t x, v, h => by
    simp only [VRel] at h
    obtain ⟨u, rfl, hu⟩ := h
    simp only [V.norm]
    exact rel_mkIfc (rel_norm x u hu)
  | .tup cs, v, h => by
    simp only [VRel] at h
    obtain ⟨l, rfl, hl⟩ := h
    simp only [V.norm, VRel]
    exact ⟨l, rfl, rel_norms cs _ hl⟩
  | .pv p, v, h => by simpa [V.norm] using h
  | .ptr _ _ _, v, h => by simpa [V.norm] using h
  | .fe _, v, h => by simpa [V.norm] using h
  | .ow _ _ _ _, v, h => by simpa [V.norm] using h
  | .fn _ _ _, v, h => by simpa [V.norm] using h
theorem rel_norms : ∀ (xs : List V) (l : List Value), VList ρ F w xs l → VList ρ F w (V.norm.V.norms xs) l
  | [], l, h => by simpa [V.norm.V.norms] using h
  | x :: xs, l, h => by
    simp only [VList] at h
    obtain ⟨v, vs, rfl, hv, hvs⟩ := h
    simp only [V.norm.V.norms, VList]
    exact ⟨v, vs, rfl, rel_norm x v hv, rel_norms xs vs hvs⟩
end

theorem rel_map_norm : ∀ {xs : List V} {l : List Value}, VList ρ F w xs l → VList ρ F w (xs.map V.norm) l
  | [], l, h => by simpa using h
  | x :: xs, l, h => by
    simp only [VList] at h
    obtain ⟨v, vs, rfl, hv, hvs⟩ := h
    simp only [List.map_cons, VList]
    exact ⟨v, vs, rfl, rel_norm x v hv, rel_map_norm hvs⟩

mutual
theorem PRel.flat : ∀ (p : PV) (v : Value), p.flat = true → PRel F w p v → PRel F' w' p v
  | .sc x, v, _, h => by simpa [PRel] using h
  | .fz _, v, hf, h => by simp [PV.flat] at hf
  | .agg cs, v, hf, h => by
    simp only [PRel] at h ⊢
    obtain ⟨l, hv, hl⟩ := h
    exact ⟨l, hv, PList.flat cs _ (by simpa [PV.flat] using hf) hl⟩
  | .ifc t p, v, hf, h => by
    simp only [PRel] at h ⊢
    obtain ⟨u, hv, hu⟩ := h
    exact ⟨u, hv, PRel.flat p _ (by simpa [PV.flat] using hf) hu⟩
theorem PList.flat : ∀ (ps : List PV) (l : List Value), PV.flats ps = true → PList F w ps l → PList F' w' ps l
  | [], l, _, h => by simpa [PList] using h
  | p :: ps, l, hf, h => by
    simp only [PV.flats, Bool.and_eq_true] at hf
    simp only [PList] at h ⊢
    obtain ⟨v, vs, hl, hv, hvs⟩ := h
    exact ⟨v, vs, hl, PRel.flat p v hf.1 hv, PList.flat ps vs hf.2 hvs⟩
end

theorem VRel.flat {x : V} {v : Value} (hf : x.flat = true) (h : VRel ρ F w x v) : VRel ρ' F' w' x v := by
  cases x with
  | pv p => simp only [VRel] at h ⊢; exact PRel.flat p v (by simpa [V.flat] using hf) h
  | tup cs =>
    simp only [VRel] at h ⊢
    obtain ⟨l, hv, hl⟩ := h
    refine ⟨l, hv, ?_⟩
    simp only [V.flat] at hf
    generalize l.toList = m at hl
    clear hv l
    induction cs generalizing m with
    | nil => simpa [VList] using hl
    | cons y ys ih =>
      simp only [VList] at hl ⊢
      obtain ⟨u, us, rfl, hu, hus⟩ := hl
      cases y with
      | pv p =>
        simp only [V.flat.flats, Bool.and_eq_true] at hf
        refine ⟨u, us, rfl, ?_, ih hf.2 us hus⟩
        simp only [VRel] at hu ⊢
        exact PRel.flat p u hf.1 hu
      | _ => simp [V.flat.flats] at hf
  | _ => simp [V.flat] at hf

end

theorem run_pureRun (P : Program) {α : Type} : ∀ (s : Sem α) (x : α), pureRun P s = some x → ∀ w, s.run P w = .ok x w
  | .pure a, x, h, w => by simp only [pureRun, Option.some.injEq] at h; subst h; rfl
  | .program k, x, h, w => by simp only [pureRun] at h; simpa [Sem.run] using run_pureRun P (k P) x h w
  | .mark m k, x, h, w => by simp only [pureRun] at h; simpa [Sem.run] using run_pureRun P k x h w
  | .load .., x, h, w | .store .., x, h, w | .new .., x, h, w | .shape .., x, h, w | .freeze .., x, h, w | .frozen .., x, h, w | .getObj .., x, h, w | .setObj .., x, h, w | .choose .., x, h, w | .sys .., x, h, w | .halt .., x, h, w => by simp [pureRun] at h

end Go.Proofs.Ytnolgpagdjcjbaa.Ve
/-! Loads, stores and new objects in a world. -/
set_option linter.unusedVariables false
set_option linter.unusedSimpArgs false
namespace Go.Proofs.Ytnolgpagdjcjbaa.Ve
open Go

section
variable {P : Program} {ρ ρ' : Ren} {F F' : Nat → Prop} {w w' : World}

theorem run_isAgg {t : TypeId} {b : Bool} (h : tyAgg P t = some b) (w : World) : (isAgg t).run P w = .ok b w := by
  unfold tyAgg at h
  unfold isAgg
  rw [Sem.run_bind]
  cases hu : P.underlying t with
  | none => simp [hu] at h
  | some d =>
    rw [run_underlying hu w]
    rw [hu] at h
    cases d <;> simp_all

theorem run_sizeOf {t : TypeId} {n : Nat} (h : tySize P t = some n) (w : World) : (sizeOf t).run P w = .ok n w := by
  unfold tySize at h
  unfold sizeOf typeInfo
  cases hq : P.info? t with
  | none => simp [hq] at h
  | some i => simp [hq] at h; simp [hq, h]

theorem run_typeInfo {t : TypeId} {i : TypeInfo} (h : P.info? t = some i) (w : World) : (typeInfo t).run P w = .ok i w := by
  unfold typeInfo
  simp [h]

theorem run_zeroValue {t : TypeId} {z : V} (h : zeroV P t = some z) : ∃ i x, P.info? t = some i ∧ i.zero = some x ∧ z = ofValue x ∧ ∀ w, (zeroValue t).run P w = .ok x w := by
  unfold zeroV at h
  cases hq : P.info? t with
  | none => simp [hq] at h
  | some i =>
    simp only [hq] at h
    cases hz : i.zero with
    | none => simp [hz] at h
    | some x =>
      simp only [hz, Option.some.injEq] at h
      refine ⟨i, x, rfl, hz, h.symm, fun w => ?_⟩
      unfold zeroValue
      rw [Sem.run_bind, run_typeInfo hq w]
      simp [hz]

theorem part_mem {t : TypeId} {cs : List V} {off : Nat} {v : V} (h : partV P t cs off = some v) (B o : Nat)
    (hc : ∀ (k : Nat) x, cs[k]? = some x → ∃ y, w.cell? ⟨B, o + k, none⟩ = some y ∧ VRel ρ F w x y) :
    ∃ y, (loadVar t ⟨B, o + off, none⟩).run P w = .ok y w ∧ VRel ρ F w v y := by
  unfold partV at h
  split at h
  · rename_i hagg
    split at h
    · rename_i n hn
      split at h
      · rename_i hle
        simp only [Option.some.injEq] at h
        subst h
        have hlen : ((cs.drop off).take n).length = n := by simp; omega
        have ex : ∃ l : List Value, l.length = n ∧ VList ρ F w ((cs.drop off).take n) l ∧ ∀ (j : Nat) y, l[j]? = some y → w.cell? ⟨B, o + off + j, none⟩ = some y := by
          clear hn
          have gen : ∀ (xs : List V) (q : Nat), (∀ (k : Nat) x, xs[k]? = some x → ∃ y, w.cell? ⟨B, q + k, none⟩ = some y ∧ VRel ρ F w x y) → ∃ l : List Value, l.length = xs.length ∧ VList ρ F w xs l ∧ ∀ (j : Nat) y, l[j]? = some y → w.cell? ⟨B, q + j, none⟩ = some y := by
            intro xs
            induction xs with
            | nil => intro q _; exact ⟨[], rfl, by simp [VList], by simp⟩
            | cons x xs ih =>
              intro q hq
              obtain ⟨y, hy, hr⟩ := hq 0 x rfl
              obtain ⟨l, hl, hv, hcell⟩ := ih (q + 1) (fun k x hk => by
                have := hq (k + 1) x (by simpa using hk)
                rwa [show q + (k + 1) = q + 1 + k by omega] at this)
              refine ⟨y :: l, by simp [hl], ?_, ?_⟩
              · simp only [VList]; exact ⟨y, l, rfl, hr, hv⟩
              · intro j z hz
                cases j with
                | zero => simp at hz; subst hz; simpa using hy
                | succ j =>
                  rw [show q + (j + 1) = q + 1 + j by omega]
                  exact hcell j z (by simpa using hz)
          obtain ⟨l, h1, h2, h3⟩ := gen ((cs.drop off).take n) (o + off) (fun k x hk => by
            rw [List.getElem?_take] at hk
            split at hk
            · rw [List.getElem?_drop] at hk
              have := hc (off + k) x hk
              rwa [show o + (off + k) = o + off + k by omega] at this
            · simp at hk)
          exact ⟨l, by rw [h1, hlen], h2, h3⟩
        obtain ⟨l, h1, h2, h3⟩ := ex
        refine ⟨.agg l.toArray, ?_, rel_mkAgg (by simpa using h2)⟩
        have hl := run_loadCells_list (P := P) w ⟨B, o + off, none⟩ l (fun j v hv => by rw [Addr.add_mid]; exact h3 j v hv)
        unfold loadVar
        rw [Sem.run_bind, run_isAgg hagg w]
        simp only [Result.andThen_ok, if_true, Sem.run_bind, run_sizeOf hn w]
        rw [← h1, hl]
        simp
      · simp at h
    · simp at h
  · rename_i hagg
    obtain ⟨y, hy, hr⟩ := hc off v h
    refine ⟨y, ?_, hr⟩
    unfold loadVar
    rw [Sem.run_bind, run_isAgg hagg w]
    simp [hy, run_load]
  · simp at h

theorem part_val {t : TypeId} {cs : List V} {off : Nat} {v : V} (h : partV P t cs off = some v) {a : Array Value} (hc : VList ρ F w cs a.toList) :
    ∃ y, (∀ w₁, (part t a off).run P w₁ = .ok y w₁) ∧ VRel ρ F w v y := by
  unfold partV at h
  split at h
  · rename_i hagg
    split at h
    · rename_i n hn
      split at h
      · rename_i hle
        simp only [Option.some.injEq] at h
        subst h
        refine ⟨.agg (a.extract off (off + n)), fun w₁ => ?_, rel_mkAgg ?_⟩
        · unfold part
          rw [Sem.run_bind, run_isAgg hagg w₁]
          simp [Sem.run_bind, run_sizeOf hn w₁]
        · have e : (a.extract off (off + n)).toList = (a.toList.drop off).take n := by
            rw [Array.toList_extract, List.extract_eq_take_drop]
            congr 1
            omega
          rw [e]
          exact (hc.drop off).take n
      · simp at h
    · simp at h
  · rename_i hagg
    obtain ⟨y, hy, hr⟩ := hc.get off v h
    refine ⟨y, fun w₁ => ?_, hr⟩
    unfold part
    rw [Sem.run_bind, run_isAgg hagg w₁]
    have : a[off]? = some y := by simpa using hy
    simp [this]
  · simp at h

theorem obj_cells {i : Nat} {so : SO} {r : Nat} {row : List V} (ho : ObjRel ρ F w i so) (hr : so.rows[r]? = some row) {B o s : Nat} (hi : ρ i = some (B, o, s)) :
    s = so.s ∧ ∀ (k : Nat) x, row[k]? = some x → ∃ y, w.cell? ⟨B, o + r * s + k, none⟩ = some y ∧ VRel ρ F w x y := by
  obtain ⟨B', o', c, e, hi', hF, hb, hR⟩ := ho
  rw [hi] at hi'
  simp only [Option.some.injEq, Prod.mk.injEq] at hi'
  obtain ⟨rfl, rfl, rfl⟩ := hi'
  refine ⟨rfl, fun k x hk => ?_⟩
  obtain ⟨-, h2⟩ := hR r row hr
  obtain ⟨y, hy, -, hx⟩ := h2 k x hk
  refine ⟨y, ?_, hx⟩
  simp [World.cell?, hb, hy]

theorem load_sound {st : St} {t : TypeId} {x v : V} {R : List Nat} {vx : Value} (h : loadV P st t x = some (v, R)) (hx : VRel ρ F w x vx)
    (ho : ∀ i ∈ R, ∃ so, st.get i = some so ∧ ObjRel ρ F w i so) : ∃ a y, vx = .pointer (some a) ∧ (loadVar t a).run P w = .ok y w ∧ VRel ρ F w v y := by
  cases x with
  | ptr i r off =>
    simp only [loadV] at h
    cases hg : st.get i with
    | none => simp [hg] at h
    | some so =>
      simp only [hg] at h
      cases hr : so.rows[r]? with
      | none => simp [hr] at h
      | some row =>
        simp only [hr] at h
        cases hp : partV P t row off with
        | none => simp [hp] at h
        | some z =>
          simp only [hp, Option.some.injEq, Prod.mk.injEq] at h
          obtain ⟨rfl, rfl⟩ := h
          obtain ⟨so', hg', hobj⟩ := ho i (by simp)
          rw [hg] at hg'
          cases hg'
          simp only [VRel] at hx
          obtain ⟨B, o, s, hi, rfl⟩ := hx
          obtain ⟨-, hc⟩ := obj_cells hobj hr hi
          obtain ⟨y, hy, hv⟩ := part_mem hp B (o + r * s) hc
          exact ⟨_, y, rfl, hy, hv⟩
  | fe cs =>
    simp only [loadV] at h
    cases hp : partV P t (cs.map .pv) 0 with
    | none => simp [hp] at h
    | some z =>
      simp only [hp, Option.some.injEq, Prod.mk.injEq] at h
      obtain ⟨rfl, rfl⟩ := h
      simp only [VRel] at hx
      obtain ⟨B, o, hF, rfl, hc⟩ := hx
      obtain ⟨y, hy, hv⟩ := part_mem (ρ := ρ) (F := F) (w := w) hp B o (fun k x hk => by
        rw [List.getElem?_map] at hk
        cases hq : cs[k]? with
        | none => simp [hq] at hk
        | some p =>
          simp only [hq, Option.map_some, Option.some.injEq] at hk
          subst hk
          obtain ⟨y, hy, -, hr⟩ := hc.get k p hq
          exact ⟨y, hy, by simpa [VRel] using hr⟩)
      exact ⟨_, y, rfl, by simpa using hy, hv⟩
  | _ => simp [loadV] at h

/-! Posts -/

theorem rle_refl (ρ : Ren) : RLe ρ ρ := fun _ _ h => h

theorem shp_same {w₁ : World} (hh : w₁.heap = w.heap) (ho : Outs w w₁) : Shp w w₁ := ⟨ho, fun B c e f h => ⟨c, by rw [hh]; exact h, rfl⟩⟩
theorem shp_new {w₁ : World} {o : Obj} (hh : w₁.heap = w.heap.push o) (ho : Outs w w₁) : Shp w w₁ := ⟨ho, fun B c e f h => ⟨c, by
  have := (Array.getElem?_eq_some_iff.1 h).1
  rw [hh, Array.getElem?_push, if_neg (by omega)]; exact h, rfl⟩⟩
theorem shp_row {w₁ : World} {B : Nat} {c c' : Array Value} {e : TypeId} {f : Nat × Nat} (hb : w.heap[B]? = some (.cells c e f)) (hb' : w₁.heap[B]? = some (.cells c' e f)) (hs : c'.size = c.size) (ho : ∀ B', B' ≠ B → w₁.heap[B']? = w.heap[B']?) (hout : Outs w w₁) : Shp w w₁ := ⟨hout, fun B' c₁ e₁ f₁ h => by
  by_cases e : B' = B
  · subst e
    rw [hb] at h
    simp only [Option.some.injEq, Obj.cells.injEq] at h
    obtain ⟨rfl, rfl, rfl⟩ := h
    exact ⟨c', hb', hs⟩
  · exact ⟨c₁, by rw [ho B' e]; exact h, rfl⟩⟩

theorem post_same {st : St} {R W : List Nat} {n : Nat} (hp : Pre ρ F w st R W n) (hwf : st.WF) {w₁ : World} (hh : w₁.heap = w.heap) (ho : Outs w w₁) : Post ρ F w st ρ F w₁ st [] where
  rle := rle_refl ρ
  rnew := fun i h => absurd rfl h
  fle := fun _ h => h
  fnew := fun _ h => .inl h
  fok := fun B h => by rw [hh]; exact hp.fok B h
  size := by rw [hh]; exact Nat.le_refl _
  shp := shp_same hh ho
  heap := fun B _ _ => by rw [hh]
  obj := fun i so hi hg => by
    rcases hi with ⟨_, hm⟩ | hi
    · cases hm
    · rw [hwf i hi] at hg; cases hg
  inj := fun i j hi hj gi gj hne => by
    rcases hi with ⟨_, hm⟩ | hi
    · cases hm
    · rw [hwf i hi] at gi; cases gi

theorem fine_same {st : St} (hwf : st.WF) : Fine st st [] := ⟨Nat.le_refl _, fun _ _ _ => rfl, hwf⟩

theorem ext_same {w₁ : World} (hh : w₁.heap = w.heap) (ho : Outs w w₁) : Ext F w F w₁ := ⟨fun _ h => h, fun B _ => by rw [hh], shp_same hh ho⟩

def upd (ρ : Ren) (i : Nat) (x : Nat × Nat × Nat) : Ren := fun j => if j = i then some x else ρ j

theorem upd_same (ρ : Ren) (i : Nat) (x : Nat × Nat × Nat) : upd ρ i x i = some x := by simp [upd]
theorem upd_ne {ρ : Ren} {i j : Nat} {x : Nat × Nat × Nat} (h : j ≠ i) : upd ρ i x j = ρ j := by simp [upd, h]
theorem rle_upd {ρ : Ren} {i : Nat} {x : Nat × Nat × Nat} (h : ρ i = none) : RLe ρ (upd ρ i x) := by
  intro j y hj
  by_cases e : j = i
  · subst e; rw [h] at hj; cases hj
  · rw [upd_ne e]; exact hj

theorem ext_new {w₁ : World} {o : Obj} (hf : ∀ B, F B → B < w.heap.size) (hh : w₁.heap = w.heap.push o) (ho : Outs w w₁) : Ext F w F w₁ :=
  ⟨fun _ h => h, fun B hB => by rw [hh, Array.getElem?_push]; have := hf B hB; rw [if_neg (by omega)], shp_new hh ho⟩

theorem fine_new {st : St} (hwf : st.WF) (so : SO) : Fine st (st.new so) [] where
  next := Nat.le_succ _
  same := fun i hi _ => by simp [St.new]; intro h; omega
  wf := fun i hi => by
    have hi' : st.next + 1 ≤ i := hi
    have : i ≠ st.next := by omega
    simp [St.new, this]
    exact hwf i (by omega)

/-- A new object: its cells are said in the old world. -/
theorem post_new {st : St} {R W : List Nat} {n : Nat} (hp : Pre ρ F w st R W n) (hn : st.next < n) (hwf : st.WF) {w₁ : World} {c : Array Value} {e : TypeId} {so : SO}
    (hh : w₁.heap = w.heap.push (.cells c e (0, 0))) (ho : Outs w w₁) (hR : ORows ρ F w c so.s 0 so.rows) :
    Post ρ F w st (upd ρ st.next (w.heap.size, 0, so.s)) F w₁ (st.new so) [] := by
  have hfr : ρ st.next = none := hp.fresh _ (Nat.le_refl _) hn
  have hr := rle_upd (x := (w.heap.size, 0, so.s)) hfr
  have he : Ext F w F w₁ := ext_new hp.fok hh ho
  refine ⟨hr, fun i hi => ?_, fun _ h => h, fun _ h => .inl h, fun B h => ?_, ?_, shp_new hh ho, fun B hB _ => ?_, fun i so' hi hg => ?_, fun i j hi hj gi gj hne => ?_⟩
  · by_cases e : i = st.next
    · subst e; exact ⟨Nat.le_refl _, Nat.lt_succ_self _⟩
    · rw [upd_ne e] at hi; exact absurd rfl hi
  · rw [hh]; have := hp.fok B h; simp; omega
  · rw [hh]; simp
  · rw [hh, Array.getElem?_push, if_neg (by omega)]
  · have hi : st.next ≤ i := by
      rcases hi with ⟨_, hm⟩ | hi
      · cases hm
      · exact hi
    have : i = st.next := by
      by_cases e : i = st.next
      · exact e
      · simp only [St.new, e, if_false] at hg
        rw [hwf i hi] at hg; cases hg
    subst this
    simp only [St.new, if_true, Option.some.injEq] at hg
    subst hg
    refine ⟨⟨w.heap.size, 0, c, e, upd_same _ _ _, fun h => Nat.lt_irrefl _ (hp.fok _ h), by rw [hh]; simp, fun r row hrow => ?_⟩, fun B hB => ?_⟩
    · obtain ⟨h1, h2⟩ := hR r row hrow
      refine ⟨h1, fun k x hx => ?_⟩
      obtain ⟨v, hv, h1, hx⟩ := h2 k x hx
      exact ⟨v, hv, h1, VRel.mono he hr x v hx⟩
    · simp [blk, upd_same] at hB
      exact .inl (by omega)
  · have e1 : i = st.next := by
      by_cases e : i = st.next
      · exact e
      · rcases hi with ⟨_, hm⟩ | hi
        · cases hm
        · simp only [St.new, e, if_false] at gi
          rw [hwf i hi] at gi; cases gi
    have e2 : j = st.next := by
      by_cases e : j = st.next
      · exact e
      · rcases hj with ⟨_, hm⟩ | hj
        · cases hm
        · simp only [St.new, e, if_false] at gj
          rw [hwf j hj] at gj; cases gj
    exact absurd (e1.trans e2.symm) hne

theorem ocells_of {row : List V} {c : List Value} (h : VList ρ F w row c) (h1 : row.all V.cell1 = true) : OCells ρ F w c.toArray 0 row := by
  intro k x hk
  obtain ⟨v, hv, hr⟩ := h.get k x hk
  exact ⟨v, by simpa using hv, rel_cell1 hr (List.all_eq_true.1 h1 x (List.mem_of_getElem? hk)), hr⟩

theorem orows_one {row : List V} {c : Array Value} (h : VList ρ F w row c.toList) (h1 : row.all V.cell1 = true) : ORows ρ F w c row.length 0 [row] := by
  intro r row' hr
  cases r with
  | zero =>
    simp at hr
    subst hr
    have := ocells_of h h1
    simp only [Array.toArray_toList] at this
    exact ⟨rfl, by simpa using this⟩
  | succ r => simp at hr

/-- The cells of one object change. -/
theorem post_store {st : St} {R W : List Nat} {n : Nat} (hp : Pre ρ F w st R W n) (hwf : st.WF) {i B o s : Nat} {so so' : SO} (hlt : i < st.next) (hm : i ∈ W) (hg : st.get i = some so) (hi : ρ i = some (B, o, s))
    {w₁ : World} {c₀ c' : Array Value} {e : TypeId} (hF : ¬ F B) (hw₀ : w.heap[B]? = some (.cells c₀ e (0, 0))) (hcs : c'.size = c₀.size) (hw : w₁.heap[B]? = some (.cells c' e (0, 0))) (hs : so'.s = s) (hsize : w₁.heap.size = w.heap.size) (hB : B < w.heap.size)
    (hother : ∀ B', B' ≠ B → w₁.heap[B']? = w.heap[B']?) (hout : Outs w w₁) (hR : ORows ρ F w c' s o so'.rows) :
    Post ρ F w st ρ F w₁ (st.set i so') [i] := by
  have hshp := shp_row hw₀ hw hcs hother hout
  have he : Ext F w F w₁ := ⟨fun _ h => h, fun B' hB' => hother B' (fun e => hF (e ▸ hB')), hshp⟩
  refine ⟨rle_refl ρ, fun i h => absurd rfl h, fun _ h => h, fun _ h => .inl h, fun B h => by rw [hsize]; exact hp.fok B h, by rw [hsize]; exact Nat.le_refl _, hshp, fun B' _ h => ?_, fun j so'' hj hgj => ?_, fun j k hj hk gj gk hne => ?_⟩
  · refine hother B' (fun e => h i hlt (by simp) ?_)
    simp [blk, hi, e]
  · have : j = i := by
      rcases hj with ⟨_, hm⟩ | hj
      · simpa using hm
      · by_cases e : j = i
        · exact e
        · simp only [St.set, e, if_false] at hgj
          rw [hwf j hj] at hgj; cases hgj
    subst this
    simp only [St.set, if_true, Option.some.injEq] at hgj
    subst hgj
    refine ⟨⟨B, o, c', e, by rw [hi, hs], hF, hw, fun r row hrow => ?_⟩, fun B' hB' => .inr ⟨j, hlt, by simp, hB'⟩⟩
    rw [hs]
    obtain ⟨h1, h2⟩ := hR r row hrow
    refine ⟨h1, fun k x hx => ?_⟩
    obtain ⟨v, hv, h1, hx⟩ := h2 k x hx
    exact ⟨v, hv, h1, VRel.mono he (rle_refl ρ) x v hx⟩
  · have e1 : j = i := by
      rcases hj with ⟨_, hm⟩ | hj
      · simpa using hm
      · by_cases e : j = i
        · exact e
        · simp only [St.set, e, if_false] at gj
          rw [hwf j hj] at gj; cases gj
    have e2 : k = i := by
      rcases hk with ⟨_, hm⟩ | hk
      · simpa using hm
      · by_cases e : k = i
        · exact e
        · simp only [St.set, e, if_false] at gk
          rw [hwf k hk] at gk; cases gk
    exact absurd (e1.trans e2.symm) hne

theorem fine_set {st : St} (hwf : st.WF) {i : Nat} (hi : i < st.next) (so : SO) : Fine st (st.set i so) [i] where
  next := Nat.le_refl _
  same := fun j hj h => by
    have : j ≠ i := by simpa using h
    simp [St.set, this]
  wf := fun j hj => by
    have hj' : st.next ≤ j := hj
    have : j ≠ i := by omega
    simp [St.set, this]
    exact hwf j hj'

theorem get_lt {st : St} (hwf : st.WF) {i : Nat} {so : SO} (h : st.get i = some so) : i < st.next := by
  rcases Nat.lt_or_ge i st.next with h' | h'
  · exact h'
  · rw [hwf i h'] at h; cases h

theorem setAt_get {cs xs : List V} {off k : Nat} (h : off + xs.length ≤ cs.length) :
    (setAt cs off xs)[k]? = if off ≤ k ∧ k < off + xs.length then xs[k - off]? else cs[k]? := by
  unfold setAt
  by_cases h1 : k < off
  · rw [if_neg (by omega), List.append_assoc, List.getElem?_append_left (by simp; omega), List.getElem?_take, if_pos h1]
  · by_cases h2 : k < off + xs.length
    · rw [if_pos ⟨by omega, h2⟩, List.append_assoc, List.getElem?_append_right (by simp; omega), List.getElem?_append_left (by simp; omega)]
      congr 1
      simp; omega
    · rw [if_neg (by omega), List.getElem?_append_right (by simp; omega), List.getElem?_drop]
      congr 1
      simp; omega

theorem setAt_length {cs xs : List V} {off : Nat} (h : off + xs.length ≤ cs.length) : (setAt cs off xs).length = cs.length := by
  unfold setAt
  simp
  omega

/-- The cells of a block with some of them written. -/
def wr (c : Array Value) (q : Nat) (xs : List Value) : Array Value := (c.toList.take q ++ xs ++ c.toList.drop (q + xs.length)).toArray

theorem wr_get {c : Array Value} {q : Nat} {xs : List Value} (h : q + xs.length ≤ c.size) (k : Nat) : (wr c q xs)[k]? = if q ≤ k ∧ k < q + xs.length then xs[k - q]? else c[k]? := by
  unfold wr
  rw [List.getElem?_toArray]
  by_cases h1 : k < q
  · rw [if_neg (by omega), List.append_assoc, List.getElem?_append_left (by simp; omega), List.getElem?_take, if_pos h1]; simp
  · by_cases h2 : k < q + xs.length
    · rw [if_pos ⟨by omega, h2⟩, List.append_assoc, List.getElem?_append_right (by simp; omega), List.getElem?_append_left (by simp; omega)]
      congr 1
      simp; omega
    · rw [if_neg (by omega), List.getElem?_append_right (by simp; omega), List.getElem?_drop]
      simp
      congr 1
      omega

theorem store_run {B q : Nat} {c : Array Value} {e : TypeId} {t : TypeId} {x : Value} (hb : w.heap[B]? = some (.cells c e (0, 0))) (hs : tySize P t = some x.cells.size) (hq : q + x.cells.size ≤ c.size)
    (h1 : ∀ v ∈ x.cells.toList, v.oneCell' = true) : (storeVar t ⟨B, q, none⟩ x).run P w = .ok () (w.setRow B (wr c q x.cells.toList)) := by
  unfold storeVar
  rw [Sem.run_bind, run_sizeOf hs w]
  simp only [Result.andThen_ok, ne_eq, not_true, if_false]
  have := run_storeCells_at P B q e x.cells.toList 0 c w hb (by simpa using hq) h1
  simpa [wr] using this

end

end Go.Proofs.Ytnolgpagdjcjbaa.Ve
/-! Each operation that is no call of a Go function: the model does what the evaluator says. -/
set_option linter.unusedVariables false
set_option linter.unusedSimpArgs false
namespace Go.Proofs.Ytnolgpagdjcjbaa.Ve
open Go

section
variable {P : Program} {ρ ρ' : Ren} {F F' : Nat → Prop} {w w' : World}

/-- What the model does at an operation. -/
def OpRes (P : Program) (ev : Operand → Value) (o : Oper) (ρ : Ren) (F : Nat → Prop) (w : World) (st : St) (v : V) (st' : St) (W : List Nat) : Prop :=
  ∃ x w' ρ' F', ((execOp ev o).run P w = .ok (.value x) w' ∨ ((execOp ev o).run P w = .ok .skip w' ∧ x = undef)) ∧ VRel ρ' F' w' v x ∧ Post ρ F w st ρ' F' w' st' W

theorem exec_value {ev : Operand → Value} {o : Oper} {s : Sem Value} (hs : execOp ev o = (do pure (.value (← s)))) {x : Value} (h : s.run P w = .ok x w') : (execOp ev o).run P w = .ok (.value x) w' := by
  rw [hs, Sem.run_bind, h]
  rfl

theorem exec_unit {ev : Operand → Value} {o : Oper} {s : Sem Unit} (hs : execOp ev o = (do s; pure .skip)) (h : s.run P w = .ok () w') : (execOp ev o).run P w = .ok .skip w' := by
  rw [hs, Sem.run_bind, h]
  rfl

theorem opres_quiet {ev : Operand → Value} {o : Oper} {st : St} {R W : List Nat} {n : Nat} (hp : Pre ρ F w st R W n) (hwf : st.WF) {v : V} {x : Value} (hr : (execOp ev o).run P w = .ok (.value x) w) (hv : VRel ρ F w v x) :
    OpRes P ev o ρ F w st v st [] := ⟨x, w, ρ, F, .inl hr, hv, post_same hp hwf rfl (Outs.refl w)⟩

theorem new_run {c : Array Value} {e : TypeId} : (newRow e c).run P w = .ok ⟨w.heap.size, 0, none⟩ (w.alloc (.cells c e)) := by
  unfold newRow
  rw [Sem.run_bind]
  rfl

/-- The values of operands. -/
def EnvRel (ρ : Ren) (F : Nat → Prop) (w : World) (env : Operand → Option V) (ev : Operand → Value) (l : List Operand) : Prop := ∀ x ∈ l, ∀ v, env x = some v → VRel ρ F w v (ev x)

theorem envAll_rel {env : Operand → Option V} {ev : Operand → Value} : ∀ {l : List Operand} {vs : List V}, EnvRel ρ F w env ev l → envAll env l = some vs → VList ρ F w vs (l.map ev)
  | [], vs, _, h => by simp only [envAll, Option.some.injEq] at h; subst h; simp [VList]
  | x :: xs, vs, he, h => by
    simp only [envAll] at h
    cases hx : env x with
    | none => simp [hx] at h
    | some v =>
      simp only [hx] at h
      cases hxs : envAll env xs with
      | none => simp [hxs] at h
      | some us =>
        simp only [hxs, Option.some.injEq] at h
        subst h
        simp only [List.map_cons, VList]
        exact ⟨_, _, rfl, he x (by simp) v hx, envAll_rel (fun y hy => he y (by simp [hy])) hxs⟩

/-- Parts with their places. -/
def PartsRel (ρ : Ren) (F : Nat → Prop) (w : World) : List (Nat × V) → List (Nat × Value) → Prop
  | [], l => l = []
  | (i, v) :: ps, l => ∃ x xs, l = (i, x) :: xs ∧ VRel ρ F w v x ∧ PartsRel ρ F w ps xs

theorem envParts_rel {env : Operand → Option V} {ev : Operand → Value} : ∀ {l : List (Nat × Operand)} {vs : List (Nat × V)}, EnvRel ρ F w env ev (l.map (·.2)) → envParts env l = some vs → PartsRel ρ F w vs (l.map fun (i, x) => (i, ev x))
  | [], vs, _, h => by simp only [envParts, Option.some.injEq] at h; subst h; simp [PartsRel]
  | (i, x) :: xs, vs, he, h => by
    simp only [envParts] at h
    cases hx : env x with
    | none => simp [hx] at h
    | some v =>
      simp only [hx] at h
      cases hxs : envParts env xs with
      | none => simp [hxs] at h
      | some us =>
        simp only [hxs, Option.some.injEq] at h
        subst h
        simp only [List.map_cons, PartsRel]
        exact ⟨_, _, rfl, he x (by simp) v hx, envParts_rel (fun y hy => he y (by simp at hy ⊢; exact .inr hy)) hxs⟩

theorem partsRel_norm : ∀ {ps : List (Nat × V)} {l : List (Nat × Value)}, PartsRel ρ F w ps l → PartsRel ρ F w (ps.map fun p => (p.1, p.2.norm)) l
  | [], l, h => by simpa [PartsRel] using h
  | (i, v) :: ps, l, h => by
    simp only [PartsRel] at h
    obtain ⟨x, xs, rfl, hv, h⟩ := h
    simp only [List.map_cons, PartsRel]
    exact ⟨x, xs, rfl, rel_norm v x hv, partsRel_norm h⟩

theorem setZip_get (cs : Array Value) (off : Nat) : ∀ (l : List Value) (n : Nat) (k : Nat), off + n + l.length ≤ cs.size →
    ((l.zipIdx n).foldl (fun cs (c, j) => cs.setIfInBounds (off + j) c) cs)[k]? = if off + n ≤ k ∧ k < off + n + l.length then l[k - (off + n)]? else cs[k]? := by
  intro l
  induction l generalizing cs with
  | nil => intro n k _; simp; omega
  | cons x l ih =>
    intro n k hle
    simp only [List.zipIdx_cons, List.foldl_cons]
    rw [ih (cs.setIfInBounds (off + n) x) (n + 1) k (by simp at hle ⊢; omega)]
    simp at hle
    by_cases h1 : k = off + n
    · subst h1
      rw [if_neg (by omega), if_pos (by simp)]
      have : off + n < cs.size := by omega
      simp [this]
    · rw [Array.getElem?_setIfInBounds_ne (by omega)]
      by_cases h2 : off + n ≤ k ∧ k < off + n + (l.length + 1)
      · rw [if_pos (by omega), if_pos (by simpa using h2)]
        rw [show k - (off + n) = (k - (off + (n + 1))) + 1 by omega]
        simp
      · rw [if_neg (by omega), if_neg (by simpa using h2)]

theorem setZip_size (off : Nat) : ∀ (l : List (Value × Nat)) (cs : Array Value), (l.foldl (fun cs (c, j) => cs.setIfInBounds (off + j) c) cs).size = cs.size
  | [], _ => rfl
  | (x, j) :: l, cs => by simp only [List.foldl_cons]; rw [setZip_size off l]; simp

theorem fill_rel (place place' : Nat → Option (Nat × Nat)) (hpl : ∀ i x, place i = some x → place' i = some x) : ∀ {ps : List (Nat × V)} {cs cs' : List V} {a : Array Value} {l : List (Nat × Value)}, PartsRel ρ F w ps l → VList ρ F w cs a.toList → vfill place cs ps = some cs' →
    ∃ b, Instr.fill place' a l = some b ∧ VList ρ F w cs' b.toList ∧ cs'.length = cs.length
  | [], cs, cs', a, l, hp, hc, h => by
    simp only [PartsRel] at hp
    subst hp
    simp only [vfill, Option.some.injEq] at h
    subst h
    exact ⟨a, rfl, hc, rfl⟩
  | (i, v) :: ps, cs, cs', a, l, hp, hc, h => by
    simp only [PartsRel] at hp
    obtain ⟨x, xs, rfl, hv, hp⟩ := hp
    simp only [vfill] at h
    cases hi : place i with
    | none => simp [hi] at h
    | some z =>
      obtain ⟨off, size⟩ := z
      simp only [hi] at h
      split at h
      · rename_i hcond
        obtain ⟨hc1, hc2⟩ := hcond
        have hcl := rel_cells hv
        have hlen : x.cells.size = v.cells.length := by have := hcl.length; simpa using this
        have hal : a.size = cs.length := by have := hc.length; simpa using this
        let a2 := (x.cells.zipIdx.foldl (fun cs (c, j) => cs.setIfInBounds (off + j) c) a)
        have hga : ∀ k, a2[k]? = if off ≤ k ∧ k < off + v.cells.length then x.cells[k - off]? else a[k]? := by
          intro k
          have e : a2 = (x.cells.toList.zipIdx 0).foldl (fun cs (c, j) => cs.setIfInBounds (off + j) c) a := by
            show x.cells.zipIdx.foldl _ a = _
            rw [← Array.foldl_toList, Array.toList_zipIdx]
          rw [e, setZip_get a off x.cells.toList 0 k (by simp; omega)]
          simp only [Nat.add_zero, Array.length_toList, hlen, Array.getElem?_toList]
        have hsz : a2.size = a.size := by
          show (x.cells.zipIdx.foldl _ a).size = _
          rw [← Array.foldl_toList]
          exact setZip_size off _ a
        have hv2 : VList ρ F w (setAt cs off v.cells) a2.toList := by
          refine VList.intro (by simp [setAt_length hc2, hsz, hal]) fun k y hk => ?_
          rw [setAt_get hc2] at hk
          rw [Array.getElem?_toList, hga]
          split at hk
          · rename_i hh
            rw [if_pos hh]
            have := hcl.get _ y hk
            simpa using this
          · rename_i hh
            rw [if_neg hh]
            have := hc.get _ y hk
            simpa using this
        obtain ⟨b, hb, hb2, hb3⟩ := fill_rel place place' hpl hp hv2 h
        refine ⟨b, ?_, hb2, by rw [hb3, setAt_length hc2]⟩
        simp only [Instr.fill, hpl i _ hi]
        rw [if_neg (by rw [hlen, hc1, hal]; rw [hc1] at hc2; simp; omega)]
        exact hb
      · simp at h

theorem fill_same (place : Nat → Option (Nat × Nat)) {ps : List (Nat × V)} {cs cs' : List V} {a : Array Value} {l : List (Nat × Value)} (hp : PartsRel ρ F w ps l) (hc : VList ρ F w cs a.toList) (h : vfill place cs ps = some cs') :
    ∃ b, Instr.fill place a l = some b ∧ VList ρ F w cs' b.toList ∧ cs'.length = cs.length := fill_rel place place (fun _ _ h => h) hp hc h

theorem build_sound {t : TypeId} {ps : List (Nat × V)} {l : List (Nat × Value)} {v : V} (h : buildV P t ps = some v) (hp : PartsRel ρ F w ps l) :
    ∃ x, (Instr.build t l.toArray).run P w = .ok x w ∧ VRel ρ F w v x := by
  unfold buildV at h
  cases hz : zeroV P t with
  | none => simp [hz] at h
  | some z =>
    simp only [hz] at h
    obtain ⟨i, x0, hi, hiz, rfl, hrun⟩ := run_zeroValue hz
    have hc : VList ρ F w (ofValue x0).cells x0.cells.toList := rel_cells (rel_ofValue x0)
    split at h
    · rename_i fields hu
      unfold placesOf at h
      split at h
      · rename_i places hpl
        split at h
        · rename_i cs hf
          simp only [Option.some.injEq] at h
          subst h
          obtain ⟨b, hb, hb2, -⟩ := fill_same _ hp hc hf
          refine ⟨.agg b, run_build w t _ b ?_, rel_mkAgg hb2⟩
          unfold Program.built
          simp [hi, hu, hiz, hpl, hb]
        · simp at h
      · simp at h
    · rename_i n elem hu
      split at h
      · rename_i size hs
        split at h
        · rename_i cs hf
          simp only [Option.some.injEq] at h
          subst h
          obtain ⟨b, hb, hb2, -⟩ := fill_same _ hp hc hf
          refine ⟨.agg b, run_build w t _ b ?_, rel_mkAgg hb2⟩
          unfold tySize at hs
          cases hie : P.info? elem with
          | none => simp [hie] at hs
          | some ie =>
            simp only [hie, Option.map_some, Option.some.injEq] at hs
            subst hs
            unfold Program.built
            simp [hi, hu, hiz, hie, hb]
        · simp at h
      · simp at h
    · simp at h

end

end Go.Proofs.Ytnolgpagdjcjbaa.Ve
/-! Slices: literals, make, addresses of elements, cuts. -/
set_option linter.unusedVariables false
set_option linter.unusedSimpArgs false
namespace Go.Proofs.Ytnolgpagdjcjbaa.Ve
open Go

section
variable {P : Program} {ρ ρ' : Ren} {F F' : Nat → Prop} {w w' : World}

theorem sliceElem_eq {t e : TypeId} (h : sliceElem P t = some e) : P.underlying t = some (.slice e) := by
  unfold sliceElem at h
  split at h
  · simp only [Option.some.injEq] at h; subst h; assumption
  · simp at h

theorem tySize_info {t : TypeId} {n : Nat} (h : tySize P t = some n) : ∃ i, P.info? t = some i ∧ i.size = n := by
  unfold tySize at h
  cases hq : P.info? t with
  | none => simp [hq] at h
  | some i => exact ⟨i, rfl, by simpa [hq] using h⟩

theorem chunk_get (s : Nat) : ∀ (n : Nat) (cs : List V) (r : Nat), (chunk s n cs)[r]? = if r < n then some ((cs.drop (r * s)).take s) else none
  | 0, cs, r => by simp [chunk]
  | n + 1, cs, 0 => by simp [chunk]
  | n + 1, cs, r + 1 => by
    simp only [chunk, List.getElem?_cons_succ]
    rw [chunk_get s n (cs.drop s) r]
    simp only [List.drop_drop, Nat.add_lt_add_iff_right]
    rw [show s + r * s = (r + 1) * s by rw [Nat.add_mul]; omega]

theorem orows_chunk {s n : Nat} {cs : List V} {c : Array Value} (h : VList ρ F w cs c.toList) (h1 : cs.all V.cell1 = true) (hl : cs.length = n * s) : ORows ρ F w c s 0 (chunk s n cs) := by
  intro r row hr
  rw [chunk_get] at hr
  split at hr
  · rename_i hlt
    simp only [Option.some.injEq] at hr
    subst hr
    have hle : (r + 1) * s ≤ n * s := Nat.mul_le_mul_right s hlt
    rw [Nat.add_mul] at hle
    refine ⟨by simp; omega, fun k x hk => ?_⟩
    rw [List.getElem?_take] at hk
    split at hk
    · rw [List.getElem?_drop] at hk
      obtain ⟨v, hv, hx⟩ := h.get _ x hk
      exact ⟨v, by simpa using hv, rel_cell1 hx (List.all_eq_true.1 h1 x (List.mem_of_getElem? hk)), hx⟩
    · simp at hk
  · simp at hr

theorem mem_slice_rel {ρ : Ren} {i B s len cap : Nat} (h : ρ i = some (B, 0, s)) (hl : len ≤ cap) (hq : HoldsN w B (cap * s)) : VRel ρ F w (.ow i s 0 len) (.slice (some ⟨B, 0, none⟩) len cap) := by
  simp only [VRel]
  exact ⟨B, 0, 0, cap, h, rfl, hl, .inr (by simp), by simpa using hq⟩
theorem roomy_new {w₁ : World} {c : Array Value} {e : TypeId} {n : Nat} (hh : w₁.heap = w.heap.push (.cells c e (0, 0))) (hn : n ≤ c.size) : HoldsN w₁ w.heap.size n := ⟨c, e, by rw [hh]; simp, hn⟩

theorem zeros_rel {z : V} {x0 : Value} (hz : VList ρ F w z.cells x0.cells.toList) (n : Nat) (hpos : n ≠ 0 → z.cells.length ≠ 0) :
    VList ρ F w ((List.range n).map fun k => z.cells.getD (k % z.cells.length) .nl) ((Array.range n).map (x0.cells[· % x0.cells.size]!)).toList := by
  have hlen : x0.cells.size = z.cells.length := by have := hz.length; simpa using this
  refine VList.intro (by simp) fun k y hk => ?_
  rw [List.getElem?_map] at hk
  cases hq : (List.range n)[k]? with
  | none => simp [hq] at hk
  | some j =>
    have hj : j = k ∧ k < n := by
      by_cases hkn : k < n
      · rw [List.getElem?_range hkn] at hq
        simp only [Option.some.injEq] at hq
        exact ⟨hq.symm, hkn⟩
      · rw [List.getElem?_eq_none (by simp; omega)] at hq
        simp at hq
    obtain ⟨rfl, hjn⟩ := hj
    simp only [hq, Option.map_some, Option.some.injEq] at hk
    have hlt : j % z.cells.length < z.cells.length := Nat.mod_lt _ (Nat.pos_of_ne_zero (hpos (by omega)))
    have hg : z.cells[j % z.cells.length]? = some y := by
      rw [← hk, List.getD_eq_getElem?_getD, List.getElem?_eq_getElem hlt]
      rfl
    obtain ⟨v, hv, hr⟩ := hz.get _ y hg
    refine ⟨v, ?_, hr⟩
    have hv' : x0.cells[j % x0.cells.size]? = some v := by rw [hlen]; simpa using hv
    simp only [Array.toList_map, List.getElem?_map, Array.getElem?_toList, Array.getElem?_range, hjn, if_true, Option.map_some]
    rw [getElem!_def, hv']

theorem buildSlice_sound {ev : Operand → Value} {o : Oper} {st st' : St} {R W R' W' : List Nat} {t : TypeId} {len : Nat} {ps : List (Nat × V)} {l : List (Nat × Value)} {v : V}
    (hs : ∃ s : Sem Value, execOp ev o = (do pure (.value (← s))) ∧ s = Instr.buildSlice t len l.toArray)
    (h : buildSliceV P st t len ps = some (v, st', R', W')) (hp : Pre ρ F w st R W st'.next) (hwf : st.WF) (hps : PartsRel ρ F w ps l) : OpRes P ev o ρ F w st v st' W' ∧ Fine st st' W' := by
  unfold buildSliceV at h
  split at h
  · rename_i elem he
    split at h
    · rename_i size hsz
      split at h
      · rename_i z hz
        split at h
        · rename_i hsmall'
          split at h
          · rename_i cs hf
            split at h
            · rename_i h1
              simp only [Option.some.injEq, Prod.mk.injEq] at h
              obtain ⟨rfl, rfl, rfl, rfl⟩ := h
              obtain ⟨i, x0, hi, hiz, rfl, hrun⟩ := run_zeroValue hz
              obtain ⟨hsmall, hzlen⟩ := hsmall'
              obtain ⟨i', hi', hisz⟩ := tySize_info hsz
              rw [hi] at hi'
              cases hi'
              have hu := sliceElem_eq he
              have hc : VList ρ F w (ofValue x0).cells x0.cells.toList := rel_cells (rel_ofValue x0)
              obtain ⟨s, hs1, rfl⟩ := hs
              have key : ∃ b : Array Value, (Instr.buildSlice t len l.toArray).run P w = .ok (.slice (some ⟨w.heap.size, 0, none⟩) len len) (w.alloc (.cells b elem)) ∧ VList ρ F w cs b.toList ∧ cs.length = len * size := by
                by_cases hz0 : len * size = 0
                · simp only [hz0, List.range_zero, List.map_nil] at hf
                  obtain ⟨b, hb, hb2, hb3⟩ := fill_same _ (partsRel_norm hps) (a := #[]) (by simp [VList]) hf
                  refine ⟨b, ?_, hb2, by rw [hb3, hz0]; rfl⟩
                  simp [Instr.buildSlice, run_underlying hu, run_sizeOf hsz, hz0, show Array.range 0 = #[] from rfl, hb, newRow]
                · have hzl : (ofValue x0).cells.length ≠ 0 := by rw [hzlen]; intro e; rw [e] at hz0; simp at hz0
                  obtain ⟨b, hb, hb2, hb3⟩ := fill_same _ (partsRel_norm hps) (zeros_rel hc (len * size) (fun _ => hzl)) hf
                  refine ⟨b, ?_, hb2, by rw [hb3]; simp⟩
                  subst hisz
                  exact run_buildSlice w t elem len l.toArray b i x0 hu hi hiz (by omega) hz0 (by simpa using hb)
              obtain ⟨b, hrunb, hb, hbl⟩ := key
              refine ⟨⟨_, _, _, _, .inl (exec_value hs1 hrunb), ?_, post_new hp (Nat.lt_succ_self _) hwf (so := ⟨size, chunk size len cs⟩) rfl ⟨rfl, rfl, rfl⟩ (orows_chunk hb h1 hbl)⟩, fine_new hwf _⟩
              exact mem_slice_rel (upd_same _ _ _) (Nat.le_refl _) (roomy_new rfl (show len * size ≤ b.size by have := hb.length; simp at this; omega))
            · simp at h
          · simp at h
        · simp at h
      · simp at h
    · simp at h
  · simp at h

end

end Go.Proofs.Ytnolgpagdjcjbaa.Ve
/-! Addresses, cuts, lengths. -/
set_option linter.unusedVariables false
set_option linter.unusedSimpArgs false
namespace Go.Proofs.Ytnolgpagdjcjbaa.Ve
open Go

section
variable {P : Program} {ρ ρ' : Ren} {F F' : Nat → Prop} {w w' : World}

theorem makeSlice_sound {ev : Operand → Value} {o : Oper} {st st' : St} {R W R' W' : List Nat} {t : TypeId} {l c : Int} {kl kc : IntKind} {v : V}
    (hs : ∃ s : Sem Value, execOp ev o = (do pure (.value (← s))) ∧ s = Instr.makeSlice t (.int kl l) (.int kc c))
    (h : makeSliceV P st t l c = some (v, st', R', W')) (hp : Pre ρ F w st R W st'.next) (hwf : st.WF) : OpRes P ev o ρ F w st v st' W' ∧ Fine st st' W' := by
  unfold makeSliceV at h
  split at h
  · rename_i elem he
    split at h
    · rename_i info hi
      split at h
      · rename_i z hz
        split at h
        · rename_i hcond
          obtain ⟨h0, hlc, hc40, hcb, hzl, h1⟩ := hcond
          simp only [Option.some.injEq, Prod.mk.injEq] at h
          obtain ⟨rfl, rfl, rfl, rfl⟩ := h
          obtain ⟨i, x0, hi', hiz, rfl, hrun⟩ := run_zeroValue hz
          rw [hi] at hi'
          cases hi'
          obtain ⟨s, hs1, rfl⟩ := hs
          have hu := sliceElem_eq he
          obtain ⟨cn, rfl⟩ : ∃ n : Nat, c = n := ⟨c.toNat, by omega⟩
          obtain ⟨ln, rfl⟩ : ∃ n : Nat, l = n := ⟨l.toNat, by omega⟩
          have hwl : IntKind.i64.wrap (ln : Int) = ln := by
            simp [IntKind.wrap, IntKind.bits, IntKind.signed]; omega
          have hwc : IntKind.i64.wrap (cn : Int) = cn := by
            simp [IntKind.wrap, IntKind.bits, IntKind.signed]; omega
          have hb : (info.bytes : Int) * cn ≤ 2 ^ 40 := by
            have e : (cn : Int) * (info.bytes + 1) = info.bytes * cn + cn := by rw [Int.mul_add, Int.mul_comm]; simp
            rw [e] at hcb
            omega
          have hb0 : (0 : Int) ≤ (info.bytes : Int) * cn := Int.mul_nonneg (by omega) (by omega)
          have hlb : (info.bytes : Int) * ln ≤ 2 ^ 40 := Int.le_trans (Int.mul_le_mul_of_nonneg_left hlc (by omega)) hb
          have hcells : VList ρ F w (ofValue x0).cells x0.cells.toList := rel_cells (rel_ofValue x0)
          have hx0 : x0.cells.size = info.size := by have := hcells.length; simp at this; omega
          have hroom : ∀ w₁ : World, (askRoom (cn * info.bytes)).run P w₁ = .ok () w₁ := by
            intro w₁
            unfold askRoom
            rw [if_neg]
            · rfl
            · unfold roomBytes
              have : ((cn * info.bytes : Nat) : Int) ≤ 2 ^ 40 := by rw [Int.natCast_mul, Int.mul_comm]; exact hb
              omega
          have hrunm : ∃ b : Array Value, (Instr.makeSlice t (.int kl ln) (.int kc cn)).run P w = .ok (.slice (some ⟨w.heap.size, 0, none⟩) ln cn) (w.alloc (.cells b elem)) ∧ b = (Array.range (cn * info.size)).map (x0.cells[· % x0.cells.size]!) := by
            refine ⟨_, ?_, rfl⟩
            have t1 : ¬ ((cn : Int) < 0) := by omega
            have t2 : ¬ ((info.bytes : Int) * cn > 2 ^ 48) := by omega
            have t3 : ¬ ((ln : Int) < 0) := by omega
            have t4 : ¬ ((ln : Int) > cn) := by omega
            simp only [Instr.makeSlice, Sem.run_bind, run_underlying hu, Result.andThen_ok, asInt, asIntOf, Sem.run_pure, run_typeInfo hi, hwl, hwc]
            simp only [t1, t2, t3, t4, decide_false, Bool.or_false, Bool.false_eq_true, if_false, Sem.run_bind, Result.andThen_ok, Int.toNat_natCast, hroom, sizeOf, run_typeInfo hi, Sem.run_pure]
            by_cases hn : cn * info.size = 0
            · simp [hn, show Array.range 0 = #[] from rfl, newRow]
            · simp [hn, hrun, newRow]
          obtain ⟨b, hrunb, hb⟩ := hrunm
          refine ⟨⟨_, _, _, _, .inl (exec_value hs1 hrunb), ?_, post_new hp (Nat.lt_succ_self _) hwf (so := ⟨info.size, List.replicate cn (ofValue x0).cells⟩) rfl ⟨rfl, rfl, rfl⟩ ?_⟩, fine_new hwf _⟩
          · simp only [Int.toNat_natCast]
            exact mem_slice_rel (upd_same _ _ _) (by omega) (roomy_new rfl (show cn * info.size ≤ b.size by rw [hb]; simp))
          · intro r row hr
            simp only [List.getElem?_replicate] at hr
            split at hr
            · rename_i hlt
              simp only [Option.some.injEq] at hr
              subst hr
              refine ⟨hzl, fun k x hk => ?_⟩
              have hks : k < info.size := by
                have := (List.getElem?_eq_some_iff.1 hk).1
                omega
              obtain ⟨v, hv, hr⟩ := hcells.get k x hk
              refine ⟨v, ?_, rel_cell1 hr (List.all_eq_true.1 h1 x (List.mem_of_getElem? hk)), hr⟩
              have hlt2 : r * info.size + k < cn * info.size := by
                have : (r + 1) * info.size ≤ cn * info.size := Nat.mul_le_mul_right _ hlt
                rw [Nat.add_mul] at this
                omega
              have hmod : (r * info.size + k) % x0.cells.size = k := by
                rw [hx0, Nat.mul_comm, Nat.mul_add_mod, Nat.mod_eq_of_lt hks]
              rw [hb]
              simp only [Nat.zero_add, Array.getElem?_map, Array.getElem?_range, hlt2, if_true, Option.map_some, hmod]
              have hv' : x0.cells[k]? = some v := by simpa using hv
              rw [getElem!_def, hv']
            · simp at hr
        · simp at h
      · simp at h
    · simp at h
  · simp at h

theorem fieldAddr_sound {s : TypeId} {f : Nat} {x v : V} {vx : Value} (h : fieldAddrV P s f x = some v) (hx : VRel ρ F w x vx) : ∃ y, (Instr.fieldAt s vx f).run P w = .ok y w ∧ VRel ρ F w v y := by
  unfold fieldAddrV at h
  split at h
  · rename_i fields hu
    split at h
    · rename_i fd hf
      split at h
      · rename_i n hn
        have hplace : ∀ a : Addr, (fieldPlace a fd).run P w = .ok (a.add fd.offset) w := by
          intro a
          unfold fieldPlace
          rw [Sem.run_bind, run_sizeOf hn w]
          simp
        split at h
        · rename_i i r off
          simp only [Option.some.injEq] at h
          subst h
          simp only [VRel] at hx ⊢
          obtain ⟨B, o, s', hi, rfl⟩ := hx
          refine ⟨_, ?_, B, o, s', hi, rfl⟩
          simp only [Instr.fieldAt, Sem.run_bind, run_underlying hu, Result.andThen_ok, hf, Instr.sureAddr, Sem.run_pure, hplace, Addr.add_mid]
          congr 3
          simp only [Addr.mk.injEq, and_true, true_and]
          omega
        · rename_i cs
          simp only [Option.some.injEq] at h
          subst h
          simp only [VRel] at hx ⊢
          obtain ⟨B, o, hF, rfl, hc⟩ := hx
          refine ⟨_, ?_, B, o + fd.offset, hF, rfl, hc.drop fd.offset⟩
          simp only [Instr.fieldAt, Sem.run_bind, run_underlying hu, Result.andThen_ok, hf, Instr.sureAddr, Sem.run_pure, hplace, Addr.add_mid]
        · simp at h
      · simp at h
    · simp at h
  · simp at h

theorem field_sound {t : TypeId} {f : Nat} {x v : V} {vx : Value} (h : fieldV P t f x = some v) (hx : VRel ρ F w x vx) : ∃ y, (Instr.field t vx f).run P w = .ok y w ∧ VRel ρ F w v y := by
  unfold fieldV at h
  split at h
  · rename_i fields hu
    split at h
    · rename_i fd hf
      split at h
      · rename_i ha
        obtain ⟨a, rfl⟩ := isAgg_agg hx ha
        obtain ⟨y, hy, hr⟩ := part_val h (a := a) (by have := rel_cells hx; simpa [Value.cells] using this)
        refine ⟨y, ?_, hr⟩
        simp only [Instr.field, Sem.run_bind, run_underlying hu, Result.andThen_ok, hf, asAgg, Sem.run_pure, hy]
      · simp at h
    · simp at h
  · simp at h

theorem indexAddr_sound {t : TypeId} {x v : V} {vx : Value} {kk : IntKind} {k : Int} (h : indexAddrV P t x k = some v) (hx : VRel ρ F w x vx) : ∃ y, (Instr.indexAt t vx (.int kk k)).run P w = .ok y w ∧ VRel ρ F w v y := by
  unfold indexAddrV at h
  split at h
  · rename_i len elem hu
    split at h
    · rename_i size hs
      split at h
      · rename_i hk
        split at h
        · rename_i i r off
          simp only [Option.some.injEq] at h
          subst h
          simp only [VRel] at hx ⊢
          obtain ⟨B, o, s', hi, rfl⟩ := hx
          refine ⟨_, ?_, B, o, s', hi, rfl⟩
          simp only [Instr.indexAt, Sem.run_bind, asIntOf, Sem.run_pure, Result.andThen_ok, run_underlying hu, Instr.sureAddr, hk, and_self, if_true, run_sizeOf hs, Addr.add_mid]
          congr 3
          simp only [Addr.mk.injEq, and_true, true_and]
          omega
        · rename_i cs
          simp only [Option.some.injEq] at h
          subst h
          simp only [VRel] at hx ⊢
          obtain ⟨B, o, hF, rfl, hc⟩ := hx
          refine ⟨_, ?_, B, o + k.toNat * size, hF, rfl, hc.drop _⟩
          simp only [Instr.indexAt, Sem.run_bind, asIntOf, Sem.run_pure, Result.andThen_ok, run_underlying hu, Instr.sureAddr, hk, and_self, if_true, run_sizeOf hs, Addr.add_mid]
        · simp at h
      · simp at h
    · simp at h
  · rename_i elem hu
    split at h
    · rename_i size hs
      split at h
      · rename_i rows
        split at h
        · rename_i hk0
          split at h
          · rename_i row hrow
            split at h
            · rename_i hlen
              simp only [Option.some.injEq] at h
              subst h
              have hlt : k.toNat < rows.length := (List.getElem?_eq_some_iff.1 hrow).1
              simp only [VRel, PRel] at hx ⊢
              obtain ⟨a, cap, rfl, hcap, hR⟩ := hx
              rcases hR with rfl | ⟨B, o, s', rfl, hF, hR⟩
              · simp at hlt
              · obtain ⟨h1, h2⟩ := hR.get _ row hrow
                refine ⟨_, ?_, B, o + k.toNat * s', hF, rfl, h2⟩
                have hk : 0 ≤ k ∧ k < (rows.length : Int) := ⟨hk0, by omega⟩
                simp only [Instr.indexAt, Sem.run_bind, asIntOf, Sem.run_pure, Result.andThen_ok, run_underlying hu, hk, and_self, if_true, run_sizeOf hs, Addr.add_mid]
                rw [← h1, hlen]
            · simp at h
          · simp at h
        · simp at h
      · rename_i i s' r len
        split at h
        · rename_i hk
          obtain ⟨hk0, hk1, rfl⟩ := hk
          simp only [Option.some.injEq] at h
          subst h
          simp only [VRel] at hx ⊢
          obtain ⟨B, o, a, cap, hi, rfl, hlc, hca, -⟩ := hx
          refine ⟨_, ?_, B, o, s', hi, rfl⟩
          simp only [Instr.indexAt, Sem.run_bind, asIntOf, Sem.run_pure, Result.andThen_ok, run_underlying hu, hk0, hk1, and_self, if_true, run_sizeOf hs, Addr.add_mid]
          congr 3
          simp only [Addr.mk.injEq, and_true, true_and]
          rcases hca with rfl | rfl
          · omega
          · rw [Nat.add_mul]; omega
        · simp at h
      · simp at h
    · simp at h
  · simp at h

theorem index_sound {t : TypeId} {x v : V} {vx : Value} {kk : IntKind} {k : Int} (h : indexV P t x k = some v) (hx : VRel ρ F w x vx) : ∃ y, (Instr.index t vx (.int kk k)).run P w = .ok y w ∧ VRel ρ F w v y := by
  unfold indexV at h
  split at h
  · rename_i len elem hu
    split at h
    · rename_i size hs
      split at h
      · rename_i hk
        obtain ⟨h0, h1, ha⟩ := hk
        obtain ⟨a, rfl⟩ := isAgg_agg hx ha
        obtain ⟨y, hy, hr⟩ := part_val h (a := a) (by have := rel_cells hx; simpa [Value.cells] using this)
        refine ⟨y, ?_, hr⟩
        simp only [Instr.index, Sem.run_bind, asIntOf, Sem.run_pure, Result.andThen_ok, run_underlying hu, h0, h1, and_self, if_true, run_sizeOf hs, hy]
      · simp at h
    · simp at h
  · simp at h

end

end Go.Proofs.Ytnolgpagdjcjbaa.Ve
/-! Cuts, lengths, append, stores. -/
set_option linter.unusedVariables false
set_option linter.unusedSimpArgs false
namespace Go.Proofs.Ytnolgpagdjcjbaa.Ve
open Go

section
variable {P : Program} {ρ ρ' : Ren} {F F' : Nat → Prop} {w w' : World}

theorem asInt_rel {x : V} {v : Value} {n : Int} (h : asInt? x = some n) (hx : VRel ρ F w x v) : ∃ k, v = .int k n := by
  unfold asInt? at h
  split at h
  · simp only [Option.some.injEq] at h
    subst h
    simp only [VRel, PRel] at hx
    exact ⟨_, hx⟩
  · simp at h

theorem bound_run {env : Operand → Option V} {ev : Operand → Value} {d y : Nat} {b : Option Operand} {k : Int} {code : BoundsCode} (hb : boundV env d b = some k) (he : EnvRel ρ F w env ev b.toList) (h0 : 0 ≤ k) (hy : k ≤ y) (w₁ : World) :
    (match b.map ev with
      | some v => Instr.sliceBound v y code
      | none => pure d : Sem Nat).run P w₁ = .ok k.toNat w₁ := by
  cases b with
  | none => simp only [boundV, Option.some.injEq] at hb; subst hb; simp
  | some x =>
    simp only [boundV] at hb
    cases hx : env x with
    | none => simp [hx] at hb
    | some v =>
      simp only [hx] at hb
      obtain ⟨kk, hv⟩ := asInt_rel hb (he x (by simp) v hx)
      simp only [Option.map_some, hv, Instr.sliceBound, Sem.run_bind, asIntOf, Sem.run_pure, Result.andThen_ok, h0, hy, and_self, if_true]

theorem bounds_run {env : Operand → Option V} {ev : Operand → Value} {len cap : Nat} {lo hi : Option Operand} {l h : Int} (hl : boundV env 0 lo = some l) (hh : boundV env len hi = some h) (e1 : EnvRel ρ F w env ev lo.toList) (e2 : EnvRel ρ F w env ev hi.toList)
    (h0 : 0 ≤ l) (hlh : l ≤ h) (hhl : h ≤ len) (hc : len ≤ cap) (w₁ : World) : (Instr.sliceBounds true len cap (lo.map ev) (hi.map ev) none).run P w₁ = .ok (l.toNat, h.toNat, cap) w₁ := by
  have r1 := bound_run (P := P) (y := cap) (code := .sliceAcap) hh e2 (by omega) (by omega) w₁
  have r2 := bound_run (P := P) (y := h.toNat) (code := .sliceB) hl e1 h0 (by omega) w₁
  unfold Instr.sliceBounds
  cases lo with
  | none =>
    simp only [boundV, Option.some.injEq] at hl
    subst hl
    cases hi with
    | none =>
      simp only [boundV, Option.some.injEq] at hh
      subst hh
      rfl
    | some x =>
      simp only [Option.map_none, Option.map_some] at r1 ⊢
      simp only [Sem.run_bind, Sem.run_pure, Result.andThen_ok, if_true, r1]
      rfl
  | some y =>
    cases hi with
    | none =>
      simp only [boundV, Option.some.injEq] at hh
      subst hh
      simp only [Option.map_none, Option.map_some] at r2 ⊢
      simp only [Sem.run_bind, Sem.run_pure, Result.andThen_ok, Option.isSome_none, Bool.false_eq_true, if_false]
      simp only [Int.toNat_natCast] at r2 ⊢
      rw [r2]
      rfl
    | some x =>
      simp only [Option.map_some] at r1 r2 ⊢
      simp only [Sem.run_bind, Sem.run_pure, Result.andThen_ok, if_true, Option.isSome_none, Bool.false_eq_true, if_false, r1, r2]

theorem PRows_cut {B s : Nat} {o : Nat} {rows : List (List PV)} (h : PRows F w B s o rows) (l n : Nat) : PRows F w B s (o + l * s) ((rows.take n).drop l) :=
  PRows.intro fun k r hk => by
    rw [List.getElem?_drop, List.getElem?_take] at hk
    split at hk
    · obtain ⟨h1, h2⟩ := h.get (l + k) r hk
      refine ⟨h1, ?_⟩
      rw [show o + l * s + k * s = o + (l + k) * s by rw [Nat.add_mul]; omega]
      exact h2
    · simp at hk

theorem slice_sound {env : Operand → Option V} {ev : Operand → Value} {t : TypeId} {x v : V} {vx : Value} {lo hi : Option Operand}
    (h : sliceV P t x (fun d => boundV env d.toNat lo) (fun d => boundV env d.toNat hi) = some v) (hx : VRel ρ F w x vx) (e1 : EnvRel ρ F w env ev lo.toList) (e2 : EnvRel ρ F w env ev hi.toList) :
    ∃ y, (Instr.sliceAt t vx (lo.map ev) (hi.map ev) none).run P w = .ok y w ∧ VRel ρ F w v y := by
  unfold sliceV at h
  split at h
  · rename_i elem he
    have hu := sliceElem_eq he
    split at h
    · rename_i size hs
      have hrun : ∀ (a : Option Addr) (len cap : Nat) (l h : Int), boundV env 0 lo = some l → boundV env len hi = some h → 0 ≤ l → l ≤ h → h ≤ len → len ≤ cap →
          (Instr.sliceAt t (.slice a len cap) (lo.map ev) (hi.map ev) none).run P w = .ok (.slice (if cap = l.toNat then a else a.map (·.add (l.toNat * size))) (h.toNat - l.toNat) (cap - l.toNat)) w := by
        intro a len cap l h hl hh h0 h1 h2 h3
        simp only [Instr.sliceAt, Sem.run_bind, run_underlying hu, Result.andThen_ok, Instr.slice, bounds_run hl hh e1 e2 h0 h1 h2 h3, run_sizeOf hs, Sem.run_pure]
      split at h
      · rename_i rows
        split at h
        · rename_i l hl
          split at h
          · rename_i hh hhi
            split at h
            · rename_i hcond
              obtain ⟨h0, h1, h2, h3⟩ := hcond
              simp only [Option.some.injEq] at h
              subst h
              simp only [VRel, PRel] at hx
              obtain ⟨a, cap, rfl, hcap, hR⟩ := hx
              refine ⟨_, hrun a rows.length cap l hh (by simpa using hl) (by simpa using hhi) h0 h1 h2 hcap, ?_⟩
              simp only [VRel, PRel]
              have hlen : ((rows.take hh.toNat).drop l.toNat).length = hh.toNat - l.toNat := by simp; omega
              refine ⟨_, cap - l.toNat, by rw [hlen], by rw [hlen]; omega, ?_⟩
              by_cases hemp : (rows.take hh.toNat).drop l.toNat = []
              · exact .inl hemp
              · right
                have hlt : l.toNat < hh.toNat := by
                  rcases Nat.lt_or_ge l.toNat hh.toNat with h | h
                  · exact h
                  · exact absurd (List.eq_nil_of_length_eq_zero (by omega)) hemp
                rcases hR with rfl | ⟨B, o, s, rfl, hF, hR⟩
                · simp at h2; omega
                · refine ⟨B, o + l.toNat * s, s, ?_, hF, PRows_cut hR _ _⟩
                  rw [if_neg (by omega)]
                  simp only [Option.map_some, Addr.add_mid, Option.some.injEq, Addr.mk.injEq, and_true, true_and]
                  rcases h3 with h3 | h3
                  · have : l.toNat = 0 := by omega
                    simp [this]
                  · have hr0 : 0 < rows.length := by omega
                    obtain ⟨hr1, -⟩ := hR.get 0 rows[0] (by simp [hr0])
                    have := List.all_eq_true.1 h3 rows[0] (by simp)
                    simp at this
                    rw [← hr1, this]
            · simp at h
          · simp at h
        · simp at h
      · rename_i i s r len
        split at h
        · rename_i l hl
          split at h
          · rename_i hh hhi
            split at h
            · rename_i hcond
              obtain ⟨h0, h1, h2, rfl⟩ := hcond
              simp only [Option.some.injEq] at h
              subst h
              simp only [VRel] at hx
              obtain ⟨B, o, a, cap, hi', rfl, hcap, hca, hq⟩ := hx
              refine ⟨_, hrun (some ⟨B, a, none⟩) len cap l hh (by simpa using hl) (by simpa using hhi) h0 h1 h2 hcap, ?_⟩
              simp only [VRel]
              by_cases hc : cap = l.toNat
              · refine ⟨B, o, a, cap - l.toNat, hi', by rw [if_pos hc], by omega, .inl (by omega), ?_⟩
                obtain ⟨c, e, hb, hn⟩ := hq
                refine ⟨c, e, hb, Nat.le_trans (Nat.add_le_add_left (Nat.mul_le_mul_right _ (Nat.sub_le _ _)) _) hn⟩
              · refine ⟨B, o, a + l.toNat * s, cap - l.toNat, hi', by rw [if_neg hc]; simp [Addr.add_mid], by omega, .inr ?_, ?_⟩
                · rcases hca with rfl | rfl
                  · omega
                  · rw [Nat.add_mul]; omega
                · obtain ⟨c, e, hb, hn⟩ := hq
                  refine ⟨c, e, hb, ?_⟩
                  have : l.toNat * s + (cap - l.toNat) * s = cap * s := by rw [← Nat.add_mul]; congr 1; omega
                  omega
            · simp at h
          · simp at h
        · simp at h
      · split at h
        · rename_i l hl
          split at h
          · rename_i hh hhi
            split at h
            · rename_i hcond
              obtain ⟨rfl, rfl⟩ := hcond
              simp only [Option.some.injEq] at h
              subst h
              simp only [VRel] at hx
              subst hx
              refine ⟨_, hrun none 0 0 0 0 (by simpa using hl) (by simpa using hhi) (by omega) (by omega) (by omega) (by omega), ?_⟩
              simp [VRel]
            · simp at h
          · simp at h
        · simp at h
      · simp at h
    · simp at h
  · simp at h

theorem len_sound {t ty : TypeId} {x : V} {vx : Value} {n : Int} (h : lenV P t x = some n) (hx : VRel ρ F w x vx) : (Builtin.len_ #[t] ty #[vx]).run P w = .ok (.int .i64 n) w := by
  unfold lenV at h
  split at h
  · rename_i e hu
    split at h
    · simp only [Option.some.injEq] at h
      subst h
      simp only [VRel, PRel] at hx
      obtain ⟨a, cap, rfl, -⟩ := hx
      simp [Builtin.len_, run_underlying hu, goInt]
    · simp only [Option.some.injEq] at h
      subst h
      simp only [VRel] at hx
      obtain ⟨B, o, a, cap, -, rfl, -⟩ := hx
      simp [Builtin.len_, run_underlying hu, goInt]
    · simp only [Option.some.injEq] at h
      subst h
      simp only [VRel] at hx
      subst hx
      simp [Builtin.len_, run_underlying hu, goInt]
    · simp at h
  · rename_i k e hu
    simp only [Option.some.injEq] at h
    subst h
    simp [Builtin.len_, run_underlying hu, goInt]
  · simp at h

/-- The rows that are added: they lie in the world, cell by cell. -/
theorem src_sound {st : St} {size : Nat} {x : V} {vx : Value} {rows : List (List V)} {R : List Nat} (h : srcRows st size x = some (rows, R)) (hx : VRel ρ F w x vx) (ho : ∀ i ∈ R, ∃ so, st.get i = some so ∧ ObjRel ρ F w i so) :
    ∃ a cap, vx = .slice a rows.length cap ∧ ∃ l : List Value, l.length = rows.length * size ∧ (∀ w₁ : World, w₁.heap = w.heap → (Builtin.firstCells size rows.length vx).run P w₁ = .ok l.toArray w₁) ∧ (∀ v ∈ l, v.oneCell' = true) ∧
      ∀ (r : Nat) row, rows[r]? = some row → row.length = size ∧ ∀ (k : Nat) y, row[k]? = some y → ∃ v, l[r * size + k]? = some v ∧ VRel ρ F w y v := by
  have gen : ∀ (rows : List (List V)) (B q : Nat), (∀ (r : Nat) row, rows[r]? = some row → row.length = size ∧ ∀ (k : Nat) y, row[k]? = some y → ∃ v, w.cell? ⟨B, q + r * size + k, none⟩ = some v ∧ v.oneCell' = true ∧ VRel ρ F w y v) →
      ∃ l : List Value, l.length = rows.length * size ∧ (∀ (j : Nat) v, l[j]? = some v → w.cell? ⟨B, q + j, none⟩ = some v) ∧ (∀ v ∈ l, v.oneCell' = true) ∧
        ∀ (r : Nat) row, rows[r]? = some row → row.length = size ∧ ∀ (k : Nat) y, row[k]? = some y → ∃ v, l[r * size + k]? = some v ∧ VRel ρ F w y v := by
    intro rows
    induction rows with
    | nil => intro B q _; exact ⟨[], by simp, by simp, by simp, by simp⟩
    | cons row rows ih =>
      intro B q hq
      obtain ⟨l, h1, h2, h3, h4⟩ := ih B (q + size) (fun r row' hr => by
        have := hq (r + 1) row' (by simpa using hr)
        rw [show q + (r + 1) * size = q + size + r * size by rw [Nat.add_mul]; omega] at this
        exact this)
      obtain ⟨hl0, hc0⟩ := hq 0 row rfl
      have ex : ∀ (xs : List V) (p : Nat), (∀ (k : Nat) y, xs[k]? = some y → ∃ v, w.cell? ⟨B, p + k, none⟩ = some v ∧ v.oneCell' = true ∧ VRel ρ F w y v) → ∃ m : List Value, m.length = xs.length ∧ (∀ (j : Nat) v, m[j]? = some v → w.cell? ⟨B, p + j, none⟩ = some v) ∧ (∀ v ∈ m, v.oneCell' = true) ∧ ∀ (k : Nat) y, xs[k]? = some y → ∃ v, m[k]? = some v ∧ VRel ρ F w y v := by
        intro xs
        induction xs with
        | nil => intro p _; exact ⟨[], rfl, by simp, by simp, by simp⟩
        | cons y ys ihx =>
          intro p hp
          obtain ⟨v, hv, hv1, hvr⟩ := hp 0 y rfl
          obtain ⟨m, m1, m2, m3, m4⟩ := ihx (p + 1) (fun k z hk => by
            have := hp (k + 1) z (by simpa using hk)
            rwa [show p + (k + 1) = p + 1 + k by omega] at this)
          refine ⟨v :: m, by simp [m1], ?_, ?_, ?_⟩
          · intro j u hu
            cases j with
            | zero => simp at hu; subst hu; simpa using hv
            | succ j => rw [show p + (j + 1) = p + 1 + j by omega]; exact m2 j u (by simpa using hu)
          · intro u hu
            rcases List.mem_cons.1 hu with rfl | hu
            · exact hv1
            · exact m3 u hu
          · intro k z hk
            cases k with
            | zero => simp at hk; subst hk; exact ⟨v, rfl, hvr⟩
            | succ k => simpa using m4 k z (by simpa using hk)
      obtain ⟨m, m1, m2, m3, m4⟩ := ex row q (fun k y hk => by simpa using hc0 k y hk)
      have hml : m.length = size := by rw [m1, hl0]
      refine ⟨m ++ l, by simp [hml, h1, Nat.add_mul]; omega, ?_, ?_, ?_⟩
      · intro j v hv
        by_cases hj : j < m.length
        · rw [List.getElem?_append_left hj] at hv; exact m2 j v hv
        · rw [List.getElem?_append_right (by omega)] at hv
          have := h2 _ v hv
          rwa [show q + size + (j - m.length) = q + j by omega] at this
      · intro v hv
        rcases List.mem_append.1 hv with hv | hv
        · exact m3 v hv
        · exact h3 v hv
      · intro r row' hr
        cases r with
        | zero =>
          simp at hr
          subst hr
          refine ⟨hl0, fun k y hk => ?_⟩
          obtain ⟨v, hv, hvr⟩ := m4 k y hk
          have hlt := (List.getElem?_eq_some_iff.1 hv).1
          exact ⟨v, by rw [Nat.zero_mul, Nat.zero_add, List.getElem?_append_left hlt]; exact hv, hvr⟩
        | succ r =>
          obtain ⟨g1, g2⟩ := h4 r row' (by simpa using hr)
          refine ⟨g1, fun k y hk => ?_⟩
          obtain ⟨v, hv, hvr⟩ := g2 k y hk
          refine ⟨v, ?_, hvr⟩
          rw [List.getElem?_append_right (by rw [hml, Nat.add_mul]; omega), hml, show (r + 1) * size + k - size = r * size + k by rw [Nat.add_mul]; omega]
          exact hv
  have load : ∀ (B q : Nat) (l : List Value) (n : Nat), l.length = n * size → (∀ (j : Nat) v, l[j]? = some v → w.cell? ⟨B, q + j, none⟩ = some v) → ∀ cap (w₁ : World), w₁.heap = w.heap → (Builtin.firstCells size n (.slice (some ⟨B, q, none⟩) n cap)).run P w₁ = .ok l.toArray w₁ := by
    intro B q l n hl hc cap w₁ hh
    simp only [Builtin.firstCells]
    rw [← hl]
    exact run_loadCells_list (P := P) w₁ _ l (fun j v hv => by
      rw [Addr.add_mid]
      have := hc j v hv
      simp only [World.cell?] at this ⊢
      rw [hh]
      exact this)
  cases x with
  | nl =>
    simp only [srcRows, Option.some.injEq, Prod.mk.injEq] at h
    obtain ⟨rfl, rfl⟩ := h
    simp only [VRel] at hx
    subst hx
    exact ⟨none, 0, rfl, [], by simp, fun w₁ _ => by simp [Builtin.firstCells], by simp, by simp⟩
  | pv p =>
    cases p with
    | fz rs =>
      simp only [srcRows] at h
      split at h
      · rename_i hall
        simp only [Option.some.injEq, Prod.mk.injEq] at h
        obtain ⟨rfl, rfl⟩ := h
        simp only [VRel, PRel] at hx
        obtain ⟨a, cap, rfl, hcap, hR⟩ := hx
        refine ⟨a, cap, by simp, ?_⟩
        rcases hR with rfl | ⟨B, o, s, rfl, hF, hR⟩
        · refine ⟨[], by simp, fun w₁ _ => ?_, by simp, by simp⟩
          cases a with
          | none => simp [Builtin.firstCells]
          | some a => simp [Builtin.firstCells, loadCells, loadCellsFrom]
        · obtain ⟨l, h1, h2, h3, h4⟩ := gen (rs.map (·.map .pv)) B o (fun r row hr => by
            rw [List.getElem?_map] at hr
            cases hq : rs[r]? with
            | none => simp [hq] at hr
            | some row' =>
              simp only [hq, Option.map_some, Option.some.injEq] at hr
              subst hr
              obtain ⟨g1, g2⟩ := hR.get r row' hq
              have hsz : row'.length = size := by have := List.all_eq_true.1 hall row' (List.mem_of_getElem? hq); simpa using this
              refine ⟨by simpa using hsz, fun k y hk => ?_⟩
              rw [List.getElem?_map] at hk
              cases hq2 : row'[k]? with
              | none => simp [hq2] at hk
              | some p =>
                simp only [hq2, Option.map_some, Option.some.injEq] at hk
                subst hk
                obtain ⟨v, hv, hv1, hr⟩ := g2.get k p hq2
                exact ⟨v, by rw [← hsz, g1]; exact hv, hv1, by simpa [VRel] using hr⟩)
          refine ⟨l, h1, fun w₁ hh => ?_, h3, h4⟩
          have := load B o l rs.length (by simpa using h1) h2 cap w₁ hh
          simpa using this
      · simp at h
    | _ => simp [srcRows] at h
  | ow j s r len =>
    simp only [srcRows] at h
    cases hg : st.get j with
    | none => simp [hg] at h
    | some so =>
      simp only [hg] at h
      split at h
      · rename_i hcond
        obtain ⟨hso, hle⟩ := hcond
        simp only [Option.some.injEq, Prod.mk.injEq] at h
        obtain ⟨rfl, rfl⟩ := h
        simp only [VRel] at hx
        obtain ⟨B, o, a, cap, hi, rfl, hcap, hca, hq⟩ := hx
        obtain ⟨so', hg', B', o', c, e, hi', hF, hb, hR⟩ := ho j (by simp)
        rw [hg] at hg'
        cases hg'
        rw [hi] at hi'
        simp only [Option.some.injEq, Prod.mk.injEq] at hi'
        obtain ⟨rfl, rfl, hs'⟩ := hi'
        have hlen : ((so.rows.drop r).take len).length = len := by simp; omega
        refine ⟨some ⟨B, a, none⟩, cap, by rw [hlen], ?_⟩
        by_cases hl0 : len = 0
        · subst hl0
          refine ⟨[], by simp, fun w₁ _ => ?_, by simp, by simp⟩
          simp [Builtin.firstCells, loadCells, loadCellsFrom]
        · have ha : a = o + r * s := by
            rcases hca with h0 | h0
            · omega
            · exact h0
          obtain ⟨l, h1, h2, h3, h4⟩ := gen ((so.rows.drop r).take len) B a (fun q row hr => by
            rw [List.getElem?_take] at hr
            split at hr
            · rw [List.getElem?_drop] at hr
              obtain ⟨g1, g2⟩ := hR (r + q) row hr
              refine ⟨by rw [g1, hso], fun k y hk => ?_⟩
              obtain ⟨v, hv, hv1, hvr⟩ := g2 k y hk
              refine ⟨v, ?_, hv1, hvr⟩
              have : o + (r + q) * so.s + k = a + q * size + k := by rw [ha, hs', hso, Nat.add_mul]; omega
              rw [this] at hv
              simp [World.cell?, hb, hv]
            · simp at hr)
          refine ⟨l, h1, fun w₁ hh => ?_, h3, h4⟩
          have := load B a l len (by rw [h1, hlen]) h2 cap w₁ hh
          rw [hlen]
          exact this
      · simp at h
  | _ => simp [srcRows] at h

end

end Go.Proofs.Ytnolgpagdjcjbaa.Ve
