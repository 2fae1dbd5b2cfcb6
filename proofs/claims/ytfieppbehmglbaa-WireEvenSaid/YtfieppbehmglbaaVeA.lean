import Derived.Orders
import Derived.Scope
import Derived.Deep.LoopGhost
import Derived.Laws.World
import Derived.Laws.CopyRow
import Derived.Laws.Cells
import Derived.Deep.MidRow
/-! Values with owned and frozen slices, stores, and how they stand in a world. -/
set_option linter.unusedVariables false
set_option linter.unusedSimpArgs false
namespace Go.Proofs.Ytfieppbehmglbaa.Ve
open Go

/-- Data without addresses of its own: a slice is its rows. -/
inductive PV where
  | sc (x : Value)
  | fz (rows : List (List PV))
  | agg (cs : List PV)
  | ifc (t : TypeId) (p : PV)
  deriving Inhabited

inductive V where
  | pv (p : PV)
  | ptr (i r off : Nat)
  | fe (cs : List PV)
  | ow (i s r len : Nat)
  | nl
  | agg (cs : List V)
  | tup (cs : List V)
  | ifc (t : TypeId) (v : V)
  | fn (f : Fn) (first caps : List V)
  deriving Inhabited

abbrev Ren := Nat → Option (Nat × Nat × Nat)

mutual
def PRel (F : Nat → Prop) (w : World) : PV → Value → Prop
  | .sc x, v => v = x
  | .fz rows, v => ∃ a cap, v = .slice a rows.length cap ∧ rows.length ≤ cap ∧ (rows = [] ∨ ∃ B o s, a = some ⟨B, o, none⟩ ∧ F B ∧ PRows F w B s o rows)
  | .agg cs, v => ∃ l, v = .agg l ∧ PList F w cs l.toList
  | .ifc t p, v => ∃ u, v = .iface t u ∧ PRel F w p u
def PList (F : Nat → Prop) (w : World) : List PV → List Value → Prop
  | [], l => l = []
  | p :: ps, l => ∃ v vs, l = v :: vs ∧ PRel F w p v ∧ PList F w ps vs
def PCells (F : Nat → Prop) (w : World) (B : Nat) : Nat → List PV → Prop
  | _, [] => True
  | o, p :: ps => (∃ v, w.cell? ⟨B, o, none⟩ = some v ∧ v.oneCell' = true ∧ PRel F w p v) ∧ PCells F w B (o + 1) ps
def PRows (F : Nat → Prop) (w : World) (B s : Nat) : Nat → List (List PV) → Prop
  | _, [] => True
  | o, r :: rs => r.length = s ∧ PCells F w B o r ∧ PRows F w B s (o + s) rs
end

/-- A block of cells that holds so many. -/
def HoldsN (w : World) (B n : Nat) : Prop := ∃ (c : Array Value) (e : TypeId), w.heap[B]? = some (.cells c e (0, 0)) ∧ n ≤ c.size

/-- The outside stays as it is. -/
def Outs (w w' : World) : Prop := w'.os = w.os ∧ w'.tape = w.tape ∧ w'.output = w.output

/-- Rows of cells stay rows of as many cells. -/
def Shp (w w' : World) : Prop := Outs w w' ∧ ∀ (B : Nat) (c : Array Value) (e : TypeId) (f : Nat × Nat), w.heap[B]? = some (.cells c e f) → ∃ c' : Array Value, w'.heap[B]? = some (.cells c' e f) ∧ c'.size = c.size

theorem Outs.refl (w : World) : Outs w w := ⟨rfl, rfl, rfl⟩
theorem Outs.trans {w w' w'' : World} (h : Outs w w') (h' : Outs w' w'') : Outs w w'' := ⟨h'.1.trans h.1, h'.2.1.trans h.2.1, h'.2.2.trans h.2.2⟩
theorem Shp.refl (w : World) : Shp w w := ⟨Outs.refl w, fun _ c _ _ h => ⟨c, h, rfl⟩⟩
theorem Shp.trans {w w' w'' : World} (h : Shp w w') (h' : Shp w' w'') : Shp w w'' := ⟨h.1.trans h'.1, fun B c e f hb => by
  obtain ⟨c', h1, h2⟩ := h.2 B c e f hb
  obtain ⟨c'', h3, h4⟩ := h'.2 B c' e f h1
  exact ⟨c'', h3, h4.trans h2⟩⟩
theorem HoldsN.mono {w w' : World} {B n : Nat} (h : HoldsN w B n) (hs : Shp w w') : HoldsN w' B n := by
  obtain ⟨c, e, hb, hn⟩ := h
  obtain ⟨c', h1, h2⟩ := hs.2 B c e _ hb
  exact ⟨c', e, h1, by omega⟩

mutual
def VRel (ρ : Ren) (F : Nat → Prop) (w : World) : V → Value → Prop
  | .pv p, v => PRel F w p v
  | .ptr i r off, v => ∃ B o s, ρ i = some (B, o, s) ∧ v = .pointer (some ⟨B, o + r * s + off, none⟩)
  | .fe cs, v => ∃ B o, F B ∧ v = .pointer (some ⟨B, o, none⟩) ∧ PCells F w B o cs
  | .ow i s r len, v => ∃ B o a cap, ρ i = some (B, o, s) ∧ v = .slice (some ⟨B, a, none⟩) len cap ∧ len ≤ cap ∧ (cap = 0 ∨ a = o + r * s) ∧ HoldsN w B (a + cap * s)
  | .nl, v => v = .slice none 0 0
  | .agg cs, v => ∃ l, v = .agg l ∧ VList ρ F w cs l.toList
  | .tup cs, v => ∃ l, v = .tuple l ∧ VList ρ F w cs l.toList
  | .ifc t x, v => ∃ u, v = .iface t u ∧ VRel ρ F w x u
  | .fn f a c, v => ∃ a' c', v = .func f a' c' ∧ VList ρ F w a a'.toList ∧ VList ρ F w c c'.toList
def VList (ρ : Ren) (F : Nat → Prop) (w : World) : List V → List Value → Prop
  | [], l => l = []
  | p :: ps, l => ∃ v vs, l = v :: vs ∧ VRel ρ F w p v ∧ VList ρ F w ps vs
end

/-- What is frozen is kept. -/
def Ext (F : Nat → Prop) (w : World) (F' : Nat → Prop) (w' : World) : Prop :=
  (∀ B, F B → F' B) ∧ (∀ B, F B → w'.heap[B]? = w.heap[B]?) ∧ Shp w w'

theorem Ext.refl (F : Nat → Prop) (w : World) : Ext F w F w := ⟨fun _ h => h, fun _ _ => rfl, Shp.refl w⟩
theorem Ext.trans {F F' F'' : Nat → Prop} {w w' w'' : World} (h : Ext F w F' w') (h' : Ext F' w' F'' w'') : Ext F w F'' w'' :=
  ⟨fun B hB => h'.1 B (h.1 B hB), fun B hB => (h'.2.1 B (h.1 B hB)).trans (h.2.1 B hB), h.2.2.trans h'.2.2⟩

theorem cell_same {w w' : World} {B : Nat} (h : w'.heap[B]? = w.heap[B]?) (o : Nat) : w'.cell? ⟨B, o, none⟩ = w.cell? ⟨B, o, none⟩ := by
  unfold World.cell?
  simp only [h]

mutual
theorem PRel.mono {F F' : Nat → Prop} {w w' : World} (h : Ext F w F' w') : ∀ (p : PV) (v : Value), PRel F w p v → PRel F' w' p v
  | .sc x, v, hp => by simpa [PRel] using hp
  | .fz rows, v, hp => by
    simp only [PRel] at hp ⊢
    obtain ⟨a, cap, hv, hc, hr⟩ := hp
    refine ⟨a, cap, hv, hc, hr.imp id ?_⟩
    rintro ⟨B, o, s, ha, hF, hR⟩
    exact ⟨B, o, s, ha, h.1 B hF, PRows.mono h B s hF o rows hR⟩
  | .agg cs, v, hp => by
    simp only [PRel] at hp ⊢
    obtain ⟨l, hv, hl⟩ := hp
    exact ⟨l, hv, PList.mono h cs _ hl⟩
  | .ifc t p, v, hp => by
    simp only [PRel] at hp ⊢
    obtain ⟨u, hv, hu⟩ := hp
    exact ⟨u, hv, PRel.mono h p _ hu⟩
theorem PList.mono {F F' : Nat → Prop} {w w' : World} (h : Ext F w F' w') : ∀ (ps : List PV) (l : List Value), PList F w ps l → PList F' w' ps l
  | [], l, hp => by simpa [PList] using hp
  | p :: ps, l, hp => by
    simp only [PList] at hp ⊢
    obtain ⟨v, vs, hl, hv, hvs⟩ := hp
    exact ⟨v, vs, hl, PRel.mono h p v hv, PList.mono h ps vs hvs⟩
theorem PCells.mono {F F' : Nat → Prop} {w w' : World} (h : Ext F w F' w') (B : Nat) (hF : F B) : ∀ (o : Nat) (ps : List PV), PCells F w B o ps → PCells F' w' B o ps
  | _, [], _ => by simp [PCells]
  | o, p :: ps, hp => by
    simp only [PCells] at hp ⊢
    obtain ⟨⟨v, hv, h1, hr⟩, hps⟩ := hp
    exact ⟨⟨v, (cell_same (h.2.1 B hF) o).trans hv, h1, PRel.mono h p v hr⟩, PCells.mono h B hF (o + 1) ps hps⟩
theorem PRows.mono {F F' : Nat → Prop} {w w' : World} (h : Ext F w F' w') (B s : Nat) (hF : F B) : ∀ (o : Nat) (rs : List (List PV)), PRows F w B s o rs → PRows F' w' B s o rs
  | _, [], _ => by simp [PRows]
  | o, r :: rs, hp => by
    simp only [PRows] at hp ⊢
    exact ⟨hp.1, PCells.mono h B hF o r hp.2.1, PRows.mono h B s hF (o + s) rs hp.2.2⟩
end

def RLe (ρ ρ' : Ren) : Prop := ∀ i x, ρ i = some x → ρ' i = some x

mutual
theorem VRel.mono {ρ ρ' : Ren} {F F' : Nat → Prop} {w w' : World} (h : Ext F w F' w') (hr : RLe ρ ρ') : ∀ (x : V) (v : Value), VRel ρ F w x v → VRel ρ' F' w' x v
  | .pv p, v, hx => by simp only [VRel] at hx ⊢; exact PRel.mono h p v hx
  | .ptr i r off, v, hx => by
    simp only [VRel] at hx ⊢
    obtain ⟨B, o, s, hi, hv⟩ := hx
    exact ⟨B, o, s, hr _ _ hi, hv⟩
  | .fe cs, v, hx => by
    simp only [VRel] at hx ⊢
    obtain ⟨B, o, hF, hv, hc⟩ := hx
    exact ⟨B, o, h.1 B hF, hv, PCells.mono h B hF o cs hc⟩
  | .ow i s r len, v, hx => by
    simp only [VRel] at hx ⊢
    obtain ⟨B, o, a, cap, hi, hv, hc, ha, hq⟩ := hx
    exact ⟨B, o, a, cap, hr _ _ hi, hv, hc, ha, hq.mono h.2.2⟩
  | .nl, v, hx => by simpa [VRel] using hx
  | .agg cs, v, hx => by
    simp only [VRel] at hx ⊢
    obtain ⟨l, hv, hl⟩ := hx
    exact ⟨l, hv, VList.mono h hr cs _ hl⟩
  | .tup cs, v, hx => by
    simp only [VRel] at hx ⊢
    obtain ⟨l, hv, hl⟩ := hx
    exact ⟨l, hv, VList.mono h hr cs _ hl⟩
  | .ifc t x, v, hx => by
    simp only [VRel] at hx ⊢
    obtain ⟨u, hv, hu⟩ := hx
    exact ⟨u, hv, VRel.mono h hr x _ hu⟩
  | .fn f a c, v, hx => by
    simp only [VRel] at hx ⊢
    obtain ⟨a', c', hv, ha, hc⟩ := hx
    exact ⟨a', c', hv, VList.mono h hr a _ ha, VList.mono h hr c _ hc⟩
theorem VList.mono {ρ ρ' : Ren} {F F' : Nat → Prop} {w w' : World} (h : Ext F w F' w') (hr : RLe ρ ρ') : ∀ (xs : List V) (l : List Value), VList ρ F w xs l → VList ρ' F' w' xs l
  | [], l, hp => by simpa [VList] using hp
  | p :: ps, l, hp => by
    simp only [VList] at hp ⊢
    obtain ⟨v, vs, hl, hv, hvs⟩ := hp
    exact ⟨v, vs, hl, VRel.mono h hr p v hv, VList.mono h hr ps vs hvs⟩
end

theorem VList.length {ρ : Ren} {F : Nat → Prop} {w : World} : ∀ {xs : List V} {l : List Value}, VList ρ F w xs l → l.length = xs.length
  | [], l, h => by simp only [VList] at h; simp [h]
  | x :: xs, l, h => by
    simp only [VList] at h
    obtain ⟨v, vs, rfl, -, h⟩ := h
    simp [h.length]

theorem VList.get {ρ : Ren} {F : Nat → Prop} {w : World} : ∀ {xs : List V} {l : List Value}, VList ρ F w xs l → ∀ (k : Nat) x, xs[k]? = some x → ∃ v, l[k]? = some v ∧ VRel ρ F w x v
  | [], l, _, k, x, hk => by simp at hk
  | y :: xs, l, h, k, x, hk => by
    simp only [VList] at h
    obtain ⟨v, vs, rfl, hv, h⟩ := h
    cases k with
    | zero => simp at hk; subst hk; exact ⟨v, rfl, hv⟩
    | succ k => exact h.get k x (by simpa using hk)

theorem VList.intro {ρ : Ren} {F : Nat → Prop} {w : World} : ∀ {xs : List V} {l : List Value}, l.length = xs.length → (∀ (k : Nat) x, xs[k]? = some x → ∃ v, l[k]? = some v ∧ VRel ρ F w x v) → VList ρ F w xs l
  | [], l, hl, _ => by simp only [VList]; exact List.eq_nil_of_length_eq_zero (by simpa using hl)
  | y :: xs, [], hl, _ => by simp at hl
  | y :: xs, v :: vs, hl, h => by
    simp only [VList]
    obtain ⟨u, hu, hr⟩ := h 0 y rfl
    obtain rfl : v = u := by simpa using hu
    exact ⟨v, vs, rfl, hr, VList.intro (by simpa using hl) fun k x hk => by simpa using h (k + 1) x (by simpa using hk)⟩

theorem VList.append {ρ : Ren} {F : Nat → Prop} {w : World} : ∀ {xs ys : List V} {l m : List Value}, VList ρ F w xs l → VList ρ F w ys m → VList ρ F w (xs ++ ys) (l ++ m)
  | [], ys, l, m, h, h' => by simp only [VList] at h; simpa [h] using h'
  | x :: xs, ys, l, m, h, h' => by
    simp only [VList] at h
    obtain ⟨v, vs, rfl, hv, h⟩ := h
    simp only [List.cons_append, VList]
    exact ⟨v, vs ++ m, rfl, hv, h.append h'⟩

theorem VList.drop {ρ : Ren} {F : Nat → Prop} {w : World} : ∀ {xs : List V} {l : List Value} (n : Nat), VList ρ F w xs l → VList ρ F w (xs.drop n) (l.drop n)
  | xs, l, 0, h => by simpa using h
  | [], l, n + 1, h => by simp only [VList] at h; subst h; simp [VList]
  | x :: xs, l, n + 1, h => by
    simp only [VList] at h
    obtain ⟨v, vs, rfl, hv, h⟩ := h
    simpa using h.drop n

theorem VList.take {ρ : Ren} {F : Nat → Prop} {w : World} : ∀ {xs : List V} {l : List Value} (n : Nat), VList ρ F w xs l → VList ρ F w (xs.take n) (l.take n)
  | xs, l, 0, h => by simp [VList]
  | [], l, n + 1, h => by simp only [VList] at h; subst h; simp [VList]
  | x :: xs, l, n + 1, h => by
    simp only [VList] at h
    obtain ⟨v, vs, rfl, hv, h⟩ := h
    simp only [List.take_succ_cons, VList]
    exact ⟨v, vs.take n, rfl, hv, h.take n⟩

theorem VList.of_PList {ρ : Ren} {F : Nat → Prop} {w : World} : ∀ {ps : List PV} {l : List Value}, PList F w ps l → VList ρ F w (ps.map .pv) l
  | [], l, h => by simpa [PList, VList] using h
  | p :: ps, l, h => by
    simp only [PList] at h
    obtain ⟨v, vs, rfl, hv, h⟩ := h
    simp only [List.map_cons, VList, VRel]
    exact ⟨v, vs, rfl, hv, VList.of_PList h⟩

theorem PList.of_VList {ρ : Ren} {F : Nat → Prop} {w : World} : ∀ {ps : List PV} {l : List Value}, VList ρ F w (ps.map .pv) l → PList F w ps l
  | [], l, h => by simpa [PList, VList] using h
  | p :: ps, l, h => by
    simp only [List.map_cons, VList, VRel] at h
    obtain ⟨v, vs, rfl, hv, h⟩ := h
    simp only [PList]
    exact ⟨v, vs, rfl, hv, PList.of_VList h⟩

theorem PCells.get {F : Nat → Prop} {w : World} {B : Nat} : ∀ {o : Nat} {ps : List PV}, PCells F w B o ps → ∀ (k : Nat) p, ps[k]? = some p → ∃ v, w.cell? ⟨B, o + k, none⟩ = some v ∧ v.oneCell' = true ∧ PRel F w p v
  | o, [], _, k, p, hk => by simp at hk
  | o, q :: ps, h, k, p, hk => by
    simp only [PCells] at h
    cases k with
    | zero => simp at hk; subst hk; exact h.1
    | succ k =>
      obtain ⟨v, hv, h1, hr⟩ := h.2.get k p (by simpa using hk)
      exact ⟨v, by rw [show o + (k + 1) = o + 1 + k by omega]; exact hv, h1, hr⟩

theorem PCells.intro {F : Nat → Prop} {w : World} {B : Nat} : ∀ {o : Nat} {ps : List PV}, (∀ (k : Nat) p, ps[k]? = some p → ∃ v, w.cell? ⟨B, o + k, none⟩ = some v ∧ v.oneCell' = true ∧ PRel F w p v) → PCells F w B o ps
  | o, [], _ => by simp [PCells]
  | o, q :: ps, h => by
    simp only [PCells]
    refine ⟨by simpa using h 0 q rfl, PCells.intro fun k p hk => ?_⟩
    rw [show o + 1 + k = o + (k + 1) by omega]
    exact h (k + 1) p (by simpa using hk)

theorem PCells.drop {F : Nat → Prop} {w : World} {B o : Nat} {ps : List PV} (h : PCells F w B o ps) (n : Nat) : PCells F w B (o + n) (ps.drop n) :=
  PCells.intro fun k p hk => by
    rw [Nat.add_assoc]
    exact h.get (n + k) p (by simpa using hk)

theorem PRows.get {F : Nat → Prop} {w : World} {B s : Nat} : ∀ {o : Nat} {rs : List (List PV)}, PRows F w B s o rs → ∀ (k : Nat) r, rs[k]? = some r → r.length = s ∧ PCells F w B (o + k * s) r
  | o, [], _, k, p, hk => by simp at hk
  | o, q :: rs, h, k, r, hk => by
    simp only [PRows] at h
    cases k with
    | zero => simp at hk; subst hk; simpa using ⟨h.1, h.2.1⟩
    | succ k =>
      obtain ⟨h1, h2⟩ := h.2.2.get k r (by simpa using hk)
      refine ⟨h1, ?_⟩
      rw [show o + (k + 1) * s = o + s + k * s by rw [Nat.add_mul]; omega]
      exact h2

theorem PRows.intro {F : Nat → Prop} {w : World} {B s : Nat} : ∀ {o : Nat} {rs : List (List PV)}, (∀ (k : Nat) r, rs[k]? = some r → r.length = s ∧ PCells F w B (o + k * s) r) → PRows F w B s o rs
  | o, [], _ => by simp [PRows]
  | o, q :: rs, h => by
    simp only [PRows]
    refine ⟨(h 0 q rfl).1, by simpa using (h 0 q rfl).2, PRows.intro fun k p hk => ?_⟩
    have := h (k + 1) p (by simpa using hk)
    rw [show o + s + k * s = o + (k + 1) * s by rw [Nat.add_mul]; omega]
    exact this

/-- A store: objects by number; an object is rows of cells. -/
structure SO where
  s : Nat
  rows : List (List V)
  deriving Inhabited

structure St where
  next : Nat
  get : Nat → Option SO

def St.empty : St := ⟨0, fun _ => none⟩
def St.set (st : St) (i : Nat) (o : SO) : St := ⟨st.next, fun j => if j = i then some o else st.get j⟩
def St.new (st : St) (o : SO) : St := ⟨st.next + 1, fun j => if j = st.next then some o else st.get j⟩
def St.kill (st : St) (i : Nat) : St := ⟨st.next, fun j => if j = i then none else st.get j⟩
def St.WF (st : St) : Prop := ∀ i, st.next ≤ i → st.get i = none

def OCells (ρ : Ren) (F : Nat → Prop) (w : World) (c : Array Value) (o : Nat) (row : List V) : Prop :=
  ∀ (k : Nat) x, row[k]? = some x → ∃ v, c[o + k]? = some v ∧ v.oneCell' = true ∧ VRel ρ F w x v
def ORows (ρ : Ren) (F : Nat → Prop) (w : World) (c : Array Value) (s o : Nat) (rows : List (List V)) : Prop :=
  ∀ (r : Nat) row, rows[r]? = some row → row.length = s ∧ OCells ρ F w c (o + r * s) row
def ObjRel (ρ : Ren) (F : Nat → Prop) (w : World) (i : Nat) (so : SO) : Prop :=
  ∃ B o c e, ρ i = some (B, o, so.s) ∧ ¬ F B ∧ w.heap[B]? = some (.cells c e (0, 0)) ∧ ORows ρ F w c so.s o so.rows

def blk (ρ : Ren) (i : Nat) : Option Nat := (ρ i).map (·.1)

theorem ObjRel.lt {ρ : Ren} {F : Nat → Prop} {w : World} {i : Nat} {so : SO} (h : ObjRel ρ F w i so) : ∃ B, blk ρ i = some B ∧ B < w.heap.size := by
  obtain ⟨B, o, c, e, hi, -, hb, -⟩ := h
  exact ⟨B, by simp [blk, hi], (Array.getElem?_eq_some_iff.1 hb).1⟩

/-- An object whose block stays as it is. -/
theorem ObjRel.keep {ρ ρ' : Ren} {F F' : Nat → Prop} {w w' : World} {i : Nat} {so : SO} (h : ObjRel ρ F w i so) (he : Ext F w F' w') (hr : RLe ρ ρ')
    (hb : ∀ B, blk ρ i = some B → w'.heap[B]? = w.heap[B]? ∧ ¬ F' B) : ObjRel ρ' F' w' i so := by
  obtain ⟨B, o, c, e, hi, hF, hc, hR⟩ := h
  have h' := hb B (by simp [blk, hi])
  refine ⟨B, o, c, e, hr _ _ hi, h'.2, h'.1.trans hc, fun r row hrow => ?_⟩
  obtain ⟨h1, h2⟩ := hR r row hrow
  refine ⟨h1, fun k x hx => ?_⟩
  obtain ⟨v, hv, h1, hx⟩ := h2 k x hx
  exact ⟨v, hv, h1, VRel.mono he hr x v hx⟩

/-- What must hold where a piece of code starts: 'R', 'W': the objects that it reads and writes; below 'n': the new ones. -/
structure Pre (ρ : Ren) (F : Nat → Prop) (w : World) (st : St) (R W : List Nat) (n : Nat) : Prop where
  fok : ∀ B, F B → B < w.heap.size
  obj : ∀ i, i < st.next → (i ∈ R ∨ i ∈ W) → ∃ so, st.get i = some so ∧ ObjRel ρ F w i so
  inj : ∀ i j, i < st.next → j < st.next → i ∈ W → (j ∈ R ∨ j ∈ W) → i ≠ j → blk ρ i ≠ blk ρ j
  fresh : ∀ i, st.next ≤ i → i < n → ρ i = none

/-- What holds behind it. -/
structure Post (ρ : Ren) (F : Nat → Prop) (w : World) (st : St) (ρ' : Ren) (F' : Nat → Prop) (w' : World) (st' : St) (W : List Nat) : Prop where
  rle : RLe ρ ρ'
  rnew : ∀ i, ρ' i ≠ ρ i → st.next ≤ i ∧ i < st'.next
  fle : ∀ B, F B → F' B
  fnew : ∀ B, F' B → F B ∨ w.heap.size ≤ B ∨ ∃ i, i < st.next ∧ i ∈ W ∧ blk ρ i = some B
  fok : ∀ B, F' B → B < w'.heap.size
  size : w.heap.size ≤ w'.heap.size
  shp : Shp w w'
  heap : ∀ B, B < w.heap.size → (∀ i, i < st.next → i ∈ W → blk ρ i ≠ some B) → w'.heap[B]? = w.heap[B]?
  obj : ∀ i so, (i < st.next ∧ i ∈ W ∨ st.next ≤ i) → st'.get i = some so → ObjRel ρ' F' w' i so ∧ ∀ B, blk ρ' i = some B → w.heap.size ≤ B ∨ ∃ j, j < st.next ∧ j ∈ W ∧ blk ρ j = some B
  inj : ∀ i j, (i < st.next ∧ i ∈ W ∨ st.next ≤ i) → (j < st.next ∧ j ∈ W ∨ st.next ≤ j) → (st'.get i).isSome → (st'.get j).isSome → i ≠ j → blk ρ' i ≠ blk ρ' j

/-- What a piece of code does to a store, whatever the world is. -/
structure Fine (st st' : St) (W : List Nat) : Prop where
  next : st.next ≤ st'.next
  same : ∀ i, i < st.next → i ∉ W → st'.get i = st.get i
  wf : st'.WF

end Go.Proofs.Ytfieppbehmglbaa.Ve
