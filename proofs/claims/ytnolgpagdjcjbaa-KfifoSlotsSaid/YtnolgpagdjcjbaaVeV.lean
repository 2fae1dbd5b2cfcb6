import Derived.Test.YtnolgpagdjcjbaaVeU
import Derived.KernelRfl
/-! Rules to step through code by the evaluator. -/
set_option linter.unusedVariables false
set_option linter.unusedSimpArgs false
namespace Go.Proofs.Ytnolgpagdjcjbaa.Ve
open Go

section
variable {P : Program} {C : Cfg}

abbrev QPost := Ex → List V → St → List Nat → List Nat → Prop

def wc (P : Program) (C : Cfg) (c : Code) (tm : List V) (st : St) (Q : QPost) : Prop :=
  ∃ o, vcode P C (Ew P C) c tm st = some o ∧ Q o.ex o.tm o.st o.R o.W

/-- A call, with its results. -/
def wk (P : Program) (C : Cfg) (f : FuncId) (args : List V) (st : St) (Q : V → St → List Nat → List Nat → Prop) : Prop :=
  ∃ v st' R W ex, Ew P C (.call f args st) = some ⟨ex, [v], st', R, W⟩ ∧ Q v st' R W

theorem wc_mono {c : Code} {tm : List V} {st : St} {Q Q' : QPost} (h : wc P C c tm st Q) (hq : ∀ ex tm st R W, Q ex tm st R W → Q' ex tm st R W) : wc P C c tm st Q' := by
  obtain ⟨o, h1, h2⟩ := h
  exact ⟨o, h1, hq _ _ _ _ _ h2⟩

def after (P : Program) (C : Cfg) (b : Code) (Q : QPost) : QPost := fun ex tm st R W => match ex with
  | .norm => wc P C b tm st fun ex' tm' st' R' W' => Q ex' tm' st' (R ++ R') (W ++ W')
  | ex => Q ex tm st R W

theorem w_seq {a b : Code} {tm : List V} {st : St} {Q : QPost} (h : wc P C a tm st (after P C b Q)) : wc P C (.seq a b) tm st Q := by
  obtain ⟨⟨ex, tm1, st1, R, W⟩, h1, h2⟩ := h
  cases ex with
  | norm =>
    obtain ⟨o', h3, h4⟩ := h2
    exact ⟨⟨o'.ex, o'.tm, o'.st, R ++ o'.R, W ++ o'.W⟩, by simp only [vcode, h1, h3], h4⟩
  | exit id => exact ⟨_, by simp only [vcode, h1], h2⟩
  | ret => exact ⟨_, by simp only [vcode, h1], h2⟩

theorem w_norm {b : Code} {Q : QPost} {tm : List V} {st : St} {R W : List Nat} (h : wc P C b tm st fun ex' tm' st' R' W' => Q ex' tm' st' (R ++ R') (W ++ W')) : after P C b Q .norm tm st R W := h
theorem w_exit' {b : Code} {Q : QPost} {tm : List V} {st : St} {R W : List Nat} {id : Nat} (h : Q (.exit id) tm st R W) : after P C b Q (.exit id) tm st R W := h
theorem w_ret' {b : Code} {Q : QPost} {tm : List V} {st : St} {R W : List Nat} (h : Q .ret tm st R W) : after P C b Q .ret tm st R W := h

theorem w_skip {tm : List V} {st : St} {Q : QPost} (h : Q .norm tm st [] []) : wc P C .skip tm st Q := ⟨_, rfl, h⟩
theorem w_label {l : Nat} {tm : List V} {st : St} {Q : QPost} (h : Q .norm tm st [] []) : wc P C (.label l) tm st Q := ⟨_, rfl, h⟩
theorem w_ret {tm : List V} {st : St} {Q : QPost} (h : Q .ret tm st [] []) : wc P C .ret tm st Q := ⟨_, rfl, h⟩
theorem w_exit {id : Nat} {tm : List V} {st : St} {Q : QPost} (h : Q (.exit id) tm st [] []) : wc P C (.exit id) tm st Q := ⟨_, rfl, h⟩
theorem w_scope {c : Code} {tm : List V} {st : St} {Q : QPost} (h : wc P C c tm st Q) : wc P C (.scope c) tm st Q := h

def unexit (id : Nat) : Ex → Ex
  | .exit k => if k = id then .norm else .exit k
  | ex => ex

theorem w_block {id : Nat} {c : Code} {tm : List V} {st : St} {Q : QPost} (h : wc P C c tm st fun ex tm st R W => Q (unexit id ex) tm st R W) : wc P C (.block id c) tm st Q := by
  obtain ⟨o, h1, h2⟩ := h
  refine ⟨⟨if o.ex = .exit id then .norm else o.ex, o.tm, o.st, o.R, o.W⟩, by simp only [vcode, h1], ?_⟩
  have : unexit id o.ex = if o.ex = .exit id then .norm else o.ex := by
    cases h : o.ex <;> simp [unexit]
  rw [← this]
  exact h2

theorem w_cond {c : Operand} {a b : Code} {tm : List V} {st : St} {Q : QPost} {t : Bool} (hc : envOf tm c = some (.pv (.sc (.bool t)))) (h1 : t = true → wc P C a tm st Q) (h2 : t = false → wc P C b tm st Q) : wc P C (.cond c a b) tm st Q := by
  cases t with
  | true =>
    obtain ⟨o, h, hq⟩ := h1 rfl
    exact ⟨o, by simp only [vcode, hc]; exact h, hq⟩
  | false =>
    obtain ⟨o, h, hq⟩ := h2 rfl
    exact ⟨o, by simp only [vcode, hc]; exact h, hq⟩

/-- Guards look at what lies where. -/
def vyieldL (ds : List (Option Tmp)) (tm : List V) (j : Nat) : Option Bool :=
  match ds[j]? with
  | some (some d) => match tm[d]? with
    | some (.pv (.sc (.bool b))) => some b
    | _ => none
  | _ => none
def vwantedL (ds : List (Option Tmp)) (tm : List V) (g : Option (Nat × Bool)) : Bool :=
  match g with
  | none => true
  | some (j, want) => match vyieldL ds tm j with
    | some b => b == want
    | none => false
def vopsL (P : Program) (C : Cfg) (E : Task → Option Out) (ds : List (Option Tmp)) : List Oper → List V → St → Option (List V × St × List Ent)
  | [], tm, st => some (tm, st, [])
  | o :: os, tm, st => match vwantedL ds tm o.guard with
    | true => match vexec P C E (envOf tm) o st with
      | some (v, st', R, W) => match vopsL P C E ds os (setTm tm o.dst v) st' with
        | some (tm', st'', l) => some (tm', st'', ⟨st, st', R, W, v⟩ :: l)
        | none => none
      | none => none
    | false => match vopsL P C E ds os (setTm tm o.dst undefV) st with
      | some (tm', st'', l) => some (tm', st'', ⟨st, st, [], [], undefV⟩ :: l)
      | none => none

theorem vwantedL_eq {ops : Array Oper} {tm : List V} {o : Oper} : vwanted ops tm o = vwantedL (ops.toList.map (·.dst)) tm o.guard := by
  unfold vwanted vwantedL
  split
  · rename_i h; simp only [h]
  · rename_i j want h
    simp only [h]
    have : vyield ops tm j = vyieldL (ops.toList.map (·.dst)) tm j := by
      unfold vyield vyieldL
      rw [List.getElem?_map, Array.getElem?_toList]
      cases ops[j]? with
      | none => rfl
      | some o' =>
        simp only [Option.map]
        cases o'.dst with
        | none => rfl
        | some d => rfl
    rw [this]
    cases vyieldL (ops.toList.map (·.dst)) tm j <;> rfl
theorem vopsL_eq {ops : Array Oper} : ∀ {os : List Oper} {tm : List V} {st : St}, vops P C (Ew P C) ops os tm st = vopsL P C (Ew P C) (ops.toList.map (·.dst)) os tm st
  | [], _, _ => rfl
  | o :: os, tm, st => by
    simp only [vops, vopsL, vwantedL_eq]
    cases vwantedL (ops.toList.map (·.dst)) tm o.guard with
    | true =>
      cases hx : vexec P C (Ew P C) (envOf tm) o st with
      | none => rfl
      | some r =>
        simp only [vopsL_eq]
        cases vopsL P C (Ew P C) (ops.toList.map (·.dst)) os (setTm tm o.dst r.1) r.2.1 <;> rfl
    | false =>
      simp only [vopsL_eq]
      cases vopsL P C (Ew P C) (ops.toList.map (·.dst)) os (setTm tm o.dst undefV) st <;> rfl

/-- One operation. -/
def wo (P : Program) (C : Cfg) (ds : List (Option Tmp)) (os : List Oper) (tm : List V) (st : St) (K : List V → St → List Ent → Prop) : Prop :=
  ∃ tm' st' l, vopsL P C (Ew P C) ds os tm st = some (tm', st', l) ∧ K tm' st' l

theorem w_region {id : Nat} {ops : Array Oper} {draw : Bool} {ds : List (Option Tmp)} {os : List Oper} {tm : List V} {st : St} {Q : QPost} (hd : ops.toList.map (·.dst) = ds) (hs : ops.toList = os)
    (h : wo P C ds os tm st fun tm' st' l => (!draw || dynOk ops l 0) = true ∧ Q .norm tm' st' (entR l) (entW l)) : wc P C (.region id ops draw) tm st Q := by
  obtain ⟨tm', st', l, h1, h2, h3⟩ := h
  refine ⟨⟨.norm, tm', st', entR l, entW l⟩, ?_, h3⟩
  simp only [vcode, vopsL_eq, hd]
  simp only [hs, h1, h2, if_true]

theorem wo_nil {ds : List (Option Tmp)} {tm : List V} {st : St} {K : List V → St → List Ent → Prop} (h : K tm st []) : wo P C ds [] tm st K := ⟨_, _, _, rfl, h⟩
theorem wo_cons {ds : List (Option Tmp)} {o : Oper} {os : List Oper} {tm : List V} {st : St} {K : List V → St → List Ent → Prop} {v : V} {st' : St} {R W : List Nat}
    (hg : o.guard = none) (hx : vexec P C (Ew P C) (envOf tm) o st = some (v, st', R, W)) (h : wo P C ds os (setTm tm o.dst v) st' fun tm' st'' l => K tm' st'' (⟨st, st', R, W, v⟩ :: l)) : wo P C ds (o :: os) tm st K := by
  obtain ⟨tm', st'', l, h1, h2⟩ := h
  exact ⟨tm', st'', _, by simp only [vopsL, vwantedL, hg, hx, h1], h2⟩
theorem wo_guard {ds : List (Option Tmp)} {o : Oper} {os : List Oper} {tm : List V} {st : St} {K : List V → St → List Ent → Prop} {j : Nat} {want b : Bool}
    (hg : o.guard = some (j, want)) (hy : vyieldL ds tm j = some b)
    (h1 : b = want → ∃ v st' R W, vexec P C (Ew P C) (envOf tm) o st = some (v, st', R, W) ∧ wo P C ds os (setTm tm o.dst v) st' fun tm' st'' l => K tm' st'' (⟨st, st', R, W, v⟩ :: l))
    (h2 : b ≠ want → wo P C ds os (setTm tm o.dst undefV) st fun tm' st'' l => K tm' st'' (⟨st, st, [], [], undefV⟩ :: l)) : wo P C ds (o :: os) tm st K := by
  by_cases hb : b = want
  · obtain ⟨v, st', R, W, hx, tm', st'', l, h3, h4⟩ := h1 hb
    exact ⟨tm', st'', _, by simp [vopsL, vwantedL, hg, hy, hb, hx, h3], h4⟩
  · obtain ⟨tm', st'', l, h3, h4⟩ := h2 hb
    exact ⟨tm', st'', _, by
      have : (b == want) = false := by simp [hb]
      simp only [vopsL, vwantedL, hg, hy, this, h3], h4⟩

-- where things lie ----------------------------------------------------------
def lk (tm : List V) (j : Nat) : V := tm.getD j undefV
def put (tm : List V) (i : Nat) (v : V) : List V := tm.set i v
theorem look_int {tm : List V} {k : IntKind} {n : Int} : envOf tm (.const (.int k n)) = some (.pv (.sc (.int k n))) := rfl
theorem look_bool {tm : List V} {b : Bool} : envOf tm (.const (.bool b)) = some (.pv (.sc (.bool b))) := rfl
theorem look_str {tm : List V} {b : ByteArray} : envOf tm (.const (.string b)) = some (.pv (.sc (.string b))) := rfl
theorem look_nils {tm : List V} : envOf tm (.const (.slice none 0 0)) = some .nl := rfl
theorem look_const {tm : List V} {c : Value} : envOf tm (.const c) = some (ofValue c) := rfl
theorem look_func {tm : List V} {f : FuncId} : envOf tm (.func f) = some (.fn (.func f) [] []) := rfl
theorem look_tmp {tm : List V} {t : Tmp} {v : V} (h : lk tm t = v) : envOf tm (.tmp t) = some v := by rw [← h]; rfl
theorem look_hit {tm : List V} {i : Nat} {v : V} (h : Nat.blt i tm.length = true) : lk (put tm i v) i = v := by
  have : i < tm.length := by simpa [Nat.blt_eq] using h
  simp [lk, put, List.getD, this]
theorem look_miss {tm : List V} {i j : Nat} {v w : V} (hne : Nat.beq i j = false) (h : lk tm j = w) : lk (put tm i v) j = w := by
  have : i ≠ j := Nat.ne_of_beq_eq_false hne
  rw [← h]
  simp [lk, put, List.getD, List.getElem?_set_ne this]
theorem look_head {tm : List V} {v : V} : lk (v :: tm) 0 = v := rfl
theorem look_tail {tm : List V} {v w : V} {j : Nat} (h : lk tm j = w) : lk (v :: tm) (j + 1) = w := by rw [← h]; rfl
theorem look_rep {n j : Nat} : lk (List.replicate n undefV) j = undefV := by
  simp [lk, List.getD, List.getElem?_replicate]
  split <;> rfl
theorem len_set {tm : List V} {i k : Nat} {v : V} (h : Nat.blt k tm.length = true) : Nat.blt k (put tm i v).length = true := by unfold put; rw [List.length_set]; exact h

-- objects -------------------------------------------------------------------
theorem next_empty : St.empty.next = 0 := rfl
theorem next_new {st : St} {o : SO} {n : Nat} (h : st.next = n) : (st.new o).next = n + 1 := by rw [← h]; rfl
theorem next_set {st : St} {o : SO} {i n : Nat} (h : st.next = n) : (st.set i o).next = n := h
theorem next_kill {st : St} {i n : Nat} (h : st.next = n) : (st.kill i).next = n := h
theorem get_new_hit {st : St} {o : SO} {i : Nat} (h : st.next = i) : (st.new o).get i = some o := by simp [St.new, h]
theorem get_new_miss {st : St} {o : SO} {r : Option SO} {i n : Nat} (hn : st.next = n) (h : i ≠ n) (hg : st.get i = r) : (st.new o).get i = r := by simp [St.new, hn, h, hg]
theorem get_set_hit {st : St} {o : SO} {i : Nat} : (st.set i o).get i = some o := by simp [St.set]
theorem get_set_miss {st : St} {o : SO} {r : Option SO} {i j : Nat} (h : i ≠ j) (hg : st.get i = r) : (st.set j o).get i = r := by simp [St.set, h, hg]
theorem get_kill_miss {st : St} {r : Option SO} {i j : Nat} (h : i ≠ j) (hg : st.get i = r) : (st.kill j).get i = r := by simp [St.kill, h, hg]
theorem part_sc {P : Program} {t : TypeId} {cs : List V} {off : Nat} {v : V} (ha : tyAgg P t = some false) (h : cs[off]? = some v) : partV P t cs off = some v := by simp only [partV, ha, h]
theorem part_agg {P : Program} {t : TypeId} {cs : List V} {off n : Nat} {v : V} (ha : tyAgg P t = some true) (hs : tySize P t = some n) (hl : Nat.ble (off + n) cs.length = true) (h : mkAgg ((cs.drop off).take n) = v) : partV P t cs off = some v := by
  simp only [partV, ha, hs, h]
  rw [if_pos (Nat.le_of_ble_eq_true hl)]

-- guards ----------------------------------------------------------------------
theorem yield_of {ds : List (Option Tmp)} {tm : List V} {j : Nat} {d : Tmp} {b : Bool} (hd : ds[j]? = some (some d)) (hl : lk tm d = .pv (.sc (.bool b))) : vyieldL ds tm j = some b := by
  unfold vyieldL
  rw [hd]
  simp only [lk, List.getD] at hl
  cases hx : tm[d]? with
  | none => rw [hx] at hl; simp [undefV, undef] at hl
  | some v =>
    rw [hx] at hl
    simp only [Option.getD_some] at hl
    simp only [hx, hl]
theorem yield_none {ds : List (Option Tmp)} {tm : List V} {j : Nat} {d : Tmp} (hd : ds[j]? = some (some d)) (hl : lk tm d = undefV) : vyieldL ds tm j = none := by
  unfold vyieldL
  rw [hd]
  simp only [lk, List.getD] at hl
  cases hx : tm[d]? with
  | none => simp [hx]
  | some v =>
    rw [hx] at hl
    simp only [Option.getD_some] at hl
    simp [hx, hl, undefV, undef]
theorem g_undef {ds : List (Option Tmp)} {d : Tmp} {op : Op} {ty : TypeId} {pos : String} {af : Array Edge} {os : List Oper} {tm : List V} {st : St} {K : List V → St → List Ent → Prop} {j : Nat} {want : Bool}
    (hy : vyieldL ds tm j = none) (h : wo P C ds os (put tm d undefV) st fun tm' st'' l => K tm' st'' (⟨st, st, [], [], undefV⟩ :: l)) : wo P C ds (⟨some d, op, ty, pos, af, some (j, want)⟩ :: os) tm st K := by
  obtain ⟨tm', st'', l, h3, h4⟩ := h
  exact ⟨tm', st'', _, by simp only [vopsL, vwantedL, hy]; simp only [setTm]; unfold put at h3; simp only [h3], h4⟩
theorem vexec_guard {E : Task → Option Out} {env : Operand → Option V} {d : Option Tmp} {op : Op} {ty : TypeId} {pos : String} {af : Array Edge} {g g' : Option (Nat × Bool)} {st : St} : vexec P C E env ⟨d, op, ty, pos, af, g⟩ st = vexec P C E env ⟨d, op, ty, pos, af, g'⟩ st := by
  cases op <;> rfl
theorem g_in {ds : List (Option Tmp)} {d : Option Tmp} {op : Op} {ty : TypeId} {pos : String} {af : Array Edge} {os : List Oper} {tm : List V} {st : St} {K : List V → St → List Ent → Prop} {j : Nat} {want b : Bool}
    (hy : vyieldL ds tm j = some b) (hb : b = want) (h : wo P C ds (⟨d, op, ty, pos, af, none⟩ :: os) tm st K) : wo P C ds (⟨d, op, ty, pos, af, some (j, want)⟩ :: os) tm st K := by
  obtain ⟨tm', st', l, h1, h2⟩ := h
  refine ⟨tm', st', l, ?_, h2⟩
  have hw : (b == want) = true := by rw [hb]; simp
  simp only [vopsL, vwantedL, hy, hw] at h1 ⊢
  rw [vexec_guard (g' := none)]
  exact h1
theorem g_out {ds : List (Option Tmp)} {d : Tmp} {op : Op} {ty : TypeId} {pos : String} {af : Array Edge} {os : List Oper} {tm : List V} {st : St} {K : List V → St → List Ent → Prop} {j : Nat} {want b : Bool}
    (hy : vyieldL ds tm j = some b) (hb : b = !want) (h : wo P C ds os (put tm d undefV) st fun tm' st'' l => K tm' st'' (⟨st, st, [], [], undefV⟩ :: l)) : wo P C ds (⟨some d, op, ty, pos, af, some (j, want)⟩ :: os) tm st K :=
  wo_guard rfl hy (fun e => by rw [hb] at e; cases want <;> cases e) (fun _ => h)
theorem g_cases {ds : List (Option Tmp)} {d : Tmp} {op : Op} {ty : TypeId} {pos : String} {af : Array Edge} {os : List Oper} {tm : List V} {st : St} {K : List V → St → List Ent → Prop} {j : Nat} {want b : Bool}
    (hy : vyieldL ds tm j = some b) (h1 : b = want → wo P C ds (⟨some d, op, ty, pos, af, none⟩ :: os) tm st K) (h2 : b = !want → wo P C ds os (put tm d undefV) st fun tm' st'' l => K tm' st'' (⟨st, st, [], [], undefV⟩ :: l)) : wo P C ds (⟨some d, op, ty, pos, af, some (j, want)⟩ :: os) tm st K := by
  by_cases hb : b = want
  · exact g_in hy hb (h1 hb)
  · have : b = !want := by cases b <;> cases want <;> simp_all
    exact g_out hy this (h2 this)

-- operations ----------------------------------------------------------------
section
variable {ds : List (Option Tmp)} {os : List Oper} {tm : List V} {st : St} {K : List V → St → List Ent → Prop} {d : Tmp} {t t' ty : TypeId} {x y : Operand} {pos : String} {af : Array Edge}

theorem pureRun_bind {α β : Type} (s : Sem α) (k : α → Sem β) : pureRun P (s >>= k) = (pureRun P s).bind fun a => pureRun P (k a) := by
  show pureRun P (Sem.bind s k) = _
  induction s with
  | pure a => rfl
  | program f ih => simp only [Sem.bind, pureRun]; exact ih P
  | mark m f ih => simp only [Sem.bind, pureRun]; exact ih
  | _ => rfl

theorem pureRun_map {α β : Type} (s : Sem α) (f : α → β) : pureRun P (f <$> s) = (pureRun P s).map f := by
  show pureRun P (s >>= fun a => .pure (f a)) = _
  rw [pureRun_bind]
  cases pureRun P s <;> rfl

def binRun (P : Program) (op : BinOp) (t : TypeId) (x y : Operand) (a b : Value) : Option Value := pureRun P (do eqGuard op t x y a b; binOp op t a b)

theorem vexec_bin {d' : Option Tmp} {env : Operand → Option V} {op : BinOp} {g : Option (Nat × Bool)} {va vb : V} {a b r : Value} (hx : env x = some va) (hy : env y = some vb) (ha : va.val? = some a) (hb : vb.val? = some b) (hr : binRun P op t x y a b = some r) :
    vexec P C (Ew P C) env ⟨d', .binOp op t x y t', ty, pos, af, g⟩ st = some (ofValue r, st, [], []) := by
  have hs : scal P env ⟨d', .binOp op t x y t', ty, pos, af, g⟩ = some r := by
    unfold binRun at hr
    simp [scal, Op.operands, hx, hy, ha, hb, execOp]
    rw [pureRun_bind] at hr ⊢
    cases h1 : pureRun P (eqGuard op t x y a b) with
    | none => rw [h1] at hr; simp at hr
    | some u =>
      rw [h1] at hr
      simp only [Option.bind_some] at hr ⊢
      rw [pureRun_map, hr]
      rfl
  simp [vexec, vop, binPlain, hx, hy, ha, hb, hs, one]

theorem o_move {v : V} (hx : envOf tm x = some v) (h : wo P C ds os (put tm d v) st fun tm' st'' l => K tm' st'' (⟨st, st, [], [], v⟩ :: l)) : wo P C ds (⟨some d, .move x, ty, pos, af, none⟩ :: os) tm st K :=
  wo_cons rfl (by simp only [vexec, vop, hx, one]) h
theorem o_assign {v : V} (hx : envOf tm x = some v) (h : wo P C ds os (put tm d v) st fun tm' st'' l => K tm' st'' (⟨st, st, [], [], v⟩ :: l)) : wo P C ds (⟨some d, .assign x, ty, pos, af, none⟩ :: os) tm st K :=
  wo_cons rfl (by simp only [vexec, vop, hx, one]) h
theorem o_bin {op : BinOp} {a b r : Value} (hx : envOf tm x = some (.pv (.sc a))) (hy : envOf tm y = some (.pv (.sc b))) (hr : binRun P op t x y a b = some r) (ho : ofValue r = .pv (.sc r)) (h : wo P C ds os (put tm d (.pv (.sc r))) st fun tm' st'' l => K tm' st'' (⟨st, st, [], [], .pv (.sc r)⟩ :: l)) : wo P C ds (⟨some d, .binOp op t x y t', ty, pos, af, none⟩ :: os) tm st K :=
  wo_cons rfl (by rw [← ho]; exact vexec_bin hx hy rfl rfl hr) h
theorem o_pick {c : Operand} {b : Bool} {va vb : V} (hc : envOf tm c = some (.pv (.sc (.bool b)))) (hx : envOf tm x = some va) (hy : envOf tm y = some vb) (h1 : b = true → wo P C ds os (put tm d va) st fun tm' st'' l => K tm' st'' (⟨st, st, [], [], va⟩ :: l)) (h2 : b = false → wo P C ds os (put tm d vb) st fun tm' st'' l => K tm' st'' (⟨st, st, [], [], vb⟩ :: l)) : wo P C ds (⟨some d, .pick c x y, ty, pos, af, none⟩ :: os) tm st K := by
  cases b with
  | true => exact wo_cons rfl (by simp only [vexec, vop, hc, hx, one]) (h1 rfl)
  | false => exact wo_cons rfl (by simp only [vexec, vop, hc, hy, one]) (h2 rfl)
theorem o_pick_t {c : Operand} {b : Bool} {va : V} (hc : envOf tm c = some (.pv (.sc (.bool b)))) (hb : b = true) (hx : envOf tm x = some va) (h : wo P C ds os (put tm d va) st fun tm' st'' l => K tm' st'' (⟨st, st, [], [], va⟩ :: l)) : wo P C ds (⟨some d, .pick c x y, ty, pos, af, none⟩ :: os) tm st K := by
  subst hb
  exact wo_cons rfl (by simp only [vexec, vop, hc, hx, one]) h
theorem o_pick_f {c : Operand} {b : Bool} {va : V} (hc : envOf tm c = some (.pv (.sc (.bool b)))) (hb : b = false) (hx : envOf tm y = some va) (h : wo P C ds os (put tm d va) st fun tm' st'' l => K tm' st'' (⟨st, st, [], [], va⟩ :: l)) : wo P C ds (⟨some d, .pick c x y, ty, pos, af, none⟩ :: os) tm st K := by
  subst hb
  exact wo_cons rfl (by simp only [vexec, vop, hc, hx, one]) h
theorem o_not {b : Bool} (hx : envOf tm x = some (.pv (.sc (.bool b)))) (h : wo P C ds os (put tm d (.pv (.sc (.bool (!b))))) st fun tm' st'' l => K tm' st'' (⟨st, st, [], [], .pv (.sc (.bool (!b)))⟩ :: l)) : wo P C ds (⟨some d, .unOp .not t x, ty, pos, af, none⟩ :: os) tm st K :=
  wo_cons rfl (by simp [vexec, vop, scal, Op.operands, hx, V.val?, PV.val?, execOp, Op.unary, one, pureRun, pureRun_bind, pure, bind, Sem.bind, ofValue, ofVal1, ofCell]) h

theorem br_add {k : IntKind} {a b : Int} : binRun P .add t x y (.int k a) (.int k b) = some (.int k (k.wrap (a + b))) := by simp [binRun, pureRun_bind, eqGuard, binOp, Op.intArith, pureRun, pure]
theorem br_sub {k : IntKind} {a b : Int} : binRun P .sub t x y (.int k a) (.int k b) = some (.int k (k.wrap (a - b))) := by simp [binRun, pureRun_bind, eqGuard, binOp, Op.intArith, pureRun, pure]
theorem br_mul {k : IntKind} {a b : Int} : binRun P .mul t x y (.int k a) (.int k b) = some (.int k (k.wrap (a * b))) := by simp [binRun, pureRun_bind, eqGuard, binOp, Op.intArith, pureRun, pure]
theorem br_quo {k : IntKind} {a b : Int} (h : b ≠ 0) : binRun P .quo t x y (.int k a) (.int k b) = some (.int k (k.wrap (a.tdiv b))) := by simp [binRun, pureRun_bind, eqGuard, binOp, Op.intDiv, pureRun, pure, h]
theorem br_rem {k : IntKind} {a b : Int} (h : b ≠ 0) : binRun P .rem t x y (.int k a) (.int k b) = some (.int k (a.tmod b)) := by simp [binRun, pureRun_bind, eqGuard, binOp, Op.intDiv, pureRun, pure, h]
theorem br_and {k : IntKind} {a b : Int} : binRun P .and t x y (.int k a) (.int k b) = some (.int k (k.wrap (BitVec.ofInt k.bits a &&& BitVec.ofInt k.bits b).toNat)) := by simp [binRun, pureRun_bind, eqGuard, binOp, Op.intBits, pureRun, pure]
theorem br_lss {k : IntKind} {a b : Int} : binRun P .lss t x y (.int k a) (.int k b) = some (.bool (decide (a < b))) := by simp [binRun, pureRun_bind, eqGuard, binOp, Op.intCmp, pureRun, pure]
theorem br_leq {k : IntKind} {a b : Int} : binRun P .leq t x y (.int k a) (.int k b) = some (.bool (decide (a ≤ b))) := by simp [binRun, pureRun_bind, eqGuard, binOp, Op.intCmp, pureRun, pure]
theorem br_gtr {k : IntKind} {a b : Int} : binRun P .gtr t x y (.int k a) (.int k b) = some (.bool (decide (b < a))) := by simp [binRun, pureRun_bind, eqGuard, binOp, Op.intCmp, pureRun, pure]
theorem br_geq {k : IntKind} {a b : Int} : binRun P .geq t x y (.int k a) (.int k b) = some (.bool (decide (b ≤ a))) := by simp [binRun, pureRun_bind, eqGuard, binOp, Op.intCmp, pureRun, pure]
theorem br_eql {k : IntKind} {a b : Int} : binRun P .eql t x y (.int k a) (.int k b) = some (.bool (decide (a = b))) := by
  simp [binRun, pureRun_bind, eqGuard, binOp, Op.intCmp, pureRun, pure]
  rfl
theorem br_neq {k : IntKind} {a b : Int} : binRun P .neq t x y (.int k a) (.int k b) = some (.bool (!decide (a = b))) := by
  simp [binRun, pureRun_bind, eqGuard, binOp, Op.intCmp, pureRun, pure]
  rfl
end
end


section
variable {P : Program} {C : Cfg}

theorem len_of {tm : List V} {k n : Nat} (h : tm.length = n) (hk : Nat.blt k n = true) : Nat.blt k tm.length = true := by rw [h]; exact hk
theorem pureRun_under {t : TypeId} {d : TypeDesc} (h : P.underlying t = some d) : pureRun P (underlying t) = some d := by
  simp only [underlying, program, pureRun_bind, pureRun, Option.bind, bind, Sem.bind, h, pure]
theorem bb_eql {t : TypeId} {x y : Operand} {a b : Bool} (h : P.underlying t = some .bool) : binRun P .eql t x y (.bool a) (.bool b) = some (.bool (a == b)) := by
  obtain ⟨n, hn⟩ : ∃ n, Op.maxDepth = n + 1 := ⟨9999, rfl⟩
  simp only [binRun, pureRun_bind, eqGuard, binOp, Op.equal, hn]
  simp [Op.equalIn, pureRun_bind, pureRun_under h, pureRun, pure]
theorem bb_neq {t : TypeId} {x y : Operand} {a b : Bool} (h : P.underlying t = some .bool) : binRun P .neq t x y (.bool a) (.bool b) = some (.bool (!(a == b))) := by
  obtain ⟨n, hn⟩ : ∃ n, Op.maxDepth = n + 1 := ⟨9999, rfl⟩
  simp only [binRun, pureRun_bind, eqGuard, binOp, Op.equal, hn]
  simp [Op.equalIn, pureRun_bind, pureRun_under h, pureRun, pure]
theorem w_regionL {id : Nat} {draw : Bool} {os : List Oper} {tm : List V} {st : St} {Q : QPost}
    (h : wo P C (os.map (·.dst)) os tm st fun tm' st' l => (!draw || dynOk ⟨os⟩ l 0) = true ∧ Q .norm tm' st' (entR l) (entW l)) : wc P C (.region id ⟨os⟩ draw) tm st Q := w_region rfl rfl h
theorem w_cond_t {c : Operand} {a b : Code} {tm : List V} {st : St} {Q : QPost} {t : Bool} (hc : envOf tm c = some (.pv (.sc (.bool t)))) (ht : t = true) (h1 : wc P C a tm st Q) : wc P C (.cond c a b) tm st Q :=
  w_cond hc (fun _ => h1) (fun h => by rw [ht] at h; cases h)
theorem w_cond_f {c : Operand} {a b : Code} {tm : List V} {st : St} {Q : QPost} {t : Bool} (hc : envOf tm c = some (.pv (.sc (.bool t)))) (ht : t = false) (h1 : wc P C b tm st Q) : wc P C (.cond c a b) tm st Q :=
  w_cond hc (fun h => by rw [ht] at h; cases h) (fun _ => h1)

section
variable {ds : List (Option Tmp)} {os : List Oper} {tm : List V} {st : St} {K : List V → St → List Ent → Prop} {d : Tmp} {t t' ty : TypeId} {x y : Operand} {pos : String} {af : Array Edge}

theorem br_shl {k k' : IntKind} {a b : Int} (h : 0 ≤ b) : binRun P .shl t x y (.int k a) (.int k' b) = some (.int k (k.wrap (a * 2 ^ (min b.toNat k.bits)))) := by
  have : ¬ b < 0 := Int.not_lt.mpr h
  simp [binRun, pureRun_bind, eqGuard, binOp, Op.shift, pureRun, pure, this]
theorem br_shr {k k' : IntKind} {a b : Int} (h : 0 ≤ b) : binRun P .shr t x y (.int k a) (.int k' b) = some (.int k (a.fdiv (2 ^ (min b.toNat k.bits)))) := by
  have : ¬ b < 0 := Int.not_lt.mpr h
  simp [binRun, pureRun_bind, eqGuard, binOp, Op.shift, pureRun, pure, this]

theorem o_any {o : Op} {v : V} {st' : St} {R W : List Nat} (hx : vexec P C (Ew P C) (envOf tm) ⟨some d, o, ty, pos, af, none⟩ st = some (v, st', R, W)) (h : wo P C ds os (put tm d v) st' fun tm' st'' l => K tm' st'' (⟨st, st', R, W, v⟩ :: l)) : wo P C ds (⟨some d, o, ty, pos, af, none⟩ :: os) tm st K := wo_cons rfl hx h

theorem o_extract {k : Nat} {cs : List V} {v : V} (hx : envOf tm x = some (.tup cs)) (hk : cs[k]? = some v) (h : wo P C ds os (put tm d v) st fun tm' st'' l => K tm' st'' (⟨st, st, [], [], v⟩ :: l)) : wo P C ds (⟨some d, .extract x k, ty, pos, af, none⟩ :: os) tm st K :=
  wo_cons rfl (by simp only [vexec, vop, hx, hk, one]) h
theorem o_alloc {z : V} {cs : List V} {i n : Nat} (hz : zeroV P t = some z) (hcs : z.cells = cs) (hn : cs.length = n) (hc : cs.all V.cell1 = true) (hi : st.next = i) (h : wo P C ds os (put tm d (.ptr i 0 0)) (st.new ⟨n, [cs]⟩) fun tm' st'' l => K tm' st'' (⟨st, st.new ⟨n, [cs]⟩, [], [], .ptr i 0 0⟩ :: l)) : wo P C ds (⟨some d, .alloc t, ty, pos, af, none⟩ :: os) tm st K :=
  wo_cons rfl (by subst hcs hn hi; simp only [vexec, vop, hz, hc, if_true]) h
theorem o_store {a : Operand} {p v : V} {st' : St} {W : List Nat} (ha : envOf tm a = some p) (hx : envOf tm x = some v) (hs : storeV P st t v p = some (st', W)) (h : wo P C ds os tm st' fun tm' st'' l => K tm' st'' (⟨st, st', [], W, undefV⟩ :: l)) : wo P C ds (⟨none, .store t a x, ty, pos, af, none⟩ :: os) tm st K :=
  wo_cons rfl (by simp only [vexec, vop, ha, hx, hs]) h
theorem o_load {a : Operand} {p v : V} {R : List Nat} (ha : envOf tm a = some p) (hs : loadV P st t p = some (v, R)) (h : wo P C ds os (put tm d v) st fun tm' st'' l => K tm' st'' (⟨st, st, R, [], v⟩ :: l)) : wo P C ds (⟨some d, .load t a, ty, pos, af, none⟩ :: os) tm st K :=
  wo_cons rfl (by simp only [vexec, vop, ha, hs]) h
theorem o_fieldAddr {a : Operand} {p v : V} {k : Nat} (ha : envOf tm a = some p) (hs : fieldAddrV P t k p = some v) (h : wo P C ds os (put tm d v) st fun tm' st'' l => K tm' st'' (⟨st, st, [], [], v⟩ :: l)) : wo P C ds (⟨some d, .fieldAddr t a k, ty, pos, af, none⟩ :: os) tm st K :=
  wo_cons rfl (by simp only [vexec, vop, ha, hs, one]) h
theorem o_field {a : Operand} {p v : V} {k : Nat} (ha : envOf tm a = some p) (hs : fieldV P t k p = some v) (h : wo P C ds os (put tm d v) st fun tm' st'' l => K tm' st'' (⟨st, st, [], [], v⟩ :: l)) : wo P C ds (⟨some d, .field t a k, ty, pos, af, none⟩ :: os) tm st K :=
  wo_cons rfl (by simp only [vexec, vop, ha, hs, one]) h
theorem o_indexAddr {a : Operand} {p v : V} {k : IntKind} {n : Int} (ha : envOf tm a = some p) (hi : envOf tm x = some (.pv (.sc (.int k n)))) (hs : indexAddrV P t p n = some v) (h : wo P C ds os (put tm d v) st fun tm' st'' l => K tm' st'' (⟨st, st, [], [], v⟩ :: l)) : wo P C ds (⟨some d, .indexAddr t a x, ty, pos, af, none⟩ :: os) tm st K :=
  wo_cons rfl (by simp only [vexec, vop, ha, hi, hs, one]) h

theorem o_make {a c : Operand} {k k' : IntKind} {n m : Int} {e sz bs i : Nat} {z : V} {cs : List V} (hl : envOf tm a = some (.pv (.sc (.int k n)))) (hc : envOf tm c = some (.pv (.sc (.int k' m)))) (he : sliceElem P t = some e) (hi : (P.info? e).map (fun i => (i.size, i.bytes)) = some (sz, bs)) (hz : zeroV P e = some z) (hcs : z.cells = cs) (hzl : cs.length = sz) (hz1 : cs.all V.cell1 = true) (hid : st.next = i) (hb : 0 ≤ n ∧ n ≤ m ∧ m ≤ 2 ^ 40 ∧ m * (bs + 1) ≤ 2 ^ 40)
    (h : wo P C ds os (put tm d (.ow i sz 0 n.toNat)) (st.new ⟨sz, List.replicate m.toNat cs⟩) fun tm' st'' l => K tm' st'' (⟨st, st.new ⟨sz, List.replicate m.toNat cs⟩, [], [], .ow i sz 0 n.toNat⟩ :: l)) : wo P C ds (⟨some d, .makeSlice t a c, ty, pos, af, none⟩ :: os) tm st K := by
  refine wo_cons rfl ?_ h
  subst hcs hid
  cases hq : P.info? e with
  | none => rw [hq] at hi; cases hi
  | some inf =>
    rw [hq] at hi
    simp only [Option.map, Option.some.injEq, Prod.mk.injEq] at hi
    obtain ⟨rfl, rfl⟩ := hi
    simp only [vexec, vop, hl, hc, makeSliceV, he, hq, hz]
    rw [if_pos ⟨hb.1, hb.2.1, hb.2.2.1, hb.2.2.2, hzl, hz1⟩]

theorem o_loadp {a : Operand} {i r off : Nat} {so : SO} {row : List V} {v : V} (ha : envOf tm a = some (.ptr i r off)) (hg : st.get i = some so) (hr : so.rows[r]? = some row) (hp : partV P t row off = some v) (h : wo P C ds os (put tm d v) st fun tm' st'' l => K tm' st'' (⟨st, st, [i], [], v⟩ :: l)) : wo P C ds (⟨some d, .load t a, ty, pos, af, none⟩ :: os) tm st K :=
  o_load ha (by simp only [loadV, hg, hr, hp]) h
theorem o_loadf {a : Operand} {cs : List PV} {v : V} (ha : envOf tm a = some (.fe cs)) (hp : partV P t (cs.map .pv) 0 = some v) (h : wo P C ds os (put tm d v) st fun tm' st'' l => K tm' st'' (⟨st, st, [], [], v⟩ :: l)) : wo P C ds (⟨some d, .load t a, ty, pos, af, none⟩ :: os) tm st K :=
  o_load ha (by simp only [loadV, hp]) h
theorem o_storep {a : Operand} {i r off n : Nat} {so : SO} {row row' : List V} {c : V} {cs' : List V} {v : V} (ha : envOf tm a = some (.ptr i r off)) (hx : envOf tm x = some v) (hg : st.get i = some so) (hr : so.rows[r]? = some row) (hv : v.cells = c :: cs') (hs : tySize P t = some n) (hn : Nat.beq (c :: cs').length n = true) (hl : Nat.ble (off + (c :: cs').length) row.length = true) (hc : (c :: cs').all V.cell1 = true) (hw : setAt row off (c :: cs') = row')
    (h : wo P C ds os tm (st.set i ⟨so.s, so.rows.set r row'⟩) fun tm' st'' l => K tm' st'' (⟨st, st.set i ⟨so.s, so.rows.set r row'⟩, [], [i], undefV⟩ :: l)) : wo P C ds (⟨none, .store t a x, ty, pos, af, none⟩ :: os) tm st K := by
  refine o_store ha hx ?_ h
  have hn' : (c :: cs').length = n := Nat.eq_of_beq_eq_true hn
  simp only [storeV, hv, hg, hr]
  rw [if_pos ⟨by rw [hs, hn'], Nat.le_of_ble_eq_true hl, hc⟩, hw]

/-- max and min of two whole numbers. -/
theorem vexec_max {env : Operand → Option V} {d' : Option Tmp} {ts : Array TypeId} {g : Option (Nat × Bool)} {k k' : IntKind} {a b : Int} (hx : env x = some (.pv (.sc (.int k a)))) (hy : env y = some (.pv (.sc (.int k' b)))) :
    vexec P C (Ew P C) env ⟨d', .call { callee := .builtin .max, args := #[x, y], argTypes := ts }, ty, pos, af, g⟩ st = some (.pv (.sc (.int k (if b > a then b else a))), st, [], []) := by
  simp [vexec, vop, scal, Op.operands, Call.operands, hx, hy, V.val?, PV.val?, execOp, resolve, invoke, builtin, Builtin.max_, Builtin.max2, one, pureRun, pureRun_bind, pure, bind, Sem.bind, ofValue, ofVal1, ofCell]
theorem vexec_min {env : Operand → Option V} {d' : Option Tmp} {ts : Array TypeId} {g : Option (Nat × Bool)} {k k' : IntKind} {a b : Int} (hx : env x = some (.pv (.sc (.int k a)))) (hy : env y = some (.pv (.sc (.int k' b)))) :
    vexec P C (Ew P C) env ⟨d', .call { callee := .builtin .min, args := #[x, y], argTypes := ts }, ty, pos, af, g⟩ st = some (.pv (.sc (.int k (if b < a then b else a))), st, [], []) := by
  simp [vexec, vop, scal, Op.operands, Call.operands, hx, hy, V.val?, PV.val?, execOp, resolve, invoke, builtin, Builtin.min_, Builtin.min2, one, pureRun, pureRun_bind, pure, bind, Sem.bind, ofValue, ofVal1, ofCell]
theorem o_max {ts : Array TypeId} {k k' : IntKind} {a b : Int} (hx : envOf tm x = some (.pv (.sc (.int k a)))) (hy : envOf tm y = some (.pv (.sc (.int k' b)))) (h : wo P C ds os (put tm d (.pv (.sc (.int k (if b > a then b else a))))) st fun tm' st'' l => K tm' st'' (⟨st, st, [], [], .pv (.sc (.int k (if b > a then b else a)))⟩ :: l)) : wo P C ds (⟨some d, .call { callee := .builtin .max, args := #[x, y], argTypes := ts }, ty, pos, af, none⟩ :: os) tm st K :=
  wo_cons rfl (vexec_max hx hy) h
theorem o_min {ts : Array TypeId} {k k' : IntKind} {a b : Int} (hx : envOf tm x = some (.pv (.sc (.int k a)))) (hy : envOf tm y = some (.pv (.sc (.int k' b)))) (h : wo P C ds os (put tm d (.pv (.sc (.int k (if b < a then b else a))))) st fun tm' st'' l => K tm' st'' (⟨st, st, [], [], .pv (.sc (.int k (if b < a then b else a)))⟩ :: l)) : wo P C ds (⟨some d, .call { callee := .builtin .min, args := #[x, y], argTypes := ts }, ty, pos, af, none⟩ :: os) tm st K :=
  wo_cons rfl (vexec_min hx hy) h

/-- len of a slice. -/
theorem o_len {ts : Array TypeId} {v : V} {n : Int} (hx : envOf tm x = some v) (ht : ts[0]? = some t) (hp : ∀ a, v ≠ .pv (.sc a)) (hn : lenV P t v = some n) (h : wo P C ds os (put tm d (.pv (.sc (.int .i64 n)))) st fun tm' st'' l => K tm' st'' (⟨st, st, [], [], .pv (.sc (.int .i64 n))⟩ :: l)) : wo P C ds (⟨some d, .call { callee := .builtin .len, args := #[x], argTypes := ts }, ty, pos, af, none⟩ :: os) tm st K := by
  refine wo_cons rfl ?_ h
  simp only [vexec, vop, hx]
  cases v with
  | pv p => cases p with
    | sc a => exact absurd rfl (hp a)
    | _ => simp only [ht, hn, one, Option.map]
  | _ => simp only [ht, hn, one, Option.map]

/-- A call of a function that sees no object. -/
theorem o_pcall {g : FuncId} {args : Array Operand} {ts : Array TypeId} {vs : List V} {ps : List PV} {v : V} (hargs : envAll (envOf tm) args.toList = some vs) (hb : hasBody P g = true) (hp : C.pol g = .pure) (hf : frzAll st vs = some (ps, [])) (hv : pcall (Ew P C) g ps = some v)
    (h : wo P C ds os (put tm d v) st fun tm' st'' l => K tm' st'' (⟨st, st, [], [], v⟩ :: l)) : wo P C ds (⟨some d, .call { callee := .value (.func g), args := args, argTypes := ts }, ty, pos, af, none⟩ :: os) tm st K := by
  refine wo_cons rfl ?_ h
  simp [vexec, targetV, hargs, look_func, hb, docall, hp, hf, hv]
/-- The same, of what lies in objects. -/
theorem o_pcallF {g : FuncId} {args : Array Operand} {ts : Array TypeId} {vs : List V} {ps : List PV} {ids : List Nat} {v : V} (hargs : envAll (envOf tm) args.toList = some vs) (hb : hasBody P g = true) (hp : C.pol g = .pure) (hf : frzAll st vs = some (ps, ids)) (hv : pcall (Ew P C) g ps = some v) (hfl : v.flat = true)
    (h : wo P C ds os (put tm d v) st fun tm' st'' l => K tm' st'' (⟨st, st, ids, [], v⟩ :: l)) : wo P C ds (⟨some d, .call { callee := .value (.func g), args := args, argTypes := ts }, ty, pos, af, none⟩ :: os) tm st K := by
  refine wo_cons rfl ?_ h
  simp [vexec, targetV, hargs, look_func, hb, docall, hp, hf, hv, hfl]
  cases ids <;> rfl
theorem args_nil {env : Operand → Option V} : envAll env [] = some [] := rfl
theorem args_cons {env : Operand → Option V} {x : Operand} {xs : List Operand} {v : V} {vs : List V} (h1 : env x = some v) (h2 : envAll env xs = some vs) : envAll env (x :: xs) = some (v :: vs) := by simp only [envAll, h1, h2]
theorem frzAll_nil {st : St} : frzAll st [] = some ([], []) := rfl
theorem frzAll_pv {st : St} {p : PV} {vs : List V} {ps : List PV} {ids : List Nat} (h : frzAll st vs = some (ps, ids)) : frzAll st (.pv p :: vs) = some (p :: ps, ids) := by simp [frzAll, frz, h]
end

/-- A function by its code. -/
theorem pcall_of {g : FuncId} {fn : Func} {c : Code} {ps : List PV} {v : V} (hf : P.funcs[g]? = some fn) (hc : fn.body = some c) (hp : C.pol g ≠ .keep)
    (h : wc P C c (ps.map .pv ++ List.replicate (fn.ntmps - (ps.map V.pv).length) undefV) St.empty fun ex tm st _ _ => (∀ id, ex ≠ .exit id) ∧ ∃ vs R ids, resV P st tm fn.results.toList = some (vs, R) ∧ frzRes st (resOne vs) = some (v, ids)) (hv : v.isPure = true) : pcall (Ew P C) g ps = some v := by
  obtain ⟨o, h1, hx, vs, R, ids, h2, h3⟩ := h
  unfold pcall
  rw [ew_eq]
  simp only [stepE, call1, hf, hc, h1]
  simp only [h2, finish, h3]
  cases hq : C.pol g with
  | keep => exact absurd hq hp
  | _ => simp only [hv]

theorem resV_tmp {st : St} {tm : List V} {t : Tmp} {v : V} (h : lk tm t = v) : resV P st tm [.tmp t] = some ([v], []) := by rw [← h]; rfl

-- what a code leaves -------------------------------------------------------
def opsD (os : List Oper) : List Nat := os.filterMap (·.dst)
def dsts : Code → List Nat
  | .seq a b | .cond _ a b => dsts a ++ dsts b
  | .block _ c | .loop c | .scope c => dsts c
  | .region _ ops _ => opsD ops.toList
  | _ => []
structure Keeps (l : List Nat) (tm tm' : List V) : Prop where
  len : tm'.length = tm.length
  at_ : ∀ j, l.contains j = false → lk tm' j = lk tm j
theorem Keeps.refl {l : List Nat} {tm : List V} : Keeps l tm tm := ⟨rfl, fun _ _ => rfl⟩
theorem Keeps.trans {l : List Nat} {a b c : List V} (h1 : Keeps l a b) (h2 : Keeps l b c) : Keeps l a c := ⟨h2.len.trans h1.len, fun j h => (h2.at_ j h).trans (h1.at_ j h)⟩
theorem Keeps.wide {l l' : List Nat} {a b : List V} (h : Keeps l a b) (hl : ∀ j, l'.contains j = false → l.contains j = false) : Keeps l' a b := ⟨h.len, fun j hj => h.at_ j (hl j hj)⟩
theorem Keeps.look {l : List Nat} {a b : List V} {j : Nat} {v : V} (h : Keeps l a b) (hj : l.contains j = false) (ha : lk a j = v) : lk b j = v := (h.at_ j hj).trans ha
theorem Keeps.lenb {l : List Nat} {a b : List V} {k : Nat} (h : Keeps l a b) (ha : Nat.blt k a.length = true) : Nat.blt k b.length = true := by rw [h.len]; exact ha
theorem contains_left {a b : List Nat} {j : Nat} (h : (a ++ b).contains j = false) : a.contains j = false := by
  simp only [List.contains_eq_mem, List.mem_append, decide_eq_false_iff_not, not_or] at h ⊢; exact h.1
theorem contains_right {a b : List Nat} {j : Nat} (h : (a ++ b).contains j = false) : b.contains j = false := by
  simp only [List.contains_eq_mem, List.mem_append, decide_eq_false_iff_not, not_or] at h ⊢; exact h.2
theorem keeps_set {tm : List V} {d : Option Tmp} {v : V} {l : List Nat} (h : ∀ t, d = some t → l.contains t = true) : Keeps l tm (setTm tm d v) := by
  cases d with
  | none => exact Keeps.refl
  | some t =>
    refine ⟨by simp [setTm], fun j hj => ?_⟩
    have : t ≠ j := by
      rintro rfl
      rw [h t rfl] at hj
      cases hj
    simp only [lk, setTm, List.getD, List.getElem?_set_ne this]
theorem keeps_ops {E : Task → Option Out} {ops : Array Oper} : ∀ {os : List Oper} {tm : List V} {st : St} {r : List V × St × List Ent}, vops P C E ops os tm st = some r → Keeps (opsD os) tm r.1
  | [], tm, st, r, h => by
    simp only [vops, Option.some.injEq] at h
    subst h
    exact Keeps.refl
  | o :: os, tm, st, r, h => by
    have w1 : ∀ v, Keeps (opsD (o :: os)) tm (setTm tm o.dst v) := fun v => keeps_set fun t ht => by
      simp [opsD, List.filterMap_cons, ht]
    have w2 : ∀ j, (opsD (o :: os)).contains j = false → (opsD os).contains j = false := by
      intro j hj
      cases hd : o.dst with
      | none => simpa [opsD, List.filterMap_cons, hd] using hj
      | some t =>
        simp only [opsD, List.filterMap_cons, hd, List.contains_cons, Bool.or_eq_false_iff] at hj
        exact hj.2
    simp only [vops] at h
    split at h
    · split at h
      · rename_i v st' R W hx
        split at h
        · rename_i tm' st'' l hv
          simp only [Option.some.injEq] at h
          subst h
          exact (w1 v).trans ((keeps_ops hv).wide w2)
        · simp at h
      · simp at h
    · split at h
      · rename_i tm' st'' l hv
        simp only [Option.some.injEq] at h
        subst h
        exact (w1 undefV).trans ((keeps_ops hv).wide w2)
      · simp at h
theorem keeps_code {E : Task → Option Out} (hE : ∀ c tm st o, E (.loop c tm st) = some o → Keeps (dsts c) tm o.tm) : ∀ (c : Code) (tm : List V) (st : St) (o : Out), vcode P C E c tm st = some o → Keeps (dsts c) tm o.tm := by
  intro c
  induction c with
  | seq x y ihx ihy =>
    intro tm st o h
    simp only [vcode] at h
    split at h
    · rename_i o1 h1
      have k1 := (ihx tm st o1 h1).wide (l' := dsts (.seq x y)) fun j hj => contains_left hj
      split at h
      · split at h
        · rename_i o2 h2
          simp only [Option.some.injEq] at h
          subst h
          exact k1.trans ((ihy _ _ _ h2).wide fun j hj => contains_right hj)
        · simp at h
      · simp only [Option.some.injEq] at h
        subst h
        exact k1
    · simp at h
  | cond c x y ihx ihy =>
    intro tm st o h
    simp only [vcode] at h
    split at h
    · rename_i t hc
      cases t with
      | true => exact (ihx tm st o h).wide fun j hj => contains_left hj
      | false => exact (ihy tm st o h).wide fun j hj => contains_right hj
    · simp at h
  | block id c ih =>
    intro tm st o h
    simp only [vcode] at h
    split at h
    · rename_i o1 h1
      simp only [Option.some.injEq] at h
      subst h
      exact ih tm st o1 h1
    · simp at h
  | scope c ih => intro tm st o h; simp only [vcode] at h; exact ih tm st o h
  | loop c ih => intro tm st o h; simp only [vcode] at h; exact hE c tm st o h
  | region id ops draw =>
    intro tm st o h
    simp only [vcode] at h
    split at h
    · rename_i tm' st' l hv
      split at h
      · simp only [Option.some.injEq] at h
        subst h
        exact keeps_ops hv
      · simp at h
    · simp at h
  | skip => intro tm st o h; simp only [vcode, Option.some.injEq] at h; subst h; exact Keeps.refl
  | label l => intro tm st o h; simp only [vcode, Option.some.injEq] at h; subst h; exact Keeps.refl
  | exit id => intro tm st o h; simp only [vcode, Option.some.injEq] at h; subst h; exact Keeps.refl
  | ret => intro tm st o h; simp only [vcode, Option.some.injEq] at h; subst h; exact Keeps.refl
  | rangeFunc f ps as body _ _ => intro tm st o h; simp [vcode] at h
  | goto l => intro tm st o h; simp [vcode] at h
  | refuse w => intro tm st o h; simp [vcode] at h
theorem keeps_evN : ∀ (n : Nat) (c : Code) (tm : List V) (st : St) (o : Out), evN P C n (.loop c tm st) = some o → Keeps (dsts c) tm o.tm
  | 0, c, tm, st, o, h => by simp [evN] at h
  | n + 1, c, tm, st, o, h => by
    simp only [evN, stepE] at h
    split at h
    · rename_i o1 h1
      have k1 := keeps_code (keeps_evN n) c tm st o1 h1
      split at h
      · split at h
        · rename_i o2 h2
          simp only [Option.some.injEq] at h
          subst h
          exact k1.trans (keeps_evN n c _ _ o2 h2)
        · simp at h
      · simp only [Option.some.injEq] at h
        subst h
        exact k1
    · simp at h
theorem keeps_ew {c : Code} {tm : List V} {st : St} {o : Out} (h : vcode P C (Ew P C) c tm st = some o) : Keeps (dsts c) tm o.tm :=
  keeps_code (fun c tm st o h => by obtain ⟨n, hn⟩ := ew_back h; exact keeps_evN n c tm st o (hn n (Nat.le_refl n))) c tm st o h
theorem wc_keeps {c : Code} {tm : List V} {st : St} {Q : QPost} (h : wc P C c tm st Q) : wc P C c tm st fun ex tm' st' R W => Q ex tm' st' R W ∧ Keeps (dsts c) tm tm' := by
  obtain ⟨o, h1, h2⟩ := h
  exact ⟨o, h1, h2, keeps_ew h1⟩

/-- What a loop's body ends in. -/
def lpost (l : List Nat) (tm0 : List V) (I : Nat → List V → St → Prop) (m : Nat) (Q : QPost) : QPost := fun ex tm' st' R W => match ex with
  | .norm => ∃ m', m' < m ∧ I m' tm' st'
  | ex => ∀ R W, Q ex tm' st' R W

theorem fin1 {rs : List ResultVar} {t : Tmp} {st : St} {tm : List V} {v v' : V} {ids : List Nat} (hr : rs = [.tmp t]) (hl : lk tm t = v) (hz : frzRes st v = some (v', ids)) :
    (∀ id, Ex.ret ≠ .exit id) ∧ ∃ vs R ids, resV P st tm rs = some (vs, R) ∧ frzRes st (resOne vs) = some (v', ids) :=
  ⟨(fun _ h => by cases h), [v], [], ids, by rw [hr]; exact resV_tmp hl, hz⟩

theorem o_build {ds : List (Option Tmp)} {os : List Oper} {tm : List V} {st : St} {K : List V → St → List Ent → Prop} {d : Tmp} {t ty : TypeId} {pos : String} {af : Array Edge} {parts : Array (Nat × Operand)} {ps : List (Nat × V)} {v : V}
    (hp : envParts (envOf tm) parts.toList = some ps) (hv : buildV P t ps = some v) (h : wo P C ds os (put tm d v) st fun tm' st'' l => K tm' st'' (⟨st, st, [], [], v⟩ :: l)) : wo P C ds (⟨some d, .build t parts, ty, pos, af, none⟩ :: os) tm st K :=
  wo_cons rfl (by simp only [vexec, vop, hp, hv, one]) h
theorem fin_ct {rs : List ResultVar} {a b : Tmp} {t : TypeId} {st : St} {tm row : List V} {so : SO} {i r off : Nat} {x y v' : V} {ids : List Nat} (hr : rs = [.cell a t, .tmp b]) (hl : lk tm a = .ptr i r off) (hg : st.get i = some so) (hw : so.rows[r]? = some row) (hp : partV P t row off = some x) (hb : lk tm b = y) (hz : frzRes st (.tup [x, y]) = some (v', ids)) :
    (∀ id, Ex.ret ≠ .exit id) ∧ ∃ vs R ids, resV P st tm rs = some (vs, R) ∧ frzRes st (resOne vs) = some (v', ids) := by
  refine ⟨(fun _ h => by cases h), [x, y], [i], ids, ?_, hz⟩
  rw [hr]
  unfold lk at hl hb
  simp only [resV, hl, hb, loadV, hg, hw, hp, List.append_nil]

/-- A loop: the measure m falls. -/
theorem w_loop {c : Code} {Q : QPost} (I : Nat → List V → St → Prop) (m : Nat) {tm : List V} {st : St} (h0 : I m tm st)
    (hs : ∀ m tm st, I m tm st → wc P C c tm st fun ex tm' st' R W => match ex with
      | .norm => ∃ m', m' < m ∧ I m' tm' st'
      | ex => ∀ R W, Q ex tm' st' R W) : wc P C (.loop c) tm st Q := by
  have key : ∀ m tm st, I m tm st → ∃ o, Ew P C (.loop c tm st) = some o ∧ ∀ R W, Q o.ex o.tm o.st R W := by
    intro m
    induction m using Nat.strongRecOn with
    | ind m ih =>
      intro tm st h0
      obtain ⟨⟨ex, tm1, st1, R1, W1⟩, h1, h2⟩ := hs m tm st h0
      cases ex with
      | norm =>
        obtain ⟨m', hm, h3⟩ := h2
        obtain ⟨o, h4, h5⟩ := ih m' hm tm1 st1 h3
        exact ⟨⟨o.ex, o.tm, o.st, R1 ++ o.R, W1 ++ o.W⟩, by rw [ew_eq]; simp only [stepE, h1, h4], fun R W => h5 R W⟩
      | exit id => exact ⟨⟨.exit id, tm1, st1, R1, W1⟩, by rw [ew_eq]; simp only [stepE, h1], h2⟩
      | ret => exact ⟨⟨.ret, tm1, st1, R1, W1⟩, by rw [ew_eq]; simp only [stepE, h1], h2⟩
  obtain ⟨o, h3, h4⟩ := key m tm st h0
  exact ⟨o, h3, h4 o.R o.W⟩

/-- The same, and what the loop doesn't write stays. -/
theorem w_loopK {c : Code} {Q : QPost} (I : Nat → List V → St → Prop) (m : Nat) {tm : List V} {st : St} {l : List Nat} (hl : dsts c = l) (h0 : I m tm st)
    (hs : ∀ m tm' st', I m tm' st' → Keeps l tm tm' → wc P C c tm' st' (lpost l tm I m Q)) : wc P C (.loop c) tm st Q := by
  subst hl
  refine w_loop (fun m tm' st' => I m tm' st' ∧ Keeps (dsts c) tm tm') m ⟨h0, Keeps.refl⟩ ?_
  rintro m tm' st' ⟨hI, hK⟩
  refine wc_mono (wc_keeps (hs m tm' st' hI hK)) ?_
  rintro ex tm'' st'' R W ⟨h1, h2⟩
  cases ex with
  | norm =>
    obtain ⟨m', hm, h3⟩ := h1
    exact ⟨m', hm, h3, hK.trans h2⟩
  | exit id => exact h1
  | ret => exact h1
theorem l_norm {l : List Nat} {tm0 : List V} {I : Nat → List V → St → Prop} {m : Nat} {Q : QPost} {tm : List V} {st : St} {R W : List Nat} (m' : Nat) (hm : m' < m) (h : I m' tm st) : lpost l tm0 I m Q .norm tm st R W := ⟨m', hm, h⟩
theorem l_exit {l : List Nat} {tm0 : List V} {I : Nat → List V → St → Prop} {m : Nat} {Q : QPost} {tm : List V} {st : St} {R W : List Nat} {id : Nat} (h : ∀ R W, Q (.exit id) tm st R W) : lpost l tm0 I m Q (.exit id) tm st R W := h
theorem l_ret {l : List Nat} {tm0 : List V} {I : Nat → List V → St → Prop} {m : Nat} {Q : QPost} {tm : List V} {st : St} {R W : List Nat} (h : ∀ R W, Q .ret tm st R W) : lpost l tm0 I m Q .ret tm st R W := h

/-- What a loop's body ends in, if what is written counts. -/
def lpostW (B : Nat → Prop) (l : List Nat) (tm0 : List V) (I : Nat → List V → St → Prop) (m : Nat) (Q : QPost) : QPost := fun ex tm' st' R W => (∀ x ∈ W, B x) ∧ match ex with
  | .norm => ∃ m', m' < m ∧ I m' tm' st'
  | ex => ∀ R W, (∀ x ∈ W, B x) → Q ex tm' st' R W
theorem w_loopW {c : Code} {Q : QPost} (B : Nat → Prop) (I : Nat → List V → St → Prop) (m : Nat) {tm : List V} {st : St} {l : List Nat} (hl : dsts c = l) (h0 : I m tm st)
    (hs : ∀ m tm' st', I m tm' st' → Keeps l tm tm' → wc P C c tm' st' (lpostW B l tm I m Q)) : wc P C (.loop c) tm st Q := by
  subst hl
  have key : ∀ m tm' st', I m tm' st' → Keeps (dsts c) tm tm' → ∃ o, Ew P C (.loop c tm' st') = some o ∧ (∀ x ∈ o.W, B x) ∧ ∀ R W, (∀ x ∈ W, B x) → Q o.ex o.tm o.st R W := by
    intro m
    induction m using Nat.strongRecOn with
    | ind m ih =>
      intro tm' st' h0 hK
      obtain ⟨⟨ex, tm1, st1, R1, W1⟩, h1, ⟨hB, h2⟩, hK1⟩ := wc_keeps (hs m tm' st' h0 hK)
      cases ex with
      | norm =>
        obtain ⟨m', hm, h3⟩ := h2
        obtain ⟨o, h4, hB', h5⟩ := ih m' hm tm1 st1 h3 (hK.trans hK1)
        refine ⟨⟨o.ex, o.tm, o.st, R1 ++ o.R, W1 ++ o.W⟩, by rw [ew_eq]; simp only [stepE, h1, h4], ?_, fun R W => h5 R W⟩
        intro x hx
        rcases List.mem_append.1 hx with h | h
        · exact hB x h
        · exact hB' x h
      | exit id => exact ⟨⟨.exit id, tm1, st1, R1, W1⟩, by rw [ew_eq]; simp only [stepE, h1], hB, h2⟩
      | ret => exact ⟨⟨.ret, tm1, st1, R1, W1⟩, by rw [ew_eq]; simp only [stepE, h1], hB, h2⟩
  obtain ⟨o, h3, hB, h4⟩ := key m tm st h0 Keeps.refl
  exact ⟨o, h3, h4 o.R o.W hB⟩
theorem l_normW {B : Nat → Prop} {l : List Nat} {tm0 : List V} {I : Nat → List V → St → Prop} {m : Nat} {Q : QPost} {tm : List V} {st : St} {R W : List Nat} (m' : Nat) (hm : m' < m) (hW : ∀ x ∈ W, B x) (h : I m' tm st) : lpostW B l tm0 I m Q .norm tm st R W := ⟨hW, m', hm, h⟩
theorem l_exitW {B : Nat → Prop} {l : List Nat} {tm0 : List V} {I : Nat → List V → St → Prop} {m : Nat} {Q : QPost} {tm : List V} {st : St} {R W : List Nat} {id : Nat} (hW : ∀ x ∈ W, B x) (h : ∀ R W, (∀ x ∈ W, B x) → Q (.exit id) tm st R W) : lpostW B l tm0 I m Q (.exit id) tm st R W := ⟨hW, h⟩
theorem l_retW {B : Nat → Prop} {l : List Nat} {tm0 : List V} {I : Nat → List V → St → Prop} {m : Nat} {Q : QPost} {tm : List V} {st : St} {R W : List Nat} (hW : ∀ x ∈ W, B x) (h : ∀ R W, (∀ x ∈ W, B x) → Q .ret tm st R W) : lpostW B l tm0 I m Q .ret tm st R W := ⟨hW, h⟩

/-- A loop that the kernel runs. -/
theorem w_loop_fact {α : Type} {c : Code} {Q : QPost} {tm : List V} {st : St} (n : Nat) (f : Out → α) (a : α) (h : (evN P C n (.loop c tm st)).map f = some a)
    (hq : ∀ h' ex tm' st' R W, (⟨ex, tm', st', R, W⟩ : Out) = (evN P C n (.loop c tm st)).get h' → f ⟨ex, tm', st', R, W⟩ = a → Keeps (dsts c) tm tm' → Q ex tm' st' R W) : wc P C (.loop c) tm st Q := by
  cases ho : evN P C n (.loop c tm st) with
  | none => rw [ho] at h; cases h
  | some o =>
    rw [ho] at h
    refine ⟨o, by simp only [vcode]; exact ew_of ho, hq (by rw [ho]; rfl) o.ex o.tm o.st o.R o.W ?_ (Option.some.inj h) (keeps_evN n c tm st o ho)⟩
    exact (Option.some.inj ((Option.some_get _).trans ho)).symm
theorem pcall_evN {n : Nat} {g : FuncId} {ps : List PV} {v : V} (h : pcall (evN P C n) g ps = some v) : pcall (Ew P C) g ps = some v := by
  unfold pcall at h ⊢
  split at h
  · rename_i o ho
    rw [ew_of ho]
    exact h
  · cases h

/-- A loop whose run is known. -/
theorem w_loop_run {c : Code} {Q : QPost} {tm : List V} {st : St} {n : Nat} {o : Out} (h : evN P C n (.loop c tm st) = some o) (hq : Q o.ex o.tm o.st o.R o.W) : wc P C (.loop c) tm st Q :=
  ⟨o, by simp only [vcode]; exact ew_of h, hq⟩
end

section
variable {P : Program} {C : Cfg}

/-- A call of a Go function, as its caller sees it. -/
def Fn (P : Program) (C : Cfg) (g : FuncId) (args : List V) (st : St) (Q : V → St → List Nat → List Nat → Prop) : Prop :=
  ∃ v st' R W, docall C (Ew P C) g args st = some (v, st', R, W) ∧ Q v st' R W

theorem Fn.mono {g : FuncId} {args : List V} {st : St} {Q Q' : V → St → List Nat → List Nat → Prop} (h : Fn P C g args st Q) (hq : ∀ v st' R W, Q v st' R W → Q' v st' R W) : Fn P C g args st Q' := by
  obtain ⟨v, st', R, W, h1, h2⟩ := h
  exact ⟨v, st', R, W, h1, hq _ _ _ _ h2⟩

/-- What a function's code must end in. -/
def Ends (P : Program) (C : Cfg) (rs : List ResultVar) (K : V → St → List Nat → List Nat → Prop) : QPost := fun ex tm st R W =>
  (∀ id, ex ≠ .exit id) ∧ ∃ vs R', resV P st tm rs = some (vs, R') ∧ K (resOne vs) st (R ++ R') W

theorem ends_ret {rs : List ResultVar} {K : V → St → List Nat → List Nat → Prop} {tm : List V} {st : St} {R W : List Nat} {vs : List V} {R' : List Nat} (hr : resV P st tm rs = some (vs, R')) (hk : K (resOne vs) st (R ++ R') W) : Ends P C rs K .ret tm st R W :=
  ⟨(fun _ h => by cases h), vs, R', hr, hk⟩
theorem ends_norm {rs : List ResultVar} {K : V → St → List Nat → List Nat → Prop} {tm : List V} {st : St} {R W : List Nat} {vs : List V} {R' : List Nat} (hr : resV P st tm rs = some (vs, R')) (hk : K (resOne vs) st (R ++ R') W) : Ends P C rs K .norm tm st R W :=
  ⟨(fun _ h => by cases h), vs, R', hr, hk⟩

theorem ends_mono {rs : List ResultVar} {K K' : V → St → List Nat → List Nat → Prop} (hk : ∀ v st R W, K v st R W → K' v st R W) {ex : Ex} {tm : List V} {st : St} {R W : List Nat} (h : Ends P C rs K ex tm st R W) : Ends P C rs K' ex tm st R W := by
  obtain ⟨h1, vs, R', h2, h3⟩ := h
  exact ⟨h1, vs, R', h2, hk _ _ _ _ h3⟩
/-- How a callee's result leaves it. -/
inductive Leaves (pol : Pol) (st0 : St) (v : V) (st : St) : V → St → List Nat → Prop
  | keep (h : pol = .keep) : Leaves pol st0 v st v st []
  | frz (h : pol ≠ .keep) (v' : V) (ids : List Nat) (hf : frzRes st v = some (v', ids)) : Leaves pol st0 v st v' (st.kills ids) ids
  | norm (h : pol = .std ∨ pol = .res) (hf : frzRes st v = none) : Leaves pol st0 v st v.norm st []

theorem finish_leaves {f : FuncId} {st0 st : St} {v v' : V} {st' : St} {R W ids : List Nat} (h : Leaves (C.pol f) st0 v st v' st' ids) :
    finish C f st0 st v R W = some ⟨.ret, [v'], st', (R ++ ids).filter (· < st0.next), (W ++ ids).filter (· < st0.next)⟩ := by
  unfold finish
  cases h with
  | keep h => simp only [h, List.append_nil]
  | frz h v' ids hf =>
    cases hp : C.pol f with
    | keep => exact absurd hp h
    | _ => simp only [hf]
  | norm h hf =>
    rcases h with h | h <;> simp only [h, hf, List.append_nil]

theorem call1_of {f : FuncId} {fn : Func} {c : Code} {args : List V} {st : St} {v : V} {st' : St} {Q : V → St → List Nat → List Nat → Prop} (hf : P.funcs[f]? = some fn) (hc : fn.body = some c)
    (h : wc P C c (args ++ List.replicate (fn.ntmps - args.length) undefV) st (Ends P C fn.results.toList fun v st1 R W => ∃ v' st' ids, Leaves (C.pol f) st v st1 v' st' ids ∧ Q v' st' ((R ++ ids).filter (· < st.next)) ((W ++ ids).filter (· < st.next)))) :
    ∃ v st' R W, Ew P C (.call f args st) = some ⟨.ret, [v], st', R, W⟩ ∧ Q v st' R W := by
  obtain ⟨o, h1, hx, vs, R', h2, v', st', ids, h3, h4⟩ := h
  refine ⟨v', st', _, _, ?_, h4⟩
  rw [ew_eq]
  simp only [stepE, call1, hf, hc, h1]
  cases hex : o.ex with
  | exit id => exact absurd hex (hx id)
  | _ => simp only [h2]; exact finish_leaves h3

/-- Into a function: its arguments as they are. -/
theorem fn_keep {f : FuncId} {fn : Func} {c : Code} {args : List V} {st : St} {Q : V → St → List Nat → List Nat → Prop} (hp : C.pol f = .keep ∨ C.pol f = .res) (hf : P.funcs[f]? = some fn) (hc : fn.body = some c)
    (h : wc P C c (args ++ List.replicate (fn.ntmps - args.length) undefV) st (Ends P C fn.results.toList fun v st1 R W => ∃ v' st' ids, Leaves (C.pol f) st v st1 v' st' ids ∧ Q v' st' ((R ++ ids).filter (· < st.next)) ((W ++ ids).filter (· < st.next)))) :
    Fn P C f args st Q := by
  obtain ⟨v, st', R, W, h1, h2⟩ := call1_of (v := undefV) (st' := st) hf hc h
  refine ⟨v, st', R, W, ?_, h2⟩
  unfold docall
  rcases hp with hp | hp <;> simp only [hp, h1]

/-- Into a function: its arguments frozen where they may be. -/
theorem fn_std {f : FuncId} {fn : Func} {c : Code} {args as : List V} {ids0 : List Nat} {st : St} {Q : V → St → List Nat → List Nat → Prop} (hp : C.pol f = .std) (hz : frzArgs st args = (as, ids0)) (hf : P.funcs[f]? = some fn) (hc : fn.body = some c)
    (h : wc P C c (as ++ List.replicate (fn.ntmps - as.length) undefV) (st.kills ids0) (Ends P C fn.results.toList fun v st1 R W => ∃ v' st' ids, Leaves (C.pol f) (st.kills ids0) v st1 v' st' ids ∧ Q v' st' (ids0 ++ (R ++ ids).filter (· < (st.kills ids0).next)) (ids0 ++ (W ++ ids).filter (· < (st.kills ids0).next)))) :
    Fn P C f args st Q := by
  obtain ⟨v, st', R, W, h1, h2⟩ := call1_of (Q := fun v st' R W => Q v st' (ids0 ++ R) (ids0 ++ W)) (v := undefV) (st' := st) hf hc h
  refine ⟨v, st', _, _, ?_, h2⟩
  unfold docall
  simp only [hp, hz, h1]

/-- A call of a function that sees no object. -/
theorem fn_pure {f : FuncId} {args : List V} {ps : List PV} {v : V} {st : St} {Q : V → St → List Nat → List Nat → Prop} (hp : C.pol f = .pure) (hz : frzAll st args = some (ps, [])) (h : pcall (Ew P C) f ps = some v) (hq : Q v st [] []) : Fn P C f args st Q := by
  refine ⟨v, st, [], [], ?_, hq⟩
  unfold docall
  simp only [hp, hz, h]
theorem fn_pureF {f : FuncId} {args : List V} {ps : List PV} {v : V} {st : St} {ids : List Nat} {Q : V → St → List Nat → List Nat → Prop} (hp : C.pol f = .pure) (hz : frzAll st args = some (ps, ids)) (h : pcall (Ew P C) f ps = some v) (hfl : v.flat = true) (hq : Q v st ids []) : Fn P C f args st Q := by
  refine ⟨v, st, ids, [], ?_, hq⟩
  unfold docall
  simp only [hp, hz, h]
  cases ids with
  | nil => rfl
  | cons i is => simp only [hfl]

/-- A function of data, by its code. -/
theorem pcall_wc {g : FuncId} {fn : Func} {c : Code} {ps : List PV} {v : V} (hf : P.funcs[g]? = some fn) (hc : fn.body = some c) (hp : C.pol g ≠ .keep)
    (h : wc P C c (ps.map .pv ++ List.replicate (fn.ntmps - (ps.map V.pv).length) undefV) St.empty (Ends P C fn.results.toList fun u st _ _ => ∃ ids, frzRes st u = some (v, ids))) (hv : v.isPure = true) : pcall (Ew P C) g ps = some v := by
  refine pcall_of hf hc hp (wc_mono h ?_) hv
  rintro ex tm st R W ⟨h1, vs, R', h2, ids, h3⟩
  exact ⟨h1, vs, R', ids, h2, h3⟩

section
variable {ds : List (Option Tmp)} {os : List Oper} {tm : List V} {st : St} {K : List V → St → List Ent → Prop} {d : Tmp} {t t' ty : TypeId} {x y : Operand} {pos : String} {af : Array Edge}

/-- A call by name. -/
theorem o_call {g : FuncId} {args : Array Operand} {ts : Array TypeId} {vs : List V} {Q : V → St → List Nat → List Nat → Prop} (hargs : envAll (envOf tm) args.toList = some vs) (hb : hasBody P g = true) (hk : Fn P C g vs st Q)
    (h : ∀ v st' R W, Q v st' R W → wo P C ds os (put tm d v) st' fun tm' st'' l => K tm' st'' (⟨st, st', R, W, v⟩ :: l)) : wo P C ds (⟨some d, .call { callee := .value (.func g), args := args, argTypes := ts }, ty, pos, af, none⟩ :: os) tm st K := by
  obtain ⟨v, st', R, W, h1, h2⟩ := hk
  refine wo_cons rfl ?_ (h v st' R W h2)
  simp only [vexec, targetV, hargs, look_func, hb, if_true, List.nil_append, List.append_nil, h1]
theorem o_callN {g : FuncId} {args : Array Operand} {ts : Array TypeId} {vs : List V} {Q : V → St → List Nat → List Nat → Prop} (hargs : envAll (envOf tm) args.toList = some vs) (hb : hasBody P g = true) (hk : Fn P C g vs st Q)
    (h : ∀ v st' R W, Q v st' R W → wo P C ds os tm st' fun tm' st'' l => K tm' st'' (⟨st, st', R, W, v⟩ :: l)) : wo P C ds (⟨none, .call { callee := .value (.func g), args := args, argTypes := ts }, ty, pos, af, none⟩ :: os) tm st K := by
  obtain ⟨v, st', R, W, h1, h2⟩ := hk
  refine wo_cons rfl ?_ (h v st' R W h2)
  simp only [vexec, targetV, hargs, look_func, hb, if_true, List.nil_append, List.append_nil, h1]
/-- A call of a function that a slot holds. -/
theorem o_callV {f : Operand} {g : FuncId} {args : Array Operand} {ts : Array TypeId} {vs first caps all : List V} {Q : V → St → List Nat → List Nat → Prop} (hf : envOf tm f = some (.fn (.func g) first caps)) (hargs : envAll (envOf tm) args.toList = some vs) (ha : first ++ vs ++ caps = all) (hb : hasBody P g = true) (hk : Fn P C g all st Q)
    (h : ∀ v st' R W, Q v st' R W → wo P C ds os (put tm d v) st' fun tm' st'' l => K tm' st'' (⟨st, st', R, W, v⟩ :: l)) : wo P C ds (⟨some d, .call { callee := .value f, args := args, argTypes := ts }, ty, pos, af, none⟩ :: os) tm st K := by
  subst ha
  obtain ⟨v, st', R, W, h1, h2⟩ := hk
  refine wo_cons rfl ?_ (h v st' R W h2)
  simp only [vexec, targetV, hargs, hf, hb, if_true, List.nil_append, h1]
/-- A call of an interface's method. -/
theorem o_invoke {r : Operand} {name : String} {g : FuncId} {args : Array Operand} {ts : Array TypeId} {vs : List V} {rv u z : V} {t : TypeId} {R0 : List Nat} {Q : V → St → List Nat → List Nat → Prop} (hr : envOf tm r = some rv) (hargs : envAll (envOf tm) args.toList = some vs) (hi : rv.iface? = some (t, u)) (hm : recvV P st t u name = some (g, z, R0)) (hb : hasBody P g = true) (hk : Fn P C g (z :: vs) st Q)
    (h : ∀ v st' R W, Q v st' R W → wo P C ds os (put tm d v) st' fun tm' st'' l => K tm' st'' (⟨st, st', R0 ++ R, W, v⟩ :: l)) : wo P C ds (⟨some d, .call { callee := .invoke r name, args := args, argTypes := ts }, ty, pos, af, none⟩ :: os) tm st K := by
  obtain ⟨v, st', R, W, h1, h2⟩ := hk
  refine wo_cons rfl ?_ (h v st' R W h2)
  simp only [vexec, targetV, hargs, hr, hi, hm, hb, if_true, h1]
theorem o_invokeN {r : Operand} {name : String} {g : FuncId} {args : Array Operand} {ts : Array TypeId} {vs : List V} {rv u z : V} {t : TypeId} {R0 : List Nat} {Q : V → St → List Nat → List Nat → Prop} (hr : envOf tm r = some rv) (hargs : envAll (envOf tm) args.toList = some vs) (hi : rv.iface? = some (t, u)) (hm : recvV P st t u name = some (g, z, R0)) (hb : hasBody P g = true) (hk : Fn P C g (z :: vs) st Q)
    (h : ∀ v st' R W, Q v st' R W → wo P C ds os tm st' fun tm' st'' l => K tm' st'' (⟨st, st', R0 ++ R, W, v⟩ :: l)) : wo P C ds (⟨none, .call { callee := .invoke r name, args := args, argTypes := ts }, ty, pos, af, none⟩ :: os) tm st K := by
  obtain ⟨v, st', R, W, h1, h2⟩ := hk
  refine wo_cons rfl ?_ (h v st' R W h2)
  simp only [vexec, targetV, hargs, hr, hi, hm, hb, if_true, h1]

/-- A variable with a value. -/
theorem o_box {v : V} {cs : List V} {i n : Nat} (hx : envOf tm x = some v) (hcs : v.cells = cs) (hn : cs.length = n) (hc : cs.all V.cell1 = true) (hi : st.next = i) (h : wo P C ds os (put tm d (.ptr i 0 0)) (st.new ⟨n, [cs]⟩) fun tm' st'' l => K tm' st'' (⟨st, st.new ⟨n, [cs]⟩, [], [], .ptr i 0 0⟩ :: l)) : wo P C ds (⟨some d, .box t x, ty, pos, af, none⟩ :: os) tm st K :=
  wo_cons rfl (by subst hcs hn hi; simp only [vexec, vop, hx, hc, if_true]) h

theorem o_nil {p v : V} (hx : envOf tm x = some p) (hn : nilCheckV P p = some v) (h : wo P C ds os (put tm d v) st fun tm' st'' l => K tm' st'' (⟨st, st, [], [], v⟩ :: l)) : wo P C ds (⟨some d, .nilCheck x, ty, pos, af, none⟩ :: os) tm st K :=
  wo_cons rfl (by simp only [vexec, vop, hx, hn, one]) h
theorem o_nilN {p v : V} (hx : envOf tm x = some p) (hn : nilCheckV P p = some v) (h : wo P C ds os tm st fun tm' st'' l => K tm' st'' (⟨st, st, [], [], v⟩ :: l)) : wo P C ds (⟨none, .nilCheck x, ty, pos, af, none⟩ :: os) tm st K :=
  wo_cons rfl (by simp only [vexec, vop, hx, hn, one]) h

/-- A struct or an array out of parts, by what the tables tell. -/
def buildP (P : Program) (t : TypeId) : Option (List V × List (Nat × Nat)) := match zeroV P t with
  | some z => match P.underlying t with
    | some (.struct fields) => (placesOf P fields).map fun p => (z.cells, p)
    | some (.array n e) => (tySize P e).map fun s => (z.cells, (List.range n).map fun i => (i * s, s))
    | _ => none
  | none => none
theorem vfill_mono {p p' : Nat → Option (Nat × Nat)} (h : ∀ i x, p i = some x → p' i = some x) : ∀ (ps : List (Nat × V)) (cs r : List V), vfill p cs ps = some r → vfill p' cs ps = some r
  | [], cs, r, hr => by simpa [vfill] using hr
  | (i, v) :: ps, cs, r, hr => by
    simp only [vfill] at hr ⊢
    cases hp : p i with
    | none => simp [hp] at hr
    | some x =>
      obtain ⟨off, size⟩ := x
      simp only [h i _ hp]
      simp only [hp] at hr
      split at hr
      · rename_i hc
        rw [if_pos hc]
        exact vfill_mono h ps _ r hr
      · cases hr
theorem buildV_of {ps : List (Nat × V)} {zs cs : List V} {pl : List (Nat × Nat)} (hb : buildP P t = some (zs, pl)) (hf : vfill (fun i => pl[i]?) zs ps = some cs) : buildV P t ps = some (mkAgg cs) := by
  unfold buildP at hb
  unfold buildV
  cases hz : zeroV P t with
  | none => simp [hz] at hb
  | some z =>
    cases hu : P.underlying t with
    | none => simp [hz, hu] at hb
    | some dsc =>
      cases dsc with
      | struct fields =>
        simp only [hz, hu] at hb ⊢
        cases hp : placesOf P fields with
        | none => simp [hp] at hb
        | some q =>
          simp only [hp, Option.map, Option.some.injEq, Prod.mk.injEq] at hb
          obtain ⟨rfl, rfl⟩ := hb
          simp only [hf]
      | array n e =>
        simp only [hz, hu] at hb ⊢
        cases hs : tySize P e with
        | none => simp [hs] at hb
        | some s =>
          simp only [hs, Option.map, Option.some.injEq, Prod.mk.injEq] at hb
          obtain ⟨rfl, rfl⟩ := hb
          have := vfill_mono (p' := fun i => some (i * s, s)) (fun i x hx => by
            rw [List.getElem?_map] at hx
            cases hr : (List.range n)[i]? with
            | none => rw [hr] at hx; cases hx
            | some j =>
              rw [hr] at hx
              have : j = i := by
                have := List.getElem?_range (n := n) (i := i) (by have := (List.getElem?_eq_some_iff.mp hr).1; simpa using this)
                rw [this] at hr
                exact (Option.some.inj hr).symm
              subst this
              exact hx) ps z.cells cs hf
          simp only [this]
      | _ => simp [hz, hu] at hb
theorem o_buildP {parts : Array (Nat × Operand)} {ps : List (Nat × V)} {zs cs : List V} {pl : List (Nat × Nat)} {v : V} (hp : envParts (envOf tm) parts.toList = some ps) (hb : buildP P t = some (zs, pl)) (hf : vfill (fun i => pl[i]?) zs ps = some cs) (hv : mkAgg cs = v) (h : wo P C ds os (put tm d v) st fun tm' st'' l => K tm' st'' (⟨st, st, [], [], v⟩ :: l)) : wo P C ds (⟨some d, .build t parts, ty, pos, af, none⟩ :: os) tm st K :=
  o_build hp (by rw [← hv]; exact buildV_of hb hf) h
/-- An array out of parts. -/
theorem o_buildA {parts : Array (Nat × Operand)} {ps : List (Nat × V)} {z : V} {cs : List V} {n e size : Nat} {v : V} (hp : envParts (envOf tm) parts.toList = some ps) (hz : zeroV P t = some z) (hu : P.underlying t = some (.array n e)) (hs : tySize P e = some size) (hf : vfill (fun i => some (i * size, size)) z.cells ps = some cs) (hv : mkAgg cs = v) (h : wo P C ds os (put tm d v) st fun tm' st'' l => K tm' st'' (⟨st, st, [], [], v⟩ :: l)) : wo P C ds (⟨some d, .build t parts, ty, pos, af, none⟩ :: os) tm st K :=
  o_build hp (by simp only [buildV, hz, hu, hs, hf, hv]) h
theorem parts_nil {env : Operand → Option V} : envParts env [] = some [] := rfl
theorem parts_cons {env : Operand → Option V} {i : Nat} {x : Operand} {xs : List (Nat × Operand)} {v : V} {vs : List (Nat × V)} (h1 : env x = some v) (h2 : envParts env xs = some vs) : envParts env ((i, x) :: xs) = some ((i, v) :: vs) := by simp only [envParts, h1, h2]

/-- A slice literal. -/
theorem o_buildSlice {len e sz i : Nat} {parts : Array (Nat × Operand)} {ps : List (Nat × V)} {z : V} {zs cs : List V} {rows : List (List V)} (hp : envParts (envOf tm) parts.toList = some ps) (he : sliceElem P t = some e) (hs : tySize P e = some sz) (hz : zeroV P e = some z) (hzc : z.cells = zs) (hzl : zs.length = sz) (hlen : Nat.ble (len * sz) (2 ^ 24) = true)
    (hf : vfill (fun i => some (i * sz, sz)) ((List.range (len * sz)).map fun k => zs.getD (k % zs.length) .nl) (ps.map fun p => (p.1, p.2.norm)) = some cs) (hc : cs.all V.cell1 = true) (hch : chunk sz len cs = rows) (hi : st.next = i)
    (h : wo P C ds os (put tm d (.ow i sz 0 len)) (st.new ⟨sz, rows⟩) fun tm' st'' l => K tm' st'' (⟨st, st.new ⟨sz, rows⟩, [], [], .ow i sz 0 len⟩ :: l)) : wo P C ds (⟨some d, .buildSlice t len parts, ty, pos, af, none⟩ :: os) tm st K := by
  refine wo_cons rfl ?_ h
  subst hzc hch hi
  simp only [vexec, vop, hp, buildSliceV, he, hs, hz]
  rw [if_pos ⟨Nat.le_of_ble_eq_true hlen, hzl⟩]
  simp only [hf, hc, if_true]

/-- A slice that grows: nil, or owned. -/
def SlAt (st : St) (sz : Nat) (v : V) (rows : List (List V)) (I : List Nat) : Prop :=
  (v = .nl ∧ rows = [] ∧ I = []) ∨ ∃ i r so, v = .ow i sz r rows.length ∧ i < st.next ∧ st.get i = some so ∧ so.s = sz ∧ r + rows.length ≤ so.rows.length ∧ (so.rows.drop r).take rows.length = rows ∧ I = [i]

theorem SlAt.nil {st : St} {sz : Nat} : SlAt st sz .nl [] [] := .inl ⟨rfl, rfl, rfl⟩
theorem SlAt.own {st : St} {sz i n : Nat} {rows : List (List V)} (h : st.get i = some ⟨sz, rows⟩) (hi : i < st.next) (hn : n = rows.length) : SlAt st sz (.ow i sz 0 n) rows [i] :=
  .inr ⟨i, 0, ⟨sz, rows⟩, by rw [hn], hi, h, rfl, by simp, by simp, rfl⟩
theorem SlAt.move {st st' : St} {sz : Nat} {v : V} {rows : List (List V)} {I : List Nat} (h : SlAt st sz v rows I) (hn : st.next ≤ st'.next) (hs : ∀ i ∈ I, st'.get i = st.get i) : SlAt st' sz v rows I := by
  rcases h with h | ⟨i, r, so, h1, h0, h2, h3, h4, h5, h6⟩
  · exact .inl h
  · exact .inr ⟨i, r, so, h1, Nat.lt_of_lt_of_le h0 hn, (hs i (by rw [h6]; simp)).trans h2, h3, h4, h5, h6⟩
theorem SlAt.lt {st : St} {sz : Nat} {v : V} {rows : List (List V)} {I : List Nat} (h : SlAt st sz v rows I) : ∀ i ∈ I, i < st.next := by
  rcases h with ⟨-, -, rfl⟩ | ⟨i, r, so, h1, h0, h2, h3, h4, h5, rfl⟩
  · simp
  · simpa using h0
theorem SlAt.len {st : St} {sz : Nat} {v : V} {rows : List (List V)} {I : List Nat} {e : TypeId} (h : SlAt st sz v rows I) (hu : P.underlying t = some (.slice e)) : lenV P t v = some (rows.length : Int) := by
  rcases h with ⟨rfl, rfl, -⟩ | ⟨i, r, so, rfl, -⟩ <;> simp [lenV, hu]

/-- Appending: rows behind rows. -/
structure AppTy (P : Program) (t xt : TypeId) (sz bs : Nat) : Prop where
  e : ∃ e e' info z, sliceElem P t = some e ∧ sliceElem P xt = some e' ∧ P.info? e = some info ∧ info.size = sz ∧ info.bytes = bs ∧ zeroV P e = some z ∧ z.cells.length = sz

theorem append_of {at_ : Array TypeId} {xt : TypeId} {sz bs : Nat} {s xv : V} {old new : List (List V)} {I R : List Nat} (ht : at_[0]? = some t) (hxt : at_[1]? = some xt) (ha : AppTy P t xt sz bs) (hs : SlAt st sz s old I) (hx : srcRows st sz xv = some (new, R)) (hb : (old.length + new.length) * (bs + 1) ≤ 2 ^ 40) :
    ∃ v st' R' W I', appendV P st at_ s xv = some (v, st', R', W) ∧ SlAt st' sz v (old ++ new) I' ∧ st.next ≤ st'.next ∧ (∀ i, i < st.next → i ∉ I → st'.get i = st.get i) ∧ (∀ i ∈ I', (i ∈ I ∧ new = [] ∧ st' = st) ∨ st.next ≤ i) ∧ (∀ i ∈ W, i ∈ I) ∧ (∀ i ∈ R', i ∈ I ∨ i ∈ R) := by
  obtain ⟨e, e', info, z, h1, h2, h3, rfl, rfl, h6, h7⟩ := ha
  unfold appendV
  simp only [ht, hxt, h1, h2, h3, h6, h7, ne_eq, not_true_eq_false, if_false, hx]
  cases new with
  | nil =>
    rcases hs with ⟨rfl, rfl, rfl⟩ | ⟨i, r, so, rfl, g0, g2, g3, g4, g5, rfl⟩
    · exact ⟨_, _, _, _, [], rfl, SlAt.nil, Nat.le_refl _, fun _ _ _ => rfl, by simp, by simp, fun i hi => .inr hi⟩
    · refine ⟨_, _, _, _, [i], rfl, .inr ⟨i, r, so, ?_, g0, g2, g3, ?_, ?_, rfl⟩, Nat.le_refl _, fun _ _ _ => rfl, fun j hj => .inl ⟨hj, rfl, rfl⟩, by simp, fun i hi => .inr hi⟩
      · simp
      · simpa using g4
      · simpa using g5
  | cons n0 ns =>
    rcases hs with ⟨rfl, rfl, rfl⟩ | ⟨i, r, so, rfl, g0, g2, g3, g4, g5, rfl⟩
    · simp only
      rw [if_pos (by simpa using hb)]
      refine ⟨_, _, _, _, [st.next], rfl, ?_, by simp [St.new], fun i hi _ => ?_, fun i hi => .inr ?_, by simp, fun i hi => .inr hi⟩
      · exact SlAt.own (by simp [St.new]) (by simp [St.new]) (by simp)
      · simp only [St.new]
        rw [if_neg (by omega)]
      · simp only [List.mem_singleton] at hi
        omega
    · have hsr : srcRows st info.size (.ow i info.size r old.length) = some (old, [i]) := by
        unfold srcRows
        simp only [g2]
        rw [if_pos ⟨g3, g4⟩, g5]
      simp only [hsr]
      rw [if_pos hb]
      refine ⟨_, _, _, _, [st.next], rfl, ?_, by simp [St.new, St.kill], fun j hj hne => ?_, fun j hj => .inr ?_, by simp, fun j hj => ?_⟩
      · refine .inr ⟨st.next, 0, ⟨info.size, old ++ (n0 :: ns)⟩, by simp, by simp [St.new, St.kill], ?_, rfl, by simp, ?_, rfl⟩
        · have hne : ¬ st.next = i := by omega
          simp [St.kill, St.new, hne]
        · rw [List.drop_zero, List.take_length]
      · simp only [St.kill, St.new]
        rw [if_neg (by simpa using hne), if_neg (by omega)]
      · simp only [List.mem_singleton] at hj
        omega
      · rcases List.mem_append.mp hj with hj | hj
        · exact .inl hj
        · exact .inr hj

theorem o_append {args : Array Operand} {ts : Array TypeId} {xt : TypeId} {sz bs : Nat} {s xv : V} {old new : List (List V)} {I R : List Nat} {a b : Operand} (hab : args.toList = [a, b]) (hsa : envOf tm a = some s) (hxa : envOf tm b = some xv) (ht : ts[0]? = some t) (hxt : ts[1]? = some xt) (ha : AppTy P t xt sz bs) (hs : SlAt st sz s old I) (hx : srcRows st sz xv = some (new, R)) (hb : (old.length + new.length) * (bs + 1) ≤ 2 ^ 40)
    (h : ∀ v st' R' W I', SlAt st' sz v (old ++ new) I' → st.next ≤ st'.next → (∀ i, i < st.next → i ∉ I → st'.get i = st.get i) → (∀ i ∈ I', (i ∈ I ∧ new = [] ∧ st' = st) ∨ st.next ≤ i) → (∀ i ∈ W, i ∈ I) → (∀ i ∈ R', i ∈ I ∨ i ∈ R) → wo P C ds os (put tm d v) st' fun tm' st'' l => K tm' st'' (⟨st, st', R', W, v⟩ :: l)) : wo P C ds (⟨some d, .call { callee := .builtin .append, args := args, argTypes := ts }, ty, pos, af, none⟩ :: os) tm st K := by
  obtain ⟨v, st', R', W, I', h1, h2, h3, h4, h5, h6, h7⟩ := append_of ht hxt ha hs hx hb
  refine wo_cons rfl ?_ (h v st' R' W I' h2 h3 h4 h5 h6 h7)
  simp only [vexec, vop, hab, hsa, hxa, h1]

-- what stays ---------------------------------------------------------------------
/-- What a call leaves as it was. -/
structure Frm (st st' : St) (I : List Nat) : Prop where
  next : st.next ≤ st'.next
  get : ∀ x, x < st.next → x ∉ I → st'.get x = st.get x
theorem Frm.refl {st : St} : Frm st st [] := ⟨Nat.le_refl _, fun _ _ _ => rfl⟩
theorem Frm.trans {a b c : St} {I J : List Nat} (h1 : Frm a b I) (h2 : Frm b c J) (hJ : ∀ x ∈ J, x < a.next → x ∈ I) : Frm a c I :=
  ⟨Nat.le_trans h1.next h2.next, fun x hx hn => (h2.get x (Nat.lt_of_lt_of_le hx h1.next) (fun h => hn (hJ x h hx))).trans (h1.get x hx hn)⟩
theorem Frm.wide {a b : St} {I J : List Nat} (h : Frm a b I) (hJ : ∀ x ∈ I, x ∈ J) : Frm a b J := ⟨h.next, fun x hx hn => h.get x hx fun h' => hn (hJ x h')⟩
theorem Frm.getq {a b : St} {J : List Nat} {x : Nat} {r : Option SO} (h : Frm a b J) (hx : x < a.next) (hn : x ∉ J) (hg : a.get x = r) : b.get x = r := (h.get x hx hn).trans hg
theorem frm_new {st : St} {o : SO} : Frm st (st.new o) [] := ⟨Nat.le_succ _, fun x hx _ => by simp only [St.new]; rw [if_neg (by omega)]⟩
/-- The same, exactly: nil, or all of an object's rows. -/
def SlE (st : St) (sz : Nat) (v : V) (rows : List (List V)) (I : List Nat) : Prop :=
  (v = .nl ∧ rows = [] ∧ I = []) ∨ ∃ i, v = .ow i sz 0 rows.length ∧ i < st.next ∧ st.get i = some ⟨sz, rows⟩ ∧ I = [i]
theorem SlE.at {st : St} {sz : Nat} {v : V} {rows : List (List V)} {I : List Nat} (h : SlE st sz v rows I) : SlAt st sz v rows I := by
  rcases h with h | ⟨i, h1, h2, h3, rfl⟩
  · exact .inl h
  · exact .inr ⟨i, 0, ⟨sz, rows⟩, h1, h2, h3, rfl, by simp, by simp, rfl⟩
theorem SlE.lt {st : St} {sz : Nat} {v : V} {rows : List (List V)} {I : List Nat} (h : SlE st sz v rows I) : ∀ i ∈ I, i < st.next := h.at.lt
theorem SlE.move {st st' : St} {sz : Nat} {v : V} {rows : List (List V)} {I : List Nat} (h : SlE st sz v rows I) (hn : st.next ≤ st'.next) (hs : ∀ i ∈ I, st'.get i = st.get i) : SlE st' sz v rows I := by
  rcases h with h | ⟨i, h1, h2, h3, rfl⟩
  · exact .inl h
  · exact .inr ⟨i, h1, Nat.lt_of_lt_of_le h2 hn, (hs i (by simp)).trans h3, rfl⟩
theorem SlAt.notSc {st : St} {sz : Nat} {v : V} {rows : List (List V)} {I : List Nat} (h : SlAt st sz v rows I) (a : Value) : v ≠ .pv (.sc a) := by
  rcases h with ⟨rfl, -⟩ | ⟨i, r, so, rfl, -⟩ <;> intro h <;> cases h
theorem SlAt.cell1 {st : St} {sz : Nat} {v : V} {rows : List (List V)} {I : List Nat} (h : SlAt st sz v rows I) : v.cells = [v] ∧ v.cell1 = true := by
  rcases h with ⟨rfl, -⟩ | ⟨i, r, so, rfl, -⟩ <;> exact ⟨rfl, rfl⟩
theorem o_lenS {st0 : St} {ts : Array TypeId} {v : V} {rows : List (List V)} {I : List Nat} {sz : Nat} {e : TypeId} (hx : envOf tm x = some v) (hs : SlAt st0 sz v rows I) (ht : ts[0]? = some t) (hu : P.underlying t = some (.slice e)) (h : wo P C ds os (put tm d (.pv (.sc (.int .i64 rows.length)))) st fun tm' st'' l => K tm' st'' (⟨st, st, [], [], .pv (.sc (.int .i64 rows.length))⟩ :: l)) : wo P C ds (⟨some d, .call { callee := .builtin .len, args := #[x], argTypes := ts }, ty, pos, af, none⟩ :: os) tm st K :=
  o_len hx ht hs.notSc (hs.len hu) h
theorem o_appendX {args : Array Operand} {ts : Array TypeId} {xt : TypeId} {sz bs : Nat} {s xv : V} {old new : List (List V)} {I R : List Nat} {a b : Operand} (hab : args.toList = [a, b]) (hsa : envOf tm a = some s) (hxa : envOf tm b = some xv) (ht : ts[0]? = some t) (hxt : ts[1]? = some xt) (ha : AppTy P t xt sz bs) (hs : SlAt st sz s old I) (hx : srcRows st sz xv = some (new, R)) (hne : new ≠ []) (hb : (old.length + new.length) * (bs + 1) ≤ 2 ^ 40)
    (h : ∀ st' i R' W, Frm st st' I → st.next ≤ i → i < st'.next → st'.get i = some ⟨sz, old ++ new⟩ → wo P C ds os (put tm d (.ow i sz 0 (old ++ new).length)) st' fun tm' st'' l => K tm' st'' (⟨st, st', R', W, .ow i sz 0 (old ++ new).length⟩ :: l)) : wo P C ds (⟨some d, .call { callee := .builtin .append, args := args, argTypes := ts }, ty, pos, af, none⟩ :: os) tm st K := by
  have key : ∃ st' i R' W, appendV P st ts s xv = some (.ow i sz 0 (old ++ new).length, st', R', W) ∧ st.next ≤ i ∧ i < st'.next ∧ st'.get i = some ⟨sz, old ++ new⟩ ∧ (∀ i, i < st.next → i ∉ I → st'.get i = st.get i) := by
    obtain ⟨e, e', info, z, h1, h2, h3, rfl, rfl, h6, h7⟩ := ha
    unfold appendV
    simp only [ht, hxt, h1, h2, h3, h6, h7, ne_eq, not_true_eq_false, if_false, hx]
    cases new with
    | nil => exact absurd rfl hne
    | cons n0 ns =>
      rcases hs with ⟨rfl, rfl, rfl⟩ | ⟨i, r, so, rfl, g0, g2, g3, g4, g5, rfl⟩
      · simp only
        rw [if_pos (by simpa using hb)]
        refine ⟨_, st.next, _, _, by simp; exact ⟨rfl, rfl, rfl⟩, Nat.le_refl _, by simp [St.new], by simp [St.new], fun i hi _ => ?_⟩
        simp only [St.new]
        rw [if_neg (by omega)]
      · have hsr : srcRows st info.size (.ow i info.size r old.length) = some (old, [i]) := by
          unfold srcRows
          simp only [g2]
          rw [if_pos ⟨g3, g4⟩, g5]
        simp only [hsr]
        rw [if_pos hb]
        have hne : ¬ st.next = i := by omega
        refine ⟨_, st.next, _, _, by simp; exact ⟨rfl, rfl, rfl⟩, Nat.le_refl _, by simp [St.new, St.kill], by simp [St.kill, St.new, hne], fun j hj hj2 => ?_⟩
        simp only [St.kill, St.new]
        rw [if_neg (by simpa using hj2), if_neg (by omega)]
  obtain ⟨st', i, R', W, h1, h2, h3, h4, h5⟩ := key
  refine wo_cons rfl ?_ (h st' i R' W ⟨by omega, h5⟩ h2 h3 h4)
  simp only [vexec, vop, hab, hsa, hxa, h1]
/-- Appending to nothing: new rows, or still nothing. -/
theorem o_append0 {args : Array Operand} {ts : Array TypeId} {xt : TypeId} {sz bs : Nat} {xv : V} {R : List Nat} {a b : Operand} (hab : args.toList = [a, b]) (hsa : envOf tm a = some .nl) (hxa : envOf tm b = some xv) (ht : ts[0]? = some t) (hxt : ts[1]? = some xt) (ha : AppTy P t xt sz bs) (hx : srcRows st sz xv = some ([], R))
    (h : wo P C ds os (put tm d .nl) st fun tm' st'' l => K tm' st'' (⟨st, st, R, [], .nl⟩ :: l)) : wo P C ds (⟨some d, .call { callee := .builtin .append, args := args, argTypes := ts }, ty, pos, af, none⟩ :: os) tm st K := by
  obtain ⟨e, e', info, z, h1, h2, h3, rfl, rfl, h6, h7⟩ := ha
  refine wo_cons rfl ?_ h
  have key : appendV P st ts .nl xv = some (.nl, st, R, []) := by
    unfold appendV
    simp only [ht, hxt, h1, h2, h3, h6, h7, ne_eq, not_true_eq_false, if_false, hx]
  simp only [vexec, vop, hab, hsa, hxa, key]
theorem o_append1 {args : Array Operand} {ts : Array TypeId} {xt : TypeId} {sz bs n : Nat} {xv : V} {n0 : List V} {new : List (List V)} {R : List Nat} {a b : Operand} (hab : args.toList = [a, b]) (hsa : envOf tm a = some .nl) (hxa : envOf tm b = some xv) (ht : ts[0]? = some t) (hxt : ts[1]? = some xt) (ha : AppTy P t xt sz bs) (hx : srcRows st sz xv = some (n0 :: new, R)) (hb : (new.length + 1) * (bs + 1) ≤ 2 ^ 40) (hi : st.next = n)
    (h : wo P C ds os (put tm d (.ow n sz 0 (new.length + 1))) (st.new ⟨sz, n0 :: new⟩) fun tm' st'' l => K tm' st'' (⟨st, st.new ⟨sz, n0 :: new⟩, R, [], .ow n sz 0 (new.length + 1)⟩ :: l)) : wo P C ds (⟨some d, .call { callee := .builtin .append, args := args, argTypes := ts }, ty, pos, af, none⟩ :: os) tm st K := by
  obtain ⟨e, e', info, z, h1, h2, h3, rfl, rfl, h6, h7⟩ := ha
  refine wo_cons rfl ?_ h
  have key : appendV P st ts .nl xv = some (.ow n info.size 0 (new.length + 1), st.new ⟨info.size, n0 :: new⟩, R, []) := by
    unfold appendV
    simp only [ht, hxt, h1, h2, h3, h6, h7, ne_eq, not_true_eq_false, if_false, hx]
    subst hi
    exact if_pos hb
  simp only [vexec, vop, hab, hsa, hxa, key]
theorem appTy_of {xt e e' : TypeId} {sz bs : Nat} {z : V} (he : sliceElem P t = some e) (he' : sliceElem P xt = some e') (hb : (P.info? e).map (fun i => (i.size, i.bytes)) = some (sz, bs)) (hz : zeroV P e = some z) (hl : z.cells.length = sz) : AppTy P t xt sz bs := by
  cases hi : P.info? e with
  | none => rw [hi] at hb; cases hb
  | some info =>
    rw [hi] at hb
    simp only [Option.map, Option.some.injEq, Prod.mk.injEq] at hb
    exact ⟨⟨e, e', info, z, he, he', hi, hb.1, hb.2, hz, hl⟩⟩

theorem src_fz {sz : Nat} {rows : List (List PV)} (h : rows.all (·.length == sz) = true) : srcRows st sz (.pv (.fz rows)) = some (rows.map (·.map .pv), []) := by simp only [srcRows, h, if_true]
theorem src_nl {sz : Nat} : srcRows st sz .nl = some ([], []) := rfl
theorem src_own {sz i n : Nat} {rows : List (List V)} (h : st.get i = some ⟨sz, rows⟩) (hn : n = rows.length) : srcRows st sz (.ow i sz 0 n) = some (rows, [i]) := by
  subst hn
  simp [srcRows, h]
theorem src_sl {sz : Nat} {v : V} {rows : List (List V)} {I : List Nat} (h : SlAt st sz v rows I) : srcRows st sz v = some (rows, I) := by
  rcases h with ⟨rfl, rfl, rfl⟩ | ⟨i, r, so, rfl, g0, g2, g3, g4, g5, rfl⟩
  · rfl
  · unfold srcRows
    simp only [g2]
    rw [if_pos ⟨g3, g4⟩, g5]

/-- A piece of a slice. -/
theorem o_slice {lo hi : Option Operand} {v r : V} (hx : envOf tm x = some v) (hp : ∀ a, v ≠ .pv (.sc a)) (hs : sliceV P t v (fun d => boundV (envOf tm) d.toNat lo) (fun d => boundV (envOf tm) d.toNat hi) = some r) (h : wo P C ds os (put tm d r) st fun tm' st'' l => K tm' st'' (⟨st, st, [], [], r⟩ :: l)) : wo P C ds (⟨some d, .slice t x lo hi none, ty, pos, af, none⟩ :: os) tm st K := by
  refine wo_cons rfl ?_ h
  simp only [vexec, vop, hx]
  cases v with
  | pv p => cases p with
    | sc a => exact absurd rfl (hp a)
    | _ => simp only [hs, one]
  | _ => simp only [hs, one]

/-- Into an interface. -/
theorem o_iface {v : V} (hx : envOf tm x = some v) (hu : (match P.underlying t with | some (.interface _) => false | some _ => true | none => false) = true) (h : wo P C ds os (put tm d (mkIfc t v)) st fun tm' st'' l => K tm' st'' (⟨st, st, [], [], mkIfc t v⟩ :: l)) : wo P C ds (⟨some d, .makeInterface t x, ty, pos, af, none⟩ :: os) tm st K := by
  refine wo_cons rfl ?_ h
  simp only [vexec, vop, hx]
  cases hq : P.underlying t with
  | none => rw [hq] at hu; cases hu
  | some dsc =>
    cases dsc with
    | interface m => rw [hq] at hu; cases hu
    | _ => rfl
theorem o_assert {a : TypeId} {v u : V} (hx : envOf tm x = some v) (hi : v.iface? = some (a, u)) (hu : (match P.underlying a with | some (.interface _) => false | some _ => true | none => false) = true) (h : wo P C ds os (put tm d u) st fun tm' st'' l => K tm' st'' (⟨st, st, [], [], u⟩ :: l)) : wo P C ds (⟨some d, .typeAssert x t a false, ty, pos, af, none⟩ :: os) tm st K := by
  refine wo_cons rfl ?_ h
  simp only [vexec, vop, hx, hi]
  cases hq : P.underlying a with
  | none => rw [hq] at hu; cases hu
  | some dsc =>
    cases dsc with
    | interface m => rw [hq] at hu; cases hu
    | _ => simp
theorem o_func {fn : Go.Fn} {first caps : Array Operand} {a c : List V} (ha : envAll (envOf tm) first.toList = some a) (hc : envAll (envOf tm) caps.toList = some c) (h : wo P C ds os (put tm d (.fn fn a c)) st fun tm' st'' l => K tm' st'' (⟨st, st, [], [], .fn fn a c⟩ :: l)) : wo P C ds (⟨some d, .makeFunc fn first caps, ty, pos, af, none⟩ :: os) tm st K :=
  wo_cons rfl (by simp only [vexec, vop, ha, hc]) h

/-- A part of an array. -/
theorem o_index {v r : V} {k : IntKind} {n : Int} (hx : envOf tm x = some v) (hy : envOf tm y = some (.pv (.sc (.int k n)))) (hs : ∀ s, v ≠ .pv (.sc (.string s))) (hi : indexV P t v n = some r) (h : wo P C ds os (put tm d r) st fun tm' st'' l => K tm' st'' (⟨st, st, [], [], r⟩ :: l)) : wo P C ds (⟨some d, .index t x y, ty, pos, af, none⟩ :: os) tm st K := by
  refine wo_cons rfl ?_ h
  simp only [vexec, vop, hx]
  cases v with
  | pv p => cases p with
    | sc a => cases a with
      | string s => exact absurd rfl (hs s)
      | _ => simp only [hy, hi, one]
    | _ => simp only [hy, hi, one]
  | _ => simp only [hy, hi, one]

/-- A conversion between kinds of whole numbers. -/
theorem o_conv {t2 : TypeId} {k k' : IntKind} {n : Int} {e : TypeDesc} (hx : envOf tm x = some (.pv (.sc (.int k n)))) (h1 : P.underlying t = some e) (h2 : P.underlying t2 = some (.int k')) (h : wo P C ds os (put tm d (.pv (.sc (.int k' (k'.wrap n))))) st fun tm' st'' l => K tm' st'' (⟨st, st, [], [], .pv (.sc (.int k' (k'.wrap n)))⟩ :: l)) : wo P C ds (⟨some d, .convert t t2 x, ty, pos, af, none⟩ :: os) tm st K := by
  refine wo_cons rfl ?_ h
  have hs : scal P (envOf tm) ⟨some d, .convert t t2 x, ty, pos, af, none⟩ = some (.int k' (k'.wrap n)) := by
    simp [scal, Op.operands, hx, V.val?, PV.val?, execOp, convert, pureRun_bind, pureRun_under h1, pureRun_under h2, Conv.intToInt, pureRun, pure]
  simp only [vexec, vop, hs, one, Option.map]
  rfl
theorem o_xor {k : IntKind} {n : Int} (hx : envOf tm x = some (.pv (.sc (.int k n)))) (h : wo P C ds os (put tm d (.pv (.sc (.int k (k.wrap (BitVec.ofInt k.bits (if k.signed then -1 else k.max) ^^^ BitVec.ofInt k.bits n).toNat))))) st fun tm' st'' l => K tm' st'' (⟨st, st, [], [], .pv (.sc (.int k (k.wrap (BitVec.ofInt k.bits (if k.signed then -1 else k.max) ^^^ BitVec.ofInt k.bits n).toNat)))⟩ :: l)) : wo P C ds (⟨some d, .unOp .xor t x, ty, pos, af, none⟩ :: os) tm st K := by
  refine wo_cons rfl ?_ h
  have hs : scal P (envOf tm) ⟨some d, .unOp .xor t x, ty, pos, af, none⟩ = some (.int k (k.wrap (BitVec.ofInt k.bits (if k.signed then -1 else k.max) ^^^ BitVec.ofInt k.bits n).toNat)) := by
    simp [scal, Op.operands, hx, V.val?, PV.val?, execOp, Op.unary, Op.intBits, pureRun_bind, pureRun, pure]
  simp only [vexec, vop, hs, one, Option.map]
  rfl
theorem o_neg {k : IntKind} {n : Int} (hx : envOf tm x = some (.pv (.sc (.int k n)))) (h : wo P C ds os (put tm d (.pv (.sc (.int k (k.wrap (0 - n)))))) st fun tm' st'' l => K tm' st'' (⟨st, st, [], [], .pv (.sc (.int k (k.wrap (0 - n))))⟩ :: l)) : wo P C ds (⟨some d, .unOp .neg t x, ty, pos, af, none⟩ :: os) tm st K := by
  refine wo_cons rfl ?_ h
  have hs : scal P (envOf tm) ⟨some d, .unOp .neg t x, ty, pos, af, none⟩ = some (.int k (k.wrap (0 - n))) := by
    simp [scal, Op.operands, hx, V.val?, PV.val?, execOp, Op.unary, Op.intArith, pureRun_bind, pureRun, pure]
  simp only [vexec, vop, hs, one, Option.map]
  rfl

theorem br_addw {k : IntKind} {a b c : Int} (h : k.wrap (a + b) = c) : binRun P .add t x y (.int k a) (.int k b) = some (.int k c) := by rw [← h]; exact br_add
theorem br_subw {k : IntKind} {a b c : Int} (h : k.wrap (a - b) = c) : binRun P .sub t x y (.int k a) (.int k b) = some (.int k c) := by rw [← h]; exact br_sub
theorem br_mulw {k : IntKind} {a b c : Int} (h : k.wrap (a * b) = c) : binRun P .mul t x y (.int k a) (.int k b) = some (.int k c) := by rw [← h]; exact br_mul
theorem o_convw {t2 : TypeId} {k k' : IntKind} {n c : Int} {e : TypeDesc} (hx : envOf tm x = some (.pv (.sc (.int k n)))) (h1 : P.underlying t = some e) (h2 : P.underlying t2 = some (.int k')) (hc : k'.wrap n = c) (h : wo P C ds os (put tm d (.pv (.sc (.int k' c)))) st fun tm' st'' l => K tm' st'' (⟨st, st, [], [], .pv (.sc (.int k' c))⟩ :: l)) : wo P C ds (⟨some d, .convert t t2 x, ty, pos, af, none⟩ :: os) tm st K := by
  subst hc
  exact o_conv hx h1 h2 h

/-- A function without a body. -/
def extRun (P : Program) (g : FuncId) (args : Array Value) : Option Value := match pureRun P (callFunc g args) with
  | some (.value v) => some v
  | _ => none
theorem o_ext1 {g : FuncId} {ts : Array TypeId} {a r : Value} (hx : envOf tm x = some (.pv (.sc a))) (hb : hasBody P g = false) (hr : extRun P g #[a] = some r) (ho : ofValue r = .pv (.sc r)) (h : wo P C ds os (put tm d (.pv (.sc r))) st fun tm' st'' l => K tm' st'' (⟨st, st, [], [], .pv (.sc r)⟩ :: l)) : wo P C ds (⟨some d, .call { callee := .value (.func g), args := #[x], argTypes := ts }, ty, pos, af, none⟩ :: os) tm st K := by
  refine wo_cons rfl ?_ h
  have ha : envAll (envOf tm) [x] = some [.pv (.sc a)] := by simp only [envAll, hx]
  have hs : scal P (envOf tm) ⟨some d, .call { callee := .value (.func g), args := #[x], argTypes := ts }, ty, pos, af, none⟩ = some r := by
    unfold extRun at hr
    have he : pureRun P (callFunc g #[a]) = some (.value r) := by
      split at hr
      · rename_i v hv
        simp only [Option.some.injEq] at hr
        rw [hv, hr]
      · cases hr
    have hl : ∀ (ev : Operand → Value), ev (.func g) = .func (.func g) #[] #[] → ev x = a → pureRun P (execOp ev ⟨some d, .call { callee := .value (.func g), args := #[x], argTypes := ts }, ty, pos, af, none⟩) = some (.value r) := by
      intro ev h1 h2
      simp [execOp, resolve, Deferred.ofValue, invoke, h1, h2, pureRun_bind, pureRun, pure, he]
    have hall : (Op.call { callee := .value (.func g), args := #[x], argTypes := ts }).operands.toList.all (fun y => match envOf tm y with | some v => v.val?.isSome | none => false) = true := by
      simp [Op.operands, Call.operands, look_func, hx, V.val?, PV.val?, V.vals?]
    have h2 := hl (fun y => match envOf tm y with | some v => v.val?.getD undef | none => undef) (by rw [look_func]; rfl) (by rw [hx]; rfl)
    unfold scal
    exact (if_pos hall).trans (congrArg (fun z : Option Next => match z with | some (Next.value v) => some v | _ => none) h2)
  simp only [vexec, targetV, hb, Array.toList, ha, look_func, Bool.false_eq_true, if_false, vop, hs, one, Option.map, ho]

/-- Floats that are asked whether they differ. -/
theorem br_fneq {k : FloatKind} {a b : Nat} : binRun P .neq t x y (.float k a) (.float k b) = some (.bool (k.format.order a b != some .eq)) := by
  simp [binRun, pureRun_bind, eqGuard, binOp, Op.floatCmp, pureRun, pure]
theorem br_feql {k : FloatKind} {a b : Nat} : binRun P .eql t x y (.float k a) (.float k b) = some (.bool (k.format.order a b == some .eq)) := by
  simp [binRun, pureRun_bind, eqGuard, binOp, Op.floatCmp, pureRun, pure]
theorem br_or {k : IntKind} {a b : Int} : binRun P .or t x y (.int k a) (.int k b) = some (.int k (k.wrap (BitVec.ofInt k.bits a ||| BitVec.ofInt k.bits b).toNat)) := by simp [binRun, pureRun_bind, eqGuard, binOp, Op.intBits, pureRun, pure]
theorem br_xor {k : IntKind} {a b : Int} : binRun P .xor t x y (.int k a) (.int k b) = some (.int k (k.wrap (BitVec.ofInt k.bits a ^^^ BitVec.ofInt k.bits b).toNat)) := by simp [binRun, pureRun_bind, eqGuard, binOp, Op.intBits, pureRun, pure]

end
end

section
variable {P : Program} {C : Cfg}

-- results -------------------------------------------------------------------
theorem res_nil {st : St} {tm : List V} : resV P st tm [] = some ([], []) := rfl
theorem res_tmp {st : St} {tm : List V} {t : Tmp} {v : V} {rs : List ResultVar} {vs : List V} {R : List Nat} (h : lk tm t = v) (hr : resV P st tm rs = some (vs, R)) : resV P st tm (.tmp t :: rs) = some (v :: vs, R) := by
  unfold lk at h
  simp only [resV, hr, h]
theorem res_cell {st : St} {tm row : List V} {a : Tmp} {t : TypeId} {i r off : Nat} {so : SO} {x : V} {rs : List ResultVar} {vs : List V} {R : List Nat} (h : lk tm a = .ptr i r off) (hg : st.get i = some so) (hw : so.rows[r]? = some row) (hp : partV P t row off = some x) (hr : resV P st tm rs = some (vs, R)) : resV P st tm (.cell a t :: rs) = some (x :: vs, [i] ++ R) := by
  unfold lk at h
  simp only [resV, h, loadV, hg, hw, hp, hr]

-- regions that draw their order -------------------------------------------------
/-- May two operations stand in no order? 0: it sees no object; 1: it reads; 2: it makes; 3: anything; 4: it writes what is new; 5: it reads what is old; 6: it makes, and reads what is old; 7: it makes what is new; 8: it makes, and sees no object. -/
def freePair (b b' : Nat) : Bool := b == 0 || b' == 0 || b' == 8 || ((b == 1 || b == 5) && (b' == 1 || b' == 5 || b' == 2 || b' == 6)) || (b == 6 && (b' == 5 || b' == 6)) || (b == 5 && b' == 4) || (b == 4 && (b' == 5 || b' == 6)) || (b == 7 && b' == 5) || ((b == 1 || b == 5) && b' == 7)
def statPair (ops : Array Oper) (i : Nat) (b : Nat) : List Nat → Nat → Bool
  | [], _ => true
  | b' :: l, j => (freePair b b' || ord ops i j) && statPair ops i b l (j + 1)
/-- Whatever may write stands in an order with everything else. -/
def statDyn (ops : Array Oper) : List Nat → Nat → Bool
  | [], _ => true
  | b :: l, i => statPair ops i b l (i + 1) && statDyn ops l (i + 1)
inductive Flag (n : Nat) : Ent → Nat → Prop
  | dry {st : St} {v : V} : Flag n ⟨st, st, [], [], v⟩ 0
  | read {st : St} {R : List Nat} {v : V} : Flag n ⟨st, st, R, [], v⟩ 1
  | mk {st st' : St} {R : List Nat} {v : V} : Flag n ⟨st, st', R, [], v⟩ 2
  | free {e : Ent} : Flag n e 3
  | fresh {st st' : St} {R W : List Nat} {v : V} (hw : ∀ x ∈ W, n ≤ x) (hn : n ≤ st.next) : Flag n ⟨st, st', R, W, v⟩ 4
  | readO {st : St} {R : List Nat} {v : V} (hr : ∀ x ∈ R, x < n) : Flag n ⟨st, st, R, [], v⟩ 5
  | mkO {st st' : St} {R : List Nat} {v : V} (hr : ∀ x ∈ R, x < n) (hn : n ≤ st.next) : Flag n ⟨st, st', R, [], v⟩ 6
  | mkN {st st' : St} {R : List Nat} {v : V} (hn : n ≤ st.next) : Flag n ⟨st, st', R, [], v⟩ 7
  | nw {st st' : St} {v : V} : Flag n ⟨st, st', [], [], v⟩ 8
inductive Flags (n : Nat) : List Ent → List Nat → Prop
  | nil : Flags n [] []
  | cons {e : Ent} {b : Nat} {l : List Ent} {bs : List Nat} (h : Flag n e b) (hl : Flags n l bs) : Flags n (e :: l) (b :: bs)
theorem Flags.cases_cons {n : Nat} {l : List Ent} {b : Nat} {bs : List Nat} (h : Flags n l (b :: bs)) : ∃ e l', l = e :: l' ∧ Flag n e b ∧ Flags n l' bs := by
  cases h with
  | cons h hl => exact ⟨_, _, rfl, h, hl⟩
theorem any_false {l : List Nat} {f : Nat → Bool} (h : ∀ x ∈ l, f x = false) : l.any f = false := by simp only [List.any_eq_false]; intro x hx; simp [h x hx]
theorem range_empty (n : Nat) (l : List Nat) : l.any (fun x => decide (n ≤ x) && decide (x < n)) = false := any_false fun x _ => by
  simp only [Bool.and_eq_false_iff, decide_eq_false_iff_not]; omega
theorem range_old {n m k : Nat} {l : List Nat} (h : ∀ x ∈ l, x < n) (hn : n ≤ m) : l.any (fun x => decide (m ≤ x) && decide (x < k)) = false := any_false fun x hx => by
  have := h x hx
  simp only [Bool.and_eq_false_iff, decide_eq_false_iff_not]; omega
theorem apart_old {n : Nat} {l m : List Nat} (h : ∀ x ∈ l, x < n) (h' : ∀ x ∈ m, n ≤ x) : m.any (fun x => l.contains x) = false := any_false fun x hx => by
  simp only [List.contains_eq_mem, decide_eq_false_iff_not]
  intro hl
  have := h x hl
  have := h' x hx
  omega
theorem no_clash {n : Nat} {e e' : Ent} {b b' : Nat} (h : Flag n e b) (h' : Flag n e' b') (hf : freePair b b' = true) : (!e.wr && !e'.wr) = true ∨ e.clash e' = false := by
  cases h <;> cases h' <;> first
    | (simp [freePair] at hf; done)
    | (left; simp [Ent.wr]; done)
    | (right; simp [Ent.clash]; done)
    | (right; simp only [Ent.clash, List.append_nil, List.any_nil, Bool.or_false, List.contains_nil, Bool.false_or]; exact any_false fun _ _ => rfl)
    | (right; simp only [Ent.clash, range_empty, List.any_nil, Bool.false_or, Bool.or_false, List.append_nil]; simp; done)
    | (right; simp only [Ent.clash, List.any_nil, Bool.false_or, Bool.or_false, List.append_nil, List.contains_nil]
       first
         | exact range_old (by assumption) (by assumption)
         | exact Bool.or_eq_false_iff.mpr ⟨apart_old (by assumption) (by assumption), range_old (by assumption) (by assumption)⟩
         | exact Bool.or_eq_false_iff.mpr ⟨apart_old (by assumption) (by assumption), range_empty _ _⟩)
theorem flag_pair {n : Nat} {ops : Array Oper} {e : Ent} {b : Nat} {i : Nat} (he : Flag n e b) : ∀ {bs : List Nat} {l : List Ent} {j : Nat}, Flags n l bs → statPair ops i b bs j = true → dynFrom ops e i l j = true
  | [], _, _, h, _ => by cases h; rfl
  | b' :: bs, _, _, h, hs => by
    obtain ⟨e', l', rfl, h1, h2⟩ := h.cases_cons
    simp only [statPair, Bool.and_eq_true, Bool.or_eq_true] at hs
    simp only [dynFrom, Bool.and_eq_true, Bool.or_eq_true]
    refine ⟨?_, flag_pair he h2 hs.2⟩
    rcases hs.1 with h' | h'
    · rcases no_clash he h1 h' with h3 | h3
      · exact .inl (.inl (by simpa using h3))
      · exact .inr (by simp [h3])
    · exact .inl (.inr h')
theorem flag_dyn {n : Nat} {ops : Array Oper} : ∀ {bs : List Nat} {l : List Ent} {i : Nat}, Flags n l bs → statDyn ops bs i = true → dynOk ops l i = true
  | [], _, _, h, _ => by cases h; rfl
  | b :: bs, _, _, h, hs => by
    obtain ⟨e, l', rfl, h1, h2⟩ := h.cases_cons
    simp only [statDyn, Bool.and_eq_true] at hs
    simp only [dynOk, Bool.and_eq_true]
    exact ⟨flag_pair h1 h2 hs.1, flag_dyn h2 hs.2⟩
theorem dyn_draw {ops : Array Oper} {e : Ent} {l : List Ent} {bs : List Nat} (hl : Flags e.pre.next (e :: l) bs) (hs : statDyn ops bs 0 = true) : (!true || dynOk ops (e :: l) 0) = true := by
  rw [flag_dyn hl hs]
  rfl
end
section
-- regions whose order is drawn, with pairs that are shown apart one by one
def exOk (l : List Ent) : List (Nat × Nat) → Prop
  | [] => True
  | (i, j) :: t => (∀ a b, l[i]? = some a → l[j]? = some b → a.clash b = false) ∧ exOk l t
theorem exOk.at {l : List Ent} : ∀ {ex : List (Nat × Nat)}, exOk l ex → ∀ i j, ex.contains (i, j) = true → ∀ a b, l[i]? = some a → l[j]? = some b → a.clash b = false
  | [], _, _, _, h, _, _, _, _ => by simp at h
  | (x, y) :: t, ⟨h1, h2⟩, i, j, h, a, b, ha, hb => by
    simp only [List.contains_cons, Bool.or_eq_true, beq_iff_eq, Prod.mk.injEq] at h
    rcases h with ⟨rfl, rfl⟩ | h
    · exact h1 a b ha hb
    · exact h2.at i j h a b ha hb
def statPairE (ops : Array Oper) (ex : List (Nat × Nat)) (i : Nat) (b : Nat) : List Nat → Nat → Bool
  | [], _ => true
  | b' :: l, j => (freePair b b' || ord ops i j || ex.contains (i, j)) && statPairE ops ex i b l (j + 1)
def statDynE (ops : Array Oper) (ex : List (Nat × Nat)) : List Nat → Nat → Bool
  | [], _ => true
  | b :: l, i => statPairE ops ex i b l (i + 1) && statDynE ops ex l (i + 1)
theorem flag_pairE {n : Nat} {ops : Array Oper} {ex : List (Nat × Nat)} {e : Ent} {b : Nat} {i : Nat} {L : List Ent} (he : Flag n e b) (hx : exOk L ex) (hi : L[i]? = some e) : ∀ {bs : List Nat} {l : List Ent} {j : Nat}, Flags n l bs → (∀ q, l[q]? = L[j + q]?) → statPairE ops ex i b bs j = true → dynFrom ops e i l j = true
  | [], _, _, h, _, _ => by cases h; rfl
  | b' :: bs, _, j, h, hL, hs => by
    obtain ⟨e', l', rfl, h1, h2⟩ := h.cases_cons
    simp only [statPairE, Bool.and_eq_true, Bool.or_eq_true] at hs
    simp only [dynFrom, Bool.and_eq_true, Bool.or_eq_true]
    refine ⟨?_, flag_pairE he hx hi h2 (fun q => by have := hL (q + 1); simpa [Nat.add_assoc, Nat.add_comm 1] using this) hs.2⟩
    rcases hs.1 with (h' | h') | h'
    · rcases no_clash he h1 h' with h3 | h3
      · exact .inl (.inl (by simpa using h3))
      · exact .inr (by simp [h3])
    · exact .inl (.inr h')
    · refine .inr ?_
      have := hx.at i j h' e e' hi (by have := hL 0; simpa using this.symm)
      simp [this]
theorem flag_dynE {n : Nat} {ops : Array Oper} {ex : List (Nat × Nat)} {L : List Ent} (hx : exOk L ex) : ∀ {bs : List Nat} {l : List Ent} {i : Nat}, Flags n l bs → (∀ q, l[q]? = L[i + q]?) → statDynE ops ex bs i = true → dynOk ops l i = true
  | [], _, _, h, _, _ => by cases h; rfl
  | b :: bs, _, i, h, hL, hs => by
    obtain ⟨e, l', rfl, h1, h2⟩ := h.cases_cons
    simp only [statDynE, Bool.and_eq_true] at hs
    simp only [dynOk, Bool.and_eq_true]
    have hL' : ∀ q, l'[q]? = L[i + 1 + q]? := fun q => by have := hL (q + 1); simpa [Nat.add_assoc, Nat.add_comm 1] using this
    exact ⟨flag_pairE h1 hx (by have := hL 0; simpa using this.symm) h2 hL' hs.1, flag_dynE hx h2 hL' hs.2⟩
theorem dyn_drawE {ops : Array Oper} {e : Ent} {l : List Ent} {bs : List Nat} (ex : List (Nat × Nat)) (hl : Flags e.pre.next (e :: l) bs) (hs : statDynE ops ex bs 0 = true) (hx : exOk (e :: l) ex) : (!true || dynOk ops (e :: l) 0) = true := by
  rw [flag_dynE hx hl (fun q => by simp) hs]
  rfl
theorem noclash {a b : Ent} {l : List Ent} {i j : Nat} (ha : l[i]? = some a) (hb : l[j]? = some b) (h : a.clash b = false) : ∀ a b, l[i]? = some a → l[j]? = some b → a.clash b = false := by
  intro x y hx hy
  rw [ha] at hx
  rw [hb] at hy
  cases hx
  cases hy
  exact h
theorem nc1 {st st1 st2 : St} {v v' : V} {x y : Nat} (h : x ≠ y) : Ent.clash ⟨st, st, [x], [], v⟩ ⟨st1, st2, [], [y], v'⟩ = false := by
  simp [Ent.clash, Ne.symm h]
theorem nc2 {st st1 : St} {o : SO} {v v' : V} {x y z : Nat} (h : x ≠ y) : Ent.clash ⟨st, st.set z o, [], [y], v⟩ ⟨st1, st1, [x], [], v'⟩ = false := by
  have h1 : (st.set z o).next = st.next := rfl
  have h2 : ¬ (st.next ≤ x ∧ x < st.next) := by omega
  simp only [Ent.clash, h1, List.any_cons, List.any_nil, List.contains_cons, List.contains_nil, List.append_nil, Bool.or_false, Bool.or_eq_false_iff, beq_eq_false_iff_ne, Bool.and_eq_false_iff, decide_eq_false_iff_not]
  refine ⟨fun e => h e.symm, ?_⟩
  omega
theorem ev_nil {n : Nat} : ∀ x ∈ ([] : List Nat), x < n := by intro x hx; cases hx
theorem ev_one {n a m : Nat} (hn : n = m) (h : a < m) : ∀ x ∈ [a], x < n := by
  intro x hx
  rw [List.mem_singleton.1 hx, hn]
  exact h
theorem ev_up {n a m : Nat} (hn : n = m) (h : m ≤ a) : ∀ x ∈ [a], n ≤ x := by
  intro x hx
  rw [List.mem_singleton.1 hx, hn]
  exact h
theorem ev_le {n a m k : Nat} (hn : n = m) (ha : a = k) (h : m ≤ k) : n ≤ a := by omega
end
attribute [irreducible] wc wo after lpost lpostW lk put binRun Fn Ends

end Go.Proofs.Ytnolgpagdjcjbaa.Ve
