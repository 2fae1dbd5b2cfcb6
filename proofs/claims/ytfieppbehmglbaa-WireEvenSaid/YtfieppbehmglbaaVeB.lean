import Derived.Test.YtfieppbehmglbaaVeA
/-! An evaluator of Go's code over owned and frozen slices: one order, no addresses. -/
set_option linter.unusedVariables false
set_option linter.unusedSimpArgs false
namespace Go.Proofs.Ytfieppbehmglbaa.Ve
open Go

mutual
def PV.val? : PV → Option Value
  | .sc x => some x
  | .fz _ => none
  | .agg cs => match PV.vals? cs with
    | some l => some (.agg l.toArray)
    | none => none
  | .ifc t p => match p.val? with
    | some v => some (.iface t v)
    | none => none
def PV.vals? : List PV → Option (List Value)
  | [] => some []
  | p :: ps => match p.val? with
    | some v => match PV.vals? ps with
      | some vs => some (v :: vs)
      | none => none
    | none => none
end

mutual
def V.val? : V → Option Value
  | .pv p => p.val?
  | .nl => some (.slice none 0 0)
  | .agg cs => match V.vals? cs with
    | some l => some (.agg l.toArray)
    | none => none
  | .tup cs => match V.vals? cs with
    | some l => some (.tuple l.toArray)
    | none => none
  | .ifc t p => match p.val? with
    | some v => some (.iface t v)
    | none => none
  | .fn f a c => match V.vals? a with
    | some a' => match V.vals? c with
      | some c' => some (.func f a'.toArray c'.toArray)
      | none => none
    | none => none
  | _ => none
def V.vals? : List V → Option (List Value)
  | [] => some []
  | p :: ps => match p.val? with
    | some v => match V.vals? ps with
      | some vs => some (v :: vs)
      | none => none
    | none => none
end

def ofCell (x : Value) : V := match x with
  | .slice none 0 0 => .nl
  | x => .pv (.sc x)
def allPv : List V → Option (List PV)
  | [] => some []
  | .pv p :: r => match allPv r with
    | some ps => some (p :: ps)
    | none => none
  | _ => none
def mkAgg (cs : List V) : V := match allPv cs with
  | some ps => .pv (.agg ps)
  | none => .agg cs
def mkIfc (t : TypeId) : V → V
  | .pv p => .pv (.ifc t p)
  | v => .ifc t v
def ofVal1 : Value → V
  | .agg cs => mkAgg (cs.toList.map ofCell)
  | x => ofCell x
def ofValue : Value → V
  | .tuple vs => .tup (vs.toList.map ofVal1)
  | x => ofVal1 x
def undefV : V := .pv (.sc undef)

def V.cells : V → List V
  | .pv (.agg ps) => ps.map .pv
  | .pv (.sc (.agg a)) => a.toList.map ofCell
  | .agg cs => cs
  | v => [v]
/-- May a cell hold it? -/
def V.cell1 : V → Bool
  | .pv (.sc x) => x.oneCell'
  | .pv (.agg _) | .agg _ | .tup _ => false
  | _ => true
def V.isAgg : V → Bool
  | .pv (.agg _) | .pv (.sc (.agg _)) | .agg _ => true
  | _ => false
def V.iface? : V → Option (TypeId × V)
  | .ifc t v => some (t, v)
  | .pv (.ifc t p) => some (t, .pv p)
  | .pv (.sc (.iface t v)) => some (t, ofVal1 v)
  | _ => none

/-- nil slices become frozen ones of no row. -/
def V.norm : V → V
  | .nl => .pv (.fz [])
  | .agg cs => mkAgg (V.norms cs)
  | .ifc t v => mkIfc t v.norm
  | .tup cs => .tup (V.norms cs)
  | v => v
where V.norms : List V → List V
  | [] => []
  | v :: vs => v.norm :: V.norms vs

/-- Frozen: what a value says, as data; which objects it hangs on. -/
def frz (st : St) : Nat → V → Option (PV × List Nat)
  | _, .pv p => some (p, [])
  | _, .nl => some (.fz [], [])
  | n + 1, .agg cs => match frzs (frz st n) cs with
    | some (ps, ids) => some (.agg ps, ids)
    | none => none
  | n + 1, .ifc t v => match frz st n v with
    | some (p, ids) => some (.ifc t p, ids)
    | none => none
  | n + 1, .ow i _ r len => match st.get i with
    | some so => if r + len ≤ so.rows.length then
        match frzss (frz st n) ((so.rows.drop r).take len) with
        | some (rows, ids) => some (.fz rows, i :: ids)
        | none => none
      else none
    | none => none
  | _, _ => none
where
  frzs (f : V → Option (PV × List Nat)) : List V → Option (List PV × List Nat)
    | [] => some ([], [])
    | v :: vs => match f v with
      | some (p, ids) => match frzs f vs with
        | some (ps, ids') => some (p :: ps, ids ++ ids')
        | none => none
      | none => none
  frzss (f : V → Option (PV × List Nat)) : List (List V) → Option (List (List PV) × List Nat)
    | [] => some ([], [])
    | v :: vs => match frzs f v with
      | some (p, ids) => match frzss f vs with
        | some (ps, ids') => some (p :: ps, ids ++ ids')
        | none => none
      | none => none

mutual
/-- No frozen slice within. -/
def PV.flat : PV → Bool
  | .sc _ => true
  | .fz _ => false
  | .agg cs => PV.flats cs
  | .ifc _ p => p.flat
def PV.flats : List PV → Bool
  | [] => true
  | p :: ps => p.flat && PV.flats ps
end
def V.flat : V → Bool
  | .pv p => p.flat
  | .tup cs => flats cs
  | _ => false
where flats : List V → Bool
  | [] => true
  | .pv p :: vs => p.flat && flats vs
  | _ => false

def V.isPure : V → Bool
  | .pv _ => true
  | .tup cs => pures cs
  | _ => false
where pures : List V → Bool
  | [] => true
  | .pv _ :: vs => pures vs
  | _ => false

def pureRun (P : Program) {α : Type} : Sem α → Option α
  | .pure a => some a
  | .program k => pureRun P (k P)
  | .mark _ k => pureRun P k
  | _ => none

section
variable (P : Program)

def tySize (t : TypeId) : Option Nat := (P.info? t).map (·.size)
def tyAgg (t : TypeId) : Option Bool := match P.underlying t with
  | some (.struct _) | some (.array _ _) => some true
  | some _ => some false
  | none => none

def partV (t : TypeId) (cs : List V) (off : Nat) : Option V :=
  match tyAgg P t with
  | some true => match tySize P t with
    | some n => if off + n ≤ cs.length then some (mkAgg ((cs.drop off).take n)) else none
    | none => none
  | some false => cs[off]?
  | none => none

def loadV (st : St) (t : TypeId) : V → Option (V × List Nat)
  | .ptr i r off => match st.get i with
    | some so => match so.rows[r]? with
      | some row => match partV P t row off with
        | some x => some (x, [i])
        | none => none
      | none => none
    | none => none
  | .fe cs => match partV P t (cs.map .pv) 0 with
    | some x => some (x, [])
    | none => none
  | _ => none

def setAt (cs : List V) (off : Nat) (xs : List V) : List V := cs.take off ++ xs ++ cs.drop (off + xs.length)

def storeV (st : St) (t : TypeId) (v : V) : V → Option (St × List Nat)
  | .ptr i r off => match v.cells with
    | [] => if tySize P t = some 0 then some (st, []) else none
    | _ :: _ => match st.get i with
      | some so => match so.rows[r]? with
        | some row => if tySize P t = some v.cells.length ∧ off + v.cells.length ≤ row.length ∧ v.cells.all V.cell1 then
            some (st.set i ⟨so.s, so.rows.set r (setAt row off v.cells)⟩, [i])
          else none
        | none => none
      | none => none
  | _ => none

def zeroV (t : TypeId) : Option V := match P.info? t with
  | some i => match i.zero with
    | some z => some (ofValue z)
    | none => none
  | none => none

def vfill (place : Nat → Option (Nat × Nat)) : List V → List (Nat × V) → Option (List V)
  | cs, [] => some cs
  | cs, (i, v) :: rest => match place i with
    | some (off, size) => if v.cells.length = size ∧ off + v.cells.length ≤ cs.length then vfill place (setAt cs off v.cells) rest else none
    | none => none

def chunk (s : Nat) : Nat → List V → List (List V)
  | 0, _ => []
  | n + 1, cs => cs.take s :: chunk s n (cs.drop s)

abbrev RV := V × St × List Nat × List Nat

def asInt? : V → Option Int
  | .pv (.sc (.int _ n)) => some n
  | _ => none

def envAll (env : Operand → Option V) : List Operand → Option (List V)
  | [] => some []
  | x :: xs => match env x with
    | some v => match envAll env xs with
      | some vs => some (v :: vs)
      | none => none
    | none => none

def envParts (env : Operand → Option V) : List (Nat × Operand) → Option (List (Nat × V))
  | [] => some []
  | (i, x) :: xs => match env x with
    | some v => match envParts env xs with
      | some vs => some ((i, v) :: vs)
      | none => none
    | none => none

def placesOf (fields : Array Field) : Option (List (Nat × Nat)) := fields.toList.mapM fun f => (P.info? f.type).map fun i => (f.offset, i.size)

def buildV (t : TypeId) (parts : List (Nat × V)) : Option V :=
  match zeroV P t with
  | some z => match P.underlying t with
    | some (.struct fields) => match placesOf P fields with
      | some places => match vfill (fun i => places[i]?) z.cells parts with
        | some cs => some (mkAgg cs)
        | none => none
      | none => none
    | some (.array _ elem) => match tySize P elem with
      | some size => match vfill (fun i => some (i * size, size)) z.cells parts with
        | some cs => some (mkAgg cs)
        | none => none
      | none => none
    | _ => none
  | none => none

def sliceElem (t : TypeId) : Option TypeId := match P.underlying t with
  | some (.slice e) => some e
  | _ => none

def buildSliceV (st : St) (t : TypeId) (len : Nat) (parts : List (Nat × V)) : Option RV :=
  match sliceElem P t with
  | some elem => match tySize P elem with
    | some size => match zeroV P elem with
      | some z => if len * size ≤ 2 ^ 24 ∧ z.cells.length = size then
          match vfill (fun i => some (i * size, size)) ((List.range (len * size)).map fun k => z.cells.getD (k % z.cells.length) .nl) (parts.map fun p => (p.1, p.2.norm)) with
          | some cs => if cs.all V.cell1 then some (.ow st.next size 0 len, st.new ⟨size, chunk size len cs⟩, [], []) else none
          | none => none
        else none
      | none => none
    | none => none
  | none => none

def fieldAddrV (s : TypeId) (f : Nat) (x : V) : Option V :=
  match P.underlying s with
  | some (.struct fields) => match fields[f]? with
    | some fd => match tySize P fd.type with
      | some (_ + 1) => match x with
        | .ptr i r off => some (.ptr i r (off + fd.offset))
        | .fe cs => some (.fe (cs.drop fd.offset))
        | _ => none
      | _ => none
    | none => none
  | _ => none

def fieldV (t : TypeId) (f : Nat) (x : V) : Option V :=
  match P.underlying t with
  | some (.struct fields) => match fields[f]? with
    | some fd => if x.isAgg then partV P fd.type x.cells fd.offset else none
    | none => none
  | _ => none

def indexAddrV (t : TypeId) (x : V) (k : Int) : Option V :=
  match P.underlying t with
  | some (.array len elem) => match tySize P elem with
    | some size => if 0 ≤ k ∧ k < len then match x with
        | .ptr i r off => some (.ptr i r (off + k.toNat * size))
        | .fe cs => some (.fe (cs.drop (k.toNat * size)))
        | _ => none
      else none
    | none => none
  | some (.slice elem) => match tySize P elem with
    | some size => match x with
      | .pv (.fz rows) => if 0 ≤ k then match rows[k.toNat]? with
          | some row => if row.length = size then some (.fe row) else none
          | none => none
        else none
      | .ow i s r len => if 0 ≤ k ∧ k < len ∧ s = size then some (.ptr i (r + k.toNat) 0) else none
      | _ => none
    | none => none
  | _ => none

def indexV (t : TypeId) (x : V) (k : Int) : Option V :=
  match P.underlying t with
  | some (.array len elem) => match tySize P elem with
    | some size => if 0 ≤ k ∧ k < len ∧ x.isAgg then partV P elem x.cells (k.toNat * size) else none
    | none => none
  | _ => none

def boundV (env : Operand → Option V) (d : Nat) : Option Operand → Option Int
  | none => some d
  | some x => match env x with
    | some v => asInt? v
    | none => none

def sliceV (t : TypeId) (x : V) (lo hi : Int → Option Int) : Option V :=
  match sliceElem P t with
  | some elem => match tySize P elem with
    | some size => match x with
      | .pv (.fz rows) => match lo 0 with
        | some l => match hi rows.length with
          | some h => if 0 ≤ l ∧ l ≤ h ∧ h ≤ rows.length ∧ (l = 0 ∨ rows.all (·.length == size)) then some (.pv (.fz ((rows.take h.toNat).drop l.toNat))) else none
          | none => none
        | none => none
      | .ow i s r len => match lo 0 with
        | some l => match hi len with
          | some h => if 0 ≤ l ∧ l ≤ h ∧ h ≤ len ∧ s = size then some (.ow i s (r + l.toNat) (h.toNat - l.toNat)) else none
          | none => none
        | none => none
      | .nl => match lo 0 with
        | some l => match hi 0 with
          | some h => if l = 0 ∧ h = 0 then some .nl else none
          | none => none
        | none => none
      | _ => none
    | none => none
  | none => none

def makeSliceV (st : St) (t : TypeId) (l c : Int) : Option RV :=
  match sliceElem P t with
  | some elem => match P.info? elem with
    | some info => match zeroV P elem with
      | some z => if 0 ≤ l ∧ l ≤ c ∧ c ≤ 2 ^ 40 ∧ c * (info.bytes + 1) ≤ 2 ^ 40 ∧ z.cells.length = info.size ∧ z.cells.all V.cell1 then
          some (.ow st.next info.size 0 l.toNat, st.new ⟨info.size, List.replicate c.toNat z.cells⟩, [], [])
        else none
      | none => none
    | none => none
  | none => none

def srcRows (st : St) (size : Nat) : V → Option (List (List V) × List Nat)
  | .nl => some ([], [])
  | .pv (.fz rows) => if rows.all (·.length == size) then some (rows.map (·.map .pv), []) else none
  | .ow j s r len => match st.get j with
    | some so => if so.s = size ∧ r + len ≤ so.rows.length then some ((so.rows.drop r).take len, [j]) else none
    | none => none
  | _ => none

def appendV (st : St) (argTypes : Array TypeId) (s x : V) : Option RV :=
  match argTypes[0]? with
  | some t => match argTypes[1]? with
    | some xt => match sliceElem P t with
      | some elem => match sliceElem P xt with
        | some _ => match P.info? elem with
          | some info => match zeroV P elem with
            | some z => if z.cells.length ≠ info.size then none else match srcRows st info.size x with
              | some (rows, R) => match rows with
                | [] => match s with
                  | .nl | .ow _ _ _ _ => some (s, st, R, [])
                  | _ => none
                | _ :: _ => match s with
                  | .nl => if rows.length * (info.bytes + 1) ≤ 2 ^ 40 then some (.ow st.next info.size 0 rows.length, st.new ⟨info.size, rows⟩, R, []) else none
                  | .ow i _ r len => match srcRows st info.size s with
                    | some (old, R0) => if (len + rows.length) * (info.bytes + 1) ≤ 2 ^ 40 then
                        some (.ow st.next info.size 0 (len + rows.length), (st.new ⟨info.size, old ++ rows⟩).kill i, R0 ++ R, [i])
                      else none
                    | none => none
                  | _ => none
              | none => none
            | none => none
          | none => none
        | none => none
      | none => none
    | none => none
  | none => none

def lenV (t : TypeId) (x : V) : Option Int :=
  match P.underlying t with
  | some (.slice _) => match x with
    | .pv (.fz rows) => some rows.length
    | .ow _ _ _ len => some len
    | .nl => some 0
    | _ => none
  | some (.array n _) => some n
  | _ => none

def methodV (t : TypeId) (name : String) : Option (FuncId × Bool) := match P.info? t with
  | some info => match info.methods.find? (·.name == name) with
    | some m => if m.path.isEmpty then m.func else none
    | none => none
  | none => none

def ptrElem (t : TypeId) : Option (Option TypeId) := match P.underlying t with
  | some (.pointer e) => some (some e)
  | some _ => some none
  | none => none

/-- May a method value be made of this receiver? -/
def nilOk (t : TypeId) (u : V) (name : String) : Bool := match methodV P t name with
  | some (_, true) => true
  | some (_, false) => match ptrElem P t with
    | some none => true
    | some (some _) => match u with
      | .ptr _ _ _ | .fe _ => true
      | _ => false
    | none => false
  | none => false

def nilCheckV (x : V) : Option V := match x with
  | .ptr _ _ _ | .fe _ => some x
  | .fn (.func _) _ _ => some x
  | .fn (.method name) (r :: _) _ => match r.iface? with
    | some (t, u) => if nilOk P t u name then some x else none
    | none => none
  | _ => match x.iface? with
    | some _ => some x
    | none => none

def recvV (st : St) (t : TypeId) (u : V) (name : String) : Option (FuncId × V × List Nat) :=
  match methodV P t name with
  | some (g, pr) => match ptrElem P t with
    | some none => if pr then none else some (g, u, [])
    | some (some e) => if pr then some (g, u, []) else match loadV P st e u with
      | some (x, R) => some (g, x, R)
      | none => none
    | none => none
  | none => none

def targetV (env : Operand → Option V) (st : St) (c : Call) : Option (FuncId × List V × List Nat) :=
  match envAll env c.args.toList with
  | some args => match c.callee with
    | .value f => match env f with
      | some (.fn (.func g) first caps) => some (g, first ++ args ++ caps, [])
      | some (.fn (.method name) first caps) => match first ++ args with
        | r :: rest => match r.iface? with
          | some (t, u) => match recvV P st t u name with
            | some (g, x, R) => some (g, x :: rest, R)
            | none => none
          | none => none
        | [] => none
      | _ => none
    | .invoke r name => match env r with
      | some rv => match rv.iface? with
        | some (t, u) => match recvV P st t u name with
          | some (g, x, R) => some (g, x :: args, R)
          | none => none
        | none => none
      | none => none
    | .builtin _ => none
  | none => none

def eqV (t : TypeId) (x y : V) : Option Bool := match P.underlying t, x, y with
  | some (.pointer _), .ptr _ _ _, .pv (.sc (.pointer none)) | some (.pointer _), .fe _, .pv (.sc (.pointer none)) => some false
  | some (.pointer _), .pv (.sc (.pointer none)), .ptr _ _ _ | some (.pointer _), .pv (.sc (.pointer none)), .fe _ => some false
  | some (.pointer e), .ptr i r o, .ptr i' r' o' => if i = i' ∧ r = r' ∧ o = o' ∧ (tySize P e).getD 0 ≠ 0 then some true else none
  | some (.slice _), .ow _ _ _ _, .nl | some (.slice _), .nl, .ow _ _ _ _ => some false
  | some (.slice _), .pv (.fz (_ :: _)), .nl | some (.slice _), .nl, .pv (.fz (_ :: _)) => some false
  | some (.interface _), x, .pv (.sc .nilIface) => match x.iface? with
    | some _ => some false
    | none => none
  | some (.func _ _ _), .fn _ _ _, .pv (.sc .nilFunc) | some (.func _ _ _), .pv (.sc .nilFunc), .fn _ _ _ => some false
  | _, _, _ => none

/-- An operation whose operands bear no address: the model's own. -/
def scal (env : Operand → Option V) (o : Oper) : Option Value :=
  if o.op.operands.toList.all (fun x => match env x with
    | some v => v.val?.isSome
    | none => false) then
    match pureRun P (execOp (fun x => match env x with
      | some v => v.val?.getD undef
      | none => undef) o) with
    | some (.value v) => some v
    | _ => none
  else none

def one (st : St) : Option V → Option RV
  | some v => some (v, st, [], [])
  | none => none

def binPlain (env : Operand → Option V) (x y : Operand) : Bool := match env x, env y with
  | some a, some b => a.val?.isSome && b.val?.isSome
  | _, _ => false

/-- Every operation but a call of a Go function. -/
def vop (env : Operand → Option V) (o : Oper) (st : St) : Option RV :=
  match o.op with
  | .move x | .assign x => one st (env x)
  | .pick c a b => match env c with
    | some (.pv (.sc (.bool t))) => match t with
      | true => one st (env a)
      | false => one st (env b)
    | _ => none
  | .alloc t => match zeroV P t with
    | some z => if z.cells.all V.cell1 then some (.ptr st.next 0 0, st.new ⟨z.cells.length, [z.cells]⟩, [], []) else none
    | none => none
  | .box _ x => match env x with
    | some v => if v.cells.all V.cell1 then some (.ptr st.next 0 0, st.new ⟨v.cells.length, [v.cells]⟩, [], []) else none
    | none => none
  | .build t parts => match envParts env parts.toList with
    | some ps => one st (buildV P t ps)
    | none => none
  | .buildSlice t len parts => match envParts env parts.toList with
    | some ps => buildSliceV P st t len ps
    | none => none
  | .load t a => match env a with
    | some x => match loadV P st t x with
      | some (v, R) => some (v, st, R, [])
      | none => none
    | none => none
  | .store t a x => match env a with
    | some p => match env x with
      | some v => match storeV P st t v p with
        | some (st', W) => some (undefV, st', [], W)
        | none => none
      | none => none
    | none => none
  | .nilCheck x => match env x with
    | some v => one st (nilCheckV P v)
    | none => none
  | .binOp op t x y _ => if binPlain env x y then one st ((scal P env o).map ofValue) else
    match env x with
    | some a => match env y with
      | some b => match op with
        | .eql => one st ((eqV P t a b).map fun r => .pv (.sc (.bool r)))
        | .neq => one st ((eqV P t a b).map fun r => .pv (.sc (.bool (!r))))
        | _ => none
      | none => none
    | none => none
  | .unOp _ _ _ | .convert _ _ _ => one st ((scal P env o).map ofValue)
  | .makeInterface t x => match env x with
    | some v => match P.underlying t with
      | some (.interface _) => none
      | some _ => some (mkIfc t v, st, [], [])
      | none => none
    | none => none
  | .makeFunc fn first caps => match envAll env first.toList with
    | some a => match envAll env caps.toList with
      | some c => some (.fn fn a c, st, [], [])
      | none => none
    | none => none
  | .makeSlice t l c => match env l with
    | some (.pv (.sc (.int _ l))) => match env c with
      | some (.pv (.sc (.int _ c))) => makeSliceV P st t l c
      | _ => none
    | _ => none
  | .slice t x lo hi none => match env x with
    | some v => match v with
      | .pv (.sc _) => one st ((scal P env o).map ofValue)
      | _ => one st (sliceV P t v (fun d => boundV env d.toNat lo) (fun d => boundV env d.toNat hi))
    | none => none
  | .fieldAddr s x f => match env x with
    | some v => one st (fieldAddrV P s f v)
    | none => none
  | .field t x f => match env x with
    | some v => one st (fieldV P t f v)
    | none => none
  | .indexAddr t x ix => match env x with
    | some v => match env ix with
      | some (.pv (.sc (.int _ k))) => one st (indexAddrV P t v k)
      | _ => none
    | none => none
  | .index t x ix => match env x with
    | some v => match v with
      | .pv (.sc (.string _)) => one st ((scal P env o).map ofValue)
      | _ => match env ix with
        | some (.pv (.sc (.int _ k))) => one st (indexV P t v k)
        | _ => none
    | none => none
  | .typeAssert x _ asserted commaOk => match env x with
    | some v => match v.iface? with
      | some (t, u) => match P.underlying asserted with
        | some (.interface _) => none
        | some _ => if t = asserted then some (if commaOk then .tup [u, .pv (.sc (.bool true))] else u, st, [], []) else none
        | none => none
      | none => none
    | none => none
  | .extract t k => match env t with
    | some (.tup cs) => one st cs[k]?
    | _ => none
  | .call { callee := .builtin .append, args, argTypes } => match args.toList with
    | [s, x] => match env s with
      | some sv => match env x with
        | some xv => appendV P st argTypes sv xv
        | none => none
      | none => none
    | _ => none
  | .call { callee := .builtin .len, args, argTypes } => match args.toList with
    | [x] => match env x with
      | some v => match v with
        | .pv (.sc _) => one st ((scal P env o).map ofValue)
        | _ => match argTypes[0]? with
          | some t => one st ((lenV P t v).map fun n => .pv (.sc (.int .i64 n)))
          | none => none
      | none => none
    | _ => none
  | .call _ => one st ((scal P env o).map ofValue)
  | _ => none

end

inductive Pol where
  | pure | std | res | keep | orc
  deriving DecidableEq

structure Cfg where
  pol : FuncId → Pol
  orc : FuncId → List PV → Option V

inductive Ex where
  | norm | exit (id : Nat) | ret
  deriving DecidableEq

structure Out where
  ex : Ex
  tm : List V
  st : St
  R : List Nat
  W : List Nat

inductive Task where
  | call (f : FuncId) (args : List V) (st : St)
  | loop (c : Code) (tm : List V) (st : St)

def envOf (tm : List V) : Operand → Option V
  | .tmp t => some (tm.getD t undefV)
  | .const v => some (ofValue v)
  | .global _ => none
  | .func f => some (.fn (.func f) [] [])

section
variable (P : Program) (C : Cfg) (E : Task → Option Out)

def frzAll (st : St) : List V → Option (List PV × List Nat)
  | [] => some ([], [])
  | v :: vs => match frz st 4 v with
    | some (p, ids) => match frzAll st vs with
      | some (ps, ids') => some (p :: ps, ids ++ ids')
      | none => none
    | none => none

/-- What can be frozen is; the rest stays. -/
def frzArgs (st : St) : List V → List V × List Nat
  | [] => ([], [])
  | v :: vs => match frz st 4 v with
    | some (p, ids) => (.pv p :: (frzArgs st vs).1, ids ++ (frzArgs st vs).2)
    | none => (v.norm :: (frzArgs st vs).1, (frzArgs st vs).2)

def St.kills (st : St) : List Nat → St
  | [] => st
  | i :: is => (st.kill i).kills is

/-- A callee that sees no object: its answer. -/
def pcall (g : FuncId) (ps : List PV) : Option V := match E (.call g (ps.map .pv) St.empty) with
  | some o => match o.tm with
    | [v] => match v.isPure with
      | true => some v
      | false => none
    | _ => none
  | none => none

/-- A call of a Go function with a body. -/
def docall (g : FuncId) (args : List V) (st : St) : Option RV :=
  match C.pol g with
  | .pure => match frzAll st args with
    | some (ps, ids) => match pcall E g ps with
      | some v => match ids with
        | [] => some (v, st, [], [])
        | _ :: _ => match v.flat with
          | true => some (v, st, ids, [])
          | false => some (v, st.kills ids, ids, ids)
      | none => none
    | none => none
  | .orc => match frzAll st args with
    | some (ps, ids) => match C.orc g ps with
      | some v => match ids with
        | [] => some (v, st, [], [])
        | _ :: _ => match v.flat with
          | true => some (v, st, ids, [])
          | false => none
      | none => none
    | none => none
  | .std => match frzArgs st args with
    | (as, ids) => match E (.call g as (st.kills ids)) with
      | some o => match o.tm with
        | [v] => some (v, o.st, ids ++ o.R, ids ++ o.W)
        | _ => none
      | none => none
  | .res => match E (.call g args st) with
    | some o => match o.tm with
      | [v] => some (v, o.st, o.R, o.W)
      | _ => none
    | none => none
  | .keep => match E (.call g args st) with
    | some o => match o.tm with
      | [v] => some (v, o.st, o.R, o.W)
      | _ => none
    | none => none

def hasBody (g : FuncId) : Bool := match P.funcs[g]? with
  | some fn => fn.body.isSome && fn.name != "runtime.NumGoroutine"
  | none => false

def vexec (env : Operand → Option V) (o : Oper) (st : St) : Option RV :=
  match o.op with
  | .call c => match c.callee with
    | .builtin _ => vop P env o st
    | _ => match targetV P env st c with
      | some (g, args, R0) => if hasBody P g then
          match docall C E g args st with
          | some (v, st', R, W) => some (v, st', R0 ++ R, W)
          | none => none
        else vop P env o st
      | none => none
  | _ => vop P env o st

structure Ent where
  pre : St
  post : St
  R : List Nat
  W : List Nat
  v : V

def vyield (ops : Array Oper) (tm : List V) (j : Nat) : Option Bool :=
  match ops[j]? with
  | some o => match o.dst with
    | some d => match tm[d]? with
      | some (.pv (.sc (.bool b))) => some b
      | _ => none
    | none => none
  | none => none

def vwanted (ops : Array Oper) (tm : List V) (o : Oper) : Bool :=
  match o.guard with
  | none => true
  | some (j, want) => match vyield ops tm j with
    | some b => b == want
    | none => false

def setTm (tm : List V) : Option Tmp → V → List V
  | some d, v => tm.set d v
  | none, _ => tm

def vops (ops : Array Oper) : List Oper → List V → St → Option (List V × St × List Ent)
  | [], tm, st => some (tm, st, [])
  | o :: os, tm, st => match vwanted ops tm o with
    | true => match vexec P C E (envOf tm) o st with
      | some (v, st', R, W) => match vops ops os (setTm tm o.dst v) st' with
        | some (tm', st'', l) => some (tm', st'', ⟨st, st', R, W, v⟩ :: l)
        | none => none
      | none => none
    | false => match vops ops os (setTm tm o.dst undefV) st with
      | some (tm', st'', l) => some (tm', st'', ⟨st, st, [], [], undefV⟩ :: l)
      | none => none

def ord (ops : Array Oper) (i j : Nat) : Bool := ((Region.before ops).getD j 0).testBit i

def Ent.clash (a b : Ent) : Bool :=
  a.W.any (fun x => b.R.contains x || b.W.contains x) || b.W.any (fun x => a.R.contains x) ||
  (b.R ++ b.W).any (fun x => decide (a.pre.next ≤ x) && decide (x < a.post.next))

/-- It writes, or makes. -/
def Ent.wr (e : Ent) : Bool := !e.W.isEmpty || decide (e.pre.next ≠ e.post.next)

/-- Nothing that two operations do in no order clashes. -/
def dynFrom (ops : Array Oper) (e : Ent) (i : Nat) : List Ent → Nat → Bool
  | [], _ => true
  | e' :: l, j => ((!e.wr && !e'.wr) || ord ops i j || !e.clash e') && dynFrom ops e i l (j + 1)
def dynOk (ops : Array Oper) : List Ent → Nat → Bool
  | [], _ => true
  | e :: l, i => dynFrom ops e i l (i + 1) && dynOk ops l (i + 1)

def statFrom (ops : Array Oper) (o : Oper) (i : Nat) : List Oper → Nat → Bool
  | [], _ => true
  | o' :: l, j => (ord ops i j || o.apart ops o') && statFrom ops o i l (j + 1)
def statOk (ops : Array Oper) : List Oper → Nat → Bool
  | [], _ => true
  | o :: l, i => (o.after.toList.all fun e => !Region.binds .any e || decide (e.on < i)) && statFrom ops o i l (i + 1) && statOk ops l (i + 1)

/-- The temporaries of regions that draw their order. -/
def codeStat : Code → Bool
  | .seq a b | .cond _ a b => codeStat a && codeStat b
  | .block _ c | .loop c | .scope c => codeStat c
  | .region _ ops true => statOk ops ops.toList 0
  | _ => true

def progStat (P : Program) : Bool := P.funcs.toList.all fun fn => match fn.body with
  | some c => codeStat c
  | none => true

def entR (l : List Ent) : List Nat := l.flatMap (·.R)
def entW (l : List Ent) : List Nat := l.flatMap (·.W)

def vcode : Code → List V → St → Option Out
  | .skip, tm, st | .label _, tm, st => some ⟨.norm, tm, st, [], []⟩
  | .seq a b, tm, st => match vcode a tm st with
    | some o => match o.ex with
      | .norm => match vcode b o.tm o.st with
        | some o' => some ⟨o'.ex, o'.tm, o'.st, o.R ++ o'.R, o.W ++ o'.W⟩
        | none => none
      | _ => some o
    | none => none
  | .cond c a b, tm, st => match envOf tm c with
    | some (.pv (.sc (.bool t))) => match t with
      | true => vcode a tm st
      | false => vcode b tm st
    | _ => none
  | .block id c, tm, st => match vcode c tm st with
    | some o => some ⟨if o.ex = .exit id then .norm else o.ex, o.tm, o.st, o.R, o.W⟩
    | none => none
  | .loop c, tm, st => E (.loop c tm st)
  | .scope c, tm, st => vcode c tm st
  | .exit id, tm, st => some ⟨.exit id, tm, st, [], []⟩
  | .ret, tm, st => some ⟨.ret, tm, st, [], []⟩
  | .region _ ops draw, tm, st => match vops P C E ops ops.toList tm st with
    | some (tm', st', l) => if (!draw || dynOk ops l 0) = true then some ⟨.norm, tm', st', entR l, entW l⟩ else none
    | none => none
  | _, _, _ => none

def resV (st : St) (tm : List V) : List ResultVar → Option (List V × List Nat)
  | [] => some ([], [])
  | .tmp t :: rs => match resV st tm rs with
    | some (vs, R) => some (tm.getD t undefV :: vs, R)
    | none => none
  | .cell a t :: rs => match loadV P st t (tm.getD a undefV) with
    | some (x, R0) => match resV st tm rs with
      | some (vs, R) => some (x :: vs, R0 ++ R)
      | none => none
    | none => none

def resOne : List V → V
  | [v] => v
  | vs => .tup vs

def frzRes (st : St) : V → Option (V × List Nat)
  | .tup vs => match frzAll st vs with
    | some (ps, ids) => some (.tup (ps.map .pv), ids)
    | none => none
  | v => match frz st 4 v with
    | some (p, ids) => some (.pv p, ids)
    | none => none

def finish (f : FuncId) (st st' : St) (v : V) (R W : List Nat) : Option Out :=
  match C.pol f with
  | .keep => some ⟨.ret, [v], st', R.filter (· < st.next), W.filter (· < st.next)⟩
  | _ => match frzRes st' v with
    | some (v', ids) => some ⟨.ret, [v'], st'.kills ids, (R ++ ids).filter (· < st.next), (W ++ ids).filter (· < st.next)⟩
    | none => match C.pol f with
      | .std | .res => some ⟨.ret, [v.norm], st', R.filter (· < st.next), W.filter (· < st.next)⟩
      | _ => none

def call1 (f : FuncId) (args : List V) (st : St) : Option Out :=
  match P.funcs[f]? with
  | some fn => match fn.body with
    | some c => match vcode P C E c (args ++ List.replicate (fn.ntmps - args.length) undefV) st with
      | some o => match o.ex with
        | .exit _ => none
        | _ => match resV P o.st o.tm fn.results.toList with
          | some (vs, R) => finish C f st o.st (resOne vs) (o.R ++ R) o.W
          | none => none
      | none => none
    | none => none
  | none => none

def stepE : Task → Option Out
  | .call f args st => call1 P C E f args st
  | .loop c tm st => match vcode P C E c tm st with
    | some o => match o.ex with
      | .norm => match E (.loop c o.tm o.st) with
        | some o' => some ⟨o'.ex, o'.tm, o'.st, o.R ++ o'.R, o.W ++ o'.W⟩
        | none => none
      | _ => some o
    | none => none

end

def evN (P : Program) (C : Cfg) : Nat → Task → Option Out
  | 0, _ => none
  | n + 1, t => stepE P C (evN P C n) t

end Go.Proofs.Ytfieppbehmglbaa.Ve
