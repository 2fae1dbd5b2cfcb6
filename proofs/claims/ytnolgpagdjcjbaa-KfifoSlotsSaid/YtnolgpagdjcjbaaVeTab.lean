import Derived.Test.YtnolgpagdjcjbaaVeV
import Derived.Test.YtnolgpagdjcjbaaProg
/-! Tables. -/
set_option linter.unusedVariables false
namespace Go.Proofs.Ytnolgpagdjcjbaa.Ve
open Go
@[simp] theorem sz2 : tySize Try.prog 2 = some 1 := by kernel_rfl
@[simp] theorem ag2 : tyAgg Try.prog 2 = some false := by kernel_rfl
@[simp] theorem ze2 : zeroV Try.prog 2 = some (V.pv (PV.sc (Value.int IntKind.i64 0))) := by kernel_rfl
@[simp] theorem sz3 : tySize Try.prog 3 = some 1 := by kernel_rfl
@[simp] theorem ag3 : tyAgg Try.prog 3 = some false := by kernel_rfl
@[simp] theorem ze3 : zeroV Try.prog 3 = some (V.pv (PV.sc (Value.int IntKind.i64 0))) := by kernel_rfl
@[simp] theorem sz4 : tySize Try.prog 4 = some 1 := by kernel_rfl
@[simp] theorem ag4 : tyAgg Try.prog 4 = some false := by kernel_rfl
theorem bty : Try.prog.underlying 4 = some .bool := by kernel_rfl
@[simp] theorem sz22 : tySize Try.prog 22 = some 1 := by kernel_rfl
@[simp] theorem ag22 : tyAgg Try.prog 22 = some false := by kernel_rfl
@[simp] theorem ze22 : zeroV Try.prog 22 = some V.nl := by kernel_rfl
@[simp] theorem el22 : sliceElem Try.prog 22 = some 44 := by kernel_rfl
theorem by22 : (Try.prog.info? 44).map (fun i => (i.size, i.bytes)) = some (5, 40) := by kernel_rfl
@[simp] theorem iaF22 (rows : List (List PV)) (k : Int) : indexAddrV Try.prog 22 (.pv (.fz rows)) k = (if 0 ≤ k then match rows[k.toNat]? with | some row => if row.length = 5 then some (.fe row) else none | none => none else none) := by kernel_rfl
@[simp] theorem iaO22 (i s r len : Nat) (k : Int) : indexAddrV Try.prog 22 (.ow i s r len) k = (if 0 ≤ k ∧ k < len ∧ s = 5 then some (.ptr i (r + k.toNat) 0) else none) := by kernel_rfl
@[simp] theorem lnF22 (rows : List (List PV)) : lenV Try.prog 22 (.pv (.fz rows)) = some rows.length := by kernel_rfl
@[simp] theorem lnO22 (i s r len : Nat) : lenV Try.prog 22 (.ow i s r len) = some len := by kernel_rfl
@[simp] theorem lnN22 : lenV Try.prog 22 .nl = some 0 := by kernel_rfl
@[simp] theorem sz26 : tySize Try.prog 26 = some 1 := by kernel_rfl
@[simp] theorem ag26 : tyAgg Try.prog 26 = some true := by kernel_rfl
@[simp] theorem ze26 : zeroV Try.prog 26 = some (V.pv (PV.agg [PV.sc (Value.int IntKind.i64 0)])) := by kernel_rfl
@[simp] theorem fa26_0 (i r off : Nat) : fieldAddrV Try.prog 26 0 (.ptr i r off) = some (.ptr i r (off + 0)) := by kernel_rfl
@[simp] theorem fe26_0 (cs : List PV) : fieldAddrV Try.prog 26 0 (.fe cs) = some (.fe (cs.drop 0)) := by kernel_rfl
theorem bp26 : buildP Try.prog 26 = some ([V.pv (PV.sc (Value.int IntKind.i64 0))], [(0, 1)]) := by kernel_rfl
theorem ni26 : (match Try.prog.underlying 26 with | some (.interface _) => false | some _ => true | none => false) = true := by kernel_rfl
@[simp] theorem sz30 : tySize Try.prog 30 = some 1 := by kernel_rfl
@[simp] theorem ag30 : tyAgg Try.prog 30 = some false := by kernel_rfl
@[simp] theorem sz32 : tySize Try.prog 32 = some 1 := by kernel_rfl
@[simp] theorem ag32 : tyAgg Try.prog 32 = some false := by kernel_rfl
@[simp] theorem ze32 : zeroV Try.prog 32 = some V.nl := by kernel_rfl
@[simp] theorem el32 : sliceElem Try.prog 32 = some 45 := by kernel_rfl
theorem by32 : (Try.prog.info? 45).map (fun i => (i.size, i.bytes)) = some (2, 16) := by kernel_rfl
@[simp] theorem iaF32 (rows : List (List PV)) (k : Int) : indexAddrV Try.prog 32 (.pv (.fz rows)) k = (if 0 ≤ k then match rows[k.toNat]? with | some row => if row.length = 2 then some (.fe row) else none | none => none else none) := by kernel_rfl
@[simp] theorem iaO32 (i s r len : Nat) (k : Int) : indexAddrV Try.prog 32 (.ow i s r len) k = (if 0 ≤ k ∧ k < len ∧ s = 2 then some (.ptr i (r + k.toNat) 0) else none) := by kernel_rfl
@[simp] theorem lnF32 (rows : List (List PV)) : lenV Try.prog 32 (.pv (.fz rows)) = some rows.length := by kernel_rfl
@[simp] theorem lnO32 (i s r len : Nat) : lenV Try.prog 32 (.ow i s r len) = some len := by kernel_rfl
@[simp] theorem lnN32 : lenV Try.prog 32 .nl = some 0 := by kernel_rfl
@[simp] theorem sz33 : tySize Try.prog 33 = some 1 := by kernel_rfl
@[simp] theorem ag33 : tyAgg Try.prog 33 = some false := by kernel_rfl
@[simp] theorem sz35 : tySize Try.prog 35 = some 2 := by kernel_rfl
@[simp] theorem ag35 : tyAgg Try.prog 35 = some true := by kernel_rfl
@[simp] theorem ze35 : zeroV Try.prog 35 = some (V.pv (PV.agg [PV.sc (Value.float FloatKind.f64 0), PV.sc (Value.int IntKind.i64 0)])) := by kernel_rfl
@[simp] theorem fa35_0 (i r off : Nat) : fieldAddrV Try.prog 35 0 (.ptr i r off) = some (.ptr i r (off + 0)) := by kernel_rfl
@[simp] theorem fe35_0 (cs : List PV) : fieldAddrV Try.prog 35 0 (.fe cs) = some (.fe (cs.drop 0)) := by kernel_rfl
@[simp] theorem fa35_1 (i r off : Nat) : fieldAddrV Try.prog 35 1 (.ptr i r off) = some (.ptr i r (off + 1)) := by kernel_rfl
@[simp] theorem fe35_1 (cs : List PV) : fieldAddrV Try.prog 35 1 (.fe cs) = some (.fe (cs.drop 1)) := by kernel_rfl
theorem bp35 : buildP Try.prog 35 = some ([V.pv (PV.sc (Value.float FloatKind.f64 0)), V.pv (PV.sc (Value.int IntKind.i64 0))], [(0, 1), (1, 1)]) := by kernel_rfl
theorem bp36 : buildP Try.prog 36 = some ([V.pv (PV.sc (Value.int IntKind.i64 0)), V.pv (PV.sc (Value.int IntKind.i64 0))], [(0, 1), (1, 1)]) := by kernel_rfl
theorem iaA36 (i r off : Nat) (k : Int) : indexAddrV Try.prog 36 (.ptr i r off) k = (if 0 ≤ k ∧ k < 2 then some (.ptr i r (off + k.toNat * 1)) else none) := by kernel_rfl
theorem iaE36 (cs : List PV) (k : Int) : indexAddrV Try.prog 36 (.fe cs) k = (if 0 ≤ k ∧ k < 2 then some (.fe (cs.drop (k.toNat * 1))) else none) := by kernel_rfl
@[simp] theorem sz38 : tySize Try.prog 38 = some 5 := by kernel_rfl
@[simp] theorem ag38 : tyAgg Try.prog 38 = some true := by kernel_rfl
@[simp] theorem ze38 : zeroV Try.prog 38 = some (V.pv (PV.agg [PV.sc (Value.int IntKind.i64 0), PV.sc (Value.float FloatKind.f64 0), PV.sc (Value.int IntKind.i64 0), PV.sc (Value.int IntKind.i64 0), PV.sc (Value.int IntKind.i64 0)])) := by kernel_rfl
@[simp] theorem fa38_0 (i r off : Nat) : fieldAddrV Try.prog 38 0 (.ptr i r off) = some (.ptr i r (off + 0)) := by kernel_rfl
@[simp] theorem fe38_0 (cs : List PV) : fieldAddrV Try.prog 38 0 (.fe cs) = some (.fe (cs.drop 0)) := by kernel_rfl
@[simp] theorem fa38_1 (i r off : Nat) : fieldAddrV Try.prog 38 1 (.ptr i r off) = some (.ptr i r (off + 1)) := by kernel_rfl
@[simp] theorem fe38_1 (cs : List PV) : fieldAddrV Try.prog 38 1 (.fe cs) = some (.fe (cs.drop 1)) := by kernel_rfl
@[simp] theorem fa38_2 (i r off : Nat) : fieldAddrV Try.prog 38 2 (.ptr i r off) = some (.ptr i r (off + 3)) := by kernel_rfl
@[simp] theorem fe38_2 (cs : List PV) : fieldAddrV Try.prog 38 2 (.fe cs) = some (.fe (cs.drop 3)) := by kernel_rfl
theorem bp38 : buildP Try.prog 38 = some ([V.pv (PV.sc (Value.int IntKind.i64 0)), V.pv (PV.sc (Value.float FloatKind.f64 0)), V.pv (PV.sc (Value.int IntKind.i64 0)), V.pv (PV.sc (Value.int IntKind.i64 0)), V.pv (PV.sc (Value.int IntKind.i64 0))], [(0, 1), (1, 2), (3, 2)]) := by kernel_rfl
@[simp] theorem sz40 : tySize Try.prog 40 = some 1 := by kernel_rfl
@[simp] theorem ag40 : tyAgg Try.prog 40 = some false := by kernel_rfl
@[simp] theorem sz42 : tySize Try.prog 42 = some 2 := by kernel_rfl
@[simp] theorem ag42 : tyAgg Try.prog 42 = some true := by kernel_rfl
@[simp] theorem fa42_0 (i r off : Nat) : fieldAddrV Try.prog 42 0 (.ptr i r off) = some (.ptr i r (off + 0)) := by kernel_rfl
@[simp] theorem fe42_0 (cs : List PV) : fieldAddrV Try.prog 42 0 (.fe cs) = some (.fe (cs.drop 0)) := by kernel_rfl
@[simp] theorem fa42_1 (i r off : Nat) : fieldAddrV Try.prog 42 1 (.ptr i r off) = some (.ptr i r (off + 1)) := by kernel_rfl
@[simp] theorem fe42_1 (cs : List PV) : fieldAddrV Try.prog 42 1 (.fe cs) = some (.fe (cs.drop 1)) := by kernel_rfl
@[simp] theorem sz44 : tySize Try.prog 44 = some 5 := by kernel_rfl
@[simp] theorem ag44 : tyAgg Try.prog 44 = some true := by kernel_rfl
@[simp] theorem ze44 : zeroV Try.prog 44 = some (V.pv (PV.agg [PV.sc (Value.int IntKind.i64 0), PV.sc (Value.int IntKind.u64 0), PV.sc (Value.int IntKind.i64 0), PV.sc (Value.int IntKind.i64 0), PV.sc (Value.int IntKind.i64 0)])) := by kernel_rfl
@[simp] theorem fa44_0 (i r off : Nat) : fieldAddrV Try.prog 44 0 (.ptr i r off) = some (.ptr i r (off + 0)) := by kernel_rfl
@[simp] theorem fe44_0 (cs : List PV) : fieldAddrV Try.prog 44 0 (.fe cs) = some (.fe (cs.drop 0)) := by kernel_rfl
@[simp] theorem fa44_1 (i r off : Nat) : fieldAddrV Try.prog 44 1 (.ptr i r off) = some (.ptr i r (off + 1)) := by kernel_rfl
@[simp] theorem fe44_1 (cs : List PV) : fieldAddrV Try.prog 44 1 (.fe cs) = some (.fe (cs.drop 1)) := by kernel_rfl
@[simp] theorem fa44_2 (i r off : Nat) : fieldAddrV Try.prog 44 2 (.ptr i r off) = some (.ptr i r (off + 3)) := by kernel_rfl
@[simp] theorem fe44_2 (cs : List PV) : fieldAddrV Try.prog 44 2 (.fe cs) = some (.fe (cs.drop 3)) := by kernel_rfl
@[simp] theorem fa44_3 (i r off : Nat) : fieldAddrV Try.prog 44 3 (.ptr i r off) = some (.ptr i r (off + 4)) := by kernel_rfl
@[simp] theorem fe44_3 (cs : List PV) : fieldAddrV Try.prog 44 3 (.fe cs) = some (.fe (cs.drop 4)) := by kernel_rfl
@[simp] theorem sz45 : tySize Try.prog 45 = some 2 := by kernel_rfl
@[simp] theorem ag45 : tyAgg Try.prog 45 = some true := by kernel_rfl
@[simp] theorem ze45 : zeroV Try.prog 45 = some (V.pv (PV.agg [PV.sc (Value.int IntKind.u64 0), PV.sc (Value.int IntKind.i64 0)])) := by kernel_rfl
@[simp] theorem fa45_0 (i r off : Nat) : fieldAddrV Try.prog 45 0 (.ptr i r off) = some (.ptr i r (off + 0)) := by kernel_rfl
@[simp] theorem fe45_0 (cs : List PV) : fieldAddrV Try.prog 45 0 (.fe cs) = some (.fe (cs.drop 0)) := by kernel_rfl
@[simp] theorem fa45_1 (i r off : Nat) : fieldAddrV Try.prog 45 1 (.ptr i r off) = some (.ptr i r (off + 1)) := by kernel_rfl
@[simp] theorem fe45_1 (cs : List PV) : fieldAddrV Try.prog 45 1 (.fe cs) = some (.fe (cs.drop 1)) := by kernel_rfl
theorem bp45 : buildP Try.prog 45 = some ([V.pv (PV.sc (Value.int IntKind.u64 0)), V.pv (PV.sc (Value.int IntKind.i64 0))], [(0, 1), (1, 1)]) := by kernel_rfl
@[simp] theorem sz48 : tySize Try.prog 48 = some 4 := by kernel_rfl
@[simp] theorem ag48 : tyAgg Try.prog 48 = some true := by kernel_rfl
@[simp] theorem ze48 : zeroV Try.prog 48 = some (V.pv (PV.agg [PV.sc (Value.bool false), PV.sc (Value.float FloatKind.f64 0), PV.sc (Value.int IntKind.i64 0), PV.sc (Value.int IntKind.i64 0)])) := by kernel_rfl
@[simp] theorem fa48_0 (i r off : Nat) : fieldAddrV Try.prog 48 0 (.ptr i r off) = some (.ptr i r (off + 0)) := by kernel_rfl
@[simp] theorem fe48_0 (cs : List PV) : fieldAddrV Try.prog 48 0 (.fe cs) = some (.fe (cs.drop 0)) := by kernel_rfl
@[simp] theorem fa48_1 (i r off : Nat) : fieldAddrV Try.prog 48 1 (.ptr i r off) = some (.ptr i r (off + 1)) := by kernel_rfl
@[simp] theorem fe48_1 (cs : List PV) : fieldAddrV Try.prog 48 1 (.fe cs) = some (.fe (cs.drop 1)) := by kernel_rfl
@[simp] theorem fa48_2 (i r off : Nat) : fieldAddrV Try.prog 48 2 (.ptr i r off) = some (.ptr i r (off + 3)) := by kernel_rfl
@[simp] theorem fe48_2 (cs : List PV) : fieldAddrV Try.prog 48 2 (.fe cs) = some (.fe (cs.drop 3)) := by kernel_rfl
theorem bp48 : buildP Try.prog 48 = some ([V.pv (PV.sc (Value.bool false)), V.pv (PV.sc (Value.float FloatKind.f64 0)), V.pv (PV.sc (Value.int IntKind.i64 0)), V.pv (PV.sc (Value.int IntKind.i64 0))], [(0, 1), (1, 2), (3, 1)]) := by kernel_rfl
@[simp] theorem sz55 : tySize Try.prog 55 = some 1 := by kernel_rfl
@[simp] theorem el55 : sliceElem Try.prog 55 = some 22 := by kernel_rfl
theorem by55 : (Try.prog.info? 22).map (fun i => (i.size, i.bytes)) = some (1, 24) := by kernel_rfl
@[simp] theorem iaF55 (rows : List (List PV)) (k : Int) : indexAddrV Try.prog 55 (.pv (.fz rows)) k = (if 0 ≤ k then match rows[k.toNat]? with | some row => if row.length = 1 then some (.fe row) else none | none => none else none) := by kernel_rfl
@[simp] theorem iaO55 (i s r len : Nat) (k : Int) : indexAddrV Try.prog 55 (.ow i s r len) k = (if 0 ≤ k ∧ k < len ∧ s = 1 then some (.ptr i (r + k.toNat) 0) else none) := by kernel_rfl
@[simp] theorem lnF55 (rows : List (List PV)) : lenV Try.prog 55 (.pv (.fz rows)) = some rows.length := by kernel_rfl
@[simp] theorem lnO55 (i s r len : Nat) : lenV Try.prog 55 (.ow i s r len) = some len := by kernel_rfl
@[simp] theorem lnN55 : lenV Try.prog 55 .nl = some 0 := by kernel_rfl
@[simp] theorem sz56 : tySize Try.prog 56 = some 1 := by kernel_rfl
@[simp] theorem ag56 : tyAgg Try.prog 56 = some false := by kernel_rfl
@[simp] theorem el56 : sliceElem Try.prog 56 = some 3 := by kernel_rfl
theorem by56 : (Try.prog.info? 3).map (fun i => (i.size, i.bytes)) = some (1, 8) := by kernel_rfl
@[simp] theorem iaF56 (rows : List (List PV)) (k : Int) : indexAddrV Try.prog 56 (.pv (.fz rows)) k = (if 0 ≤ k then match rows[k.toNat]? with | some row => if row.length = 1 then some (.fe row) else none | none => none else none) := by kernel_rfl
@[simp] theorem iaO56 (i s r len : Nat) (k : Int) : indexAddrV Try.prog 56 (.ow i s r len) k = (if 0 ≤ k ∧ k < len ∧ s = 1 then some (.ptr i (r + k.toNat) 0) else none) := by kernel_rfl
@[simp] theorem lnF56 (rows : List (List PV)) : lenV Try.prog 56 (.pv (.fz rows)) = some rows.length := by kernel_rfl
@[simp] theorem lnO56 (i s r len : Nat) : lenV Try.prog 56 (.ow i s r len) = some len := by kernel_rfl
@[simp] theorem lnN56 : lenV Try.prog 56 .nl = some 0 := by kernel_rfl
@[simp] theorem sz57 : tySize Try.prog 57 = some 1 := by kernel_rfl
@[simp] theorem ag57 : tyAgg Try.prog 57 = some false := by kernel_rfl
@[simp] theorem el57 : sliceElem Try.prog 57 = some 126 := by kernel_rfl
theorem by57 : (Try.prog.info? 126).map (fun i => (i.size, i.bytes)) = some (3, 40) := by kernel_rfl
@[simp] theorem iaF57 (rows : List (List PV)) (k : Int) : indexAddrV Try.prog 57 (.pv (.fz rows)) k = (if 0 ≤ k then match rows[k.toNat]? with | some row => if row.length = 3 then some (.fe row) else none | none => none else none) := by kernel_rfl
@[simp] theorem iaO57 (i s r len : Nat) (k : Int) : indexAddrV Try.prog 57 (.ow i s r len) k = (if 0 ≤ k ∧ k < len ∧ s = 3 then some (.ptr i (r + k.toNat) 0) else none) := by kernel_rfl
@[simp] theorem lnF57 (rows : List (List PV)) : lenV Try.prog 57 (.pv (.fz rows)) = some rows.length := by kernel_rfl
@[simp] theorem lnO57 (i s r len : Nat) : lenV Try.prog 57 (.ow i s r len) = some len := by kernel_rfl
@[simp] theorem lnN57 : lenV Try.prog 57 .nl = some 0 := by kernel_rfl
@[simp] theorem sz59 : tySize Try.prog 59 = some 1 := by kernel_rfl
@[simp] theorem ag59 : tyAgg Try.prog 59 = some true := by kernel_rfl
@[simp] theorem ze59 : zeroV Try.prog 59 = some (V.agg [V.nl]) := by kernel_rfl
@[simp] theorem fa59_0 (i r off : Nat) : fieldAddrV Try.prog 59 0 (.ptr i r off) = some (.ptr i r (off + 0)) := by kernel_rfl
@[simp] theorem fe59_0 (cs : List PV) : fieldAddrV Try.prog 59 0 (.fe cs) = some (.fe (cs.drop 0)) := by kernel_rfl
theorem bp59 : buildP Try.prog 59 = some ([V.nl], [(0, 1)]) := by kernel_rfl
@[simp] theorem sz60 : tySize Try.prog 60 = some 1 := by kernel_rfl
@[simp] theorem ag60 : tyAgg Try.prog 60 = some false := by kernel_rfl
@[simp] theorem el60 : sliceElem Try.prog 60 = some 68 := by kernel_rfl
theorem by60 : (Try.prog.info? 68).map (fun i => (i.size, i.bytes)) = some (12, 96) := by kernel_rfl
@[simp] theorem iaF60 (rows : List (List PV)) (k : Int) : indexAddrV Try.prog 60 (.pv (.fz rows)) k = (if 0 ≤ k then match rows[k.toNat]? with | some row => if row.length = 12 then some (.fe row) else none | none => none else none) := by kernel_rfl
@[simp] theorem iaO60 (i s r len : Nat) (k : Int) : indexAddrV Try.prog 60 (.ow i s r len) k = (if 0 ≤ k ∧ k < len ∧ s = 12 then some (.ptr i (r + k.toNat) 0) else none) := by kernel_rfl
@[simp] theorem lnF60 (rows : List (List PV)) : lenV Try.prog 60 (.pv (.fz rows)) = some rows.length := by kernel_rfl
@[simp] theorem lnO60 (i s r len : Nat) : lenV Try.prog 60 (.ow i s r len) = some len := by kernel_rfl
@[simp] theorem lnN60 : lenV Try.prog 60 .nl = some 0 := by kernel_rfl
@[simp] theorem sz62 : tySize Try.prog 62 = some 4 := by kernel_rfl
@[simp] theorem ag62 : tyAgg Try.prog 62 = some true := by kernel_rfl
@[simp] theorem ze62 : zeroV Try.prog 62 = some (V.agg [V.pv (PV.sc (Value.pointer none)), V.nl, V.nl, V.pv (PV.sc (Value.int IntKind.i64 0))]) := by kernel_rfl
@[simp] theorem fa62_0 (i r off : Nat) : fieldAddrV Try.prog 62 0 (.ptr i r off) = some (.ptr i r (off + 0)) := by kernel_rfl
@[simp] theorem fe62_0 (cs : List PV) : fieldAddrV Try.prog 62 0 (.fe cs) = some (.fe (cs.drop 0)) := by kernel_rfl
@[simp] theorem fa62_1 (i r off : Nat) : fieldAddrV Try.prog 62 1 (.ptr i r off) = some (.ptr i r (off + 1)) := by kernel_rfl
@[simp] theorem fe62_1 (cs : List PV) : fieldAddrV Try.prog 62 1 (.fe cs) = some (.fe (cs.drop 1)) := by kernel_rfl
@[simp] theorem fa62_2 (i r off : Nat) : fieldAddrV Try.prog 62 2 (.ptr i r off) = some (.ptr i r (off + 2)) := by kernel_rfl
@[simp] theorem fe62_2 (cs : List PV) : fieldAddrV Try.prog 62 2 (.fe cs) = some (.fe (cs.drop 2)) := by kernel_rfl
@[simp] theorem fa62_3 (i r off : Nat) : fieldAddrV Try.prog 62 3 (.ptr i r off) = some (.ptr i r (off + 3)) := by kernel_rfl
@[simp] theorem fe62_3 (cs : List PV) : fieldAddrV Try.prog 62 3 (.fe cs) = some (.fe (cs.drop 3)) := by kernel_rfl
theorem bp62 : buildP Try.prog 62 = some ([V.pv (PV.sc (Value.pointer none)), V.nl, V.nl, V.pv (PV.sc (Value.int IntKind.i64 0))], [(0, 1), (1, 1), (2, 1), (3, 1)]) := by kernel_rfl
@[simp] theorem sz68 : tySize Try.prog 68 = some 12 := by kernel_rfl
@[simp] theorem ag68 : tyAgg Try.prog 68 = some true := by kernel_rfl
@[simp] theorem ze68 : zeroV Try.prog 68 = some (V.pv (PV.agg [PV.sc (Value.int IntKind.i64 0), PV.sc (Value.int IntKind.i64 0), PV.sc (Value.float FloatKind.f64 0), PV.sc (Value.int IntKind.i64 0), PV.sc (Value.int IntKind.i64 0), PV.sc (Value.int IntKind.i64 0), PV.sc (Value.int IntKind.i64 0), PV.sc (Value.int IntKind.i64 0), PV.sc (Value.bool false), PV.sc (Value.float FloatKind.f64 0), PV.sc (Value.int IntKind.i64 0), PV.sc (Value.int IntKind.i64 0)])) := by kernel_rfl
@[simp] theorem fa68_1 (i r off : Nat) : fieldAddrV Try.prog 68 1 (.ptr i r off) = some (.ptr i r (off + 1)) := by kernel_rfl
@[simp] theorem fe68_1 (cs : List PV) : fieldAddrV Try.prog 68 1 (.fe cs) = some (.fe (cs.drop 1)) := by kernel_rfl
@[simp] theorem fa68_3 (i r off : Nat) : fieldAddrV Try.prog 68 3 (.ptr i r off) = some (.ptr i r (off + 7)) := by kernel_rfl
@[simp] theorem fe68_3 (cs : List PV) : fieldAddrV Try.prog 68 3 (.fe cs) = some (.fe (cs.drop 7)) := by kernel_rfl
@[simp] theorem fa68_4 (i r off : Nat) : fieldAddrV Try.prog 68 4 (.ptr i r off) = some (.ptr i r (off + 8)) := by kernel_rfl
@[simp] theorem fe68_4 (cs : List PV) : fieldAddrV Try.prog 68 4 (.fe cs) = some (.fe (cs.drop 8)) := by kernel_rfl
theorem bp68 : buildP Try.prog 68 = some ([V.pv (PV.sc (Value.int IntKind.i64 0)), V.pv (PV.sc (Value.int IntKind.i64 0)), V.pv (PV.sc (Value.float FloatKind.f64 0)), V.pv (PV.sc (Value.int IntKind.i64 0)), V.pv (PV.sc (Value.int IntKind.i64 0)), V.pv (PV.sc (Value.int IntKind.i64 0)), V.pv (PV.sc (Value.int IntKind.i64 0)), V.pv (PV.sc (Value.int IntKind.i64 0)), V.pv (PV.sc (Value.bool false)), V.pv (PV.sc (Value.float FloatKind.f64 0)), V.pv (PV.sc (Value.int IntKind.i64 0)), V.pv (PV.sc (Value.int IntKind.i64 0))], [(0, 1), (1, 5), (6, 1), (7, 1), (8, 4)]) := by kernel_rfl
@[simp] theorem sz73 : tySize Try.prog 73 = some 1 := by kernel_rfl
@[simp] theorem ag73 : tyAgg Try.prog 73 = some false := by kernel_rfl
@[simp] theorem el73 : sliceElem Try.prog 73 = some 35 := by kernel_rfl
theorem by73 : (Try.prog.info? 35).map (fun i => (i.size, i.bytes)) = some (2, 16) := by kernel_rfl
@[simp] theorem iaF73 (rows : List (List PV)) (k : Int) : indexAddrV Try.prog 73 (.pv (.fz rows)) k = (if 0 ≤ k then match rows[k.toNat]? with | some row => if row.length = 2 then some (.fe row) else none | none => none else none) := by kernel_rfl
@[simp] theorem iaO73 (i s r len : Nat) (k : Int) : indexAddrV Try.prog 73 (.ow i s r len) k = (if 0 ≤ k ∧ k < len ∧ s = 2 then some (.ptr i (r + k.toNat) 0) else none) := by kernel_rfl
@[simp] theorem lnF73 (rows : List (List PV)) : lenV Try.prog 73 (.pv (.fz rows)) = some rows.length := by kernel_rfl
@[simp] theorem lnO73 (i s r len : Nat) : lenV Try.prog 73 (.ow i s r len) = some len := by kernel_rfl
@[simp] theorem lnN73 : lenV Try.prog 73 .nl = some 0 := by kernel_rfl
@[simp] theorem sz75 : tySize Try.prog 75 = some 2 := by kernel_rfl
@[simp] theorem ag75 : tyAgg Try.prog 75 = some true := by kernel_rfl
@[simp] theorem ze75 : zeroV Try.prog 75 = some (V.agg [V.pv (PV.sc (Value.int IntKind.i64 0)), V.nl]) := by kernel_rfl
@[simp] theorem fa75_0 (i r off : Nat) : fieldAddrV Try.prog 75 0 (.ptr i r off) = some (.ptr i r (off + 0)) := by kernel_rfl
@[simp] theorem fe75_0 (cs : List PV) : fieldAddrV Try.prog 75 0 (.fe cs) = some (.fe (cs.drop 0)) := by kernel_rfl
@[simp] theorem fa75_1 (i r off : Nat) : fieldAddrV Try.prog 75 1 (.ptr i r off) = some (.ptr i r (off + 1)) := by kernel_rfl
@[simp] theorem fe75_1 (cs : List PV) : fieldAddrV Try.prog 75 1 (.fe cs) = some (.fe (cs.drop 1)) := by kernel_rfl
theorem bp75 : buildP Try.prog 75 = some ([V.pv (PV.sc (Value.int IntKind.i64 0)), V.nl], [(0, 1), (1, 1)]) := by kernel_rfl
theorem fv75_0 (c0 c1 : PV) : fieldV Try.prog 75 0 (.pv (.agg [c0, c1])) = some (.pv c0) := by kernel_rfl
theorem fw75_0 (c0 c1 : V) : fieldV Try.prog 75 0 (.agg [c0, c1]) = some c0 := by kernel_rfl
@[simp] theorem sz77 : tySize Try.prog 77 = some 3 := by kernel_rfl
@[simp] theorem ag77 : tyAgg Try.prog 77 = some true := by kernel_rfl
@[simp] theorem ze77 : zeroV Try.prog 77 = some (V.agg [V.pv (PV.sc (Value.int IntKind.u64 0)), V.pv (PV.sc (Value.int IntKind.i64 0)), V.nl]) := by kernel_rfl
@[simp] theorem fa77_0 (i r off : Nat) : fieldAddrV Try.prog 77 0 (.ptr i r off) = some (.ptr i r (off + 0)) := by kernel_rfl
@[simp] theorem fe77_0 (cs : List PV) : fieldAddrV Try.prog 77 0 (.fe cs) = some (.fe (cs.drop 0)) := by kernel_rfl
@[simp] theorem fa77_1 (i r off : Nat) : fieldAddrV Try.prog 77 1 (.ptr i r off) = some (.ptr i r (off + 1)) := by kernel_rfl
@[simp] theorem fe77_1 (cs : List PV) : fieldAddrV Try.prog 77 1 (.fe cs) = some (.fe (cs.drop 1)) := by kernel_rfl
theorem bp77 : buildP Try.prog 77 = some ([V.pv (PV.sc (Value.int IntKind.u64 0)), V.pv (PV.sc (Value.int IntKind.i64 0)), V.nl], [(0, 1), (1, 2)]) := by kernel_rfl
theorem fv77_0 (c0 c1 c2 : PV) : fieldV Try.prog 77 0 (.pv (.agg [c0, c1, c2])) = some (.pv c0) := by kernel_rfl
theorem fw77_0 (c0 c1 c2 : V) : fieldV Try.prog 77 0 (.agg [c0, c1, c2]) = some c0 := by kernel_rfl
theorem fv77_1 (c0 c1 c2 : PV) : fieldV Try.prog 77 1 (.pv (.agg [c0, c1, c2])) = some (.pv (.agg [c1, c2])) := by kernel_rfl
theorem fw77_1 (c0 c1 c2 : V) : fieldV Try.prog 77 1 (.agg [c0, c1, c2]) = some (mkAgg [c1, c2]) := by kernel_rfl
@[simp] theorem sz81 : tySize Try.prog 81 = some 1 := by kernel_rfl
@[simp] theorem ag81 : tyAgg Try.prog 81 = some false := by kernel_rfl
@[simp] theorem el81 : sliceElem Try.prog 81 = some 140 := by kernel_rfl
theorem by81 : (Try.prog.info? 140).map (fun i => (i.size, i.bytes)) = some (2, 16) := by kernel_rfl
@[simp] theorem iaF81 (rows : List (List PV)) (k : Int) : indexAddrV Try.prog 81 (.pv (.fz rows)) k = (if 0 ≤ k then match rows[k.toNat]? with | some row => if row.length = 2 then some (.fe row) else none | none => none else none) := by kernel_rfl
@[simp] theorem iaO81 (i s r len : Nat) (k : Int) : indexAddrV Try.prog 81 (.ow i s r len) k = (if 0 ≤ k ∧ k < len ∧ s = 2 then some (.ptr i (r + k.toNat) 0) else none) := by kernel_rfl
@[simp] theorem lnF81 (rows : List (List PV)) : lenV Try.prog 81 (.pv (.fz rows)) = some rows.length := by kernel_rfl
@[simp] theorem lnO81 (i s r len : Nat) : lenV Try.prog 81 (.ow i s r len) = some len := by kernel_rfl
@[simp] theorem lnN81 : lenV Try.prog 81 .nl = some 0 := by kernel_rfl
@[simp] theorem sz83 : tySize Try.prog 83 = some 3 := by kernel_rfl
@[simp] theorem ag83 : tyAgg Try.prog 83 = some true := by kernel_rfl
@[simp] theorem ze83 : zeroV Try.prog 83 = some (V.agg [V.pv (PV.sc (Value.int IntKind.i64 0)), V.nl, V.nl]) := by kernel_rfl
@[simp] theorem fa83_0 (i r off : Nat) : fieldAddrV Try.prog 83 0 (.ptr i r off) = some (.ptr i r (off + 0)) := by kernel_rfl
@[simp] theorem fe83_0 (cs : List PV) : fieldAddrV Try.prog 83 0 (.fe cs) = some (.fe (cs.drop 0)) := by kernel_rfl
@[simp] theorem fa83_1 (i r off : Nat) : fieldAddrV Try.prog 83 1 (.ptr i r off) = some (.ptr i r (off + 1)) := by kernel_rfl
@[simp] theorem fe83_1 (cs : List PV) : fieldAddrV Try.prog 83 1 (.fe cs) = some (.fe (cs.drop 1)) := by kernel_rfl
@[simp] theorem fa83_2 (i r off : Nat) : fieldAddrV Try.prog 83 2 (.ptr i r off) = some (.ptr i r (off + 2)) := by kernel_rfl
@[simp] theorem fe83_2 (cs : List PV) : fieldAddrV Try.prog 83 2 (.fe cs) = some (.fe (cs.drop 2)) := by kernel_rfl
theorem bp83 : buildP Try.prog 83 = some ([V.pv (PV.sc (Value.int IntKind.i64 0)), V.nl, V.nl], [(0, 1), (1, 1), (2, 1)]) := by kernel_rfl
@[simp] theorem sz85 : tySize Try.prog 85 = some 3 := by kernel_rfl
@[simp] theorem ag85 : tyAgg Try.prog 85 = some true := by kernel_rfl
@[simp] theorem ze85 : zeroV Try.prog 85 = some (V.agg [V.pv (PV.sc (Value.int IntKind.i64 0)), V.nl, V.nl]) := by kernel_rfl
@[simp] theorem fa85_0 (i r off : Nat) : fieldAddrV Try.prog 85 0 (.ptr i r off) = some (.ptr i r (off + 0)) := by kernel_rfl
@[simp] theorem fe85_0 (cs : List PV) : fieldAddrV Try.prog 85 0 (.fe cs) = some (.fe (cs.drop 0)) := by kernel_rfl
theorem bp85 : buildP Try.prog 85 = some ([V.pv (PV.sc (Value.int IntKind.i64 0)), V.nl, V.nl], [(0, 3)]) := by kernel_rfl
theorem ni85 : (match Try.prog.underlying 85 with | some (.interface _) => false | some _ => true | none => false) = true := by kernel_rfl
@[simp] theorem sz90 : tySize Try.prog 90 = some 1 := by kernel_rfl
@[simp] theorem ag90 : tyAgg Try.prog 90 = some false := by kernel_rfl
@[simp] theorem ze90 : zeroV Try.prog 90 = some (V.pv (PV.sc (Value.map none))) := by kernel_rfl
@[simp] theorem sz91 : tySize Try.prog 91 = some 1 := by kernel_rfl
@[simp] theorem el91 : sliceElem Try.prog 91 = some 2 := by kernel_rfl
theorem by91 : (Try.prog.info? 2).map (fun i => (i.size, i.bytes)) = some (1, 8) := by kernel_rfl
@[simp] theorem iaF91 (rows : List (List PV)) (k : Int) : indexAddrV Try.prog 91 (.pv (.fz rows)) k = (if 0 ≤ k then match rows[k.toNat]? with | some row => if row.length = 1 then some (.fe row) else none | none => none else none) := by kernel_rfl
@[simp] theorem iaO91 (i s r len : Nat) (k : Int) : indexAddrV Try.prog 91 (.ow i s r len) k = (if 0 ≤ k ∧ k < len ∧ s = 1 then some (.ptr i (r + k.toNat) 0) else none) := by kernel_rfl
@[simp] theorem lnF91 (rows : List (List PV)) : lenV Try.prog 91 (.pv (.fz rows)) = some rows.length := by kernel_rfl
@[simp] theorem lnO91 (i s r len : Nat) : lenV Try.prog 91 (.ow i s r len) = some len := by kernel_rfl
@[simp] theorem lnN91 : lenV Try.prog 91 .nl = some 0 := by kernel_rfl
@[simp] theorem sz93 : tySize Try.prog 93 = some 1 := by kernel_rfl
@[simp] theorem el93 : sliceElem Try.prog 93 = some 94 := by kernel_rfl
theorem by93 : (Try.prog.info? 94).map (fun i => (i.size, i.bytes)) = some (1, 8) := by kernel_rfl
@[simp] theorem iaF93 (rows : List (List PV)) (k : Int) : indexAddrV Try.prog 93 (.pv (.fz rows)) k = (if 0 ≤ k then match rows[k.toNat]? with | some row => if row.length = 1 then some (.fe row) else none | none => none else none) := by kernel_rfl
@[simp] theorem iaO93 (i s r len : Nat) (k : Int) : indexAddrV Try.prog 93 (.ow i s r len) k = (if 0 ≤ k ∧ k < len ∧ s = 1 then some (.ptr i (r + k.toNat) 0) else none) := by kernel_rfl
@[simp] theorem lnF93 (rows : List (List PV)) : lenV Try.prog 93 (.pv (.fz rows)) = some rows.length := by kernel_rfl
@[simp] theorem lnO93 (i s r len : Nat) : lenV Try.prog 93 (.ow i s r len) = some len := by kernel_rfl
@[simp] theorem lnN93 : lenV Try.prog 93 .nl = some 0 := by kernel_rfl
@[simp] theorem sz94 : tySize Try.prog 94 = some 1 := by kernel_rfl
@[simp] theorem ag94 : tyAgg Try.prog 94 = some false := by kernel_rfl
@[simp] theorem ze94 : zeroV Try.prog 94 = some (V.pv (PV.sc (Value.pointer none))) := by kernel_rfl
theorem iaA95 (i r off : Nat) (k : Int) : indexAddrV Try.prog 95 (.ptr i r off) k = (if 0 ≤ k ∧ k < 2 then some (.ptr i r (off + k.toNat * 3)) else none) := by kernel_rfl
theorem iaE95 (cs : List PV) (k : Int) : indexAddrV Try.prog 95 (.fe cs) k = (if 0 ≤ k ∧ k < 2 then some (.fe (cs.drop (k.toNat * 3))) else none) := by kernel_rfl
@[simp] theorem fa97_0 (i r off : Nat) : fieldAddrV Try.prog 97 0 (.ptr i r off) = some (.ptr i r (off + 0)) := by kernel_rfl
@[simp] theorem fe97_0 (cs : List PV) : fieldAddrV Try.prog 97 0 (.fe cs) = some (.fe (cs.drop 0)) := by kernel_rfl
@[simp] theorem fa97_1 (i r off : Nat) : fieldAddrV Try.prog 97 1 (.ptr i r off) = some (.ptr i r (off + 5)) := by kernel_rfl
@[simp] theorem fe97_1 (cs : List PV) : fieldAddrV Try.prog 97 1 (.fe cs) = some (.fe (cs.drop 5)) := by kernel_rfl
@[simp] theorem fa97_2 (i r off : Nat) : fieldAddrV Try.prog 97 2 (.ptr i r off) = some (.ptr i r (off + 6)) := by kernel_rfl
@[simp] theorem fe97_2 (cs : List PV) : fieldAddrV Try.prog 97 2 (.fe cs) = some (.fe (cs.drop 6)) := by kernel_rfl
@[simp] theorem fa97_3 (i r off : Nat) : fieldAddrV Try.prog 97 3 (.ptr i r off) = some (.ptr i r (off + 7)) := by kernel_rfl
@[simp] theorem fe97_3 (cs : List PV) : fieldAddrV Try.prog 97 3 (.fe cs) = some (.fe (cs.drop 7)) := by kernel_rfl
@[simp] theorem fa97_4 (i r off : Nat) : fieldAddrV Try.prog 97 4 (.ptr i r off) = some (.ptr i r (off + 8)) := by kernel_rfl
@[simp] theorem fe97_4 (cs : List PV) : fieldAddrV Try.prog 97 4 (.fe cs) = some (.fe (cs.drop 8)) := by kernel_rfl
@[simp] theorem fa97_6 (i r off : Nat) : fieldAddrV Try.prog 97 6 (.ptr i r off) = some (.ptr i r (off + 10)) := by kernel_rfl
@[simp] theorem fe97_6 (cs : List PV) : fieldAddrV Try.prog 97 6 (.fe cs) = some (.fe (cs.drop 10)) := by kernel_rfl
@[simp] theorem fa97_7 (i r off : Nat) : fieldAddrV Try.prog 97 7 (.ptr i r off) = some (.ptr i r (off + 11)) := by kernel_rfl
@[simp] theorem fe97_7 (cs : List PV) : fieldAddrV Try.prog 97 7 (.fe cs) = some (.fe (cs.drop 11)) := by kernel_rfl
theorem bp97 : buildP Try.prog 97 = some ([V.pv (PV.sc (Value.int IntKind.i64 0)), V.pv (PV.sc (Value.float FloatKind.f64 0)), V.pv (PV.sc (Value.int IntKind.i64 0)), V.pv (PV.sc (Value.int IntKind.i64 0)), V.pv (PV.sc (Value.int IntKind.i64 0)), V.pv (PV.sc (Value.int IntKind.i64 0)), V.pv (PV.sc (Value.int IntKind.i64 0)), V.pv (PV.sc (Value.int IntKind.i64 0)), V.pv (PV.sc (Value.int IntKind.i64 0)), V.pv (PV.sc (Value.int IntKind.i64 0)), V.pv (PV.sc (Value.bool false)), V.pv (PV.sc (Value.int IntKind.u64 0)), V.pv (PV.sc (Value.int IntKind.i64 0)), V.nl, V.pv (PV.sc (Value.int IntKind.u64 0)), V.pv (PV.sc (Value.int IntKind.i64 0)), V.nl], [(0, 5), (5, 1), (6, 1), (7, 1), (8, 1), (9, 1), (10, 1), (11, 6)]) := by kernel_rfl
@[simp] theorem sz104 : tySize Try.prog 104 = some 1 := by kernel_rfl
@[simp] theorem ag104 : tyAgg Try.prog 104 = some false := by kernel_rfl
@[simp] theorem el104 : sliceElem Try.prog 104 = some 77 := by kernel_rfl
theorem by104 : (Try.prog.info? 77).map (fun i => (i.size, i.bytes)) = some (3, 40) := by kernel_rfl
@[simp] theorem iaF104 (rows : List (List PV)) (k : Int) : indexAddrV Try.prog 104 (.pv (.fz rows)) k = (if 0 ≤ k then match rows[k.toNat]? with | some row => if row.length = 3 then some (.fe row) else none | none => none else none) := by kernel_rfl
@[simp] theorem iaO104 (i s r len : Nat) (k : Int) : indexAddrV Try.prog 104 (.ow i s r len) k = (if 0 ≤ k ∧ k < len ∧ s = 3 then some (.ptr i (r + k.toNat) 0) else none) := by kernel_rfl
@[simp] theorem lnF104 (rows : List (List PV)) : lenV Try.prog 104 (.pv (.fz rows)) = some rows.length := by kernel_rfl
@[simp] theorem lnO104 (i s r len : Nat) : lenV Try.prog 104 (.ow i s r len) = some len := by kernel_rfl
@[simp] theorem lnN104 : lenV Try.prog 104 .nl = some 0 := by kernel_rfl
@[simp] theorem fa106_0 (i r off : Nat) : fieldAddrV Try.prog 106 0 (.ptr i r off) = some (.ptr i r (off + 0)) := by kernel_rfl
@[simp] theorem fe106_0 (cs : List PV) : fieldAddrV Try.prog 106 0 (.fe cs) = some (.fe (cs.drop 0)) := by kernel_rfl
@[simp] theorem fa106_1 (i r off : Nat) : fieldAddrV Try.prog 106 1 (.ptr i r off) = some (.ptr i r (off + 1)) := by kernel_rfl
@[simp] theorem fe106_1 (cs : List PV) : fieldAddrV Try.prog 106 1 (.fe cs) = some (.fe (cs.drop 1)) := by kernel_rfl
theorem bp106 : buildP Try.prog 106 = some ([V.nl, V.pv (PV.sc (Value.int IntKind.u64 0))], [(0, 1), (1, 1)]) := by kernel_rfl
@[simp] theorem sz115 : tySize Try.prog 115 = some 2 := by kernel_rfl
@[simp] theorem ag115 : tyAgg Try.prog 115 = some true := by kernel_rfl
@[simp] theorem ze115 : zeroV Try.prog 115 = some (V.agg [V.pv (PV.sc (Value.int IntKind.i64 0)), V.nl]) := by kernel_rfl
@[simp] theorem fa115_0 (i r off : Nat) : fieldAddrV Try.prog 115 0 (.ptr i r off) = some (.ptr i r (off + 0)) := by kernel_rfl
@[simp] theorem fe115_0 (cs : List PV) : fieldAddrV Try.prog 115 0 (.fe cs) = some (.fe (cs.drop 0)) := by kernel_rfl
@[simp] theorem fa115_1 (i r off : Nat) : fieldAddrV Try.prog 115 1 (.ptr i r off) = some (.ptr i r (off + 1)) := by kernel_rfl
@[simp] theorem fe115_1 (cs : List PV) : fieldAddrV Try.prog 115 1 (.fe cs) = some (.fe (cs.drop 1)) := by kernel_rfl
theorem bp115 : buildP Try.prog 115 = some ([V.pv (PV.sc (Value.int IntKind.i64 0)), V.nl], [(0, 1), (1, 1)]) := by kernel_rfl
@[simp] theorem sz117 : tySize Try.prog 117 = some 17 := by kernel_rfl
@[simp] theorem ag117 : tyAgg Try.prog 117 = some true := by kernel_rfl
@[simp] theorem ze117 : zeroV Try.prog 117 = some (V.agg [V.pv (PV.sc (Value.int IntKind.i64 0)), V.pv (PV.sc (Value.int IntKind.u64 0)), V.pv (PV.sc (Value.int IntKind.i64 0)), V.pv (PV.sc (Value.int IntKind.i64 0)), V.pv (PV.sc (Value.int IntKind.i64 0)), V.pv (PV.sc (Value.int IntKind.i64 0)), V.pv (PV.sc (Value.int IntKind.i64 0)), V.pv (PV.sc (Value.int IntKind.i64 0)), V.pv (PV.sc (Value.int IntKind.i64 0)), V.pv (PV.sc (Value.int IntKind.i64 0)), V.pv (PV.sc (Value.bool false)), V.pv (PV.sc (Value.int IntKind.i64 0)), V.pv (PV.sc (Value.int IntKind.i64 0)), V.pv (PV.sc (Value.int IntKind.i64 0)), V.nl, V.pv (PV.sc (Value.int IntKind.i64 0)), V.nl]) := by kernel_rfl
@[simp] theorem fa117_0 (i r off : Nat) : fieldAddrV Try.prog 117 0 (.ptr i r off) = some (.ptr i r (off + 0)) := by kernel_rfl
@[simp] theorem fe117_0 (cs : List PV) : fieldAddrV Try.prog 117 0 (.fe cs) = some (.fe (cs.drop 0)) := by kernel_rfl
@[simp] theorem fa117_1 (i r off : Nat) : fieldAddrV Try.prog 117 1 (.ptr i r off) = some (.ptr i r (off + 1)) := by kernel_rfl
@[simp] theorem fe117_1 (cs : List PV) : fieldAddrV Try.prog 117 1 (.fe cs) = some (.fe (cs.drop 1)) := by kernel_rfl
@[simp] theorem fa117_2 (i r off : Nat) : fieldAddrV Try.prog 117 2 (.ptr i r off) = some (.ptr i r (off + 3)) := by kernel_rfl
@[simp] theorem fe117_2 (cs : List PV) : fieldAddrV Try.prog 117 2 (.fe cs) = some (.fe (cs.drop 3)) := by kernel_rfl
@[simp] theorem fa117_4 (i r off : Nat) : fieldAddrV Try.prog 117 4 (.ptr i r off) = some (.ptr i r (off + 5)) := by kernel_rfl
@[simp] theorem fe117_4 (cs : List PV) : fieldAddrV Try.prog 117 4 (.fe cs) = some (.fe (cs.drop 5)) := by kernel_rfl
@[simp] theorem fa117_5 (i r off : Nat) : fieldAddrV Try.prog 117 5 (.ptr i r off) = some (.ptr i r (off + 6)) := by kernel_rfl
@[simp] theorem fe117_5 (cs : List PV) : fieldAddrV Try.prog 117 5 (.fe cs) = some (.fe (cs.drop 6)) := by kernel_rfl
@[simp] theorem fa117_6 (i r off : Nat) : fieldAddrV Try.prog 117 6 (.ptr i r off) = some (.ptr i r (off + 7)) := by kernel_rfl
@[simp] theorem fe117_6 (cs : List PV) : fieldAddrV Try.prog 117 6 (.fe cs) = some (.fe (cs.drop 7)) := by kernel_rfl
@[simp] theorem fa117_7 (i r off : Nat) : fieldAddrV Try.prog 117 7 (.ptr i r off) = some (.ptr i r (off + 8)) := by kernel_rfl
@[simp] theorem fe117_7 (cs : List PV) : fieldAddrV Try.prog 117 7 (.fe cs) = some (.fe (cs.drop 8)) := by kernel_rfl
@[simp] theorem fa117_9 (i r off : Nat) : fieldAddrV Try.prog 117 9 (.ptr i r off) = some (.ptr i r (off + 10)) := by kernel_rfl
@[simp] theorem fe117_9 (cs : List PV) : fieldAddrV Try.prog 117 9 (.fe cs) = some (.fe (cs.drop 10)) := by kernel_rfl
@[simp] theorem fa117_10 (i r off : Nat) : fieldAddrV Try.prog 117 10 (.ptr i r off) = some (.ptr i r (off + 11)) := by kernel_rfl
@[simp] theorem fe117_10 (cs : List PV) : fieldAddrV Try.prog 117 10 (.fe cs) = some (.fe (cs.drop 11)) := by kernel_rfl
@[simp] theorem fa117_11 (i r off : Nat) : fieldAddrV Try.prog 117 11 (.ptr i r off) = some (.ptr i r (off + 12)) := by kernel_rfl
@[simp] theorem fe117_11 (cs : List PV) : fieldAddrV Try.prog 117 11 (.fe cs) = some (.fe (cs.drop 12)) := by kernel_rfl
@[simp] theorem fa117_12 (i r off : Nat) : fieldAddrV Try.prog 117 12 (.ptr i r off) = some (.ptr i r (off + 13)) := by kernel_rfl
@[simp] theorem fe117_12 (cs : List PV) : fieldAddrV Try.prog 117 12 (.fe cs) = some (.fe (cs.drop 13)) := by kernel_rfl
@[simp] theorem fa117_13 (i r off : Nat) : fieldAddrV Try.prog 117 13 (.ptr i r off) = some (.ptr i r (off + 15)) := by kernel_rfl
@[simp] theorem fe117_13 (cs : List PV) : fieldAddrV Try.prog 117 13 (.fe cs) = some (.fe (cs.drop 15)) := by kernel_rfl
theorem bp117 : buildP Try.prog 117 = some ([V.pv (PV.sc (Value.int IntKind.i64 0)), V.pv (PV.sc (Value.int IntKind.u64 0)), V.pv (PV.sc (Value.int IntKind.i64 0)), V.pv (PV.sc (Value.int IntKind.i64 0)), V.pv (PV.sc (Value.int IntKind.i64 0)), V.pv (PV.sc (Value.int IntKind.i64 0)), V.pv (PV.sc (Value.int IntKind.i64 0)), V.pv (PV.sc (Value.int IntKind.i64 0)), V.pv (PV.sc (Value.int IntKind.i64 0)), V.pv (PV.sc (Value.int IntKind.i64 0)), V.pv (PV.sc (Value.bool false)), V.pv (PV.sc (Value.int IntKind.i64 0)), V.pv (PV.sc (Value.int IntKind.i64 0)), V.pv (PV.sc (Value.int IntKind.i64 0)), V.nl, V.pv (PV.sc (Value.int IntKind.i64 0)), V.nl], [(0, 1), (1, 2), (3, 1), (4, 1), (5, 1), (6, 1), (7, 1), (8, 1), (9, 1), (10, 1), (11, 1), (12, 1), (13, 2), (15, 2)]) := by kernel_rfl
@[simp] theorem sz119 : tySize Try.prog 119 = some 4 := by kernel_rfl
@[simp] theorem ag119 : tyAgg Try.prog 119 = some true := by kernel_rfl
@[simp] theorem ze119 : zeroV Try.prog 119 = some (V.pv (PV.agg [PV.sc (Value.bool false), PV.sc (Value.int IntKind.u64 0), PV.sc (Value.int IntKind.i64 0), PV.sc (Value.int IntKind.i64 0)])) := by kernel_rfl
@[simp] theorem fa119_0 (i r off : Nat) : fieldAddrV Try.prog 119 0 (.ptr i r off) = some (.ptr i r (off + 0)) := by kernel_rfl
@[simp] theorem fe119_0 (cs : List PV) : fieldAddrV Try.prog 119 0 (.fe cs) = some (.fe (cs.drop 0)) := by kernel_rfl
@[simp] theorem fa119_1 (i r off : Nat) : fieldAddrV Try.prog 119 1 (.ptr i r off) = some (.ptr i r (off + 1)) := by kernel_rfl
@[simp] theorem fe119_1 (cs : List PV) : fieldAddrV Try.prog 119 1 (.fe cs) = some (.fe (cs.drop 1)) := by kernel_rfl
@[simp] theorem fa119_2 (i r off : Nat) : fieldAddrV Try.prog 119 2 (.ptr i r off) = some (.ptr i r (off + 3)) := by kernel_rfl
@[simp] theorem fe119_2 (cs : List PV) : fieldAddrV Try.prog 119 2 (.fe cs) = some (.fe (cs.drop 3)) := by kernel_rfl
theorem bp119 : buildP Try.prog 119 = some ([V.pv (PV.sc (Value.bool false)), V.pv (PV.sc (Value.int IntKind.u64 0)), V.pv (PV.sc (Value.int IntKind.i64 0)), V.pv (PV.sc (Value.int IntKind.i64 0))], [(0, 1), (1, 2), (3, 1)]) := by kernel_rfl
@[simp] theorem sz126 : tySize Try.prog 126 = some 3 := by kernel_rfl
@[simp] theorem ag126 : tyAgg Try.prog 126 = some true := by kernel_rfl
@[simp] theorem ze126 : zeroV Try.prog 126 = some (V.agg [V.pv (PV.sc (Value.int IntKind.i64 0)), V.pv (PV.sc (Value.int IntKind.i64 0)), V.nl]) := by kernel_rfl
@[simp] theorem fa126_0 (i r off : Nat) : fieldAddrV Try.prog 126 0 (.ptr i r off) = some (.ptr i r (off + 0)) := by kernel_rfl
@[simp] theorem fe126_0 (cs : List PV) : fieldAddrV Try.prog 126 0 (.fe cs) = some (.fe (cs.drop 0)) := by kernel_rfl
@[simp] theorem fa126_1 (i r off : Nat) : fieldAddrV Try.prog 126 1 (.ptr i r off) = some (.ptr i r (off + 1)) := by kernel_rfl
@[simp] theorem fe126_1 (cs : List PV) : fieldAddrV Try.prog 126 1 (.fe cs) = some (.fe (cs.drop 1)) := by kernel_rfl
theorem bp126 : buildP Try.prog 126 = some ([V.pv (PV.sc (Value.int IntKind.i64 0)), V.pv (PV.sc (Value.int IntKind.i64 0)), V.nl], [(0, 1), (1, 2)]) := by kernel_rfl
@[simp] theorem sz134 : tySize Try.prog 134 = some 2 := by kernel_rfl
@[simp] theorem ag134 : tyAgg Try.prog 134 = some true := by kernel_rfl
@[simp] theorem ze134 : zeroV Try.prog 134 = some (V.agg [V.nl, V.nl]) := by kernel_rfl
@[simp] theorem fa134_0 (i r off : Nat) : fieldAddrV Try.prog 134 0 (.ptr i r off) = some (.ptr i r (off + 0)) := by kernel_rfl
@[simp] theorem fe134_0 (cs : List PV) : fieldAddrV Try.prog 134 0 (.fe cs) = some (.fe (cs.drop 0)) := by kernel_rfl
@[simp] theorem fa134_1 (i r off : Nat) : fieldAddrV Try.prog 134 1 (.ptr i r off) = some (.ptr i r (off + 1)) := by kernel_rfl
@[simp] theorem fe134_1 (cs : List PV) : fieldAddrV Try.prog 134 1 (.fe cs) = some (.fe (cs.drop 1)) := by kernel_rfl
theorem bp134 : buildP Try.prog 134 = some ([V.nl, V.nl], [(0, 1), (1, 1)]) := by kernel_rfl
@[simp] theorem sz140 : tySize Try.prog 140 = some 2 := by kernel_rfl
@[simp] theorem ag140 : tyAgg Try.prog 140 = some true := by kernel_rfl
@[simp] theorem ze140 : zeroV Try.prog 140 = some (V.pv (PV.agg [PV.sc (Value.int IntKind.i64 0), PV.sc (Value.int IntKind.i64 0)])) := by kernel_rfl
@[simp] theorem fa140_0 (i r off : Nat) : fieldAddrV Try.prog 140 0 (.ptr i r off) = some (.ptr i r (off + 0)) := by kernel_rfl
@[simp] theorem fe140_0 (cs : List PV) : fieldAddrV Try.prog 140 0 (.fe cs) = some (.fe (cs.drop 0)) := by kernel_rfl
@[simp] theorem fa140_1 (i r off : Nat) : fieldAddrV Try.prog 140 1 (.ptr i r off) = some (.ptr i r (off + 1)) := by kernel_rfl
@[simp] theorem fe140_1 (cs : List PV) : fieldAddrV Try.prog 140 1 (.fe cs) = some (.fe (cs.drop 1)) := by kernel_rfl
theorem bp140 : buildP Try.prog 140 = some ([V.pv (PV.sc (Value.int IntKind.i64 0)), V.pv (PV.sc (Value.int IntKind.i64 0))], [(0, 1), (1, 1)]) := by kernel_rfl
@[simp] theorem el147 : sliceElem Try.prog 147 = some 117 := by kernel_rfl
theorem by147 : (Try.prog.info? 117).map (fun i => (i.size, i.bytes)) = some (17, 168) := by kernel_rfl
@[simp] theorem iaF147 (rows : List (List PV)) (k : Int) : indexAddrV Try.prog 147 (.pv (.fz rows)) k = (if 0 ≤ k then match rows[k.toNat]? with | some row => if row.length = 17 then some (.fe row) else none | none => none else none) := by kernel_rfl
@[simp] theorem iaO147 (i s r len : Nat) (k : Int) : indexAddrV Try.prog 147 (.ow i s r len) k = (if 0 ≤ k ∧ k < len ∧ s = 17 then some (.ptr i (r + k.toNat) 0) else none) := by kernel_rfl
@[simp] theorem hb2 : hasBody Try.prog 2 = true := by kernel_rfl
@[simp] theorem hb3 : hasBody Try.prog 3 = true := by kernel_rfl
@[simp] theorem hb4 : hasBody Try.prog 4 = true := by kernel_rfl
@[simp] theorem hb5 : hasBody Try.prog 5 = true := by kernel_rfl
@[simp] theorem hb6 : hasBody Try.prog 6 = true := by kernel_rfl
@[simp] theorem hb7 : hasBody Try.prog 7 = true := by kernel_rfl
@[simp] theorem hb8 : hasBody Try.prog 8 = true := by kernel_rfl
@[simp] theorem hb9 : hasBody Try.prog 9 = true := by kernel_rfl
@[simp] theorem hb10 : hasBody Try.prog 10 = true := by kernel_rfl
@[simp] theorem hb11 : hasBody Try.prog 11 = true := by kernel_rfl
@[simp] theorem hb12 : hasBody Try.prog 12 = true := by kernel_rfl
@[simp] theorem hb13 : hasBody Try.prog 13 = true := by kernel_rfl
@[simp] theorem hb14 : hasBody Try.prog 14 = true := by kernel_rfl
@[simp] theorem hb15 : hasBody Try.prog 15 = true := by kernel_rfl
@[simp] theorem hb16 : hasBody Try.prog 16 = true := by kernel_rfl
@[simp] theorem hb17 : hasBody Try.prog 17 = true := by kernel_rfl
@[simp] theorem hb18 : hasBody Try.prog 18 = true := by kernel_rfl
@[simp] theorem hb19 : hasBody Try.prog 19 = true := by kernel_rfl
@[simp] theorem hb20 : hasBody Try.prog 20 = true := by kernel_rfl
@[simp] theorem hb21 : hasBody Try.prog 21 = true := by kernel_rfl
@[simp] theorem hb22 : hasBody Try.prog 22 = true := by kernel_rfl
@[simp] theorem hb23 : hasBody Try.prog 23 = true := by kernel_rfl
@[simp] theorem hb24 : hasBody Try.prog 24 = true := by kernel_rfl
@[simp] theorem hb25 : hasBody Try.prog 25 = true := by kernel_rfl
@[simp] theorem hb26 : hasBody Try.prog 26 = true := by kernel_rfl
@[simp] theorem hb27 : hasBody Try.prog 27 = true := by kernel_rfl
@[simp] theorem hb28 : hasBody Try.prog 28 = true := by kernel_rfl
@[simp] theorem hb29 : hasBody Try.prog 29 = true := by kernel_rfl
@[simp] theorem hb30 : hasBody Try.prog 30 = true := by kernel_rfl
@[simp] theorem hb31 : hasBody Try.prog 31 = true := by kernel_rfl
@[simp] theorem hb32 : hasBody Try.prog 32 = true := by kernel_rfl
@[simp] theorem hb33 : hasBody Try.prog 33 = true := by kernel_rfl
@[simp] theorem hb34 : hasBody Try.prog 34 = true := by kernel_rfl
@[simp] theorem hb35 : hasBody Try.prog 35 = true := by kernel_rfl
@[simp] theorem hb36 : hasBody Try.prog 36 = true := by kernel_rfl
@[simp] theorem hb37 : hasBody Try.prog 37 = true := by kernel_rfl
@[simp] theorem hb38 : hasBody Try.prog 38 = true := by kernel_rfl
@[simp] theorem hb39 : hasBody Try.prog 39 = true := by kernel_rfl
@[simp] theorem hb40 : hasBody Try.prog 40 = true := by kernel_rfl
@[simp] theorem hb41 : hasBody Try.prog 41 = true := by kernel_rfl
@[simp] theorem hb42 : hasBody Try.prog 42 = true := by kernel_rfl
@[simp] theorem hb43 : hasBody Try.prog 43 = true := by kernel_rfl
@[simp] theorem hb44 : hasBody Try.prog 44 = true := by kernel_rfl
@[simp] theorem hb45 : hasBody Try.prog 45 = true := by kernel_rfl
@[simp] theorem hb46 : hasBody Try.prog 46 = true := by kernel_rfl
@[simp] theorem hb47 : hasBody Try.prog 47 = true := by kernel_rfl
@[simp] theorem hb48 : hasBody Try.prog 48 = true := by kernel_rfl
@[simp] theorem hb49 : hasBody Try.prog 49 = true := by kernel_rfl
theorem ext_bits (n : Nat) : extRun Try.prog 50 #[.float .f64 n] = some (.int .u64 n) := by kernel_rfl
theorem nb_bits : hasBody Try.prog 50 = false := by kernel_rfl
@[simp] theorem hb51 : hasBody Try.prog 51 = true := by kernel_rfl
@[simp] theorem hb52 : hasBody Try.prog 52 = true := by kernel_rfl
@[simp] theorem hb53 : hasBody Try.prog 53 = true := by kernel_rfl
@[simp] theorem hb54 : hasBody Try.prog 54 = true := by kernel_rfl
@[simp] theorem hb55 : hasBody Try.prog 55 = true := by kernel_rfl
@[simp] theorem hb56 : hasBody Try.prog 56 = true := by kernel_rfl
@[simp] theorem hb57 : hasBody Try.prog 57 = true := by kernel_rfl
@[simp] theorem hb58 : hasBody Try.prog 58 = true := by kernel_rfl
@[simp] theorem hb59 : hasBody Try.prog 59 = true := by kernel_rfl
@[simp] theorem hb60 : hasBody Try.prog 60 = true := by kernel_rfl
@[simp] theorem hb61 : hasBody Try.prog 61 = true := by kernel_rfl
@[simp] theorem hb62 : hasBody Try.prog 62 = true := by kernel_rfl
@[simp] theorem hb63 : hasBody Try.prog 63 = true := by kernel_rfl
@[simp] theorem hb64 : hasBody Try.prog 64 = true := by kernel_rfl
@[simp] theorem hb65 : hasBody Try.prog 65 = true := by kernel_rfl
@[simp] theorem hb66 : hasBody Try.prog 66 = true := by kernel_rfl
@[simp] theorem hb67 : hasBody Try.prog 67 = true := by kernel_rfl
@[simp] theorem hb68 : hasBody Try.prog 68 = true := by kernel_rfl
@[simp] theorem hb69 : hasBody Try.prog 69 = true := by kernel_rfl
@[simp] theorem hb70 : hasBody Try.prog 70 = true := by kernel_rfl
@[simp] theorem hb71 : hasBody Try.prog 71 = true := by kernel_rfl
@[simp] theorem hb72 : hasBody Try.prog 72 = true := by kernel_rfl
@[simp] theorem hb73 : hasBody Try.prog 73 = true := by kernel_rfl
@[simp] theorem hb74 : hasBody Try.prog 74 = true := by kernel_rfl
@[simp] theorem hb75 : hasBody Try.prog 75 = true := by kernel_rfl
@[simp] theorem hb76 : hasBody Try.prog 76 = true := by kernel_rfl
@[simp] theorem hb77 : hasBody Try.prog 77 = true := by kernel_rfl
@[simp] theorem hb78 : hasBody Try.prog 78 = true := by kernel_rfl
@[simp] theorem hb79 : hasBody Try.prog 79 = true := by kernel_rfl
@[simp] theorem hb80 : hasBody Try.prog 80 = true := by kernel_rfl
theorem ext_from (n : Int) : extRun Try.prog 81 #[.int .u64 n] = some (.float .f64 n.toNat) := by kernel_rfl
theorem nb_from : hasBody Try.prog 81 = false := by kernel_rfl
@[simp] theorem hb82 : hasBody Try.prog 82 = true := by kernel_rfl
@[simp] theorem hb83 : hasBody Try.prog 83 = true := by kernel_rfl
@[simp] theorem hb84 : hasBody Try.prog 84 = true := by kernel_rfl
@[simp] theorem hb85 : hasBody Try.prog 85 = true := by kernel_rfl
@[simp] theorem hb86 : hasBody Try.prog 86 = true := by kernel_rfl
@[simp] theorem hb87 : hasBody Try.prog 87 = true := by kernel_rfl
@[simp] theorem hb103 : hasBody Try.prog 103 = true := by kernel_rfl
@[simp] theorem hb104 : hasBody Try.prog 104 = true := by kernel_rfl
@[simp] theorem hb105 : hasBody Try.prog 105 = true := by kernel_rfl
@[simp] theorem hb106 : hasBody Try.prog 106 = true := by kernel_rfl
@[simp] theorem hb107 : hasBody Try.prog 107 = true := by kernel_rfl
@[simp] theorem hb108 : hasBody Try.prog 108 = true := by kernel_rfl
@[simp] theorem hb109 : hasBody Try.prog 109 = true := by kernel_rfl
@[simp] theorem hb110 : hasBody Try.prog 110 = true := by kernel_rfl
end Go.Proofs.Ytnolgpagdjcjbaa.Ve
