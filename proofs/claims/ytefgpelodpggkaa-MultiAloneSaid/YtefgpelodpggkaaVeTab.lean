import Derived.Test.YtefgpelodpggkaaVeV
import Derived.Test.YtefgpelodpggkaaProg
/-! Tables. -/
set_option linter.unusedVariables false
namespace Go.Proofs.Ytefgpelodpggkaa.Ve
open Go
@[simp] theorem sz2 : tySize Try.prog 2 = some 1 := by kernel_rfl
@[simp] theorem ag2 : tyAgg Try.prog 2 = some false := by kernel_rfl
@[simp] theorem ze2 : zeroV Try.prog 2 = some (V.pv (PV.sc (Value.int IntKind.i64 0))) := by kernel_rfl
@[simp] theorem sz3 : tySize Try.prog 3 = some 1 := by kernel_rfl
@[simp] theorem ag3 : tyAgg Try.prog 3 = some false := by kernel_rfl
@[simp] theorem ze3 : zeroV Try.prog 3 = some (V.pv (PV.sc (Value.int IntKind.i64 0))) := by kernel_rfl
@[simp] theorem sz4 : tySize Try.prog 4 = some 1 := by kernel_rfl
@[simp] theorem ag4 : tyAgg Try.prog 4 = some false := by kernel_rfl
theorem bty : Try.prog.underlying 4 = some .bool := by kernel_rfl
@[simp] theorem sz24 : tySize Try.prog 24 = some 1 := by kernel_rfl
@[simp] theorem ag24 : tyAgg Try.prog 24 = some true := by kernel_rfl
@[simp] theorem ze24 : zeroV Try.prog 24 = some (V.pv (PV.agg [PV.sc (Value.int IntKind.i64 0)])) := by kernel_rfl
@[simp] theorem fa24_0 (i r off : Nat) : fieldAddrV Try.prog 24 0 (.ptr i r off) = some (.ptr i r (off + 0)) := by kernel_rfl
@[simp] theorem fe24_0 (cs : List PV) : fieldAddrV Try.prog 24 0 (.fe cs) = some (.fe (cs.drop 0)) := by kernel_rfl
theorem bp24 : buildP Try.prog 24 = some ([V.pv (PV.sc (Value.int IntKind.i64 0))], [(0, 1)]) := by kernel_rfl
theorem ni24 : (match Try.prog.underlying 24 with | some (.interface _) => false | some _ => true | none => false) = true := by kernel_rfl
@[simp] theorem sz30 : tySize Try.prog 30 = some 1 := by kernel_rfl
@[simp] theorem el30 : sliceElem Try.prog 30 = some 2 := by kernel_rfl
theorem by30 : (Try.prog.info? 2).map (fun i => (i.size, i.bytes)) = some (1, 8) := by kernel_rfl
@[simp] theorem iaF30 (rows : List (List PV)) (k : Int) : indexAddrV Try.prog 30 (.pv (.fz rows)) k = (if 0 ≤ k then match rows[k.toNat]? with | some row => if row.length = 1 then some (.fe row) else none | none => none else none) := by kernel_rfl
@[simp] theorem iaO30 (i s r len : Nat) (k : Int) : indexAddrV Try.prog 30 (.ow i s r len) k = (if 0 ≤ k ∧ k < len ∧ s = 1 then some (.ptr i (r + k.toNat) 0) else none) := by kernel_rfl
@[simp] theorem lnF30 (rows : List (List PV)) : lenV Try.prog 30 (.pv (.fz rows)) = some rows.length := by kernel_rfl
@[simp] theorem lnO30 (i s r len : Nat) : lenV Try.prog 30 (.ow i s r len) = some len := by kernel_rfl
@[simp] theorem lnN30 : lenV Try.prog 30 .nl = some 0 := by kernel_rfl
@[simp] theorem sz31 : tySize Try.prog 31 = some 1 := by kernel_rfl
@[simp] theorem ag31 : tyAgg Try.prog 31 = some false := by kernel_rfl
@[simp] theorem ze31 : zeroV Try.prog 31 = some V.nl := by kernel_rfl
@[simp] theorem el31 : sliceElem Try.prog 31 = some 3 := by kernel_rfl
theorem by31 : (Try.prog.info? 3).map (fun i => (i.size, i.bytes)) = some (1, 8) := by kernel_rfl
@[simp] theorem iaF31 (rows : List (List PV)) (k : Int) : indexAddrV Try.prog 31 (.pv (.fz rows)) k = (if 0 ≤ k then match rows[k.toNat]? with | some row => if row.length = 1 then some (.fe row) else none | none => none else none) := by kernel_rfl
@[simp] theorem iaO31 (i s r len : Nat) (k : Int) : indexAddrV Try.prog 31 (.ow i s r len) k = (if 0 ≤ k ∧ k < len ∧ s = 1 then some (.ptr i (r + k.toNat) 0) else none) := by kernel_rfl
@[simp] theorem lnF31 (rows : List (List PV)) : lenV Try.prog 31 (.pv (.fz rows)) = some rows.length := by kernel_rfl
@[simp] theorem lnO31 (i s r len : Nat) : lenV Try.prog 31 (.ow i s r len) = some len := by kernel_rfl
@[simp] theorem lnN31 : lenV Try.prog 31 .nl = some 0 := by kernel_rfl
@[simp] theorem sz32 : tySize Try.prog 32 = some 1 := by kernel_rfl
@[simp] theorem ag32 : tyAgg Try.prog 32 = some false := by kernel_rfl
@[simp] theorem sz34 : tySize Try.prog 34 = some 1 := by kernel_rfl
@[simp] theorem ag34 : tyAgg Try.prog 34 = some false := by kernel_rfl
@[simp] theorem sz36 : tySize Try.prog 36 = some 2 := by kernel_rfl
@[simp] theorem ag36 : tyAgg Try.prog 36 = some true := by kernel_rfl
@[simp] theorem ze36 : zeroV Try.prog 36 = some (V.pv (PV.agg [PV.sc (Value.float FloatKind.f64 0), PV.sc (Value.int IntKind.i64 0)])) := by kernel_rfl
@[simp] theorem fa36_0 (i r off : Nat) : fieldAddrV Try.prog 36 0 (.ptr i r off) = some (.ptr i r (off + 0)) := by kernel_rfl
@[simp] theorem fe36_0 (cs : List PV) : fieldAddrV Try.prog 36 0 (.fe cs) = some (.fe (cs.drop 0)) := by kernel_rfl
@[simp] theorem fa36_1 (i r off : Nat) : fieldAddrV Try.prog 36 1 (.ptr i r off) = some (.ptr i r (off + 1)) := by kernel_rfl
@[simp] theorem fe36_1 (cs : List PV) : fieldAddrV Try.prog 36 1 (.fe cs) = some (.fe (cs.drop 1)) := by kernel_rfl
theorem bp36 : buildP Try.prog 36 = some ([V.pv (PV.sc (Value.float FloatKind.f64 0)), V.pv (PV.sc (Value.int IntKind.i64 0))], [(0, 1), (1, 1)]) := by kernel_rfl
theorem ni36 : (match Try.prog.underlying 36 with | some (.interface _) => false | some _ => true | none => false) = true := by kernel_rfl
@[simp] theorem sz38 : tySize Try.prog 38 = some 4 := by kernel_rfl
@[simp] theorem ag38 : tyAgg Try.prog 38 = some true := by kernel_rfl
@[simp] theorem ze38 : zeroV Try.prog 38 = some (V.pv (PV.agg [PV.sc (Value.bool false), PV.sc (Value.float FloatKind.f64 0), PV.sc (Value.int IntKind.i64 0), PV.sc (Value.int IntKind.i64 0)])) := by kernel_rfl
@[simp] theorem fa38_0 (i r off : Nat) : fieldAddrV Try.prog 38 0 (.ptr i r off) = some (.ptr i r (off + 0)) := by kernel_rfl
@[simp] theorem fe38_0 (cs : List PV) : fieldAddrV Try.prog 38 0 (.fe cs) = some (.fe (cs.drop 0)) := by kernel_rfl
@[simp] theorem fa38_1 (i r off : Nat) : fieldAddrV Try.prog 38 1 (.ptr i r off) = some (.ptr i r (off + 1)) := by kernel_rfl
@[simp] theorem fe38_1 (cs : List PV) : fieldAddrV Try.prog 38 1 (.fe cs) = some (.fe (cs.drop 1)) := by kernel_rfl
@[simp] theorem fa38_2 (i r off : Nat) : fieldAddrV Try.prog 38 2 (.ptr i r off) = some (.ptr i r (off + 3)) := by kernel_rfl
@[simp] theorem fe38_2 (cs : List PV) : fieldAddrV Try.prog 38 2 (.fe cs) = some (.fe (cs.drop 3)) := by kernel_rfl
theorem bp38 : buildP Try.prog 38 = some ([V.pv (PV.sc (Value.bool false)), V.pv (PV.sc (Value.float FloatKind.f64 0)), V.pv (PV.sc (Value.int IntKind.i64 0)), V.pv (PV.sc (Value.int IntKind.i64 0))], [(0, 1), (1, 2), (3, 1)]) := by kernel_rfl
theorem bp41 : buildP Try.prog 41 = some ([V.pv (PV.sc (Value.int IntKind.i64 0)), V.pv (PV.sc (Value.int IntKind.i64 0))], [(0, 1), (1, 1)]) := by kernel_rfl
theorem iaA41 (i r off : Nat) (k : Int) : indexAddrV Try.prog 41 (.ptr i r off) k = (if 0 ≤ k ∧ k < 2 then some (.ptr i r (off + k.toNat * 1)) else none) := by kernel_rfl
theorem iaE41 (cs : List PV) (k : Int) : indexAddrV Try.prog 41 (.fe cs) k = (if 0 ≤ k ∧ k < 2 then some (.fe (cs.drop (k.toNat * 1))) else none) := by kernel_rfl
@[simp] theorem sz43 : tySize Try.prog 43 = some 5 := by kernel_rfl
@[simp] theorem ag43 : tyAgg Try.prog 43 = some true := by kernel_rfl
@[simp] theorem ze43 : zeroV Try.prog 43 = some (V.pv (PV.agg [PV.sc (Value.int IntKind.i64 0), PV.sc (Value.float FloatKind.f64 0), PV.sc (Value.int IntKind.i64 0), PV.sc (Value.int IntKind.i64 0), PV.sc (Value.int IntKind.i64 0)])) := by kernel_rfl
@[simp] theorem fa43_0 (i r off : Nat) : fieldAddrV Try.prog 43 0 (.ptr i r off) = some (.ptr i r (off + 0)) := by kernel_rfl
@[simp] theorem fe43_0 (cs : List PV) : fieldAddrV Try.prog 43 0 (.fe cs) = some (.fe (cs.drop 0)) := by kernel_rfl
@[simp] theorem fa43_1 (i r off : Nat) : fieldAddrV Try.prog 43 1 (.ptr i r off) = some (.ptr i r (off + 1)) := by kernel_rfl
@[simp] theorem fe43_1 (cs : List PV) : fieldAddrV Try.prog 43 1 (.fe cs) = some (.fe (cs.drop 1)) := by kernel_rfl
@[simp] theorem fa43_2 (i r off : Nat) : fieldAddrV Try.prog 43 2 (.ptr i r off) = some (.ptr i r (off + 3)) := by kernel_rfl
@[simp] theorem fe43_2 (cs : List PV) : fieldAddrV Try.prog 43 2 (.fe cs) = some (.fe (cs.drop 3)) := by kernel_rfl
theorem bp43 : buildP Try.prog 43 = some ([V.pv (PV.sc (Value.int IntKind.i64 0)), V.pv (PV.sc (Value.float FloatKind.f64 0)), V.pv (PV.sc (Value.int IntKind.i64 0)), V.pv (PV.sc (Value.int IntKind.i64 0)), V.pv (PV.sc (Value.int IntKind.i64 0))], [(0, 1), (1, 2), (3, 2)]) := by kernel_rfl
@[simp] theorem sz46 : tySize Try.prog 46 = some 1 := by kernel_rfl
@[simp] theorem el46 : sliceElem Try.prog 46 = some 60 := by kernel_rfl
theorem by46 : (Try.prog.info? 60).map (fun i => (i.size, i.bytes)) = some (1, 24) := by kernel_rfl
@[simp] theorem iaF46 (rows : List (List PV)) (k : Int) : indexAddrV Try.prog 46 (.pv (.fz rows)) k = (if 0 ≤ k then match rows[k.toNat]? with | some row => if row.length = 1 then some (.fe row) else none | none => none else none) := by kernel_rfl
@[simp] theorem iaO46 (i s r len : Nat) (k : Int) : indexAddrV Try.prog 46 (.ow i s r len) k = (if 0 ≤ k ∧ k < len ∧ s = 1 then some (.ptr i (r + k.toNat) 0) else none) := by kernel_rfl
@[simp] theorem lnF46 (rows : List (List PV)) : lenV Try.prog 46 (.pv (.fz rows)) = some rows.length := by kernel_rfl
@[simp] theorem lnO46 (i s r len : Nat) : lenV Try.prog 46 (.ow i s r len) = some len := by kernel_rfl
@[simp] theorem lnN46 : lenV Try.prog 46 .nl = some 0 := by kernel_rfl
@[simp] theorem sz47 : tySize Try.prog 47 = some 1 := by kernel_rfl
@[simp] theorem ag47 : tyAgg Try.prog 47 = some false := by kernel_rfl
@[simp] theorem el47 : sliceElem Try.prog 47 = some 132 := by kernel_rfl
theorem by47 : (Try.prog.info? 132).map (fun i => (i.size, i.bytes)) = some (3, 40) := by kernel_rfl
@[simp] theorem iaF47 (rows : List (List PV)) (k : Int) : indexAddrV Try.prog 47 (.pv (.fz rows)) k = (if 0 ≤ k then match rows[k.toNat]? with | some row => if row.length = 3 then some (.fe row) else none | none => none else none) := by kernel_rfl
@[simp] theorem iaO47 (i s r len : Nat) (k : Int) : indexAddrV Try.prog 47 (.ow i s r len) k = (if 0 ≤ k ∧ k < len ∧ s = 3 then some (.ptr i (r + k.toNat) 0) else none) := by kernel_rfl
@[simp] theorem lnF47 (rows : List (List PV)) : lenV Try.prog 47 (.pv (.fz rows)) = some rows.length := by kernel_rfl
@[simp] theorem lnO47 (i s r len : Nat) : lenV Try.prog 47 (.ow i s r len) = some len := by kernel_rfl
@[simp] theorem lnN47 : lenV Try.prog 47 .nl = some 0 := by kernel_rfl
@[simp] theorem sz49 : tySize Try.prog 49 = some 1 := by kernel_rfl
@[simp] theorem ag49 : tyAgg Try.prog 49 = some true := by kernel_rfl
@[simp] theorem ze49 : zeroV Try.prog 49 = some (V.agg [V.nl]) := by kernel_rfl
@[simp] theorem fa49_0 (i r off : Nat) : fieldAddrV Try.prog 49 0 (.ptr i r off) = some (.ptr i r (off + 0)) := by kernel_rfl
@[simp] theorem fe49_0 (cs : List PV) : fieldAddrV Try.prog 49 0 (.fe cs) = some (.fe (cs.drop 0)) := by kernel_rfl
theorem bp49 : buildP Try.prog 49 = some ([V.nl], [(0, 1)]) := by kernel_rfl
@[simp] theorem sz50 : tySize Try.prog 50 = some 1 := by kernel_rfl
@[simp] theorem ag50 : tyAgg Try.prog 50 = some false := by kernel_rfl
@[simp] theorem el50 : sliceElem Try.prog 50 = some 58 := by kernel_rfl
theorem by50 : (Try.prog.info? 58).map (fun i => (i.size, i.bytes)) = some (12, 96) := by kernel_rfl
@[simp] theorem iaF50 (rows : List (List PV)) (k : Int) : indexAddrV Try.prog 50 (.pv (.fz rows)) k = (if 0 ≤ k then match rows[k.toNat]? with | some row => if row.length = 12 then some (.fe row) else none | none => none else none) := by kernel_rfl
@[simp] theorem iaO50 (i s r len : Nat) (k : Int) : indexAddrV Try.prog 50 (.ow i s r len) k = (if 0 ≤ k ∧ k < len ∧ s = 12 then some (.ptr i (r + k.toNat) 0) else none) := by kernel_rfl
@[simp] theorem lnF50 (rows : List (List PV)) : lenV Try.prog 50 (.pv (.fz rows)) = some rows.length := by kernel_rfl
@[simp] theorem lnO50 (i s r len : Nat) : lenV Try.prog 50 (.ow i s r len) = some len := by kernel_rfl
@[simp] theorem lnN50 : lenV Try.prog 50 .nl = some 0 := by kernel_rfl
@[simp] theorem sz52 : tySize Try.prog 52 = some 4 := by kernel_rfl
@[simp] theorem ag52 : tyAgg Try.prog 52 = some true := by kernel_rfl
@[simp] theorem ze52 : zeroV Try.prog 52 = some (V.agg [V.pv (PV.sc (Value.pointer none)), V.nl, V.nl, V.pv (PV.sc (Value.int IntKind.i64 0))]) := by kernel_rfl
@[simp] theorem fa52_0 (i r off : Nat) : fieldAddrV Try.prog 52 0 (.ptr i r off) = some (.ptr i r (off + 0)) := by kernel_rfl
@[simp] theorem fe52_0 (cs : List PV) : fieldAddrV Try.prog 52 0 (.fe cs) = some (.fe (cs.drop 0)) := by kernel_rfl
@[simp] theorem fa52_1 (i r off : Nat) : fieldAddrV Try.prog 52 1 (.ptr i r off) = some (.ptr i r (off + 1)) := by kernel_rfl
@[simp] theorem fe52_1 (cs : List PV) : fieldAddrV Try.prog 52 1 (.fe cs) = some (.fe (cs.drop 1)) := by kernel_rfl
@[simp] theorem fa52_2 (i r off : Nat) : fieldAddrV Try.prog 52 2 (.ptr i r off) = some (.ptr i r (off + 2)) := by kernel_rfl
@[simp] theorem fe52_2 (cs : List PV) : fieldAddrV Try.prog 52 2 (.fe cs) = some (.fe (cs.drop 2)) := by kernel_rfl
@[simp] theorem fa52_3 (i r off : Nat) : fieldAddrV Try.prog 52 3 (.ptr i r off) = some (.ptr i r (off + 3)) := by kernel_rfl
@[simp] theorem fe52_3 (cs : List PV) : fieldAddrV Try.prog 52 3 (.fe cs) = some (.fe (cs.drop 3)) := by kernel_rfl
theorem bp52 : buildP Try.prog 52 = some ([V.pv (PV.sc (Value.pointer none)), V.nl, V.nl, V.pv (PV.sc (Value.int IntKind.i64 0))], [(0, 1), (1, 1), (2, 1), (3, 1)]) := by kernel_rfl
@[simp] theorem sz58 : tySize Try.prog 58 = some 12 := by kernel_rfl
@[simp] theorem ag58 : tyAgg Try.prog 58 = some true := by kernel_rfl
@[simp] theorem ze58 : zeroV Try.prog 58 = some (V.pv (PV.agg [PV.sc (Value.int IntKind.i64 0), PV.sc (Value.int IntKind.i64 0), PV.sc (Value.float FloatKind.f64 0), PV.sc (Value.int IntKind.i64 0), PV.sc (Value.int IntKind.i64 0), PV.sc (Value.int IntKind.i64 0), PV.sc (Value.int IntKind.i64 0), PV.sc (Value.int IntKind.i64 0), PV.sc (Value.bool false), PV.sc (Value.float FloatKind.f64 0), PV.sc (Value.int IntKind.i64 0), PV.sc (Value.int IntKind.i64 0)])) := by kernel_rfl
@[simp] theorem fa58_1 (i r off : Nat) : fieldAddrV Try.prog 58 1 (.ptr i r off) = some (.ptr i r (off + 1)) := by kernel_rfl
@[simp] theorem fe58_1 (cs : List PV) : fieldAddrV Try.prog 58 1 (.fe cs) = some (.fe (cs.drop 1)) := by kernel_rfl
@[simp] theorem fa58_2 (i r off : Nat) : fieldAddrV Try.prog 58 2 (.ptr i r off) = some (.ptr i r (off + 6)) := by kernel_rfl
@[simp] theorem fe58_2 (cs : List PV) : fieldAddrV Try.prog 58 2 (.fe cs) = some (.fe (cs.drop 6)) := by kernel_rfl
@[simp] theorem fa58_3 (i r off : Nat) : fieldAddrV Try.prog 58 3 (.ptr i r off) = some (.ptr i r (off + 7)) := by kernel_rfl
@[simp] theorem fe58_3 (cs : List PV) : fieldAddrV Try.prog 58 3 (.fe cs) = some (.fe (cs.drop 7)) := by kernel_rfl
@[simp] theorem fa58_4 (i r off : Nat) : fieldAddrV Try.prog 58 4 (.ptr i r off) = some (.ptr i r (off + 8)) := by kernel_rfl
@[simp] theorem fe58_4 (cs : List PV) : fieldAddrV Try.prog 58 4 (.fe cs) = some (.fe (cs.drop 8)) := by kernel_rfl
theorem bp58 : buildP Try.prog 58 = some ([V.pv (PV.sc (Value.int IntKind.i64 0)), V.pv (PV.sc (Value.int IntKind.i64 0)), V.pv (PV.sc (Value.float FloatKind.f64 0)), V.pv (PV.sc (Value.int IntKind.i64 0)), V.pv (PV.sc (Value.int IntKind.i64 0)), V.pv (PV.sc (Value.int IntKind.i64 0)), V.pv (PV.sc (Value.int IntKind.i64 0)), V.pv (PV.sc (Value.int IntKind.i64 0)), V.pv (PV.sc (Value.bool false)), V.pv (PV.sc (Value.float FloatKind.f64 0)), V.pv (PV.sc (Value.int IntKind.i64 0)), V.pv (PV.sc (Value.int IntKind.i64 0))], [(0, 1), (1, 5), (6, 1), (7, 1), (8, 4)]) := by kernel_rfl
@[simp] theorem sz60 : tySize Try.prog 60 = some 1 := by kernel_rfl
@[simp] theorem ag60 : tyAgg Try.prog 60 = some false := by kernel_rfl
@[simp] theorem ze60 : zeroV Try.prog 60 = some V.nl := by kernel_rfl
@[simp] theorem el60 : sliceElem Try.prog 60 = some 71 := by kernel_rfl
theorem by60 : (Try.prog.info? 71).map (fun i => (i.size, i.bytes)) = some (5, 40) := by kernel_rfl
@[simp] theorem iaF60 (rows : List (List PV)) (k : Int) : indexAddrV Try.prog 60 (.pv (.fz rows)) k = (if 0 ≤ k then match rows[k.toNat]? with | some row => if row.length = 5 then some (.fe row) else none | none => none else none) := by kernel_rfl
@[simp] theorem iaO60 (i s r len : Nat) (k : Int) : indexAddrV Try.prog 60 (.ow i s r len) k = (if 0 ≤ k ∧ k < len ∧ s = 5 then some (.ptr i (r + k.toNat) 0) else none) := by kernel_rfl
@[simp] theorem lnF60 (rows : List (List PV)) : lenV Try.prog 60 (.pv (.fz rows)) = some rows.length := by kernel_rfl
@[simp] theorem lnO60 (i s r len : Nat) : lenV Try.prog 60 (.ow i s r len) = some len := by kernel_rfl
@[simp] theorem lnN60 : lenV Try.prog 60 .nl = some 0 := by kernel_rfl
@[simp] theorem sz62 : tySize Try.prog 62 = some 1 := by kernel_rfl
@[simp] theorem ag62 : tyAgg Try.prog 62 = some true := by kernel_rfl
@[simp] theorem ze62 : zeroV Try.prog 62 = some (V.pv (PV.agg [PV.sc (Value.int IntKind.i64 0)])) := by kernel_rfl
@[simp] theorem fa62_0 (i r off : Nat) : fieldAddrV Try.prog 62 0 (.ptr i r off) = some (.ptr i r (off + 0)) := by kernel_rfl
@[simp] theorem fe62_0 (cs : List PV) : fieldAddrV Try.prog 62 0 (.fe cs) = some (.fe (cs.drop 0)) := by kernel_rfl
theorem bp62 : buildP Try.prog 62 = some ([V.pv (PV.sc (Value.int IntKind.i64 0))], [(0, 1)]) := by kernel_rfl
theorem ni62 : (match Try.prog.underlying 62 with | some (.interface _) => false | some _ => true | none => false) = true := by kernel_rfl
@[simp] theorem el65 : sliceElem Try.prog 65 = some 75 := by kernel_rfl
theorem by65 : (Try.prog.info? 75).map (fun i => (i.size, i.bytes)) = some (1, 24) := by kernel_rfl
@[simp] theorem iaF65 (rows : List (List PV)) (k : Int) : indexAddrV Try.prog 65 (.pv (.fz rows)) k = (if 0 ≤ k then match rows[k.toNat]? with | some row => if row.length = 1 then some (.fe row) else none | none => none else none) := by kernel_rfl
@[simp] theorem iaO65 (i s r len : Nat) (k : Int) : indexAddrV Try.prog 65 (.ow i s r len) k = (if 0 ≤ k ∧ k < len ∧ s = 1 then some (.ptr i (r + k.toNat) 0) else none) := by kernel_rfl
@[simp] theorem sz67 : tySize Try.prog 67 = some 1 := by kernel_rfl
@[simp] theorem ag67 : tyAgg Try.prog 67 = some false := by kernel_rfl
@[simp] theorem sz69 : tySize Try.prog 69 = some 2 := by kernel_rfl
@[simp] theorem ag69 : tyAgg Try.prog 69 = some true := by kernel_rfl
@[simp] theorem fa69_0 (i r off : Nat) : fieldAddrV Try.prog 69 0 (.ptr i r off) = some (.ptr i r (off + 0)) := by kernel_rfl
@[simp] theorem fe69_0 (cs : List PV) : fieldAddrV Try.prog 69 0 (.fe cs) = some (.fe (cs.drop 0)) := by kernel_rfl
@[simp] theorem fa69_1 (i r off : Nat) : fieldAddrV Try.prog 69 1 (.ptr i r off) = some (.ptr i r (off + 1)) := by kernel_rfl
@[simp] theorem fe69_1 (cs : List PV) : fieldAddrV Try.prog 69 1 (.fe cs) = some (.fe (cs.drop 1)) := by kernel_rfl
@[simp] theorem sz71 : tySize Try.prog 71 = some 5 := by kernel_rfl
@[simp] theorem ag71 : tyAgg Try.prog 71 = some true := by kernel_rfl
@[simp] theorem ze71 : zeroV Try.prog 71 = some (V.pv (PV.agg [PV.sc (Value.int IntKind.i64 0), PV.sc (Value.int IntKind.u64 0), PV.sc (Value.int IntKind.i64 0), PV.sc (Value.int IntKind.i64 0), PV.sc (Value.int IntKind.i64 0)])) := by kernel_rfl
@[simp] theorem fa71_0 (i r off : Nat) : fieldAddrV Try.prog 71 0 (.ptr i r off) = some (.ptr i r (off + 0)) := by kernel_rfl
@[simp] theorem fe71_0 (cs : List PV) : fieldAddrV Try.prog 71 0 (.fe cs) = some (.fe (cs.drop 0)) := by kernel_rfl
@[simp] theorem fa71_1 (i r off : Nat) : fieldAddrV Try.prog 71 1 (.ptr i r off) = some (.ptr i r (off + 1)) := by kernel_rfl
@[simp] theorem fe71_1 (cs : List PV) : fieldAddrV Try.prog 71 1 (.fe cs) = some (.fe (cs.drop 1)) := by kernel_rfl
@[simp] theorem fa71_2 (i r off : Nat) : fieldAddrV Try.prog 71 2 (.ptr i r off) = some (.ptr i r (off + 3)) := by kernel_rfl
@[simp] theorem fe71_2 (cs : List PV) : fieldAddrV Try.prog 71 2 (.fe cs) = some (.fe (cs.drop 3)) := by kernel_rfl
@[simp] theorem fa71_3 (i r off : Nat) : fieldAddrV Try.prog 71 3 (.ptr i r off) = some (.ptr i r (off + 4)) := by kernel_rfl
@[simp] theorem fe71_3 (cs : List PV) : fieldAddrV Try.prog 71 3 (.fe cs) = some (.fe (cs.drop 4)) := by kernel_rfl
@[simp] theorem sz72 : tySize Try.prog 72 = some 2 := by kernel_rfl
@[simp] theorem ag72 : tyAgg Try.prog 72 = some true := by kernel_rfl
@[simp] theorem ze72 : zeroV Try.prog 72 = some (V.pv (PV.agg [PV.sc (Value.int IntKind.u64 0), PV.sc (Value.int IntKind.i64 0)])) := by kernel_rfl
@[simp] theorem fa72_0 (i r off : Nat) : fieldAddrV Try.prog 72 0 (.ptr i r off) = some (.ptr i r (off + 0)) := by kernel_rfl
@[simp] theorem fe72_0 (cs : List PV) : fieldAddrV Try.prog 72 0 (.fe cs) = some (.fe (cs.drop 0)) := by kernel_rfl
@[simp] theorem fa72_1 (i r off : Nat) : fieldAddrV Try.prog 72 1 (.ptr i r off) = some (.ptr i r (off + 1)) := by kernel_rfl
@[simp] theorem fe72_1 (cs : List PV) : fieldAddrV Try.prog 72 1 (.fe cs) = some (.fe (cs.drop 1)) := by kernel_rfl
theorem bp72 : buildP Try.prog 72 = some ([V.pv (PV.sc (Value.int IntKind.u64 0)), V.pv (PV.sc (Value.int IntKind.i64 0))], [(0, 1), (1, 1)]) := by kernel_rfl
@[simp] theorem sz75 : tySize Try.prog 75 = some 1 := by kernel_rfl
@[simp] theorem ag75 : tyAgg Try.prog 75 = some false := by kernel_rfl
@[simp] theorem ze75 : zeroV Try.prog 75 = some V.nl := by kernel_rfl
@[simp] theorem el75 : sliceElem Try.prog 75 = some 72 := by kernel_rfl
theorem by75 : (Try.prog.info? 72).map (fun i => (i.size, i.bytes)) = some (2, 16) := by kernel_rfl
@[simp] theorem iaF75 (rows : List (List PV)) (k : Int) : indexAddrV Try.prog 75 (.pv (.fz rows)) k = (if 0 ≤ k then match rows[k.toNat]? with | some row => if row.length = 2 then some (.fe row) else none | none => none else none) := by kernel_rfl
@[simp] theorem iaO75 (i s r len : Nat) (k : Int) : indexAddrV Try.prog 75 (.ow i s r len) k = (if 0 ≤ k ∧ k < len ∧ s = 2 then some (.ptr i (r + k.toNat) 0) else none) := by kernel_rfl
@[simp] theorem lnF75 (rows : List (List PV)) : lenV Try.prog 75 (.pv (.fz rows)) = some rows.length := by kernel_rfl
@[simp] theorem lnO75 (i s r len : Nat) : lenV Try.prog 75 (.ow i s r len) = some len := by kernel_rfl
@[simp] theorem lnN75 : lenV Try.prog 75 .nl = some 0 := by kernel_rfl
@[simp] theorem sz85 : tySize Try.prog 85 = some 1 := by kernel_rfl
@[simp] theorem ag85 : tyAgg Try.prog 85 = some false := by kernel_rfl
@[simp] theorem el85 : sliceElem Try.prog 85 = some 36 := by kernel_rfl
theorem by85 : (Try.prog.info? 36).map (fun i => (i.size, i.bytes)) = some (2, 16) := by kernel_rfl
@[simp] theorem iaF85 (rows : List (List PV)) (k : Int) : indexAddrV Try.prog 85 (.pv (.fz rows)) k = (if 0 ≤ k then match rows[k.toNat]? with | some row => if row.length = 2 then some (.fe row) else none | none => none else none) := by kernel_rfl
@[simp] theorem iaO85 (i s r len : Nat) (k : Int) : indexAddrV Try.prog 85 (.ow i s r len) k = (if 0 ≤ k ∧ k < len ∧ s = 2 then some (.ptr i (r + k.toNat) 0) else none) := by kernel_rfl
@[simp] theorem lnF85 (rows : List (List PV)) : lenV Try.prog 85 (.pv (.fz rows)) = some rows.length := by kernel_rfl
@[simp] theorem lnO85 (i s r len : Nat) : lenV Try.prog 85 (.ow i s r len) = some len := by kernel_rfl
@[simp] theorem lnN85 : lenV Try.prog 85 .nl = some 0 := by kernel_rfl
@[simp] theorem sz87 : tySize Try.prog 87 = some 2 := by kernel_rfl
@[simp] theorem ag87 : tyAgg Try.prog 87 = some true := by kernel_rfl
@[simp] theorem ze87 : zeroV Try.prog 87 = some (V.agg [V.pv (PV.sc (Value.int IntKind.i64 0)), V.nl]) := by kernel_rfl
@[simp] theorem fa87_0 (i r off : Nat) : fieldAddrV Try.prog 87 0 (.ptr i r off) = some (.ptr i r (off + 0)) := by kernel_rfl
@[simp] theorem fe87_0 (cs : List PV) : fieldAddrV Try.prog 87 0 (.fe cs) = some (.fe (cs.drop 0)) := by kernel_rfl
@[simp] theorem fa87_1 (i r off : Nat) : fieldAddrV Try.prog 87 1 (.ptr i r off) = some (.ptr i r (off + 1)) := by kernel_rfl
@[simp] theorem fe87_1 (cs : List PV) : fieldAddrV Try.prog 87 1 (.fe cs) = some (.fe (cs.drop 1)) := by kernel_rfl
theorem bp87 : buildP Try.prog 87 = some ([V.pv (PV.sc (Value.int IntKind.i64 0)), V.nl], [(0, 1), (1, 1)]) := by kernel_rfl
theorem fv87_0 (c0 c1 : PV) : fieldV Try.prog 87 0 (.pv (.agg [c0, c1])) = some (.pv c0) := by kernel_rfl
theorem fw87_0 (c0 c1 : V) : fieldV Try.prog 87 0 (.agg [c0, c1]) = some c0 := by kernel_rfl
theorem fv87_1 (c0 c1 : PV) : fieldV Try.prog 87 1 (.pv (.agg [c0, c1])) = some (.pv c1) := by kernel_rfl
theorem fw87_1 (c0 c1 : V) : fieldV Try.prog 87 1 (.agg [c0, c1]) = some c1 := by kernel_rfl
@[simp] theorem sz89 : tySize Try.prog 89 = some 3 := by kernel_rfl
@[simp] theorem ag89 : tyAgg Try.prog 89 = some true := by kernel_rfl
@[simp] theorem ze89 : zeroV Try.prog 89 = some (V.agg [V.pv (PV.sc (Value.int IntKind.u64 0)), V.pv (PV.sc (Value.int IntKind.i64 0)), V.nl]) := by kernel_rfl
@[simp] theorem fa89_0 (i r off : Nat) : fieldAddrV Try.prog 89 0 (.ptr i r off) = some (.ptr i r (off + 0)) := by kernel_rfl
@[simp] theorem fe89_0 (cs : List PV) : fieldAddrV Try.prog 89 0 (.fe cs) = some (.fe (cs.drop 0)) := by kernel_rfl
@[simp] theorem fa89_1 (i r off : Nat) : fieldAddrV Try.prog 89 1 (.ptr i r off) = some (.ptr i r (off + 1)) := by kernel_rfl
@[simp] theorem fe89_1 (cs : List PV) : fieldAddrV Try.prog 89 1 (.fe cs) = some (.fe (cs.drop 1)) := by kernel_rfl
theorem bp89 : buildP Try.prog 89 = some ([V.pv (PV.sc (Value.int IntKind.u64 0)), V.pv (PV.sc (Value.int IntKind.i64 0)), V.nl], [(0, 1), (1, 2)]) := by kernel_rfl
theorem fv89_0 (c0 c1 c2 : PV) : fieldV Try.prog 89 0 (.pv (.agg [c0, c1, c2])) = some (.pv c0) := by kernel_rfl
theorem fw89_0 (c0 c1 c2 : V) : fieldV Try.prog 89 0 (.agg [c0, c1, c2]) = some c0 := by kernel_rfl
theorem fv89_1 (c0 c1 c2 : PV) : fieldV Try.prog 89 1 (.pv (.agg [c0, c1, c2])) = some (.pv (.agg [c1, c2])) := by kernel_rfl
theorem fw89_1 (c0 c1 c2 : V) : fieldV Try.prog 89 1 (.agg [c0, c1, c2]) = some (mkAgg [c1, c2]) := by kernel_rfl
@[simp] theorem sz94 : tySize Try.prog 94 = some 1 := by kernel_rfl
@[simp] theorem ag94 : tyAgg Try.prog 94 = some false := by kernel_rfl
@[simp] theorem el94 : sliceElem Try.prog 94 = some 89 := by kernel_rfl
theorem by94 : (Try.prog.info? 89).map (fun i => (i.size, i.bytes)) = some (3, 40) := by kernel_rfl
@[simp] theorem iaF94 (rows : List (List PV)) (k : Int) : indexAddrV Try.prog 94 (.pv (.fz rows)) k = (if 0 ≤ k then match rows[k.toNat]? with | some row => if row.length = 3 then some (.fe row) else none | none => none else none) := by kernel_rfl
@[simp] theorem iaO94 (i s r len : Nat) (k : Int) : indexAddrV Try.prog 94 (.ow i s r len) k = (if 0 ≤ k ∧ k < len ∧ s = 3 then some (.ptr i (r + k.toNat) 0) else none) := by kernel_rfl
@[simp] theorem lnF94 (rows : List (List PV)) : lenV Try.prog 94 (.pv (.fz rows)) = some rows.length := by kernel_rfl
@[simp] theorem lnO94 (i s r len : Nat) : lenV Try.prog 94 (.ow i s r len) = some len := by kernel_rfl
@[simp] theorem lnN94 : lenV Try.prog 94 .nl = some 0 := by kernel_rfl
@[simp] theorem fa96_0 (i r off : Nat) : fieldAddrV Try.prog 96 0 (.ptr i r off) = some (.ptr i r (off + 0)) := by kernel_rfl
@[simp] theorem fe96_0 (cs : List PV) : fieldAddrV Try.prog 96 0 (.fe cs) = some (.fe (cs.drop 0)) := by kernel_rfl
@[simp] theorem fa96_1 (i r off : Nat) : fieldAddrV Try.prog 96 1 (.ptr i r off) = some (.ptr i r (off + 1)) := by kernel_rfl
@[simp] theorem fe96_1 (cs : List PV) : fieldAddrV Try.prog 96 1 (.fe cs) = some (.fe (cs.drop 1)) := by kernel_rfl
theorem bp96 : buildP Try.prog 96 = some ([V.nl, V.pv (PV.sc (Value.int IntKind.u64 0))], [(0, 1), (1, 1)]) := by kernel_rfl
@[simp] theorem sz99 : tySize Try.prog 99 = some 1 := by kernel_rfl
@[simp] theorem ag99 : tyAgg Try.prog 99 = some false := by kernel_rfl
@[simp] theorem ze99 : zeroV Try.prog 99 = some (V.pv (PV.sc (Value.pointer none))) := by kernel_rfl
theorem iaA100 (i r off : Nat) (k : Int) : indexAddrV Try.prog 100 (.ptr i r off) k = (if 0 ≤ k ∧ k < 2 then some (.ptr i r (off + k.toNat * 3)) else none) := by kernel_rfl
theorem iaE100 (cs : List PV) (k : Int) : indexAddrV Try.prog 100 (.fe cs) k = (if 0 ≤ k ∧ k < 2 then some (.fe (cs.drop (k.toNat * 3))) else none) := by kernel_rfl
@[simp] theorem fa102_0 (i r off : Nat) : fieldAddrV Try.prog 102 0 (.ptr i r off) = some (.ptr i r (off + 0)) := by kernel_rfl
@[simp] theorem fe102_0 (cs : List PV) : fieldAddrV Try.prog 102 0 (.fe cs) = some (.fe (cs.drop 0)) := by kernel_rfl
@[simp] theorem fa102_1 (i r off : Nat) : fieldAddrV Try.prog 102 1 (.ptr i r off) = some (.ptr i r (off + 5)) := by kernel_rfl
@[simp] theorem fe102_1 (cs : List PV) : fieldAddrV Try.prog 102 1 (.fe cs) = some (.fe (cs.drop 5)) := by kernel_rfl
@[simp] theorem fa102_2 (i r off : Nat) : fieldAddrV Try.prog 102 2 (.ptr i r off) = some (.ptr i r (off + 6)) := by kernel_rfl
@[simp] theorem fe102_2 (cs : List PV) : fieldAddrV Try.prog 102 2 (.fe cs) = some (.fe (cs.drop 6)) := by kernel_rfl
@[simp] theorem fa102_5 (i r off : Nat) : fieldAddrV Try.prog 102 5 (.ptr i r off) = some (.ptr i r (off + 9)) := by kernel_rfl
@[simp] theorem fe102_5 (cs : List PV) : fieldAddrV Try.prog 102 5 (.fe cs) = some (.fe (cs.drop 9)) := by kernel_rfl
@[simp] theorem fa102_7 (i r off : Nat) : fieldAddrV Try.prog 102 7 (.ptr i r off) = some (.ptr i r (off + 11)) := by kernel_rfl
@[simp] theorem fe102_7 (cs : List PV) : fieldAddrV Try.prog 102 7 (.fe cs) = some (.fe (cs.drop 11)) := by kernel_rfl
theorem bp102 : buildP Try.prog 102 = some ([V.pv (PV.sc (Value.int IntKind.i64 0)), V.pv (PV.sc (Value.float FloatKind.f64 0)), V.pv (PV.sc (Value.int IntKind.i64 0)), V.pv (PV.sc (Value.int IntKind.i64 0)), V.pv (PV.sc (Value.int IntKind.i64 0)), V.pv (PV.sc (Value.int IntKind.i64 0)), V.pv (PV.sc (Value.int IntKind.i64 0)), V.pv (PV.sc (Value.int IntKind.i64 0)), V.pv (PV.sc (Value.int IntKind.i64 0)), V.pv (PV.sc (Value.int IntKind.i64 0)), V.pv (PV.sc (Value.bool false)), V.pv (PV.sc (Value.int IntKind.u64 0)), V.pv (PV.sc (Value.int IntKind.i64 0)), V.nl, V.pv (PV.sc (Value.int IntKind.u64 0)), V.pv (PV.sc (Value.int IntKind.i64 0)), V.nl], [(0, 5), (5, 1), (6, 1), (7, 1), (8, 1), (9, 1), (10, 1), (11, 6)]) := by kernel_rfl
@[simp] theorem sz105 : tySize Try.prog 105 = some 2 := by kernel_rfl
@[simp] theorem ag105 : tyAgg Try.prog 105 = some true := by kernel_rfl
@[simp] theorem ze105 : zeroV Try.prog 105 = some (V.agg [V.pv (PV.sc (Value.int IntKind.i64 0)), V.nl]) := by kernel_rfl
@[simp] theorem fa105_0 (i r off : Nat) : fieldAddrV Try.prog 105 0 (.ptr i r off) = some (.ptr i r (off + 0)) := by kernel_rfl
@[simp] theorem fe105_0 (cs : List PV) : fieldAddrV Try.prog 105 0 (.fe cs) = some (.fe (cs.drop 0)) := by kernel_rfl
@[simp] theorem fa105_1 (i r off : Nat) : fieldAddrV Try.prog 105 1 (.ptr i r off) = some (.ptr i r (off + 1)) := by kernel_rfl
@[simp] theorem fe105_1 (cs : List PV) : fieldAddrV Try.prog 105 1 (.fe cs) = some (.fe (cs.drop 1)) := by kernel_rfl
theorem bp105 : buildP Try.prog 105 = some ([V.pv (PV.sc (Value.int IntKind.i64 0)), V.nl], [(0, 1), (1, 1)]) := by kernel_rfl
@[simp] theorem sz107 : tySize Try.prog 107 = some 17 := by kernel_rfl
@[simp] theorem ag107 : tyAgg Try.prog 107 = some true := by kernel_rfl
@[simp] theorem ze107 : zeroV Try.prog 107 = some (V.agg [V.pv (PV.sc (Value.int IntKind.i64 0)), V.pv (PV.sc (Value.int IntKind.u64 0)), V.pv (PV.sc (Value.int IntKind.i64 0)), V.pv (PV.sc (Value.int IntKind.i64 0)), V.pv (PV.sc (Value.int IntKind.i64 0)), V.pv (PV.sc (Value.int IntKind.i64 0)), V.pv (PV.sc (Value.int IntKind.i64 0)), V.pv (PV.sc (Value.int IntKind.i64 0)), V.pv (PV.sc (Value.int IntKind.i64 0)), V.pv (PV.sc (Value.int IntKind.i64 0)), V.pv (PV.sc (Value.bool false)), V.pv (PV.sc (Value.int IntKind.i64 0)), V.pv (PV.sc (Value.int IntKind.i64 0)), V.pv (PV.sc (Value.int IntKind.i64 0)), V.nl, V.pv (PV.sc (Value.int IntKind.i64 0)), V.nl]) := by kernel_rfl
@[simp] theorem fa107_0 (i r off : Nat) : fieldAddrV Try.prog 107 0 (.ptr i r off) = some (.ptr i r (off + 0)) := by kernel_rfl
@[simp] theorem fe107_0 (cs : List PV) : fieldAddrV Try.prog 107 0 (.fe cs) = some (.fe (cs.drop 0)) := by kernel_rfl
@[simp] theorem fa107_1 (i r off : Nat) : fieldAddrV Try.prog 107 1 (.ptr i r off) = some (.ptr i r (off + 1)) := by kernel_rfl
@[simp] theorem fe107_1 (cs : List PV) : fieldAddrV Try.prog 107 1 (.fe cs) = some (.fe (cs.drop 1)) := by kernel_rfl
@[simp] theorem fa107_2 (i r off : Nat) : fieldAddrV Try.prog 107 2 (.ptr i r off) = some (.ptr i r (off + 3)) := by kernel_rfl
@[simp] theorem fe107_2 (cs : List PV) : fieldAddrV Try.prog 107 2 (.fe cs) = some (.fe (cs.drop 3)) := by kernel_rfl
@[simp] theorem fa107_3 (i r off : Nat) : fieldAddrV Try.prog 107 3 (.ptr i r off) = some (.ptr i r (off + 4)) := by kernel_rfl
@[simp] theorem fe107_3 (cs : List PV) : fieldAddrV Try.prog 107 3 (.fe cs) = some (.fe (cs.drop 4)) := by kernel_rfl
@[simp] theorem fa107_4 (i r off : Nat) : fieldAddrV Try.prog 107 4 (.ptr i r off) = some (.ptr i r (off + 5)) := by kernel_rfl
@[simp] theorem fe107_4 (cs : List PV) : fieldAddrV Try.prog 107 4 (.fe cs) = some (.fe (cs.drop 5)) := by kernel_rfl
@[simp] theorem fa107_5 (i r off : Nat) : fieldAddrV Try.prog 107 5 (.ptr i r off) = some (.ptr i r (off + 6)) := by kernel_rfl
@[simp] theorem fe107_5 (cs : List PV) : fieldAddrV Try.prog 107 5 (.fe cs) = some (.fe (cs.drop 6)) := by kernel_rfl
@[simp] theorem fa107_8 (i r off : Nat) : fieldAddrV Try.prog 107 8 (.ptr i r off) = some (.ptr i r (off + 9)) := by kernel_rfl
@[simp] theorem fe107_8 (cs : List PV) : fieldAddrV Try.prog 107 8 (.fe cs) = some (.fe (cs.drop 9)) := by kernel_rfl
@[simp] theorem fa107_10 (i r off : Nat) : fieldAddrV Try.prog 107 10 (.ptr i r off) = some (.ptr i r (off + 11)) := by kernel_rfl
@[simp] theorem fe107_10 (cs : List PV) : fieldAddrV Try.prog 107 10 (.fe cs) = some (.fe (cs.drop 11)) := by kernel_rfl
@[simp] theorem fa107_11 (i r off : Nat) : fieldAddrV Try.prog 107 11 (.ptr i r off) = some (.ptr i r (off + 12)) := by kernel_rfl
@[simp] theorem fe107_11 (cs : List PV) : fieldAddrV Try.prog 107 11 (.fe cs) = some (.fe (cs.drop 12)) := by kernel_rfl
@[simp] theorem fa107_12 (i r off : Nat) : fieldAddrV Try.prog 107 12 (.ptr i r off) = some (.ptr i r (off + 13)) := by kernel_rfl
@[simp] theorem fe107_12 (cs : List PV) : fieldAddrV Try.prog 107 12 (.fe cs) = some (.fe (cs.drop 13)) := by kernel_rfl
@[simp] theorem fa107_13 (i r off : Nat) : fieldAddrV Try.prog 107 13 (.ptr i r off) = some (.ptr i r (off + 15)) := by kernel_rfl
@[simp] theorem fe107_13 (cs : List PV) : fieldAddrV Try.prog 107 13 (.fe cs) = some (.fe (cs.drop 15)) := by kernel_rfl
theorem bp107 : buildP Try.prog 107 = some ([V.pv (PV.sc (Value.int IntKind.i64 0)), V.pv (PV.sc (Value.int IntKind.u64 0)), V.pv (PV.sc (Value.int IntKind.i64 0)), V.pv (PV.sc (Value.int IntKind.i64 0)), V.pv (PV.sc (Value.int IntKind.i64 0)), V.pv (PV.sc (Value.int IntKind.i64 0)), V.pv (PV.sc (Value.int IntKind.i64 0)), V.pv (PV.sc (Value.int IntKind.i64 0)), V.pv (PV.sc (Value.int IntKind.i64 0)), V.pv (PV.sc (Value.int IntKind.i64 0)), V.pv (PV.sc (Value.bool false)), V.pv (PV.sc (Value.int IntKind.i64 0)), V.pv (PV.sc (Value.int IntKind.i64 0)), V.pv (PV.sc (Value.int IntKind.i64 0)), V.nl, V.pv (PV.sc (Value.int IntKind.i64 0)), V.nl], [(0, 1), (1, 2), (3, 1), (4, 1), (5, 1), (6, 1), (7, 1), (8, 1), (9, 1), (10, 1), (11, 1), (12, 1), (13, 2), (15, 2)]) := by kernel_rfl
@[simp] theorem sz109 : tySize Try.prog 109 = some 4 := by kernel_rfl
@[simp] theorem ag109 : tyAgg Try.prog 109 = some true := by kernel_rfl
@[simp] theorem ze109 : zeroV Try.prog 109 = some (V.pv (PV.agg [PV.sc (Value.bool false), PV.sc (Value.int IntKind.u64 0), PV.sc (Value.int IntKind.i64 0), PV.sc (Value.int IntKind.i64 0)])) := by kernel_rfl
@[simp] theorem fa109_0 (i r off : Nat) : fieldAddrV Try.prog 109 0 (.ptr i r off) = some (.ptr i r (off + 0)) := by kernel_rfl
@[simp] theorem fe109_0 (cs : List PV) : fieldAddrV Try.prog 109 0 (.fe cs) = some (.fe (cs.drop 0)) := by kernel_rfl
@[simp] theorem fa109_1 (i r off : Nat) : fieldAddrV Try.prog 109 1 (.ptr i r off) = some (.ptr i r (off + 1)) := by kernel_rfl
@[simp] theorem fe109_1 (cs : List PV) : fieldAddrV Try.prog 109 1 (.fe cs) = some (.fe (cs.drop 1)) := by kernel_rfl
@[simp] theorem fa109_2 (i r off : Nat) : fieldAddrV Try.prog 109 2 (.ptr i r off) = some (.ptr i r (off + 3)) := by kernel_rfl
@[simp] theorem fe109_2 (cs : List PV) : fieldAddrV Try.prog 109 2 (.fe cs) = some (.fe (cs.drop 3)) := by kernel_rfl
theorem bp109 : buildP Try.prog 109 = some ([V.pv (PV.sc (Value.bool false)), V.pv (PV.sc (Value.int IntKind.u64 0)), V.pv (PV.sc (Value.int IntKind.i64 0)), V.pv (PV.sc (Value.int IntKind.i64 0))], [(0, 1), (1, 2), (3, 1)]) := by kernel_rfl
@[simp] theorem el127 : sliceElem Try.prog 127 = some 99 := by kernel_rfl
theorem by127 : (Try.prog.info? 99).map (fun i => (i.size, i.bytes)) = some (1, 8) := by kernel_rfl
@[simp] theorem iaF127 (rows : List (List PV)) (k : Int) : indexAddrV Try.prog 127 (.pv (.fz rows)) k = (if 0 ≤ k then match rows[k.toNat]? with | some row => if row.length = 1 then some (.fe row) else none | none => none else none) := by kernel_rfl
@[simp] theorem iaO127 (i s r len : Nat) (k : Int) : indexAddrV Try.prog 127 (.ow i s r len) k = (if 0 ≤ k ∧ k < len ∧ s = 1 then some (.ptr i (r + k.toNat) 0) else none) := by kernel_rfl
@[simp] theorem el128 : sliceElem Try.prog 128 = some 107 := by kernel_rfl
theorem by128 : (Try.prog.info? 107).map (fun i => (i.size, i.bytes)) = some (17, 168) := by kernel_rfl
@[simp] theorem iaF128 (rows : List (List PV)) (k : Int) : indexAddrV Try.prog 128 (.pv (.fz rows)) k = (if 0 ≤ k then match rows[k.toNat]? with | some row => if row.length = 17 then some (.fe row) else none | none => none else none) := by kernel_rfl
@[simp] theorem iaO128 (i s r len : Nat) (k : Int) : indexAddrV Try.prog 128 (.ow i s r len) k = (if 0 ≤ k ∧ k < len ∧ s = 17 then some (.ptr i (r + k.toNat) 0) else none) := by kernel_rfl
@[simp] theorem sz132 : tySize Try.prog 132 = some 3 := by kernel_rfl
@[simp] theorem ag132 : tyAgg Try.prog 132 = some true := by kernel_rfl
@[simp] theorem ze132 : zeroV Try.prog 132 = some (V.agg [V.pv (PV.sc (Value.int IntKind.i64 0)), V.pv (PV.sc (Value.int IntKind.i64 0)), V.nl]) := by kernel_rfl
@[simp] theorem fa132_0 (i r off : Nat) : fieldAddrV Try.prog 132 0 (.ptr i r off) = some (.ptr i r (off + 0)) := by kernel_rfl
@[simp] theorem fe132_0 (cs : List PV) : fieldAddrV Try.prog 132 0 (.fe cs) = some (.fe (cs.drop 0)) := by kernel_rfl
@[simp] theorem fa132_1 (i r off : Nat) : fieldAddrV Try.prog 132 1 (.ptr i r off) = some (.ptr i r (off + 1)) := by kernel_rfl
@[simp] theorem fe132_1 (cs : List PV) : fieldAddrV Try.prog 132 1 (.fe cs) = some (.fe (cs.drop 1)) := by kernel_rfl
theorem bp132 : buildP Try.prog 132 = some ([V.pv (PV.sc (Value.int IntKind.i64 0)), V.pv (PV.sc (Value.int IntKind.i64 0)), V.nl], [(0, 1), (1, 2)]) := by kernel_rfl
@[simp] theorem sz164 : tySize Try.prog 164 = some 1 := by kernel_rfl
@[simp] theorem ag164 : tyAgg Try.prog 164 = some false := by kernel_rfl
@[simp] theorem el164 : sliceElem Try.prog 164 = some 36 := by kernel_rfl
theorem by164 : (Try.prog.info? 36).map (fun i => (i.size, i.bytes)) = some (2, 16) := by kernel_rfl
@[simp] theorem iaF164 (rows : List (List PV)) (k : Int) : indexAddrV Try.prog 164 (.pv (.fz rows)) k = (if 0 ≤ k then match rows[k.toNat]? with | some row => if row.length = 2 then some (.fe row) else none | none => none else none) := by kernel_rfl
@[simp] theorem iaO164 (i s r len : Nat) (k : Int) : indexAddrV Try.prog 164 (.ow i s r len) k = (if 0 ≤ k ∧ k < len ∧ s = 2 then some (.ptr i (r + k.toNat) 0) else none) := by kernel_rfl
@[simp] theorem lnF164 (rows : List (List PV)) : lenV Try.prog 164 (.pv (.fz rows)) = some rows.length := by kernel_rfl
@[simp] theorem lnO164 (i s r len : Nat) : lenV Try.prog 164 (.ow i s r len) = some len := by kernel_rfl
@[simp] theorem lnN164 : lenV Try.prog 164 .nl = some 0 := by kernel_rfl
@[simp] theorem fa166_0 (i r off : Nat) : fieldAddrV Try.prog 166 0 (.ptr i r off) = some (.ptr i r (off + 0)) := by kernel_rfl
@[simp] theorem fe166_0 (cs : List PV) : fieldAddrV Try.prog 166 0 (.fe cs) = some (.fe (cs.drop 0)) := by kernel_rfl
theorem bp166 : buildP Try.prog 166 = some ([V.nl], [(0, 1)]) := by kernel_rfl
theorem ni168 : (match Try.prog.underlying 168 with | some (.interface _) => false | some _ => true | none => false) = true := by kernel_rfl
@[simp] theorem hb2 : hasBody Try.prog 2 = true := by kernel_rfl
@[simp] theorem hb3 : hasBody Try.prog 3 = true := by kernel_rfl
@[simp] theorem hb4 : hasBody Try.prog 4 = true := by kernel_rfl
@[simp] theorem hb5 : hasBody Try.prog 5 = true := by kernel_rfl
@[simp] theorem hb6 : hasBody Try.prog 6 = true := by kernel_rfl
@[simp] theorem hb7 : hasBody Try.prog 7 = true := by kernel_rfl
@[simp] theorem hb8 : hasBody Try.prog 8 = true := by kernel_rfl
@[simp] theorem hb9 : hasBody Try.prog 9 = true := by kernel_rfl
@[simp] theorem hb10 : hasBody Try.prog 10 = true := by kernel_rfl
@[simp] theorem hb11 : hasBody Try.prog 11 = true := by kernel_rfl
@[simp] theorem hb12 : hasBody Try.prog 12 = true := by kernel_rfl
@[simp] theorem hb13 : hasBody Try.prog 13 = true := by kernel_rfl
@[simp] theorem hb14 : hasBody Try.prog 14 = true := by kernel_rfl
@[simp] theorem hb15 : hasBody Try.prog 15 = true := by kernel_rfl
@[simp] theorem hb16 : hasBody Try.prog 16 = true := by kernel_rfl
@[simp] theorem hb17 : hasBody Try.prog 17 = true := by kernel_rfl
@[simp] theorem hb18 : hasBody Try.prog 18 = true := by kernel_rfl
@[simp] theorem hb19 : hasBody Try.prog 19 = true := by kernel_rfl
@[simp] theorem hb20 : hasBody Try.prog 20 = true := by kernel_rfl
@[simp] theorem hb21 : hasBody Try.prog 21 = true := by kernel_rfl
@[simp] theorem hb22 : hasBody Try.prog 22 = true := by kernel_rfl
@[simp] theorem hb23 : hasBody Try.prog 23 = true := by kernel_rfl
@[simp] theorem hb24 : hasBody Try.prog 24 = true := by kernel_rfl
@[simp] theorem hb25 : hasBody Try.prog 25 = true := by kernel_rfl
@[simp] theorem hb26 : hasBody Try.prog 26 = true := by kernel_rfl
@[simp] theorem hb27 : hasBody Try.prog 27 = true := by kernel_rfl
@[simp] theorem hb28 : hasBody Try.prog 28 = true := by kernel_rfl
@[simp] theorem hb29 : hasBody Try.prog 29 = true := by kernel_rfl
@[simp] theorem hb30 : hasBody Try.prog 30 = true := by kernel_rfl
@[simp] theorem hb31 : hasBody Try.prog 31 = true := by kernel_rfl
@[simp] theorem hb32 : hasBody Try.prog 32 = true := by kernel_rfl
@[simp] theorem hb33 : hasBody Try.prog 33 = true := by kernel_rfl
@[simp] theorem hb34 : hasBody Try.prog 34 = true := by kernel_rfl
@[simp] theorem hb35 : hasBody Try.prog 35 = true := by kernel_rfl
@[simp] theorem hb36 : hasBody Try.prog 36 = true := by kernel_rfl
@[simp] theorem hb37 : hasBody Try.prog 37 = true := by kernel_rfl
@[simp] theorem hb38 : hasBody Try.prog 38 = true := by kernel_rfl
@[simp] theorem hb39 : hasBody Try.prog 39 = true := by kernel_rfl
@[simp] theorem hb40 : hasBody Try.prog 40 = true := by kernel_rfl
@[simp] theorem hb41 : hasBody Try.prog 41 = true := by kernel_rfl
@[simp] theorem hb42 : hasBody Try.prog 42 = true := by kernel_rfl
@[simp] theorem hb43 : hasBody Try.prog 43 = true := by kernel_rfl
@[simp] theorem hb44 : hasBody Try.prog 44 = true := by kernel_rfl
@[simp] theorem hb45 : hasBody Try.prog 45 = true := by kernel_rfl
@[simp] theorem hb46 : hasBody Try.prog 46 = true := by kernel_rfl
@[simp] theorem hb47 : hasBody Try.prog 47 = true := by kernel_rfl
theorem ext_bits (n : Nat) : extRun Try.prog 48 #[.float .f64 n] = some (.int .u64 n) := by kernel_rfl
theorem nb_bits : hasBody Try.prog 48 = false := by kernel_rfl
@[simp] theorem hb49 : hasBody Try.prog 49 = true := by kernel_rfl
@[simp] theorem hb50 : hasBody Try.prog 50 = true := by kernel_rfl
@[simp] theorem hb51 : hasBody Try.prog 51 = true := by kernel_rfl
@[simp] theorem hb52 : hasBody Try.prog 52 = true := by kernel_rfl
@[simp] theorem hb53 : hasBody Try.prog 53 = true := by kernel_rfl
@[simp] theorem hb54 : hasBody Try.prog 54 = true := by kernel_rfl
@[simp] theorem hb55 : hasBody Try.prog 55 = true := by kernel_rfl
@[simp] theorem hb56 : hasBody Try.prog 56 = true := by kernel_rfl
@[simp] theorem hb57 : hasBody Try.prog 57 = true := by kernel_rfl
@[simp] theorem hb58 : hasBody Try.prog 58 = true := by kernel_rfl
@[simp] theorem hb59 : hasBody Try.prog 59 = true := by kernel_rfl
@[simp] theorem hb60 : hasBody Try.prog 60 = true := by kernel_rfl
@[simp] theorem hb61 : hasBody Try.prog 61 = true := by kernel_rfl
theorem ext_from (n : Int) : extRun Try.prog 62 #[.int .u64 n] = some (.float .f64 n.toNat) := by kernel_rfl
theorem nb_from : hasBody Try.prog 62 = false := by kernel_rfl
@[simp] theorem hb63 : hasBody Try.prog 63 = true := by kernel_rfl
@[simp] theorem hb64 : hasBody Try.prog 64 = true := by kernel_rfl
@[simp] theorem hb65 : hasBody Try.prog 65 = true := by kernel_rfl
@[simp] theorem hb81 : hasBody Try.prog 81 = true := by kernel_rfl
@[simp] theorem hb82 : hasBody Try.prog 82 = true := by kernel_rfl
@[simp] theorem hb83 : hasBody Try.prog 83 = true := by kernel_rfl
@[simp] theorem hb84 : hasBody Try.prog 84 = true := by kernel_rfl
@[simp] theorem hb85 : hasBody Try.prog 85 = true := by kernel_rfl
@[simp] theorem hb86 : hasBody Try.prog 86 = true := by kernel_rfl
@[simp] theorem hb87 : hasBody Try.prog 87 = true := by kernel_rfl
@[simp] theorem hb88 : hasBody Try.prog 88 = true := by kernel_rfl
@[simp] theorem hb89 : hasBody Try.prog 89 = true := by kernel_rfl
@[simp] theorem hb90 : hasBody Try.prog 90 = true := by kernel_rfl
@[simp] theorem hb91 : hasBody Try.prog 91 = true := by kernel_rfl
@[simp] theorem hb92 : hasBody Try.prog 92 = true := by kernel_rfl
@[simp] theorem hb93 : hasBody Try.prog 93 = true := by kernel_rfl
@[simp] theorem hb94 : hasBody Try.prog 94 = true := by kernel_rfl
@[simp] theorem hb95 : hasBody Try.prog 95 = true := by kernel_rfl
@[simp] theorem hb96 : hasBody Try.prog 96 = true := by kernel_rfl
@[simp] theorem hb97 : hasBody Try.prog 97 = true := by kernel_rfl
@[simp] theorem hb98 : hasBody Try.prog 98 = true := by kernel_rfl
@[simp] theorem hb99 : hasBody Try.prog 99 = true := by kernel_rfl
@[simp] theorem hb100 : hasBody Try.prog 100 = true := by kernel_rfl
@[simp] theorem hb101 : hasBody Try.prog 101 = true := by kernel_rfl
@[simp] theorem hb102 : hasBody Try.prog 102 = true := by kernel_rfl
@[simp] theorem hb105 : hasBody Try.prog 105 = true := by kernel_rfl
@[simp] theorem hb106 : hasBody Try.prog 106 = true := by kernel_rfl
@[simp] theorem hb107 : hasBody Try.prog 107 = true := by kernel_rfl
@[simp] theorem hb108 : hasBody Try.prog 108 = true := by kernel_rfl
@[simp] theorem hb109 : hasBody Try.prog 109 = true := by kernel_rfl
end Go.Proofs.Ytefgpelodpggkaa.Ve
