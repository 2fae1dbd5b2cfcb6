import Derived.Test.YtfieppbehmglbaaVeV
import Derived.Test.YtfieppbehmglbaaProg
/-! Tables. -/
set_option linter.unusedVariables false
namespace Go.Proofs.Ytfieppbehmglbaa.Ve
open Go
@[simp] theorem sz2 : tySize Try.prog 2 = some 1 := by kernel_rfl
@[simp] theorem ag2 : tyAgg Try.prog 2 = some false := by kernel_rfl
@[simp] theorem ze2 : zeroV Try.prog 2 = some (V.pv (PV.sc (Value.int IntKind.i64 0))) := by kernel_rfl
@[simp] theorem sz3 : tySize Try.prog 3 = some 1 := by kernel_rfl
@[simp] theorem ag3 : tyAgg Try.prog 3 = some false := by kernel_rfl
@[simp] theorem ze3 : zeroV Try.prog 3 = some (V.pv (PV.sc (Value.int IntKind.i64 0))) := by kernel_rfl
theorem bty : Try.prog.underlying 4 = some .bool := by kernel_rfl
@[simp] theorem sz5 : tySize Try.prog 5 = some 1 := by kernel_rfl
@[simp] theorem ag5 : tyAgg Try.prog 5 = some false := by kernel_rfl
@[simp] theorem ze5 : zeroV Try.prog 5 = some (V.pv (PV.sc (Value.int IntKind.u8 0))) := by kernel_rfl
@[simp] theorem sz9 : tySize Try.prog 9 = some 1 := by kernel_rfl
@[simp] theorem ag9 : tyAgg Try.prog 9 = some false := by kernel_rfl
@[simp] theorem ze9 : zeroV Try.prog 9 = some (V.pv (PV.sc (Value.string { data := { toList := [] } }))) := by kernel_rfl
@[simp] theorem sz22 : tySize Try.prog 22 = some 1 := by kernel_rfl
@[simp] theorem ag22 : tyAgg Try.prog 22 = some false := by kernel_rfl
@[simp] theorem el22 : sliceElem Try.prog 22 = some 27 := by kernel_rfl
theorem by22 : (Try.prog.info? 27).map (fun i => (i.size, i.bytes)) = some (2, 16) := by kernel_rfl
@[simp] theorem iaF22 (rows : List (List PV)) (k : Int) : indexAddrV Try.prog 22 (.pv (.fz rows)) k = (if 0 ≤ k then match rows[k.toNat]? with | some row => if row.length = 2 then some (.fe row) else none | none => none else none) := by kernel_rfl
@[simp] theorem iaO22 (i s r len : Nat) (k : Int) : indexAddrV Try.prog 22 (.ow i s r len) k = (if 0 ≤ k ∧ k < len ∧ s = 2 then some (.ptr i (r + k.toNat) 0) else none) := by kernel_rfl
@[simp] theorem lnF22 (rows : List (List PV)) : lenV Try.prog 22 (.pv (.fz rows)) = some rows.length := by kernel_rfl
@[simp] theorem lnO22 (i s r len : Nat) : lenV Try.prog 22 (.ow i s r len) = some len := by kernel_rfl
@[simp] theorem lnN22 : lenV Try.prog 22 .nl = some 0 := by kernel_rfl
@[simp] theorem sz24 : tySize Try.prog 24 = some 2 := by kernel_rfl
@[simp] theorem ag24 : tyAgg Try.prog 24 = some true := by kernel_rfl
@[simp] theorem fa24_0 (i r off : Nat) : fieldAddrV Try.prog 24 0 (.ptr i r off) = some (.ptr i r (off + 0)) := by kernel_rfl
@[simp] theorem fe24_0 (cs : List PV) : fieldAddrV Try.prog 24 0 (.fe cs) = some (.fe (cs.drop 0)) := by kernel_rfl
@[simp] theorem fa24_1 (i r off : Nat) : fieldAddrV Try.prog 24 1 (.ptr i r off) = some (.ptr i r (off + 1)) := by kernel_rfl
@[simp] theorem fe24_1 (cs : List PV) : fieldAddrV Try.prog 24 1 (.fe cs) = some (.fe (cs.drop 1)) := by kernel_rfl
@[simp] theorem sz25 : tySize Try.prog 25 = some 1 := by kernel_rfl
@[simp] theorem ag25 : tyAgg Try.prog 25 = some false := by kernel_rfl
@[simp] theorem sz27 : tySize Try.prog 27 = some 2 := by kernel_rfl
@[simp] theorem ag27 : tyAgg Try.prog 27 = some true := by kernel_rfl
@[simp] theorem ze27 : zeroV Try.prog 27 = some (V.pv (PV.agg [PV.sc (Value.int IntKind.u64 0), PV.sc (Value.int IntKind.i64 0)])) := by kernel_rfl
@[simp] theorem fa27_0 (i r off : Nat) : fieldAddrV Try.prog 27 0 (.ptr i r off) = some (.ptr i r (off + 0)) := by kernel_rfl
@[simp] theorem fe27_0 (cs : List PV) : fieldAddrV Try.prog 27 0 (.fe cs) = some (.fe (cs.drop 0)) := by kernel_rfl
@[simp] theorem fa27_1 (i r off : Nat) : fieldAddrV Try.prog 27 1 (.ptr i r off) = some (.ptr i r (off + 1)) := by kernel_rfl
@[simp] theorem fe27_1 (cs : List PV) : fieldAddrV Try.prog 27 1 (.fe cs) = some (.fe (cs.drop 1)) := by kernel_rfl
@[simp] theorem sz31 : tySize Try.prog 31 = some 1 := by kernel_rfl
@[simp] theorem ag31 : tyAgg Try.prog 31 = some false := by kernel_rfl
@[simp] theorem el31 : sliceElem Try.prog 31 = some 38 := by kernel_rfl
theorem by31 : (Try.prog.info? 38).map (fun i => (i.size, i.bytes)) = some (2, 16) := by kernel_rfl
@[simp] theorem iaF31 (rows : List (List PV)) (k : Int) : indexAddrV Try.prog 31 (.pv (.fz rows)) k = (if 0 ≤ k then match rows[k.toNat]? with | some row => if row.length = 2 then some (.fe row) else none | none => none else none) := by kernel_rfl
@[simp] theorem iaO31 (i s r len : Nat) (k : Int) : indexAddrV Try.prog 31 (.ow i s r len) k = (if 0 ≤ k ∧ k < len ∧ s = 2 then some (.ptr i (r + k.toNat) 0) else none) := by kernel_rfl
@[simp] theorem lnF31 (rows : List (List PV)) : lenV Try.prog 31 (.pv (.fz rows)) = some rows.length := by kernel_rfl
@[simp] theorem lnO31 (i s r len : Nat) : lenV Try.prog 31 (.ow i s r len) = some len := by kernel_rfl
@[simp] theorem lnN31 : lenV Try.prog 31 .nl = some 0 := by kernel_rfl
@[simp] theorem sz33 : tySize Try.prog 33 = some 2 := by kernel_rfl
@[simp] theorem ag33 : tyAgg Try.prog 33 = some true := by kernel_rfl
@[simp] theorem ze33 : zeroV Try.prog 33 = some (V.agg [V.pv (PV.sc (Value.int IntKind.i64 0)), V.nl]) := by kernel_rfl
@[simp] theorem fa33_0 (i r off : Nat) : fieldAddrV Try.prog 33 0 (.ptr i r off) = some (.ptr i r (off + 0)) := by kernel_rfl
@[simp] theorem fe33_0 (cs : List PV) : fieldAddrV Try.prog 33 0 (.fe cs) = some (.fe (cs.drop 0)) := by kernel_rfl
@[simp] theorem fa33_1 (i r off : Nat) : fieldAddrV Try.prog 33 1 (.ptr i r off) = some (.ptr i r (off + 1)) := by kernel_rfl
@[simp] theorem fe33_1 (cs : List PV) : fieldAddrV Try.prog 33 1 (.fe cs) = some (.fe (cs.drop 1)) := by kernel_rfl
theorem bp33 : buildP Try.prog 33 = some ([V.pv (PV.sc (Value.int IntKind.i64 0)), V.nl], [(0, 1), (1, 1)]) := by kernel_rfl
theorem fv33_0 (c0 c1 : PV) : fieldV Try.prog 33 0 (.pv (.agg [c0, c1])) = some (.pv c0) := by kernel_rfl
theorem fw33_0 (c0 c1 : V) : fieldV Try.prog 33 0 (.agg [c0, c1]) = some c0 := by kernel_rfl
@[simp] theorem sz36 : tySize Try.prog 36 = some 1 := by kernel_rfl
@[simp] theorem ag36 : tyAgg Try.prog 36 = some false := by kernel_rfl
@[simp] theorem sz38 : tySize Try.prog 38 = some 2 := by kernel_rfl
@[simp] theorem ag38 : tyAgg Try.prog 38 = some true := by kernel_rfl
@[simp] theorem ze38 : zeroV Try.prog 38 = some (V.pv (PV.agg [PV.sc (Value.float FloatKind.f64 0), PV.sc (Value.int IntKind.i64 0)])) := by kernel_rfl
@[simp] theorem fa38_0 (i r off : Nat) : fieldAddrV Try.prog 38 0 (.ptr i r off) = some (.ptr i r (off + 0)) := by kernel_rfl
@[simp] theorem fe38_0 (cs : List PV) : fieldAddrV Try.prog 38 0 (.fe cs) = some (.fe (cs.drop 0)) := by kernel_rfl
@[simp] theorem fa38_1 (i r off : Nat) : fieldAddrV Try.prog 38 1 (.ptr i r off) = some (.ptr i r (off + 1)) := by kernel_rfl
@[simp] theorem fe38_1 (cs : List PV) : fieldAddrV Try.prog 38 1 (.fe cs) = some (.fe (cs.drop 1)) := by kernel_rfl
theorem bp38 : buildP Try.prog 38 = some ([V.pv (PV.sc (Value.float FloatKind.f64 0)), V.pv (PV.sc (Value.int IntKind.i64 0))], [(0, 1), (1, 1)]) := by kernel_rfl
@[simp] theorem sz40 : tySize Try.prog 40 = some 3 := by kernel_rfl
@[simp] theorem ag40 : tyAgg Try.prog 40 = some true := by kernel_rfl
@[simp] theorem ze40 : zeroV Try.prog 40 = some (V.agg [V.pv (PV.sc (Value.int IntKind.u64 0)), V.pv (PV.sc (Value.int IntKind.i64 0)), V.nl]) := by kernel_rfl
@[simp] theorem fa40_0 (i r off : Nat) : fieldAddrV Try.prog 40 0 (.ptr i r off) = some (.ptr i r (off + 0)) := by kernel_rfl
@[simp] theorem fe40_0 (cs : List PV) : fieldAddrV Try.prog 40 0 (.fe cs) = some (.fe (cs.drop 0)) := by kernel_rfl
@[simp] theorem fa40_1 (i r off : Nat) : fieldAddrV Try.prog 40 1 (.ptr i r off) = some (.ptr i r (off + 1)) := by kernel_rfl
@[simp] theorem fe40_1 (cs : List PV) : fieldAddrV Try.prog 40 1 (.fe cs) = some (.fe (cs.drop 1)) := by kernel_rfl
theorem bp40 : buildP Try.prog 40 = some ([V.pv (PV.sc (Value.int IntKind.u64 0)), V.pv (PV.sc (Value.int IntKind.i64 0)), V.nl], [(0, 1), (1, 2)]) := by kernel_rfl
theorem fv40_0 (c0 c1 c2 : PV) : fieldV Try.prog 40 0 (.pv (.agg [c0, c1, c2])) = some (.pv c0) := by kernel_rfl
theorem fw40_0 (c0 c1 c2 : V) : fieldV Try.prog 40 0 (.agg [c0, c1, c2]) = some c0 := by kernel_rfl
theorem fv40_1 (c0 c1 c2 : PV) : fieldV Try.prog 40 1 (.pv (.agg [c0, c1, c2])) = some (.pv (.agg [c1, c2])) := by kernel_rfl
theorem fw40_1 (c0 c1 c2 : V) : fieldV Try.prog 40 1 (.agg [c0, c1, c2]) = some (mkAgg [c1, c2]) := by kernel_rfl
@[simp] theorem sz44 : tySize Try.prog 44 = some 1 := by kernel_rfl
@[simp] theorem ag44 : tyAgg Try.prog 44 = some false := by kernel_rfl
@[simp] theorem el44 : sliceElem Try.prog 44 = some 103 := by kernel_rfl
theorem by44 : (Try.prog.info? 103).map (fun i => (i.size, i.bytes)) = some (2, 16) := by kernel_rfl
@[simp] theorem iaF44 (rows : List (List PV)) (k : Int) : indexAddrV Try.prog 44 (.pv (.fz rows)) k = (if 0 ≤ k then match rows[k.toNat]? with | some row => if row.length = 2 then some (.fe row) else none | none => none else none) := by kernel_rfl
@[simp] theorem iaO44 (i s r len : Nat) (k : Int) : indexAddrV Try.prog 44 (.ow i s r len) k = (if 0 ≤ k ∧ k < len ∧ s = 2 then some (.ptr i (r + k.toNat) 0) else none) := by kernel_rfl
@[simp] theorem lnF44 (rows : List (List PV)) : lenV Try.prog 44 (.pv (.fz rows)) = some rows.length := by kernel_rfl
@[simp] theorem lnO44 (i s r len : Nat) : lenV Try.prog 44 (.ow i s r len) = some len := by kernel_rfl
@[simp] theorem lnN44 : lenV Try.prog 44 .nl = some 0 := by kernel_rfl
@[simp] theorem sz46 : tySize Try.prog 46 = some 2 := by kernel_rfl
@[simp] theorem ag46 : tyAgg Try.prog 46 = some true := by kernel_rfl
@[simp] theorem ze46 : zeroV Try.prog 46 = some (V.agg [V.pv (PV.sc (Value.int IntKind.i64 0)), V.nl]) := by kernel_rfl
@[simp] theorem fa46_0 (i r off : Nat) : fieldAddrV Try.prog 46 0 (.ptr i r off) = some (.ptr i r (off + 0)) := by kernel_rfl
@[simp] theorem fe46_0 (cs : List PV) : fieldAddrV Try.prog 46 0 (.fe cs) = some (.fe (cs.drop 0)) := by kernel_rfl
@[simp] theorem fa46_1 (i r off : Nat) : fieldAddrV Try.prog 46 1 (.ptr i r off) = some (.ptr i r (off + 1)) := by kernel_rfl
@[simp] theorem fe46_1 (cs : List PV) : fieldAddrV Try.prog 46 1 (.fe cs) = some (.fe (cs.drop 1)) := by kernel_rfl
theorem bp46 : buildP Try.prog 46 = some ([V.pv (PV.sc (Value.int IntKind.i64 0)), V.nl], [(0, 1), (1, 1)]) := by kernel_rfl
@[simp] theorem sz49 : tySize Try.prog 49 = some 1 := by kernel_rfl
@[simp] theorem el49 : sliceElem Try.prog 49 = some 99 := by kernel_rfl
theorem by49 : (Try.prog.info? 99).map (fun i => (i.size, i.bytes)) = some (5, 56) := by kernel_rfl
@[simp] theorem iaF49 (rows : List (List PV)) (k : Int) : indexAddrV Try.prog 49 (.pv (.fz rows)) k = (if 0 ≤ k then match rows[k.toNat]? with | some row => if row.length = 5 then some (.fe row) else none | none => none else none) := by kernel_rfl
@[simp] theorem iaO49 (i s r len : Nat) (k : Int) : indexAddrV Try.prog 49 (.ow i s r len) k = (if 0 ≤ k ∧ k < len ∧ s = 5 then some (.ptr i (r + k.toNat) 0) else none) := by kernel_rfl
@[simp] theorem lnF49 (rows : List (List PV)) : lenV Try.prog 49 (.pv (.fz rows)) = some rows.length := by kernel_rfl
@[simp] theorem lnO49 (i s r len : Nat) : lenV Try.prog 49 (.ow i s r len) = some len := by kernel_rfl
@[simp] theorem lnN49 : lenV Try.prog 49 .nl = some 0 := by kernel_rfl
@[simp] theorem sz50 : tySize Try.prog 50 = some 1 := by kernel_rfl
@[simp] theorem ag50 : tyAgg Try.prog 50 = some false := by kernel_rfl
@[simp] theorem el50 : sliceElem Try.prog 50 = some 128 := by kernel_rfl
theorem by50 : (Try.prog.info? 128).map (fun i => (i.size, i.bytes)) = some (3, 40) := by kernel_rfl
@[simp] theorem iaF50 (rows : List (List PV)) (k : Int) : indexAddrV Try.prog 50 (.pv (.fz rows)) k = (if 0 ≤ k then match rows[k.toNat]? with | some row => if row.length = 3 then some (.fe row) else none | none => none else none) := by kernel_rfl
@[simp] theorem iaO50 (i s r len : Nat) (k : Int) : indexAddrV Try.prog 50 (.ow i s r len) k = (if 0 ≤ k ∧ k < len ∧ s = 3 then some (.ptr i (r + k.toNat) 0) else none) := by kernel_rfl
@[simp] theorem lnF50 (rows : List (List PV)) : lenV Try.prog 50 (.pv (.fz rows)) = some rows.length := by kernel_rfl
@[simp] theorem lnO50 (i s r len : Nat) : lenV Try.prog 50 (.ow i s r len) = some len := by kernel_rfl
@[simp] theorem lnN50 : lenV Try.prog 50 .nl = some 0 := by kernel_rfl
@[simp] theorem sz52 : tySize Try.prog 52 = some 1 := by kernel_rfl
@[simp] theorem ag52 : tyAgg Try.prog 52 = some true := by kernel_rfl
@[simp] theorem ze52 : zeroV Try.prog 52 = some (V.agg [V.nl]) := by kernel_rfl
@[simp] theorem fa52_0 (i r off : Nat) : fieldAddrV Try.prog 52 0 (.ptr i r off) = some (.ptr i r (off + 0)) := by kernel_rfl
@[simp] theorem fe52_0 (cs : List PV) : fieldAddrV Try.prog 52 0 (.fe cs) = some (.fe (cs.drop 0)) := by kernel_rfl
theorem bp52 : buildP Try.prog 52 = some ([V.nl], [(0, 1)]) := by kernel_rfl
@[simp] theorem sz55 : tySize Try.prog 55 = some 1 := by kernel_rfl
@[simp] theorem ag55 : tyAgg Try.prog 55 = some false := by kernel_rfl
@[simp] theorem el55 : sliceElem Try.prog 55 = some 3 := by kernel_rfl
theorem by55 : (Try.prog.info? 3).map (fun i => (i.size, i.bytes)) = some (1, 8) := by kernel_rfl
@[simp] theorem iaF55 (rows : List (List PV)) (k : Int) : indexAddrV Try.prog 55 (.pv (.fz rows)) k = (if 0 ≤ k then match rows[k.toNat]? with | some row => if row.length = 1 then some (.fe row) else none | none => none else none) := by kernel_rfl
@[simp] theorem iaO55 (i s r len : Nat) (k : Int) : indexAddrV Try.prog 55 (.ow i s r len) k = (if 0 ≤ k ∧ k < len ∧ s = 1 then some (.ptr i (r + k.toNat) 0) else none) := by kernel_rfl
@[simp] theorem lnF55 (rows : List (List PV)) : lenV Try.prog 55 (.pv (.fz rows)) = some rows.length := by kernel_rfl
@[simp] theorem lnO55 (i s r len : Nat) : lenV Try.prog 55 (.ow i s r len) = some len := by kernel_rfl
@[simp] theorem lnN55 : lenV Try.prog 55 .nl = some 0 := by kernel_rfl
@[simp] theorem sz61 : tySize Try.prog 61 = some 5 := by kernel_rfl
@[simp] theorem ag61 : tyAgg Try.prog 61 = some true := by kernel_rfl
@[simp] theorem ze61 : zeroV Try.prog 61 = some (V.pv (PV.agg [PV.sc (Value.int IntKind.i64 0), PV.sc (Value.float FloatKind.f64 0), PV.sc (Value.int IntKind.i64 0), PV.sc (Value.int IntKind.i64 0), PV.sc (Value.int IntKind.i64 0)])) := by kernel_rfl
@[simp] theorem fa61_0 (i r off : Nat) : fieldAddrV Try.prog 61 0 (.ptr i r off) = some (.ptr i r (off + 0)) := by kernel_rfl
@[simp] theorem fe61_0 (cs : List PV) : fieldAddrV Try.prog 61 0 (.fe cs) = some (.fe (cs.drop 0)) := by kernel_rfl
@[simp] theorem fa61_1 (i r off : Nat) : fieldAddrV Try.prog 61 1 (.ptr i r off) = some (.ptr i r (off + 1)) := by kernel_rfl
@[simp] theorem fe61_1 (cs : List PV) : fieldAddrV Try.prog 61 1 (.fe cs) = some (.fe (cs.drop 1)) := by kernel_rfl
theorem bp61 : buildP Try.prog 61 = some ([V.pv (PV.sc (Value.int IntKind.i64 0)), V.pv (PV.sc (Value.float FloatKind.f64 0)), V.pv (PV.sc (Value.int IntKind.i64 0)), V.pv (PV.sc (Value.int IntKind.i64 0)), V.pv (PV.sc (Value.int IntKind.i64 0))], [(0, 1), (1, 2), (3, 2)]) := by kernel_rfl
@[simp] theorem sz71 : tySize Try.prog 71 = some 1 := by kernel_rfl
@[simp] theorem el71 : sliceElem Try.prog 71 = some 9 := by kernel_rfl
theorem by71 : (Try.prog.info? 9).map (fun i => (i.size, i.bytes)) = some (1, 16) := by kernel_rfl
@[simp] theorem iaF71 (rows : List (List PV)) (k : Int) : indexAddrV Try.prog 71 (.pv (.fz rows)) k = (if 0 ≤ k then match rows[k.toNat]? with | some row => if row.length = 1 then some (.fe row) else none | none => none else none) := by kernel_rfl
@[simp] theorem iaO71 (i s r len : Nat) (k : Int) : indexAddrV Try.prog 71 (.ow i s r len) k = (if 0 ≤ k ∧ k < len ∧ s = 1 then some (.ptr i (r + k.toNat) 0) else none) := by kernel_rfl
@[simp] theorem lnF71 (rows : List (List PV)) : lenV Try.prog 71 (.pv (.fz rows)) = some rows.length := by kernel_rfl
@[simp] theorem lnO71 (i s r len : Nat) : lenV Try.prog 71 (.ow i s r len) = some len := by kernel_rfl
@[simp] theorem lnN71 : lenV Try.prog 71 .nl = some 0 := by kernel_rfl
@[simp] theorem sz75 : tySize Try.prog 75 = some 1 := by kernel_rfl
@[simp] theorem ag75 : tyAgg Try.prog 75 = some false := by kernel_rfl
@[simp] theorem el75 : sliceElem Try.prog 75 = some 85 := by kernel_rfl
theorem by75 : (Try.prog.info? 85).map (fun i => (i.size, i.bytes)) = some (2, 16) := by kernel_rfl
@[simp] theorem iaF75 (rows : List (List PV)) (k : Int) : indexAddrV Try.prog 75 (.pv (.fz rows)) k = (if 0 ≤ k then match rows[k.toNat]? with | some row => if row.length = 2 then some (.fe row) else none | none => none else none) := by kernel_rfl
@[simp] theorem iaO75 (i s r len : Nat) (k : Int) : indexAddrV Try.prog 75 (.ow i s r len) k = (if 0 ≤ k ∧ k < len ∧ s = 2 then some (.ptr i (r + k.toNat) 0) else none) := by kernel_rfl
@[simp] theorem lnF75 (rows : List (List PV)) : lenV Try.prog 75 (.pv (.fz rows)) = some rows.length := by kernel_rfl
@[simp] theorem lnO75 (i s r len : Nat) : lenV Try.prog 75 (.ow i s r len) = some len := by kernel_rfl
@[simp] theorem lnN75 : lenV Try.prog 75 .nl = some 0 := by kernel_rfl
@[simp] theorem sz77 : tySize Try.prog 77 = some 3 := by kernel_rfl
@[simp] theorem ag77 : tyAgg Try.prog 77 = some true := by kernel_rfl
@[simp] theorem ze77 : zeroV Try.prog 77 = some (V.agg [V.pv (PV.sc (Value.int IntKind.i64 0)), V.nl, V.nl]) := by kernel_rfl
@[simp] theorem fa77_0 (i r off : Nat) : fieldAddrV Try.prog 77 0 (.ptr i r off) = some (.ptr i r (off + 0)) := by kernel_rfl
@[simp] theorem fe77_0 (cs : List PV) : fieldAddrV Try.prog 77 0 (.fe cs) = some (.fe (cs.drop 0)) := by kernel_rfl
@[simp] theorem fa77_1 (i r off : Nat) : fieldAddrV Try.prog 77 1 (.ptr i r off) = some (.ptr i r (off + 1)) := by kernel_rfl
@[simp] theorem fe77_1 (cs : List PV) : fieldAddrV Try.prog 77 1 (.fe cs) = some (.fe (cs.drop 1)) := by kernel_rfl
@[simp] theorem fa77_2 (i r off : Nat) : fieldAddrV Try.prog 77 2 (.ptr i r off) = some (.ptr i r (off + 2)) := by kernel_rfl
@[simp] theorem fe77_2 (cs : List PV) : fieldAddrV Try.prog 77 2 (.fe cs) = some (.fe (cs.drop 2)) := by kernel_rfl
theorem bp77 : buildP Try.prog 77 = some ([V.pv (PV.sc (Value.int IntKind.i64 0)), V.nl, V.nl], [(0, 1), (1, 1), (2, 1)]) := by kernel_rfl
@[simp] theorem sz82 : tySize Try.prog 82 = some 2 := by kernel_rfl
@[simp] theorem ag82 : tyAgg Try.prog 82 = some true := by kernel_rfl
@[simp] theorem ze82 : zeroV Try.prog 82 = some (V.agg [V.nl, V.nl]) := by kernel_rfl
@[simp] theorem fa82_0 (i r off : Nat) : fieldAddrV Try.prog 82 0 (.ptr i r off) = some (.ptr i r (off + 0)) := by kernel_rfl
@[simp] theorem fe82_0 (cs : List PV) : fieldAddrV Try.prog 82 0 (.fe cs) = some (.fe (cs.drop 0)) := by kernel_rfl
@[simp] theorem fa82_1 (i r off : Nat) : fieldAddrV Try.prog 82 1 (.ptr i r off) = some (.ptr i r (off + 1)) := by kernel_rfl
@[simp] theorem fe82_1 (cs : List PV) : fieldAddrV Try.prog 82 1 (.fe cs) = some (.fe (cs.drop 1)) := by kernel_rfl
theorem bp82 : buildP Try.prog 82 = some ([V.nl, V.nl], [(0, 1), (1, 1)]) := by kernel_rfl
@[simp] theorem sz85 : tySize Try.prog 85 = some 2 := by kernel_rfl
@[simp] theorem ag85 : tyAgg Try.prog 85 = some true := by kernel_rfl
@[simp] theorem ze85 : zeroV Try.prog 85 = some (V.pv (PV.agg [PV.sc (Value.int IntKind.i64 0), PV.sc (Value.int IntKind.i64 0)])) := by kernel_rfl
@[simp] theorem fa85_0 (i r off : Nat) : fieldAddrV Try.prog 85 0 (.ptr i r off) = some (.ptr i r (off + 0)) := by kernel_rfl
@[simp] theorem fe85_0 (cs : List PV) : fieldAddrV Try.prog 85 0 (.fe cs) = some (.fe (cs.drop 0)) := by kernel_rfl
@[simp] theorem fa85_1 (i r off : Nat) : fieldAddrV Try.prog 85 1 (.ptr i r off) = some (.ptr i r (off + 1)) := by kernel_rfl
@[simp] theorem fe85_1 (cs : List PV) : fieldAddrV Try.prog 85 1 (.fe cs) = some (.fe (cs.drop 1)) := by kernel_rfl
theorem bp85 : buildP Try.prog 85 = some ([V.pv (PV.sc (Value.int IntKind.i64 0)), V.pv (PV.sc (Value.int IntKind.i64 0))], [(0, 1), (1, 1)]) := by kernel_rfl
@[simp] theorem sz87 : tySize Try.prog 87 = some 1 := by kernel_rfl
@[simp] theorem el87 : sliceElem Try.prog 87 = some 2 := by kernel_rfl
theorem by87 : (Try.prog.info? 2).map (fun i => (i.size, i.bytes)) = some (1, 8) := by kernel_rfl
@[simp] theorem iaF87 (rows : List (List PV)) (k : Int) : indexAddrV Try.prog 87 (.pv (.fz rows)) k = (if 0 ≤ k then match rows[k.toNat]? with | some row => if row.length = 1 then some (.fe row) else none | none => none else none) := by kernel_rfl
@[simp] theorem iaO87 (i s r len : Nat) (k : Int) : indexAddrV Try.prog 87 (.ow i s r len) k = (if 0 ≤ k ∧ k < len ∧ s = 1 then some (.ptr i (r + k.toNat) 0) else none) := by kernel_rfl
@[simp] theorem lnF87 (rows : List (List PV)) : lenV Try.prog 87 (.pv (.fz rows)) = some rows.length := by kernel_rfl
@[simp] theorem lnO87 (i s r len : Nat) : lenV Try.prog 87 (.ow i s r len) = some len := by kernel_rfl
@[simp] theorem lnN87 : lenV Try.prog 87 .nl = some 0 := by kernel_rfl
@[simp] theorem sz92 : tySize Try.prog 92 = some 4 := by kernel_rfl
@[simp] theorem ag92 : tyAgg Try.prog 92 = some true := by kernel_rfl
@[simp] theorem ze92 : zeroV Try.prog 92 = some (V.pv (PV.agg [PV.sc (Value.bool false), PV.sc (Value.float FloatKind.f64 0), PV.sc (Value.int IntKind.i64 0), PV.sc (Value.int IntKind.i64 0)])) := by kernel_rfl
theorem bp92 : buildP Try.prog 92 = some ([V.pv (PV.sc (Value.bool false)), V.pv (PV.sc (Value.float FloatKind.f64 0)), V.pv (PV.sc (Value.int IntKind.i64 0)), V.pv (PV.sc (Value.int IntKind.i64 0))], [(0, 1), (1, 2), (3, 1)]) := by kernel_rfl
theorem bp96 : buildP Try.prog 96 = some ([], []) := by kernel_rfl
theorem ni96 : (match Try.prog.underlying 96 with | some (.interface _) => false | some _ => true | none => false) = true := by kernel_rfl
@[simp] theorem sz97 : tySize Try.prog 97 = some 1 := by kernel_rfl
@[simp] theorem sz99 : tySize Try.prog 99 = some 5 := by kernel_rfl
@[simp] theorem ag99 : tyAgg Try.prog 99 = some true := by kernel_rfl
@[simp] theorem ze99 : zeroV Try.prog 99 = some (V.agg [V.pv (PV.sc (Value.int IntKind.i64 0)), V.pv (PV.sc (Value.int IntKind.i64 0)), V.pv (PV.sc (Value.int IntKind.i64 0)), V.pv (PV.sc (Value.int IntKind.i64 0)), V.nl]) := by kernel_rfl
@[simp] theorem fa99_0 (i r off : Nat) : fieldAddrV Try.prog 99 0 (.ptr i r off) = some (.ptr i r (off + 0)) := by kernel_rfl
@[simp] theorem fe99_0 (cs : List PV) : fieldAddrV Try.prog 99 0 (.fe cs) = some (.fe (cs.drop 0)) := by kernel_rfl
@[simp] theorem fa99_1 (i r off : Nat) : fieldAddrV Try.prog 99 1 (.ptr i r off) = some (.ptr i r (off + 1)) := by kernel_rfl
@[simp] theorem fe99_1 (cs : List PV) : fieldAddrV Try.prog 99 1 (.fe cs) = some (.fe (cs.drop 1)) := by kernel_rfl
@[simp] theorem fa99_2 (i r off : Nat) : fieldAddrV Try.prog 99 2 (.ptr i r off) = some (.ptr i r (off + 2)) := by kernel_rfl
@[simp] theorem fe99_2 (cs : List PV) : fieldAddrV Try.prog 99 2 (.fe cs) = some (.fe (cs.drop 2)) := by kernel_rfl
@[simp] theorem fa99_3 (i r off : Nat) : fieldAddrV Try.prog 99 3 (.ptr i r off) = some (.ptr i r (off + 3)) := by kernel_rfl
@[simp] theorem fe99_3 (cs : List PV) : fieldAddrV Try.prog 99 3 (.fe cs) = some (.fe (cs.drop 3)) := by kernel_rfl
@[simp] theorem sz103 : tySize Try.prog 103 = some 2 := by kernel_rfl
@[simp] theorem ag103 : tyAgg Try.prog 103 = some true := by kernel_rfl
@[simp] theorem ze103 : zeroV Try.prog 103 = some (V.pv (PV.agg [PV.sc (Value.int IntKind.u64 0), PV.sc (Value.int IntKind.i64 0)])) := by kernel_rfl
@[simp] theorem fa103_0 (i r off : Nat) : fieldAddrV Try.prog 103 0 (.ptr i r off) = some (.ptr i r (off + 0)) := by kernel_rfl
@[simp] theorem fe103_0 (cs : List PV) : fieldAddrV Try.prog 103 0 (.fe cs) = some (.fe (cs.drop 0)) := by kernel_rfl
@[simp] theorem fa103_1 (i r off : Nat) : fieldAddrV Try.prog 103 1 (.ptr i r off) = some (.ptr i r (off + 1)) := by kernel_rfl
@[simp] theorem fe103_1 (cs : List PV) : fieldAddrV Try.prog 103 1 (.fe cs) = some (.fe (cs.drop 1)) := by kernel_rfl
theorem bp103 : buildP Try.prog 103 = some ([V.pv (PV.sc (Value.int IntKind.u64 0)), V.pv (PV.sc (Value.int IntKind.i64 0))], [(0, 1), (1, 1)]) := by kernel_rfl
@[simp] theorem sz116 : tySize Try.prog 116 = some 1 := by kernel_rfl
@[simp] theorem ag116 : tyAgg Try.prog 116 = some false := by kernel_rfl
@[simp] theorem el116 : sliceElem Try.prog 116 = some 40 := by kernel_rfl
theorem by116 : (Try.prog.info? 40).map (fun i => (i.size, i.bytes)) = some (3, 40) := by kernel_rfl
@[simp] theorem iaF116 (rows : List (List PV)) (k : Int) : indexAddrV Try.prog 116 (.pv (.fz rows)) k = (if 0 ≤ k then match rows[k.toNat]? with | some row => if row.length = 3 then some (.fe row) else none | none => none else none) := by kernel_rfl
@[simp] theorem iaO116 (i s r len : Nat) (k : Int) : indexAddrV Try.prog 116 (.ow i s r len) k = (if 0 ≤ k ∧ k < len ∧ s = 3 then some (.ptr i (r + k.toNat) 0) else none) := by kernel_rfl
@[simp] theorem lnF116 (rows : List (List PV)) : lenV Try.prog 116 (.pv (.fz rows)) = some rows.length := by kernel_rfl
@[simp] theorem lnO116 (i s r len : Nat) : lenV Try.prog 116 (.ow i s r len) = some len := by kernel_rfl
@[simp] theorem lnN116 : lenV Try.prog 116 .nl = some 0 := by kernel_rfl
@[simp] theorem fa118_0 (i r off : Nat) : fieldAddrV Try.prog 118 0 (.ptr i r off) = some (.ptr i r (off + 0)) := by kernel_rfl
@[simp] theorem fe118_0 (cs : List PV) : fieldAddrV Try.prog 118 0 (.fe cs) = some (.fe (cs.drop 0)) := by kernel_rfl
@[simp] theorem fa118_1 (i r off : Nat) : fieldAddrV Try.prog 118 1 (.ptr i r off) = some (.ptr i r (off + 1)) := by kernel_rfl
@[simp] theorem fe118_1 (cs : List PV) : fieldAddrV Try.prog 118 1 (.fe cs) = some (.fe (cs.drop 1)) := by kernel_rfl
theorem bp118 : buildP Try.prog 118 = some ([V.nl, V.pv (PV.sc (Value.int IntKind.u64 0))], [(0, 1), (1, 1)]) := by kernel_rfl
@[simp] theorem sz128 : tySize Try.prog 128 = some 3 := by kernel_rfl
@[simp] theorem ag128 : tyAgg Try.prog 128 = some true := by kernel_rfl
@[simp] theorem ze128 : zeroV Try.prog 128 = some (V.agg [V.pv (PV.sc (Value.int IntKind.i64 0)), V.pv (PV.sc (Value.int IntKind.i64 0)), V.nl]) := by kernel_rfl
@[simp] theorem fa128_0 (i r off : Nat) : fieldAddrV Try.prog 128 0 (.ptr i r off) = some (.ptr i r (off + 0)) := by kernel_rfl
@[simp] theorem fe128_0 (cs : List PV) : fieldAddrV Try.prog 128 0 (.fe cs) = some (.fe (cs.drop 0)) := by kernel_rfl
@[simp] theorem fa128_1 (i r off : Nat) : fieldAddrV Try.prog 128 1 (.ptr i r off) = some (.ptr i r (off + 1)) := by kernel_rfl
@[simp] theorem fe128_1 (cs : List PV) : fieldAddrV Try.prog 128 1 (.fe cs) = some (.fe (cs.drop 1)) := by kernel_rfl
theorem bp128 : buildP Try.prog 128 = some ([V.pv (PV.sc (Value.int IntKind.i64 0)), V.pv (PV.sc (Value.int IntKind.i64 0)), V.nl], [(0, 1), (1, 2)]) := by kernel_rfl
@[simp] theorem fa142_0 (i r off : Nat) : fieldAddrV Try.prog 142 0 (.ptr i r off) = some (.ptr i r (off + 0)) := by kernel_rfl
@[simp] theorem fe142_0 (cs : List PV) : fieldAddrV Try.prog 142 0 (.fe cs) = some (.fe (cs.drop 0)) := by kernel_rfl
@[simp] theorem fa142_3 (i r off : Nat) : fieldAddrV Try.prog 142 3 (.ptr i r off) = some (.ptr i r (off + 7)) := by kernel_rfl
@[simp] theorem fe142_3 (cs : List PV) : fieldAddrV Try.prog 142 3 (.fe cs) = some (.fe (cs.drop 7)) := by kernel_rfl
theorem bp142 : buildP Try.prog 142 = some ([V.pv (PV.sc (Value.int IntKind.i64 0)), V.pv (PV.sc (Value.float FloatKind.f64 0)), V.pv (PV.sc (Value.int IntKind.i64 0)), V.pv (PV.sc (Value.int IntKind.i64 0)), V.pv (PV.sc (Value.int IntKind.i64 0)), V.pv (PV.sc (Value.int IntKind.i64 0)), V.pv (PV.sc (Value.int IntKind.i64 0)), V.pv (PV.sc (Value.int IntKind.i64 0)), V.pv (PV.sc (Value.int IntKind.i64 0)), V.pv (PV.sc (Value.int IntKind.i64 0)), V.pv (PV.sc (Value.bool false)), V.pv (PV.sc (Value.int IntKind.u64 0)), V.pv (PV.sc (Value.int IntKind.i64 0)), V.nl, V.pv (PV.sc (Value.int IntKind.u64 0)), V.pv (PV.sc (Value.int IntKind.i64 0)), V.nl], [(0, 5), (5, 1), (6, 1), (7, 1), (8, 1), (9, 1), (10, 1), (11, 6)]) := by kernel_rfl
@[simp] theorem sz156 : tySize Try.prog 156 = some 1 := by kernel_rfl
@[simp] theorem el156 : sliceElem Try.prog 156 = some 5 := by kernel_rfl
theorem by156 : (Try.prog.info? 5).map (fun i => (i.size, i.bytes)) = some (1, 1) := by kernel_rfl
@[simp] theorem iaF156 (rows : List (List PV)) (k : Int) : indexAddrV Try.prog 156 (.pv (.fz rows)) k = (if 0 ≤ k then match rows[k.toNat]? with | some row => if row.length = 1 then some (.fe row) else none | none => none else none) := by kernel_rfl
@[simp] theorem iaO156 (i s r len : Nat) (k : Int) : indexAddrV Try.prog 156 (.ow i s r len) k = (if 0 ≤ k ∧ k < len ∧ s = 1 then some (.ptr i (r + k.toNat) 0) else none) := by kernel_rfl
@[simp] theorem lnF156 (rows : List (List PV)) : lenV Try.prog 156 (.pv (.fz rows)) = some rows.length := by kernel_rfl
@[simp] theorem lnO156 (i s r len : Nat) : lenV Try.prog 156 (.ow i s r len) = some len := by kernel_rfl
@[simp] theorem lnN156 : lenV Try.prog 156 .nl = some 0 := by kernel_rfl
@[simp] theorem hb2 : hasBody Try.prog 2 = true := by kernel_rfl
@[simp] theorem hb3 : hasBody Try.prog 3 = true := by kernel_rfl
@[simp] theorem hb4 : hasBody Try.prog 4 = true := by kernel_rfl
@[simp] theorem hb5 : hasBody Try.prog 5 = true := by kernel_rfl
@[simp] theorem hb6 : hasBody Try.prog 6 = true := by kernel_rfl
@[simp] theorem hb7 : hasBody Try.prog 7 = true := by kernel_rfl
@[simp] theorem hb8 : hasBody Try.prog 8 = true := by kernel_rfl
@[simp] theorem hb9 : hasBody Try.prog 9 = true := by kernel_rfl
@[simp] theorem hb10 : hasBody Try.prog 10 = true := by kernel_rfl
@[simp] theorem hb11 : hasBody Try.prog 11 = true := by kernel_rfl
@[simp] theorem hb12 : hasBody Try.prog 12 = true := by kernel_rfl
@[simp] theorem hb13 : hasBody Try.prog 13 = true := by kernel_rfl
@[simp] theorem hb14 : hasBody Try.prog 14 = true := by kernel_rfl
@[simp] theorem hb15 : hasBody Try.prog 15 = true := by kernel_rfl
@[simp] theorem hb16 : hasBody Try.prog 16 = true := by kernel_rfl
@[simp] theorem hb17 : hasBody Try.prog 17 = true := by kernel_rfl
@[simp] theorem hb18 : hasBody Try.prog 18 = true := by kernel_rfl
@[simp] theorem hb19 : hasBody Try.prog 19 = true := by kernel_rfl
@[simp] theorem hb20 : hasBody Try.prog 20 = true := by kernel_rfl
@[simp] theorem hb21 : hasBody Try.prog 21 = true := by kernel_rfl
@[simp] theorem hb22 : hasBody Try.prog 22 = true := by kernel_rfl
@[simp] theorem hb23 : hasBody Try.prog 23 = true := by kernel_rfl
@[simp] theorem hb24 : hasBody Try.prog 24 = true := by kernel_rfl
@[simp] theorem hb25 : hasBody Try.prog 25 = true := by kernel_rfl
@[simp] theorem hb26 : hasBody Try.prog 26 = true := by kernel_rfl
@[simp] theorem hb27 : hasBody Try.prog 27 = true := by kernel_rfl
@[simp] theorem hb28 : hasBody Try.prog 28 = true := by kernel_rfl
@[simp] theorem hb29 : hasBody Try.prog 29 = true := by kernel_rfl
@[simp] theorem hb30 : hasBody Try.prog 30 = true := by kernel_rfl
@[simp] theorem hb31 : hasBody Try.prog 31 = true := by kernel_rfl
@[simp] theorem hb32 : hasBody Try.prog 32 = true := by kernel_rfl
@[simp] theorem hb33 : hasBody Try.prog 33 = true := by kernel_rfl
@[simp] theorem hb34 : hasBody Try.prog 34 = true := by kernel_rfl
@[simp] theorem hb35 : hasBody Try.prog 35 = true := by kernel_rfl
@[simp] theorem hb36 : hasBody Try.prog 36 = true := by kernel_rfl
@[simp] theorem hb37 : hasBody Try.prog 37 = true := by kernel_rfl
@[simp] theorem hb38 : hasBody Try.prog 38 = true := by kernel_rfl
@[simp] theorem hb39 : hasBody Try.prog 39 = true := by kernel_rfl
@[simp] theorem hb40 : hasBody Try.prog 40 = true := by kernel_rfl
@[simp] theorem hb41 : hasBody Try.prog 41 = true := by kernel_rfl
@[simp] theorem hb42 : hasBody Try.prog 42 = true := by kernel_rfl
@[simp] theorem hb43 : hasBody Try.prog 43 = true := by kernel_rfl
@[simp] theorem hb44 : hasBody Try.prog 44 = true := by kernel_rfl
@[simp] theorem hb45 : hasBody Try.prog 45 = true := by kernel_rfl
@[simp] theorem hb46 : hasBody Try.prog 46 = true := by kernel_rfl
@[simp] theorem hb47 : hasBody Try.prog 47 = true := by kernel_rfl
@[simp] theorem hb48 : hasBody Try.prog 48 = true := by kernel_rfl
@[simp] theorem hb49 : hasBody Try.prog 49 = true := by kernel_rfl
@[simp] theorem hb50 : hasBody Try.prog 50 = true := by kernel_rfl
@[simp] theorem hb51 : hasBody Try.prog 51 = true := by kernel_rfl
@[simp] theorem hb52 : hasBody Try.prog 52 = true := by kernel_rfl
@[simp] theorem hb53 : hasBody Try.prog 53 = true := by kernel_rfl
@[simp] theorem hb54 : hasBody Try.prog 54 = true := by kernel_rfl
@[simp] theorem hb55 : hasBody Try.prog 55 = true := by kernel_rfl
@[simp] theorem hb56 : hasBody Try.prog 56 = true := by kernel_rfl
@[simp] theorem hb57 : hasBody Try.prog 57 = true := by kernel_rfl
@[simp] theorem hb58 : hasBody Try.prog 58 = true := by kernel_rfl
@[simp] theorem hb59 : hasBody Try.prog 59 = true := by kernel_rfl
@[simp] theorem hb60 : hasBody Try.prog 60 = true := by kernel_rfl
@[simp] theorem hb61 : hasBody Try.prog 61 = true := by kernel_rfl
@[simp] theorem hb62 : hasBody Try.prog 62 = true := by kernel_rfl
@[simp] theorem hb63 : hasBody Try.prog 63 = true := by kernel_rfl
@[simp] theorem hb64 : hasBody Try.prog 64 = true := by kernel_rfl
@[simp] theorem hb65 : hasBody Try.prog 65 = true := by kernel_rfl
@[simp] theorem hb66 : hasBody Try.prog 66 = true := by kernel_rfl
@[simp] theorem hb67 : hasBody Try.prog 67 = true := by kernel_rfl
@[simp] theorem hb68 : hasBody Try.prog 68 = true := by kernel_rfl
@[simp] theorem hb69 : hasBody Try.prog 69 = true := by kernel_rfl
@[simp] theorem hb70 : hasBody Try.prog 70 = true := by kernel_rfl
@[simp] theorem hb71 : hasBody Try.prog 71 = true := by kernel_rfl
@[simp] theorem hb72 : hasBody Try.prog 72 = true := by kernel_rfl
@[simp] theorem hb73 : hasBody Try.prog 73 = true := by kernel_rfl
theorem ext_from (n : Int) : extRun Try.prog 74 #[.int .u64 n] = some (.float .f64 n.toNat) := by kernel_rfl
theorem nb_from : hasBody Try.prog 74 = false := by kernel_rfl
@[simp] theorem hb75 : hasBody Try.prog 75 = true := by kernel_rfl
@[simp] theorem hb76 : hasBody Try.prog 76 = true := by kernel_rfl
@[simp] theorem hb77 : hasBody Try.prog 77 = true := by kernel_rfl
@[simp] theorem hb78 : hasBody Try.prog 78 = true := by kernel_rfl
@[simp] theorem hb79 : hasBody Try.prog 79 = true := by kernel_rfl
@[simp] theorem hb80 : hasBody Try.prog 80 = true := by kernel_rfl
theorem ext_bits (n : Nat) : extRun Try.prog 81 #[.float .f64 n] = some (.int .u64 n) := by kernel_rfl
theorem nb_bits : hasBody Try.prog 81 = false := by kernel_rfl
@[simp] theorem hb82 : hasBody Try.prog 82 = true := by kernel_rfl
@[simp] theorem hb83 : hasBody Try.prog 83 = true := by kernel_rfl
@[simp] theorem hb84 : hasBody Try.prog 84 = true := by kernel_rfl
@[simp] theorem hb85 : hasBody Try.prog 85 = true := by kernel_rfl
@[simp] theorem hb101 : hasBody Try.prog 101 = true := by kernel_rfl
end Go.Proofs.Ytfieppbehmglbaa.Ve
