import Derived.Test.YtlglcnljjpedcaaVeV
import Derived.Test.YtlglcnljjpedcaaProg
/-! Tables. -/
set_option linter.unusedVariables false
namespace Go.Proofs.Ytlglcnljjpedcaa.Ve
open Go
@[simp] theorem sz2 : tySize Try.prog 2 = some 1 := by kernel_rfl
@[simp] theorem ag2 : tyAgg Try.prog 2 = some false := by kernel_rfl
@[simp] theorem sz3 : tySize Try.prog 3 = some 1 := by kernel_rfl
@[simp] theorem ag3 : tyAgg Try.prog 3 = some false := by kernel_rfl
theorem bty : Try.prog.underlying 4 = some .bool := by kernel_rfl
@[simp] theorem sz5 : tySize Try.prog 5 = some 1 := by kernel_rfl
@[simp] theorem ag5 : tyAgg Try.prog 5 = some false := by kernel_rfl
@[simp] theorem ze5 : zeroV Try.prog 5 = some (V.pv (PV.sc (Value.int IntKind.u8 0))) := by kernel_rfl
@[simp] theorem sz9 : tySize Try.prog 9 = some 1 := by kernel_rfl
@[simp] theorem ag9 : tyAgg Try.prog 9 = some false := by kernel_rfl
@[simp] theorem ze9 : zeroV Try.prog 9 = some (V.pv (PV.sc (Value.string { data := { toList := [] } }))) := by kernel_rfl
@[simp] theorem sz22 : tySize Try.prog 22 = some 1 := by kernel_rfl
@[simp] theorem ag22 : tyAgg Try.prog 22 = some false := by kernel_rfl
@[simp] theorem ze22 : zeroV Try.prog 22 = some (V.pv (PV.sc (Value.int IntKind.u64 0))) := by kernel_rfl
@[simp] theorem sz24 : tySize Try.prog 24 = some 1 := by kernel_rfl
@[simp] theorem ag24 : tyAgg Try.prog 24 = some false := by kernel_rfl
@[simp] theorem ze24 : zeroV Try.prog 24 = some (V.pv (PV.sc (Value.float FloatKind.f64 0))) := by kernel_rfl
@[simp] theorem sz32 : tySize Try.prog 32 = some 1 := by kernel_rfl
@[simp] theorem el32 : sliceElem Try.prog 32 = some 24 := by kernel_rfl
theorem by32 : (Try.prog.info? 24).map (fun i => (i.size, i.bytes)) = some (1, 8) := by kernel_rfl
@[simp] theorem iaF32 (rows : List (List PV)) (k : Int) : indexAddrV Try.prog 32 (.pv (.fz rows)) k = (if 0 ≤ k then match rows[k.toNat]? with | some row => if row.length = 1 then some (.fe row) else none | none => none else none) := by kernel_rfl
@[simp] theorem iaO32 (i s r len : Nat) (k : Int) : indexAddrV Try.prog 32 (.ow i s r len) k = (if 0 ≤ k ∧ k < len ∧ s = 1 then some (.ptr i (r + k.toNat) 0) else none) := by kernel_rfl
@[simp] theorem lnF32 (rows : List (List PV)) : lenV Try.prog 32 (.pv (.fz rows)) = some rows.length := by kernel_rfl
@[simp] theorem lnO32 (i s r len : Nat) : lenV Try.prog 32 (.ow i s r len) = some len := by kernel_rfl
@[simp] theorem lnN32 : lenV Try.prog 32 .nl = some 0 := by kernel_rfl
@[simp] theorem sz42 : tySize Try.prog 42 = some 2 := by kernel_rfl
@[simp] theorem ag42 : tyAgg Try.prog 42 = some true := by kernel_rfl
@[simp] theorem ze42 : zeroV Try.prog 42 = some (V.pv (PV.agg [PV.sc (Value.int IntKind.u64 0), PV.sc (Value.int IntKind.i64 0)])) := by kernel_rfl
@[simp] theorem fa42_0 (i r off : Nat) : fieldAddrV Try.prog 42 0 (.ptr i r off) = some (.ptr i r (off + 0)) := by kernel_rfl
@[simp] theorem fe42_0 (cs : List PV) : fieldAddrV Try.prog 42 0 (.fe cs) = some (.fe (cs.drop 0)) := by kernel_rfl
@[simp] theorem fa42_1 (i r off : Nat) : fieldAddrV Try.prog 42 1 (.ptr i r off) = some (.ptr i r (off + 1)) := by kernel_rfl
@[simp] theorem fe42_1 (cs : List PV) : fieldAddrV Try.prog 42 1 (.fe cs) = some (.fe (cs.drop 1)) := by kernel_rfl
@[simp] theorem sz44 : tySize Try.prog 44 = some 2 := by kernel_rfl
@[simp] theorem ag44 : tyAgg Try.prog 44 = some true := by kernel_rfl
@[simp] theorem ze44 : zeroV Try.prog 44 = some (V.pv (PV.agg [PV.sc (Value.float FloatKind.f64 0), PV.sc (Value.int IntKind.i64 0)])) := by kernel_rfl
@[simp] theorem fa44_0 (i r off : Nat) : fieldAddrV Try.prog 44 0 (.ptr i r off) = some (.ptr i r (off + 0)) := by kernel_rfl
@[simp] theorem fe44_0 (cs : List PV) : fieldAddrV Try.prog 44 0 (.fe cs) = some (.fe (cs.drop 0)) := by kernel_rfl
@[simp] theorem fa44_1 (i r off : Nat) : fieldAddrV Try.prog 44 1 (.ptr i r off) = some (.ptr i r (off + 1)) := by kernel_rfl
@[simp] theorem fe44_1 (cs : List PV) : fieldAddrV Try.prog 44 1 (.fe cs) = some (.fe (cs.drop 1)) := by kernel_rfl
theorem bp44 : buildP Try.prog 44 = some ([V.pv (PV.sc (Value.float FloatKind.f64 0)), V.pv (PV.sc (Value.int IntKind.i64 0))], [(0, 1), (1, 1)]) := by kernel_rfl
theorem fv44_0 (c0 c1 : PV) : fieldV Try.prog 44 0 (.pv (.agg [c0, c1])) = some (.pv c0) := by kernel_rfl
theorem fw44_0 (c0 c1 : V) : fieldV Try.prog 44 0 (.agg [c0, c1]) = some c0 := by kernel_rfl
theorem ni44 : (match Try.prog.underlying 44 with | some (.interface _) => false | some _ => true | none => false) = true := by kernel_rfl
@[simp] theorem sz48 : tySize Try.prog 48 = some 2 := by kernel_rfl
@[simp] theorem ag48 : tyAgg Try.prog 48 = some true := by kernel_rfl
@[simp] theorem ze48 : zeroV Try.prog 48 = some (V.pv (PV.agg [PV.sc (Value.int IntKind.u64 0), PV.sc (Value.int IntKind.i64 0)])) := by kernel_rfl
@[simp] theorem fa48_0 (i r off : Nat) : fieldAddrV Try.prog 48 0 (.ptr i r off) = some (.ptr i r (off + 0)) := by kernel_rfl
@[simp] theorem fe48_0 (cs : List PV) : fieldAddrV Try.prog 48 0 (.fe cs) = some (.fe (cs.drop 0)) := by kernel_rfl
@[simp] theorem fa48_1 (i r off : Nat) : fieldAddrV Try.prog 48 1 (.ptr i r off) = some (.ptr i r (off + 1)) := by kernel_rfl
@[simp] theorem fe48_1 (cs : List PV) : fieldAddrV Try.prog 48 1 (.fe cs) = some (.fe (cs.drop 1)) := by kernel_rfl
theorem bp48 : buildP Try.prog 48 = some ([V.pv (PV.sc (Value.int IntKind.u64 0)), V.pv (PV.sc (Value.int IntKind.i64 0))], [(0, 1), (1, 1)]) := by kernel_rfl
@[simp] theorem sz62 : tySize Try.prog 62 = some 1 := by kernel_rfl
@[simp] theorem el62 : sliceElem Try.prog 62 = some 42 := by kernel_rfl
theorem by62 : (Try.prog.info? 42).map (fun i => (i.size, i.bytes)) = some (2, 16) := by kernel_rfl
@[simp] theorem iaF62 (rows : List (List PV)) (k : Int) : indexAddrV Try.prog 62 (.pv (.fz rows)) k = (if 0 ≤ k then match rows[k.toNat]? with | some row => if row.length = 2 then some (.fe row) else none | none => none else none) := by kernel_rfl
@[simp] theorem iaO62 (i s r len : Nat) (k : Int) : indexAddrV Try.prog 62 (.ow i s r len) k = (if 0 ≤ k ∧ k < len ∧ s = 2 then some (.ptr i (r + k.toNat) 0) else none) := by kernel_rfl
@[simp] theorem lnF62 (rows : List (List PV)) : lenV Try.prog 62 (.pv (.fz rows)) = some rows.length := by kernel_rfl
@[simp] theorem lnO62 (i s r len : Nat) : lenV Try.prog 62 (.ow i s r len) = some len := by kernel_rfl
@[simp] theorem lnN62 : lenV Try.prog 62 .nl = some 0 := by kernel_rfl
@[simp] theorem sz63 : tySize Try.prog 63 = some 1 := by kernel_rfl
@[simp] theorem el63 : sliceElem Try.prog 63 = some 44 := by kernel_rfl
theorem by63 : (Try.prog.info? 44).map (fun i => (i.size, i.bytes)) = some (2, 16) := by kernel_rfl
@[simp] theorem iaF63 (rows : List (List PV)) (k : Int) : indexAddrV Try.prog 63 (.pv (.fz rows)) k = (if 0 ≤ k then match rows[k.toNat]? with | some row => if row.length = 2 then some (.fe row) else none | none => none else none) := by kernel_rfl
@[simp] theorem iaO63 (i s r len : Nat) (k : Int) : indexAddrV Try.prog 63 (.ow i s r len) k = (if 0 ≤ k ∧ k < len ∧ s = 2 then some (.ptr i (r + k.toNat) 0) else none) := by kernel_rfl
@[simp] theorem lnF63 (rows : List (List PV)) : lenV Try.prog 63 (.pv (.fz rows)) = some rows.length := by kernel_rfl
@[simp] theorem lnO63 (i s r len : Nat) : lenV Try.prog 63 (.ow i s r len) = some len := by kernel_rfl
@[simp] theorem lnN63 : lenV Try.prog 63 .nl = some 0 := by kernel_rfl
@[simp] theorem sz64 : tySize Try.prog 64 = some 1 := by kernel_rfl
@[simp] theorem el64 : sliceElem Try.prog 64 = some 48 := by kernel_rfl
theorem by64 : (Try.prog.info? 48).map (fun i => (i.size, i.bytes)) = some (2, 16) := by kernel_rfl
@[simp] theorem iaF64 (rows : List (List PV)) (k : Int) : indexAddrV Try.prog 64 (.pv (.fz rows)) k = (if 0 ≤ k then match rows[k.toNat]? with | some row => if row.length = 2 then some (.fe row) else none | none => none else none) := by kernel_rfl
@[simp] theorem iaO64 (i s r len : Nat) (k : Int) : indexAddrV Try.prog 64 (.ow i s r len) k = (if 0 ≤ k ∧ k < len ∧ s = 2 then some (.ptr i (r + k.toNat) 0) else none) := by kernel_rfl
@[simp] theorem lnF64 (rows : List (List PV)) : lenV Try.prog 64 (.pv (.fz rows)) = some rows.length := by kernel_rfl
@[simp] theorem lnO64 (i s r len : Nat) : lenV Try.prog 64 (.ow i s r len) = some len := by kernel_rfl
@[simp] theorem lnN64 : lenV Try.prog 64 .nl = some 0 := by kernel_rfl
@[simp] theorem sz76 : tySize Try.prog 76 = some 1 := by kernel_rfl
@[simp] theorem el76 : sliceElem Try.prog 76 = some 79 := by kernel_rfl
theorem by76 : (Try.prog.info? 79).map (fun i => (i.size, i.bytes)) = some (3, 24) := by kernel_rfl
@[simp] theorem iaF76 (rows : List (List PV)) (k : Int) : indexAddrV Try.prog 76 (.pv (.fz rows)) k = (if 0 ≤ k then match rows[k.toNat]? with | some row => if row.length = 3 then some (.fe row) else none | none => none else none) := by kernel_rfl
@[simp] theorem iaO76 (i s r len : Nat) (k : Int) : indexAddrV Try.prog 76 (.ow i s r len) k = (if 0 ≤ k ∧ k < len ∧ s = 3 then some (.ptr i (r + k.toNat) 0) else none) := by kernel_rfl
@[simp] theorem lnF76 (rows : List (List PV)) : lenV Try.prog 76 (.pv (.fz rows)) = some rows.length := by kernel_rfl
@[simp] theorem lnO76 (i s r len : Nat) : lenV Try.prog 76 (.ow i s r len) = some len := by kernel_rfl
@[simp] theorem lnN76 : lenV Try.prog 76 .nl = some 0 := by kernel_rfl
@[simp] theorem sz79 : tySize Try.prog 79 = some 3 := by kernel_rfl
@[simp] theorem ze79 : zeroV Try.prog 79 = some (V.pv (PV.agg [PV.sc (Value.int IntKind.i64 0), PV.sc (Value.int IntKind.u64 0), PV.sc (Value.int IntKind.i64 0)])) := by kernel_rfl
@[simp] theorem fa79_0 (i r off : Nat) : fieldAddrV Try.prog 79 0 (.ptr i r off) = some (.ptr i r (off + 0)) := by kernel_rfl
@[simp] theorem fe79_0 (cs : List PV) : fieldAddrV Try.prog 79 0 (.fe cs) = some (.fe (cs.drop 0)) := by kernel_rfl
@[simp] theorem fa79_1 (i r off : Nat) : fieldAddrV Try.prog 79 1 (.ptr i r off) = some (.ptr i r (off + 1)) := by kernel_rfl
@[simp] theorem fe79_1 (cs : List PV) : fieldAddrV Try.prog 79 1 (.fe cs) = some (.fe (cs.drop 1)) := by kernel_rfl
@[simp] theorem ze93 : zeroV Try.prog 93 = some (V.pv (PV.agg [PV.sc (Value.int IntKind.u8 0), PV.sc (Value.int IntKind.u8 0), PV.sc (Value.int IntKind.u8 0), PV.sc (Value.int IntKind.u8 0), PV.sc (Value.int IntKind.u8 0), PV.sc (Value.int IntKind.u8 0), PV.sc (Value.int IntKind.u8 0), PV.sc (Value.int IntKind.u8 0), PV.sc (Value.int IntKind.u8 0), PV.sc (Value.int IntKind.u8 0), PV.sc (Value.int IntKind.u8 0), PV.sc (Value.int IntKind.u8 0), PV.sc (Value.int IntKind.u8 0), PV.sc (Value.int IntKind.u8 0), PV.sc (Value.int IntKind.u8 0), PV.sc (Value.int IntKind.u8 0)])) := by kernel_rfl
theorem iaA93 (i r off : Nat) (k : Int) : indexAddrV Try.prog 93 (.ptr i r off) k = (if 0 ≤ k ∧ k < 16 then some (.ptr i r (off + k.toNat * 1)) else none) := by kernel_rfl
theorem iaE93 (cs : List PV) (k : Int) : indexAddrV Try.prog 93 (.fe cs) k = (if 0 ≤ k ∧ k < 16 then some (.fe (cs.drop (k.toNat * 1))) else none) := by kernel_rfl
@[simp] theorem sz94 : tySize Try.prog 94 = some 1 := by kernel_rfl
@[simp] theorem el94 : sliceElem Try.prog 94 = some 5 := by kernel_rfl
theorem by94 : (Try.prog.info? 5).map (fun i => (i.size, i.bytes)) = some (1, 1) := by kernel_rfl
@[simp] theorem iaF94 (rows : List (List PV)) (k : Int) : indexAddrV Try.prog 94 (.pv (.fz rows)) k = (if 0 ≤ k then match rows[k.toNat]? with | some row => if row.length = 1 then some (.fe row) else none | none => none else none) := by kernel_rfl
@[simp] theorem iaO94 (i s r len : Nat) (k : Int) : indexAddrV Try.prog 94 (.ow i s r len) k = (if 0 ≤ k ∧ k < len ∧ s = 1 then some (.ptr i (r + k.toNat) 0) else none) := by kernel_rfl
@[simp] theorem lnF94 (rows : List (List PV)) : lenV Try.prog 94 (.pv (.fz rows)) = some rows.length := by kernel_rfl
@[simp] theorem lnO94 (i s r len : Nat) : lenV Try.prog 94 (.ow i s r len) = some len := by kernel_rfl
@[simp] theorem lnN94 : lenV Try.prog 94 .nl = some 0 := by kernel_rfl
@[simp] theorem sz97 : tySize Try.prog 97 = some 1 := by kernel_rfl
@[simp] theorem el97 : sliceElem Try.prog 97 = some 22 := by kernel_rfl
theorem by97 : (Try.prog.info? 22).map (fun i => (i.size, i.bytes)) = some (1, 8) := by kernel_rfl
@[simp] theorem iaF97 (rows : List (List PV)) (k : Int) : indexAddrV Try.prog 97 (.pv (.fz rows)) k = (if 0 ≤ k then match rows[k.toNat]? with | some row => if row.length = 1 then some (.fe row) else none | none => none else none) := by kernel_rfl
@[simp] theorem iaO97 (i s r len : Nat) (k : Int) : indexAddrV Try.prog 97 (.ow i s r len) k = (if 0 ≤ k ∧ k < len ∧ s = 1 then some (.ptr i (r + k.toNat) 0) else none) := by kernel_rfl
@[simp] theorem lnF97 (rows : List (List PV)) : lenV Try.prog 97 (.pv (.fz rows)) = some rows.length := by kernel_rfl
@[simp] theorem lnO97 (i s r len : Nat) : lenV Try.prog 97 (.ow i s r len) = some len := by kernel_rfl
@[simp] theorem lnN97 : lenV Try.prog 97 .nl = some 0 := by kernel_rfl
@[simp] theorem sz98 : tySize Try.prog 98 = some 1 := by kernel_rfl
@[simp] theorem ag98 : tyAgg Try.prog 98 = some false := by kernel_rfl
@[simp] theorem el98 : sliceElem Try.prog 98 = some 44 := by kernel_rfl
theorem by98 : (Try.prog.info? 44).map (fun i => (i.size, i.bytes)) = some (2, 16) := by kernel_rfl
@[simp] theorem iaF98 (rows : List (List PV)) (k : Int) : indexAddrV Try.prog 98 (.pv (.fz rows)) k = (if 0 ≤ k then match rows[k.toNat]? with | some row => if row.length = 2 then some (.fe row) else none | none => none else none) := by kernel_rfl
@[simp] theorem iaO98 (i s r len : Nat) (k : Int) : indexAddrV Try.prog 98 (.ow i s r len) k = (if 0 ≤ k ∧ k < len ∧ s = 2 then some (.ptr i (r + k.toNat) 0) else none) := by kernel_rfl
@[simp] theorem lnF98 (rows : List (List PV)) : lenV Try.prog 98 (.pv (.fz rows)) = some rows.length := by kernel_rfl
@[simp] theorem lnO98 (i s r len : Nat) : lenV Try.prog 98 (.ow i s r len) = some len := by kernel_rfl
@[simp] theorem lnN98 : lenV Try.prog 98 .nl = some 0 := by kernel_rfl
@[simp] theorem fa100_0 (i r off : Nat) : fieldAddrV Try.prog 100 0 (.ptr i r off) = some (.ptr i r (off + 0)) := by kernel_rfl
@[simp] theorem fe100_0 (cs : List PV) : fieldAddrV Try.prog 100 0 (.fe cs) = some (.fe (cs.drop 0)) := by kernel_rfl
theorem bp100 : buildP Try.prog 100 = some ([V.nl], [(0, 1)]) := by kernel_rfl
theorem ni102 : (match Try.prog.underlying 102 with | some (.interface _) => false | some _ => true | none => false) = true := by kernel_rfl
@[simp] theorem sz116 : tySize Try.prog 116 = some 1 := by kernel_rfl
@[simp] theorem el116 : sliceElem Try.prog 116 = some 9 := by kernel_rfl
theorem by116 : (Try.prog.info? 9).map (fun i => (i.size, i.bytes)) = some (1, 16) := by kernel_rfl
@[simp] theorem iaF116 (rows : List (List PV)) (k : Int) : indexAddrV Try.prog 116 (.pv (.fz rows)) k = (if 0 ≤ k then match rows[k.toNat]? with | some row => if row.length = 1 then some (.fe row) else none | none => none else none) := by kernel_rfl
@[simp] theorem iaO116 (i s r len : Nat) (k : Int) : indexAddrV Try.prog 116 (.ow i s r len) k = (if 0 ≤ k ∧ k < len ∧ s = 1 then some (.ptr i (r + k.toNat) 0) else none) := by kernel_rfl
@[simp] theorem lnF116 (rows : List (List PV)) : lenV Try.prog 116 (.pv (.fz rows)) = some rows.length := by kernel_rfl
@[simp] theorem lnO116 (i s r len : Nat) : lenV Try.prog 116 (.ow i s r len) = some len := by kernel_rfl
@[simp] theorem lnN116 : lenV Try.prog 116 .nl = some 0 := by kernel_rfl
@[simp] theorem hb2 : hasBody Try.prog 2 = true := by kernel_rfl
@[simp] theorem hb3 : hasBody Try.prog 3 = true := by kernel_rfl
@[simp] theorem hb4 : hasBody Try.prog 4 = true := by kernel_rfl
@[simp] theorem hb5 : hasBody Try.prog 5 = true := by kernel_rfl
@[simp] theorem hb6 : hasBody Try.prog 6 = true := by kernel_rfl
@[simp] theorem hb7 : hasBody Try.prog 7 = true := by kernel_rfl
@[simp] theorem hb8 : hasBody Try.prog 8 = true := by kernel_rfl
@[simp] theorem hb9 : hasBody Try.prog 9 = true := by kernel_rfl
@[simp] theorem hb10 : hasBody Try.prog 10 = true := by kernel_rfl
@[simp] theorem hb11 : hasBody Try.prog 11 = true := by kernel_rfl
@[simp] theorem hb12 : hasBody Try.prog 12 = true := by kernel_rfl
@[simp] theorem hb13 : hasBody Try.prog 13 = true := by kernel_rfl
@[simp] theorem hb14 : hasBody Try.prog 14 = true := by kernel_rfl
@[simp] theorem hb15 : hasBody Try.prog 15 = true := by kernel_rfl
@[simp] theorem hb16 : hasBody Try.prog 16 = true := by kernel_rfl
@[simp] theorem hb17 : hasBody Try.prog 17 = true := by kernel_rfl
@[simp] theorem hb18 : hasBody Try.prog 18 = true := by kernel_rfl
@[simp] theorem hb19 : hasBody Try.prog 19 = true := by kernel_rfl
@[simp] theorem hb20 : hasBody Try.prog 20 = true := by kernel_rfl
@[simp] theorem hb21 : hasBody Try.prog 21 = true := by kernel_rfl
@[simp] theorem hb22 : hasBody Try.prog 22 = true := by kernel_rfl
@[simp] theorem hb23 : hasBody Try.prog 23 = true := by kernel_rfl
@[simp] theorem hb24 : hasBody Try.prog 24 = true := by kernel_rfl
@[simp] theorem hb25 : hasBody Try.prog 25 = true := by kernel_rfl
theorem ext_bits (n : Nat) : extRun Try.prog 26 #[.float .f64 n] = some (.int .u64 n) := by kernel_rfl
theorem nb_bits : hasBody Try.prog 26 = false := by kernel_rfl
@[simp] theorem hb27 : hasBody Try.prog 27 = true := by kernel_rfl
@[simp] theorem hb28 : hasBody Try.prog 28 = true := by kernel_rfl
@[simp] theorem hb29 : hasBody Try.prog 29 = true := by kernel_rfl
@[simp] theorem hb30 : hasBody Try.prog 30 = true := by kernel_rfl
@[simp] theorem hb31 : hasBody Try.prog 31 = true := by kernel_rfl
@[simp] theorem hb32 : hasBody Try.prog 32 = true := by kernel_rfl
@[simp] theorem hb33 : hasBody Try.prog 33 = true := by kernel_rfl
@[simp] theorem hb34 : hasBody Try.prog 34 = true := by kernel_rfl
@[simp] theorem hb35 : hasBody Try.prog 35 = true := by kernel_rfl
@[simp] theorem hb36 : hasBody Try.prog 36 = true := by kernel_rfl
@[simp] theorem hb37 : hasBody Try.prog 37 = true := by kernel_rfl
@[simp] theorem hb38 : hasBody Try.prog 38 = true := by kernel_rfl
@[simp] theorem hb39 : hasBody Try.prog 39 = true := by kernel_rfl
@[simp] theorem hb40 : hasBody Try.prog 40 = true := by kernel_rfl
@[simp] theorem hb41 : hasBody Try.prog 41 = true := by kernel_rfl
@[simp] theorem hb42 : hasBody Try.prog 42 = true := by kernel_rfl
@[simp] theorem hb43 : hasBody Try.prog 43 = true := by kernel_rfl
@[simp] theorem hb44 : hasBody Try.prog 44 = true := by kernel_rfl
@[simp] theorem hb45 : hasBody Try.prog 45 = true := by kernel_rfl
@[simp] theorem hb46 : hasBody Try.prog 46 = true := by kernel_rfl
@[simp] theorem hb47 : hasBody Try.prog 47 = true := by kernel_rfl
@[simp] theorem hb48 : hasBody Try.prog 48 = true := by kernel_rfl
@[simp] theorem hb49 : hasBody Try.prog 49 = true := by kernel_rfl
@[simp] theorem hb50 : hasBody Try.prog 50 = true := by kernel_rfl
@[simp] theorem hb51 : hasBody Try.prog 51 = true := by kernel_rfl
@[simp] theorem hb52 : hasBody Try.prog 52 = true := by kernel_rfl
@[simp] theorem hb53 : hasBody Try.prog 53 = true := by kernel_rfl
@[simp] theorem hb54 : hasBody Try.prog 54 = true := by kernel_rfl
@[simp] theorem hb55 : hasBody Try.prog 55 = true := by kernel_rfl
@[simp] theorem hb56 : hasBody Try.prog 56 = true := by kernel_rfl
@[simp] theorem hb57 : hasBody Try.prog 57 = true := by kernel_rfl
@[simp] theorem hb58 : hasBody Try.prog 58 = true := by kernel_rfl
@[simp] theorem hb59 : hasBody Try.prog 59 = true := by kernel_rfl
@[simp] theorem hb60 : hasBody Try.prog 60 = true := by kernel_rfl
theorem ext_from (n : Int) : extRun Try.prog 61 #[.int .u64 n] = some (.float .f64 n.toNat) := by kernel_rfl
theorem nb_from : hasBody Try.prog 61 = false := by kernel_rfl
@[simp] theorem hb62 : hasBody Try.prog 62 = true := by kernel_rfl
@[simp] theorem hb63 : hasBody Try.prog 63 = true := by kernel_rfl
@[simp] theorem hb64 : hasBody Try.prog 64 = true := by kernel_rfl
@[simp] theorem hb65 : hasBody Try.prog 65 = true := by kernel_rfl
@[simp] theorem hb66 : hasBody Try.prog 66 = true := by kernel_rfl
@[simp] theorem hb67 : hasBody Try.prog 67 = true := by kernel_rfl
@[simp] theorem hb68 : hasBody Try.prog 68 = true := by kernel_rfl
@[simp] theorem hb69 : hasBody Try.prog 69 = true := by kernel_rfl
@[simp] theorem hb70 : hasBody Try.prog 70 = true := by kernel_rfl
@[simp] theorem hb71 : hasBody Try.prog 71 = true := by kernel_rfl
@[simp] theorem hb72 : hasBody Try.prog 72 = true := by kernel_rfl
@[simp] theorem hb73 : hasBody Try.prog 73 = true := by kernel_rfl
@[simp] theorem hb74 : hasBody Try.prog 74 = true := by kernel_rfl
@[simp] theorem hb75 : hasBody Try.prog 75 = true := by kernel_rfl
@[simp] theorem hb76 : hasBody Try.prog 76 = true := by kernel_rfl
@[simp] theorem hb93 : hasBody Try.prog 93 = true := by kernel_rfl
@[simp] theorem hb94 : hasBody Try.prog 94 = true := by kernel_rfl
@[simp] theorem hb95 : hasBody Try.prog 95 = true := by kernel_rfl
@[simp] theorem hb96 : hasBody Try.prog 96 = true := by kernel_rfl
@[simp] theorem hb97 : hasBody Try.prog 97 = true := by kernel_rfl
end Go.Proofs.Ytlglcnljjpedcaa.Ve
