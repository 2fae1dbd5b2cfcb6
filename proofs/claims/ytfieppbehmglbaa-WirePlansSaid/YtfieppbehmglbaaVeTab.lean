import Derived.Test.YtfieppbehmglbaaVeV
import Derived.Test.YtfieppbehmglbaaProg
/-! Tables. -/
set_option linter.unusedVariables false
namespace Go.Proofs.Ytfieppbehmglbaa.Ve
open Go
@[simp] theorem sz0 : tySize Try.prog 0 = some 1 := by kernel_rfl
@[simp] theorem ag0 : tyAgg Try.prog 0 = some false := by kernel_rfl
@[simp] theorem ze0 : zeroV Try.prog 0 = some (V.tup []) := by kernel_rfl
@[simp] theorem sz1 : tySize Try.prog 1 = some 1 := by kernel_rfl
@[simp] theorem ag1 : tyAgg Try.prog 1 = some false := by kernel_rfl
@[simp] theorem ze1 : zeroV Try.prog 1 = some (V.pv (PV.sc Value.nilFunc)) := by kernel_rfl
@[simp] theorem sz2 : tySize Try.prog 2 = some 1 := by kernel_rfl
@[simp] theorem ag2 : tyAgg Try.prog 2 = some false := by kernel_rfl
@[simp] theorem ze2 : zeroV Try.prog 2 = some (V.pv (PV.sc (Value.int IntKind.i64 0))) := by kernel_rfl
@[simp] theorem sz3 : tySize Try.prog 3 = some 1 := by kernel_rfl
@[simp] theorem ag3 : tyAgg Try.prog 3 = some false := by kernel_rfl
@[simp] theorem ze3 : zeroV Try.prog 3 = some (V.pv (PV.sc (Value.int IntKind.i64 0))) := by kernel_rfl
@[simp] theorem sz4 : tySize Try.prog 4 = some 1 := by kernel_rfl
@[simp] theorem ag4 : tyAgg Try.prog 4 = some false := by kernel_rfl
@[simp] theorem ze4 : zeroV Try.prog 4 = some (V.pv (PV.sc (Value.bool false))) := by kernel_rfl
@[simp] theorem sz5 : tySize Try.prog 5 = some 1 := by kernel_rfl
@[simp] theorem ag5 : tyAgg Try.prog 5 = some false := by kernel_rfl
@[simp] theorem ze5 : zeroV Try.prog 5 = some (V.pv (PV.sc (Value.int IntKind.u8 0))) := by kernel_rfl
@[simp] theorem sz6 : tySize Try.prog 6 = some 1 := by kernel_rfl
@[simp] theorem ag6 : tyAgg Try.prog 6 = some false := by kernel_rfl
@[simp] theorem ze6 : zeroV Try.prog 6 = some (V.pv (PV.sc (Value.int IntKind.u8 0))) := by kernel_rfl
@[simp] theorem sz7 : tySize Try.prog 7 = some 4 := by kernel_rfl
@[simp] theorem ag7 : tyAgg Try.prog 7 = some true := by kernel_rfl
@[simp] theorem ze7 : zeroV Try.prog 7 = some (V.pv (PV.agg [PV.sc (Value.int IntKind.i64 0), PV.sc (Value.int IntKind.i64 0), PV.sc (Value.bool false), PV.sc (Value.int IntKind.u8 0)])) := by kernel_rfl
@[simp] theorem fa7_0 (i r off : Nat) : fieldAddrV Try.prog 7 0 (.ptr i r off) = some (.ptr i r (off + 0)) := by kernel_rfl
@[simp] theorem fe7_0 (cs : List PV) : fieldAddrV Try.prog 7 0 (.fe cs) = some (.fe (cs.drop 0)) := by kernel_rfl
@[simp] theorem fa7_1 (i r off : Nat) : fieldAddrV Try.prog 7 1 (.ptr i r off) = some (.ptr i r (off + 1)) := by kernel_rfl
@[simp] theorem fe7_1 (cs : List PV) : fieldAddrV Try.prog 7 1 (.fe cs) = some (.fe (cs.drop 1)) := by kernel_rfl
@[simp] theorem fa7_2 (i r off : Nat) : fieldAddrV Try.prog 7 2 (.ptr i r off) = some (.ptr i r (off + 2)) := by kernel_rfl
@[simp] theorem fe7_2 (cs : List PV) : fieldAddrV Try.prog 7 2 (.fe cs) = some (.fe (cs.drop 2)) := by kernel_rfl
@[simp] theorem fa7_3 (i r off : Nat) : fieldAddrV Try.prog 7 3 (.ptr i r off) = some (.ptr i r (off + 3)) := by kernel_rfl
@[simp] theorem fe7_3 (cs : List PV) : fieldAddrV Try.prog 7 3 (.fe cs) = some (.fe (cs.drop 3)) := by kernel_rfl
@[simp] theorem sz8 : tySize Try.prog 8 = some 4 := by kernel_rfl
@[simp] theorem ag8 : tyAgg Try.prog 8 = some true := by kernel_rfl
@[simp] theorem ze8 : zeroV Try.prog 8 = some (V.pv (PV.agg [PV.sc (Value.int IntKind.i64 0), PV.sc (Value.int IntKind.i64 0), PV.sc (Value.bool false), PV.sc (Value.int IntKind.u8 0)])) := by kernel_rfl
@[simp] theorem fa8_0 (i r off : Nat) : fieldAddrV Try.prog 8 0 (.ptr i r off) = some (.ptr i r (off + 0)) := by kernel_rfl
@[simp] theorem fe8_0 (cs : List PV) : fieldAddrV Try.prog 8 0 (.fe cs) = some (.fe (cs.drop 0)) := by kernel_rfl
@[simp] theorem fa8_1 (i r off : Nat) : fieldAddrV Try.prog 8 1 (.ptr i r off) = some (.ptr i r (off + 1)) := by kernel_rfl
@[simp] theorem fe8_1 (cs : List PV) : fieldAddrV Try.prog 8 1 (.fe cs) = some (.fe (cs.drop 1)) := by kernel_rfl
@[simp] theorem fa8_2 (i r off : Nat) : fieldAddrV Try.prog 8 2 (.ptr i r off) = some (.ptr i r (off + 2)) := by kernel_rfl
@[simp] theorem fe8_2 (cs : List PV) : fieldAddrV Try.prog 8 2 (.fe cs) = some (.fe (cs.drop 2)) := by kernel_rfl
@[simp] theorem fa8_3 (i r off : Nat) : fieldAddrV Try.prog 8 3 (.ptr i r off) = some (.ptr i r (off + 3)) := by kernel_rfl
@[simp] theorem fe8_3 (cs : List PV) : fieldAddrV Try.prog 8 3 (.fe cs) = some (.fe (cs.drop 3)) := by kernel_rfl
@[simp] theorem sz9 : tySize Try.prog 9 = some 1 := by kernel_rfl
@[simp] theorem ag9 : tyAgg Try.prog 9 = some false := by kernel_rfl
@[simp] theorem ze9 : zeroV Try.prog 9 = some (V.pv (PV.sc (Value.string { data := { toList := [] } }))) := by kernel_rfl
@[simp] theorem sz10 : tySize Try.prog 10 = some 1 := by kernel_rfl
@[simp] theorem ag10 : tyAgg Try.prog 10 = some false := by kernel_rfl
@[simp] theorem ze10 : zeroV Try.prog 10 = some (V.pv (PV.sc (Value.string { data := { toList := [] } }))) := by kernel_rfl
@[simp] theorem sz11 : tySize Try.prog 11 = some 1 := by kernel_rfl
@[simp] theorem ag11 : tyAgg Try.prog 11 = some false := by kernel_rfl
@[simp] theorem ze11 : zeroV Try.prog 11 = some (V.pv (PV.sc (Value.string { data := { toList := [] } }))) := by kernel_rfl
@[simp] theorem sz12 : tySize Try.prog 12 = some 1 := by kernel_rfl
@[simp] theorem ag12 : tyAgg Try.prog 12 = some false := by kernel_rfl
@[simp] theorem ze12 : zeroV Try.prog 12 = some (V.pv (PV.sc (Value.int IntKind.u64 0))) := by kernel_rfl
@[simp] theorem sz13 : tySize Try.prog 13 = some 2 := by kernel_rfl
@[simp] theorem ag13 : tyAgg Try.prog 13 = some true := by kernel_rfl
@[simp] theorem ze13 : zeroV Try.prog 13 = some (V.pv (PV.agg [PV.sc (Value.string { data := { toList := [] } }), PV.sc (Value.int IntKind.u64 0)])) := by kernel_rfl
@[simp] theorem fa13_0 (i r off : Nat) : fieldAddrV Try.prog 13 0 (.ptr i r off) = some (.ptr i r (off + 0)) := by kernel_rfl
@[simp] theorem fe13_0 (cs : List PV) : fieldAddrV Try.prog 13 0 (.fe cs) = some (.fe (cs.drop 0)) := by kernel_rfl
@[simp] theorem fa13_1 (i r off : Nat) : fieldAddrV Try.prog 13 1 (.ptr i r off) = some (.ptr i r (off + 1)) := by kernel_rfl
@[simp] theorem fe13_1 (cs : List PV) : fieldAddrV Try.prog 13 1 (.fe cs) = some (.fe (cs.drop 1)) := by kernel_rfl
@[simp] theorem sz14 : tySize Try.prog 14 = some 2 := by kernel_rfl
@[simp] theorem ag14 : tyAgg Try.prog 14 = some true := by kernel_rfl
@[simp] theorem ze14 : zeroV Try.prog 14 = some (V.pv (PV.agg [PV.sc (Value.string { data := { toList := [] } }), PV.sc (Value.int IntKind.u64 0)])) := by kernel_rfl
@[simp] theorem fa14_0 (i r off : Nat) : fieldAddrV Try.prog 14 0 (.ptr i r off) = some (.ptr i r (off + 0)) := by kernel_rfl
@[simp] theorem fe14_0 (cs : List PV) : fieldAddrV Try.prog 14 0 (.fe cs) = some (.fe (cs.drop 0)) := by kernel_rfl
@[simp] theorem fa14_1 (i r off : Nat) : fieldAddrV Try.prog 14 1 (.ptr i r off) = some (.ptr i r (off + 1)) := by kernel_rfl
@[simp] theorem fe14_1 (cs : List PV) : fieldAddrV Try.prog 14 1 (.fe cs) = some (.fe (cs.drop 1)) := by kernel_rfl
@[simp] theorem sz15 : tySize Try.prog 15 = some 1 := by kernel_rfl
@[simp] theorem ag15 : tyAgg Try.prog 15 = some false := by kernel_rfl
@[simp] theorem ze15 : zeroV Try.prog 15 = some (V.pv (PV.sc (Value.pointer none))) := by kernel_rfl
@[simp] theorem sz16 : tySize Try.prog 16 = some 1 := by kernel_rfl
@[simp] theorem ag16 : tyAgg Try.prog 16 = some false := by kernel_rfl
@[simp] theorem ze16 : zeroV Try.prog 16 = some (V.pv (PV.sc (Value.pointer none))) := by kernel_rfl
@[simp] theorem sz17 : tySize Try.prog 17 = some 1 := by kernel_rfl
@[simp] theorem ag17 : tyAgg Try.prog 17 = some false := by kernel_rfl
@[simp] theorem ze17 : zeroV Try.prog 17 = some (V.pv (PV.sc (Value.pointer none))) := by kernel_rfl
@[simp] theorem sz18 : tySize Try.prog 18 = some 1 := by kernel_rfl
@[simp] theorem ag18 : tyAgg Try.prog 18 = some true := by kernel_rfl
@[simp] theorem ze18 : zeroV Try.prog 18 = some (V.pv (PV.agg [PV.sc (Value.pointer none)])) := by kernel_rfl
@[simp] theorem fa18_0 (i r off : Nat) : fieldAddrV Try.prog 18 0 (.ptr i r off) = some (.ptr i r (off + 0)) := by kernel_rfl
@[simp] theorem fe18_0 (cs : List PV) : fieldAddrV Try.prog 18 0 (.fe cs) = some (.fe (cs.drop 0)) := by kernel_rfl
@[simp] theorem sz19 : tySize Try.prog 19 = some 1 := by kernel_rfl
@[simp] theorem ag19 : tyAgg Try.prog 19 = some true := by kernel_rfl
@[simp] theorem ze19 : zeroV Try.prog 19 = some (V.pv (PV.agg [PV.sc (Value.pointer none)])) := by kernel_rfl
@[simp] theorem fa19_0 (i r off : Nat) : fieldAddrV Try.prog 19 0 (.ptr i r off) = some (.ptr i r (off + 0)) := by kernel_rfl
@[simp] theorem fe19_0 (cs : List PV) : fieldAddrV Try.prog 19 0 (.fe cs) = some (.fe (cs.drop 0)) := by kernel_rfl
@[simp] theorem sz20 : tySize Try.prog 20 = some 1 := by kernel_rfl
@[simp] theorem ag20 : tyAgg Try.prog 20 = some false := by kernel_rfl
@[simp] theorem ze20 : zeroV Try.prog 20 = some (V.pv (PV.sc Value.nilIface)) := by kernel_rfl
@[simp] theorem sz21 : tySize Try.prog 21 = some 1 := by kernel_rfl
@[simp] theorem ag21 : tyAgg Try.prog 21 = some false := by kernel_rfl
@[simp] theorem ze21 : zeroV Try.prog 21 = some (V.pv (PV.sc (Value.int IntKind.i32 0))) := by kernel_rfl
@[simp] theorem sz22 : tySize Try.prog 22 = some 1 := by kernel_rfl
@[simp] theorem ag22 : tyAgg Try.prog 22 = some false := by kernel_rfl
@[simp] theorem ze22 : zeroV Try.prog 22 = some V.nl := by kernel_rfl
@[simp] theorem el22 : sliceElem Try.prog 22 = some 27 := by kernel_rfl
theorem by22 : (Try.prog.info? 27).map (fun i => (i.size, i.bytes)) = some (2, 16) := by kernel_rfl
@[simp] theorem iaF22 (rows : List (List PV)) (k : Int) : indexAddrV Try.prog 22 (.pv (.fz rows)) k = (if 0 ≤ k then match rows[k.toNat]? with | some row => if row.length = 2 then some (.fe row) else none | none => none else none) := by kernel_rfl
@[simp] theorem iaO22 (i s r len : Nat) (k : Int) : indexAddrV Try.prog 22 (.ow i s r len) k = (if 0 ≤ k ∧ k < len ∧ s = 2 then some (.ptr i (r + k.toNat) 0) else none) := by kernel_rfl
@[simp] theorem lnF22 (rows : List (List PV)) : lenV Try.prog 22 (.pv (.fz rows)) = some rows.length := by kernel_rfl
@[simp] theorem lnO22 (i s r len : Nat) : lenV Try.prog 22 (.ow i s r len) = some len := by kernel_rfl
@[simp] theorem lnN22 : lenV Try.prog 22 .nl = some 0 := by kernel_rfl
@[simp] theorem sz23 : tySize Try.prog 23 = some 2 := by kernel_rfl
@[simp] theorem ag23 : tyAgg Try.prog 23 = some true := by kernel_rfl
@[simp] theorem ze23 : zeroV Try.prog 23 = some (V.agg [V.pv (PV.sc (Value.int IntKind.i64 0)), V.nl]) := by kernel_rfl
@[simp] theorem fa23_0 (i r off : Nat) : fieldAddrV Try.prog 23 0 (.ptr i r off) = some (.ptr i r (off + 0)) := by kernel_rfl
@[simp] theorem fe23_0 (cs : List PV) : fieldAddrV Try.prog 23 0 (.fe cs) = some (.fe (cs.drop 0)) := by kernel_rfl
@[simp] theorem fa23_1 (i r off : Nat) : fieldAddrV Try.prog 23 1 (.ptr i r off) = some (.ptr i r (off + 1)) := by kernel_rfl
@[simp] theorem fe23_1 (cs : List PV) : fieldAddrV Try.prog 23 1 (.fe cs) = some (.fe (cs.drop 1)) := by kernel_rfl
@[simp] theorem sz24 : tySize Try.prog 24 = some 2 := by kernel_rfl
@[simp] theorem ag24 : tyAgg Try.prog 24 = some true := by kernel_rfl
@[simp] theorem ze24 : zeroV Try.prog 24 = some (V.agg [V.pv (PV.sc (Value.int IntKind.i64 0)), V.nl]) := by kernel_rfl
@[simp] theorem fa24_0 (i r off : Nat) : fieldAddrV Try.prog 24 0 (.ptr i r off) = some (.ptr i r (off + 0)) := by kernel_rfl
@[simp] theorem fe24_0 (cs : List PV) : fieldAddrV Try.prog 24 0 (.fe cs) = some (.fe (cs.drop 0)) := by kernel_rfl
@[simp] theorem fa24_1 (i r off : Nat) : fieldAddrV Try.prog 24 1 (.ptr i r off) = some (.ptr i r (off + 1)) := by kernel_rfl
@[simp] theorem fe24_1 (cs : List PV) : fieldAddrV Try.prog 24 1 (.fe cs) = some (.fe (cs.drop 1)) := by kernel_rfl
@[simp] theorem sz25 : tySize Try.prog 25 = some 1 := by kernel_rfl
@[simp] theorem ag25 : tyAgg Try.prog 25 = some false := by kernel_rfl
@[simp] theorem ze25 : zeroV Try.prog 25 = some (V.pv (PV.sc (Value.int IntKind.u64 0))) := by kernel_rfl
@[simp] theorem sz26 : tySize Try.prog 26 = some 2 := by kernel_rfl
@[simp] theorem ag26 : tyAgg Try.prog 26 = some true := by kernel_rfl
@[simp] theorem ze26 : zeroV Try.prog 26 = some (V.pv (PV.agg [PV.sc (Value.int IntKind.u64 0), PV.sc (Value.int IntKind.i64 0)])) := by kernel_rfl
@[simp] theorem fa26_0 (i r off : Nat) : fieldAddrV Try.prog 26 0 (.ptr i r off) = some (.ptr i r (off + 0)) := by kernel_rfl
@[simp] theorem fe26_0 (cs : List PV) : fieldAddrV Try.prog 26 0 (.fe cs) = some (.fe (cs.drop 0)) := by kernel_rfl
@[simp] theorem fa26_1 (i r off : Nat) : fieldAddrV Try.prog 26 1 (.ptr i r off) = some (.ptr i r (off + 1)) := by kernel_rfl
@[simp] theorem fe26_1 (cs : List PV) : fieldAddrV Try.prog 26 1 (.fe cs) = some (.fe (cs.drop 1)) := by kernel_rfl
@[simp] theorem sz27 : tySize Try.prog 27 = some 2 := by kernel_rfl
@[simp] theorem ag27 : tyAgg Try.prog 27 = some true := by kernel_rfl
@[simp] theorem ze27 : zeroV Try.prog 27 = some (V.pv (PV.agg [PV.sc (Value.int IntKind.u64 0), PV.sc (Value.int IntKind.i64 0)])) := by kernel_rfl
@[simp] theorem fa27_0 (i r off : Nat) : fieldAddrV Try.prog 27 0 (.ptr i r off) = some (.ptr i r (off + 0)) := by kernel_rfl
@[simp] theorem fe27_0 (cs : List PV) : fieldAddrV Try.prog 27 0 (.fe cs) = some (.fe (cs.drop 0)) := by kernel_rfl
@[simp] theorem fa27_1 (i r off : Nat) : fieldAddrV Try.prog 27 1 (.ptr i r off) = some (.ptr i r (off + 1)) := by kernel_rfl
@[simp] theorem fe27_1 (cs : List PV) : fieldAddrV Try.prog 27 1 (.fe cs) = some (.fe (cs.drop 1)) := by kernel_rfl
@[simp] theorem sz28 : tySize Try.prog 28 = some 1 := by kernel_rfl
@[simp] theorem ag28 : tyAgg Try.prog 28 = some false := by kernel_rfl
@[simp] theorem ze28 : zeroV Try.prog 28 = some (V.pv (PV.sc Value.nilFunc)) := by kernel_rfl
@[simp] theorem sz29 : tySize Try.prog 29 = some 1 := by kernel_rfl
@[simp] theorem ag29 : tyAgg Try.prog 29 = some false := by kernel_rfl
@[simp] theorem ze29 : zeroV Try.prog 29 = some (V.pv (PV.sc (Value.pointer none))) := by kernel_rfl
@[simp] theorem sz30 : tySize Try.prog 30 = some 1 := by kernel_rfl
@[simp] theorem ag30 : tyAgg Try.prog 30 = some false := by kernel_rfl
@[simp] theorem ze30 : zeroV Try.prog 30 = some (V.pv (PV.sc Value.nilFunc)) := by kernel_rfl
@[simp] theorem sz31 : tySize Try.prog 31 = some 1 := by kernel_rfl
@[simp] theorem ag31 : tyAgg Try.prog 31 = some false := by kernel_rfl
@[simp] theorem ze31 : zeroV Try.prog 31 = some V.nl := by kernel_rfl
@[simp] theorem el31 : sliceElem Try.prog 31 = some 38 := by kernel_rfl
theorem by31 : (Try.prog.info? 38).map (fun i => (i.size, i.bytes)) = some (2, 16) := by kernel_rfl
@[simp] theorem iaF31 (rows : List (List PV)) (k : Int) : indexAddrV Try.prog 31 (.pv (.fz rows)) k = (if 0 ≤ k then match rows[k.toNat]? with | some row => if row.length = 2 then some (.fe row) else none | none => none else none) := by kernel_rfl
@[simp] theorem iaO31 (i s r len : Nat) (k : Int) : indexAddrV Try.prog 31 (.ow i s r len) k = (if 0 ≤ k ∧ k < len ∧ s = 2 then some (.ptr i (r + k.toNat) 0) else none) := by kernel_rfl
@[simp] theorem lnF31 (rows : List (List PV)) : lenV Try.prog 31 (.pv (.fz rows)) = some rows.length := by kernel_rfl
@[simp] theorem lnO31 (i s r len : Nat) : lenV Try.prog 31 (.ow i s r len) = some len := by kernel_rfl
@[simp] theorem lnN31 : lenV Try.prog 31 .nl = some 0 := by kernel_rfl
@[simp] theorem sz32 : tySize Try.prog 32 = some 2 := by kernel_rfl
@[simp] theorem ag32 : tyAgg Try.prog 32 = some true := by kernel_rfl
@[simp] theorem ze32 : zeroV Try.prog 32 = some (V.agg [V.pv (PV.sc (Value.int IntKind.i64 0)), V.nl]) := by kernel_rfl
@[simp] theorem fa32_0 (i r off : Nat) : fieldAddrV Try.prog 32 0 (.ptr i r off) = some (.ptr i r (off + 0)) := by kernel_rfl
@[simp] theorem fe32_0 (cs : List PV) : fieldAddrV Try.prog 32 0 (.fe cs) = some (.fe (cs.drop 0)) := by kernel_rfl
@[simp] theorem fa32_1 (i r off : Nat) : fieldAddrV Try.prog 32 1 (.ptr i r off) = some (.ptr i r (off + 1)) := by kernel_rfl
@[simp] theorem fe32_1 (cs : List PV) : fieldAddrV Try.prog 32 1 (.fe cs) = some (.fe (cs.drop 1)) := by kernel_rfl
@[simp] theorem sz33 : tySize Try.prog 33 = some 2 := by kernel_rfl
@[simp] theorem ag33 : tyAgg Try.prog 33 = some true := by kernel_rfl
@[simp] theorem ze33 : zeroV Try.prog 33 = some (V.agg [V.pv (PV.sc (Value.int IntKind.i64 0)), V.nl]) := by kernel_rfl
@[simp] theorem fa33_0 (i r off : Nat) : fieldAddrV Try.prog 33 0 (.ptr i r off) = some (.ptr i r (off + 0)) := by kernel_rfl
@[simp] theorem fe33_0 (cs : List PV) : fieldAddrV Try.prog 33 0 (.fe cs) = some (.fe (cs.drop 0)) := by kernel_rfl
@[simp] theorem fa33_1 (i r off : Nat) : fieldAddrV Try.prog 33 1 (.ptr i r off) = some (.ptr i r (off + 1)) := by kernel_rfl
@[simp] theorem fe33_1 (cs : List PV) : fieldAddrV Try.prog 33 1 (.fe cs) = some (.fe (cs.drop 1)) := by kernel_rfl
@[simp] theorem sz34 : tySize Try.prog 34 = some 1 := by kernel_rfl
@[simp] theorem ag34 : tyAgg Try.prog 34 = some false := by kernel_rfl
@[simp] theorem ze34 : zeroV Try.prog 34 = some (V.pv (PV.sc Value.nilFunc)) := by kernel_rfl
@[simp] theorem sz35 : tySize Try.prog 35 = some 1 := by kernel_rfl
@[simp] theorem ag35 : tyAgg Try.prog 35 = some false := by kernel_rfl
@[simp] theorem ze35 : zeroV Try.prog 35 = some (V.pv (PV.sc Value.nilFunc)) := by kernel_rfl
@[simp] theorem sz36 : tySize Try.prog 36 = some 1 := by kernel_rfl
@[simp] theorem ag36 : tyAgg Try.prog 36 = some false := by kernel_rfl
@[simp] theorem ze36 : zeroV Try.prog 36 = some (V.pv (PV.sc (Value.float FloatKind.f64 0))) := by kernel_rfl
@[simp] theorem sz37 : tySize Try.prog 37 = some 2 := by kernel_rfl
@[simp] theorem ag37 : tyAgg Try.prog 37 = some true := by kernel_rfl
@[simp] theorem ze37 : zeroV Try.prog 37 = some (V.pv (PV.agg [PV.sc (Value.float FloatKind.f64 0), PV.sc (Value.int IntKind.i64 0)])) := by kernel_rfl
@[simp] theorem fa37_0 (i r off : Nat) : fieldAddrV Try.prog 37 0 (.ptr i r off) = some (.ptr i r (off + 0)) := by kernel_rfl
@[simp] theorem fe37_0 (cs : List PV) : fieldAddrV Try.prog 37 0 (.fe cs) = some (.fe (cs.drop 0)) := by kernel_rfl
@[simp] theorem fa37_1 (i r off : Nat) : fieldAddrV Try.prog 37 1 (.ptr i r off) = some (.ptr i r (off + 1)) := by kernel_rfl
@[simp] theorem fe37_1 (cs : List PV) : fieldAddrV Try.prog 37 1 (.fe cs) = some (.fe (cs.drop 1)) := by kernel_rfl
@[simp] theorem sz38 : tySize Try.prog 38 = some 2 := by kernel_rfl
@[simp] theorem ag38 : tyAgg Try.prog 38 = some true := by kernel_rfl
@[simp] theorem ze38 : zeroV Try.prog 38 = some (V.pv (PV.agg [PV.sc (Value.float FloatKind.f64 0), PV.sc (Value.int IntKind.i64 0)])) := by kernel_rfl
@[simp] theorem fa38_0 (i r off : Nat) : fieldAddrV Try.prog 38 0 (.ptr i r off) = some (.ptr i r (off + 0)) := by kernel_rfl
@[simp] theorem fe38_0 (cs : List PV) : fieldAddrV Try.prog 38 0 (.fe cs) = some (.fe (cs.drop 0)) := by kernel_rfl
@[simp] theorem fa38_1 (i r off : Nat) : fieldAddrV Try.prog 38 1 (.ptr i r off) = some (.ptr i r (off + 1)) := by kernel_rfl
@[simp] theorem fe38_1 (cs : List PV) : fieldAddrV Try.prog 38 1 (.fe cs) = some (.fe (cs.drop 1)) := by kernel_rfl
@[simp] theorem sz39 : tySize Try.prog 39 = some 3 := by kernel_rfl
@[simp] theorem ag39 : tyAgg Try.prog 39 = some true := by kernel_rfl
@[simp] theorem ze39 : zeroV Try.prog 39 = some (V.agg [V.pv (PV.sc (Value.int IntKind.u64 0)), V.pv (PV.sc (Value.int IntKind.i64 0)), V.nl]) := by kernel_rfl
@[simp] theorem fa39_0 (i r off : Nat) : fieldAddrV Try.prog 39 0 (.ptr i r off) = some (.ptr i r (off + 0)) := by kernel_rfl
@[simp] theorem fe39_0 (cs : List PV) : fieldAddrV Try.prog 39 0 (.fe cs) = some (.fe (cs.drop 0)) := by kernel_rfl
@[simp] theorem fa39_1 (i r off : Nat) : fieldAddrV Try.prog 39 1 (.ptr i r off) = some (.ptr i r (off + 1)) := by kernel_rfl
@[simp] theorem fe39_1 (cs : List PV) : fieldAddrV Try.prog 39 1 (.fe cs) = some (.fe (cs.drop 1)) := by kernel_rfl
@[simp] theorem sz40 : tySize Try.prog 40 = some 3 := by kernel_rfl
@[simp] theorem ag40 : tyAgg Try.prog 40 = some true := by kernel_rfl
@[simp] theorem ze40 : zeroV Try.prog 40 = some (V.agg [V.pv (PV.sc (Value.int IntKind.u64 0)), V.pv (PV.sc (Value.int IntKind.i64 0)), V.nl]) := by kernel_rfl
@[simp] theorem fa40_0 (i r off : Nat) : fieldAddrV Try.prog 40 0 (.ptr i r off) = some (.ptr i r (off + 0)) := by kernel_rfl
@[simp] theorem fe40_0 (cs : List PV) : fieldAddrV Try.prog 40 0 (.fe cs) = some (.fe (cs.drop 0)) := by kernel_rfl
@[simp] theorem fa40_1 (i r off : Nat) : fieldAddrV Try.prog 40 1 (.ptr i r off) = some (.ptr i r (off + 1)) := by kernel_rfl
@[simp] theorem fe40_1 (cs : List PV) : fieldAddrV Try.prog 40 1 (.fe cs) = some (.fe (cs.drop 1)) := by kernel_rfl
@[simp] theorem sz41 : tySize Try.prog 41 = some 1 := by kernel_rfl
@[simp] theorem ag41 : tyAgg Try.prog 41 = some false := by kernel_rfl
@[simp] theorem ze41 : zeroV Try.prog 41 = some (V.pv (PV.sc Value.nilFunc)) := by kernel_rfl
@[simp] theorem sz42 : tySize Try.prog 42 = some 1 := by kernel_rfl
@[simp] theorem ag42 : tyAgg Try.prog 42 = some false := by kernel_rfl
@[simp] theorem ze42 : zeroV Try.prog 42 = some (V.pv (PV.sc Value.nilFunc)) := by kernel_rfl
@[simp] theorem sz43 : tySize Try.prog 43 = some 1 := by kernel_rfl
@[simp] theorem ag43 : tyAgg Try.prog 43 = some false := by kernel_rfl
@[simp] theorem ze43 : zeroV Try.prog 43 = some (V.pv (PV.sc Value.nilFunc)) := by kernel_rfl
@[simp] theorem sz44 : tySize Try.prog 44 = some 1 := by kernel_rfl
@[simp] theorem ag44 : tyAgg Try.prog 44 = some false := by kernel_rfl
@[simp] theorem ze44 : zeroV Try.prog 44 = some V.nl := by kernel_rfl
@[simp] theorem el44 : sliceElem Try.prog 44 = some 103 := by kernel_rfl
theorem by44 : (Try.prog.info? 103).map (fun i => (i.size, i.bytes)) = some (2, 16) := by kernel_rfl
@[simp] theorem iaF44 (rows : List (List PV)) (k : Int) : indexAddrV Try.prog 44 (.pv (.fz rows)) k = (if 0 ≤ k then match rows[k.toNat]? with | some row => if row.length = 2 then some (.fe row) else none | none => none else none) := by kernel_rfl
@[simp] theorem iaO44 (i s r len : Nat) (k : Int) : indexAddrV Try.prog 44 (.ow i s r len) k = (if 0 ≤ k ∧ k < len ∧ s = 2 then some (.ptr i (r + k.toNat) 0) else none) := by kernel_rfl
@[simp] theorem lnF44 (rows : List (List PV)) : lenV Try.prog 44 (.pv (.fz rows)) = some rows.length := by kernel_rfl
@[simp] theorem lnO44 (i s r len : Nat) : lenV Try.prog 44 (.ow i s r len) = some len := by kernel_rfl
@[simp] theorem lnN44 : lenV Try.prog 44 .nl = some 0 := by kernel_rfl
@[simp] theorem sz45 : tySize Try.prog 45 = some 2 := by kernel_rfl
@[simp] theorem ag45 : tyAgg Try.prog 45 = some true := by kernel_rfl
@[simp] theorem ze45 : zeroV Try.prog 45 = some (V.agg [V.pv (PV.sc (Value.int IntKind.i64 0)), V.nl]) := by kernel_rfl
@[simp] theorem fa45_0 (i r off : Nat) : fieldAddrV Try.prog 45 0 (.ptr i r off) = some (.ptr i r (off + 0)) := by kernel_rfl
@[simp] theorem fe45_0 (cs : List PV) : fieldAddrV Try.prog 45 0 (.fe cs) = some (.fe (cs.drop 0)) := by kernel_rfl
@[simp] theorem fa45_1 (i r off : Nat) : fieldAddrV Try.prog 45 1 (.ptr i r off) = some (.ptr i r (off + 1)) := by kernel_rfl
@[simp] theorem fe45_1 (cs : List PV) : fieldAddrV Try.prog 45 1 (.fe cs) = some (.fe (cs.drop 1)) := by kernel_rfl
@[simp] theorem sz46 : tySize Try.prog 46 = some 2 := by kernel_rfl
@[simp] theorem ag46 : tyAgg Try.prog 46 = some true := by kernel_rfl
@[simp] theorem ze46 : zeroV Try.prog 46 = some (V.agg [V.pv (PV.sc (Value.int IntKind.i64 0)), V.nl]) := by kernel_rfl
@[simp] theorem fa46_0 (i r off : Nat) : fieldAddrV Try.prog 46 0 (.ptr i r off) = some (.ptr i r (off + 0)) := by kernel_rfl
@[simp] theorem fe46_0 (cs : List PV) : fieldAddrV Try.prog 46 0 (.fe cs) = some (.fe (cs.drop 0)) := by kernel_rfl
@[simp] theorem fa46_1 (i r off : Nat) : fieldAddrV Try.prog 46 1 (.ptr i r off) = some (.ptr i r (off + 1)) := by kernel_rfl
@[simp] theorem fe46_1 (cs : List PV) : fieldAddrV Try.prog 46 1 (.fe cs) = some (.fe (cs.drop 1)) := by kernel_rfl
@[simp] theorem sz47 : tySize Try.prog 47 = some 1 := by kernel_rfl
@[simp] theorem ag47 : tyAgg Try.prog 47 = some false := by kernel_rfl
@[simp] theorem ze47 : zeroV Try.prog 47 = some (V.pv (PV.sc Value.nilFunc)) := by kernel_rfl
@[simp] theorem sz48 : tySize Try.prog 48 = some 1 := by kernel_rfl
@[simp] theorem ag48 : tyAgg Try.prog 48 = some false := by kernel_rfl
@[simp] theorem ze48 : zeroV Try.prog 48 = some (V.pv (PV.sc Value.nilFunc)) := by kernel_rfl
@[simp] theorem sz49 : tySize Try.prog 49 = some 1 := by kernel_rfl
@[simp] theorem ag49 : tyAgg Try.prog 49 = some false := by kernel_rfl
@[simp] theorem ze49 : zeroV Try.prog 49 = some V.nl := by kernel_rfl
@[simp] theorem el49 : sliceElem Try.prog 49 = some 99 := by kernel_rfl
theorem by49 : (Try.prog.info? 99).map (fun i => (i.size, i.bytes)) = some (5, 56) := by kernel_rfl
@[simp] theorem iaF49 (rows : List (List PV)) (k : Int) : indexAddrV Try.prog 49 (.pv (.fz rows)) k = (if 0 ≤ k then match rows[k.toNat]? with | some row => if row.length = 5 then some (.fe row) else none | none => none else none) := by kernel_rfl
@[simp] theorem iaO49 (i s r len : Nat) (k : Int) : indexAddrV Try.prog 49 (.ow i s r len) k = (if 0 ≤ k ∧ k < len ∧ s = 5 then some (.ptr i (r + k.toNat) 0) else none) := by kernel_rfl
@[simp] theorem lnF49 (rows : List (List PV)) : lenV Try.prog 49 (.pv (.fz rows)) = some rows.length := by kernel_rfl
@[simp] theorem lnO49 (i s r len : Nat) : lenV Try.prog 49 (.ow i s r len) = some len := by kernel_rfl
@[simp] theorem lnN49 : lenV Try.prog 49 .nl = some 0 := by kernel_rfl
@[simp] theorem sz50 : tySize Try.prog 50 = some 1 := by kernel_rfl
@[simp] theorem ag50 : tyAgg Try.prog 50 = some false := by kernel_rfl
@[simp] theorem ze50 : zeroV Try.prog 50 = some V.nl := by kernel_rfl
@[simp] theorem el50 : sliceElem Try.prog 50 = some 128 := by kernel_rfl
theorem by50 : (Try.prog.info? 128).map (fun i => (i.size, i.bytes)) = some (3, 40) := by kernel_rfl
@[simp] theorem iaF50 (rows : List (List PV)) (k : Int) : indexAddrV Try.prog 50 (.pv (.fz rows)) k = (if 0 ≤ k then match rows[k.toNat]? with | some row => if row.length = 3 then some (.fe row) else none | none => none else none) := by kernel_rfl
@[simp] theorem iaO50 (i s r len : Nat) (k : Int) : indexAddrV Try.prog 50 (.ow i s r len) k = (if 0 ≤ k ∧ k < len ∧ s = 3 then some (.ptr i (r + k.toNat) 0) else none) := by kernel_rfl
@[simp] theorem lnF50 (rows : List (List PV)) : lenV Try.prog 50 (.pv (.fz rows)) = some rows.length := by kernel_rfl
@[simp] theorem lnO50 (i s r len : Nat) : lenV Try.prog 50 (.ow i s r len) = some len := by kernel_rfl
@[simp] theorem lnN50 : lenV Try.prog 50 .nl = some 0 := by kernel_rfl
@[simp] theorem sz51 : tySize Try.prog 51 = some 1 := by kernel_rfl
@[simp] theorem ag51 : tyAgg Try.prog 51 = some true := by kernel_rfl
@[simp] theorem ze51 : zeroV Try.prog 51 = some (V.agg [V.nl]) := by kernel_rfl
@[simp] theorem fa51_0 (i r off : Nat) : fieldAddrV Try.prog 51 0 (.ptr i r off) = some (.ptr i r (off + 0)) := by kernel_rfl
@[simp] theorem fe51_0 (cs : List PV) : fieldAddrV Try.prog 51 0 (.fe cs) = some (.fe (cs.drop 0)) := by kernel_rfl
@[simp] theorem sz52 : tySize Try.prog 52 = some 1 := by kernel_rfl
@[simp] theorem ag52 : tyAgg Try.prog 52 = some true := by kernel_rfl
@[simp] theorem ze52 : zeroV Try.prog 52 = some (V.agg [V.nl]) := by kernel_rfl
@[simp] theorem fa52_0 (i r off : Nat) : fieldAddrV Try.prog 52 0 (.ptr i r off) = some (.ptr i r (off + 0)) := by kernel_rfl
@[simp] theorem fe52_0 (cs : List PV) : fieldAddrV Try.prog 52 0 (.fe cs) = some (.fe (cs.drop 0)) := by kernel_rfl
@[simp] theorem sz53 : tySize Try.prog 53 = some 1 := by kernel_rfl
@[simp] theorem ag53 : tyAgg Try.prog 53 = some false := by kernel_rfl
@[simp] theorem ze53 : zeroV Try.prog 53 = some (V.tup [V.pv (PV.sc (Value.pointer none)), V.agg [V.nl], V.pv (PV.sc (Value.bool false))]) := by kernel_rfl
@[simp] theorem sz54 : tySize Try.prog 54 = some 1 := by kernel_rfl
@[simp] theorem ag54 : tyAgg Try.prog 54 = some false := by kernel_rfl
@[simp] theorem ze54 : zeroV Try.prog 54 = some (V.pv (PV.sc Value.nilFunc)) := by kernel_rfl
@[simp] theorem sz55 : tySize Try.prog 55 = some 1 := by kernel_rfl
@[simp] theorem ag55 : tyAgg Try.prog 55 = some false := by kernel_rfl
@[simp] theorem ze55 : zeroV Try.prog 55 = some V.nl := by kernel_rfl
@[simp] theorem el55 : sliceElem Try.prog 55 = some 3 := by kernel_rfl
theorem by55 : (Try.prog.info? 3).map (fun i => (i.size, i.bytes)) = some (1, 8) := by kernel_rfl
@[simp] theorem iaF55 (rows : List (List PV)) (k : Int) : indexAddrV Try.prog 55 (.pv (.fz rows)) k = (if 0 ≤ k then match rows[k.toNat]? with | some row => if row.length = 1 then some (.fe row) else none | none => none else none) := by kernel_rfl
@[simp] theorem iaO55 (i s r len : Nat) (k : Int) : indexAddrV Try.prog 55 (.ow i s r len) k = (if 0 ≤ k ∧ k < len ∧ s = 1 then some (.ptr i (r + k.toNat) 0) else none) := by kernel_rfl
@[simp] theorem lnF55 (rows : List (List PV)) : lenV Try.prog 55 (.pv (.fz rows)) = some rows.length := by kernel_rfl
@[simp] theorem lnO55 (i s r len : Nat) : lenV Try.prog 55 (.ow i s r len) = some len := by kernel_rfl
@[simp] theorem lnN55 : lenV Try.prog 55 .nl = some 0 := by kernel_rfl
@[simp] theorem sz56 : tySize Try.prog 56 = some 1 := by kernel_rfl
@[simp] theorem ag56 : tyAgg Try.prog 56 = some false := by kernel_rfl
@[simp] theorem ze56 : zeroV Try.prog 56 = some (V.tup [V.pv (PV.sc (Value.int IntKind.i64 0)), V.agg [V.pv (PV.sc (Value.int IntKind.i64 0)), V.nl]]) := by kernel_rfl
@[simp] theorem sz57 : tySize Try.prog 57 = some 1 := by kernel_rfl
@[simp] theorem ag57 : tyAgg Try.prog 57 = some false := by kernel_rfl
@[simp] theorem ze57 : zeroV Try.prog 57 = some (V.pv (PV.sc Value.nilFunc)) := by kernel_rfl
@[simp] theorem sz58 : tySize Try.prog 58 = some 1 := by kernel_rfl
@[simp] theorem ag58 : tyAgg Try.prog 58 = some false := by kernel_rfl
@[simp] theorem ze58 : zeroV Try.prog 58 = some (V.pv (PV.sc Value.nilFunc)) := by kernel_rfl
@[simp] theorem sz59 : tySize Try.prog 59 = some 2 := by kernel_rfl
@[simp] theorem ag59 : tyAgg Try.prog 59 = some true := by kernel_rfl
@[simp] theorem ze59 : zeroV Try.prog 59 = some (V.pv (PV.agg [PV.sc (Value.int IntKind.i64 0), PV.sc (Value.int IntKind.i64 0)])) := by kernel_rfl
@[simp] theorem sz60 : tySize Try.prog 60 = some 5 := by kernel_rfl
@[simp] theorem ag60 : tyAgg Try.prog 60 = some true := by kernel_rfl
@[simp] theorem ze60 : zeroV Try.prog 60 = some (V.pv (PV.agg [PV.sc (Value.int IntKind.i64 0), PV.sc (Value.float FloatKind.f64 0), PV.sc (Value.int IntKind.i64 0), PV.sc (Value.int IntKind.i64 0), PV.sc (Value.int IntKind.i64 0)])) := by kernel_rfl
@[simp] theorem fa60_0 (i r off : Nat) : fieldAddrV Try.prog 60 0 (.ptr i r off) = some (.ptr i r (off + 0)) := by kernel_rfl
@[simp] theorem fe60_0 (cs : List PV) : fieldAddrV Try.prog 60 0 (.fe cs) = some (.fe (cs.drop 0)) := by kernel_rfl
@[simp] theorem fa60_1 (i r off : Nat) : fieldAddrV Try.prog 60 1 (.ptr i r off) = some (.ptr i r (off + 1)) := by kernel_rfl
@[simp] theorem fe60_1 (cs : List PV) : fieldAddrV Try.prog 60 1 (.fe cs) = some (.fe (cs.drop 1)) := by kernel_rfl
@[simp] theorem fa60_2 (i r off : Nat) : fieldAddrV Try.prog 60 2 (.ptr i r off) = some (.ptr i r (off + 3)) := by kernel_rfl
@[simp] theorem fe60_2 (cs : List PV) : fieldAddrV Try.prog 60 2 (.fe cs) = some (.fe (cs.drop 3)) := by kernel_rfl
@[simp] theorem sz61 : tySize Try.prog 61 = some 5 := by kernel_rfl
@[simp] theorem ag61 : tyAgg Try.prog 61 = some true := by kernel_rfl
@[simp] theorem ze61 : zeroV Try.prog 61 = some (V.pv (PV.agg [PV.sc (Value.int IntKind.i64 0), PV.sc (Value.float FloatKind.f64 0), PV.sc (Value.int IntKind.i64 0), PV.sc (Value.int IntKind.i64 0), PV.sc (Value.int IntKind.i64 0)])) := by kernel_rfl
@[simp] theorem fa61_0 (i r off : Nat) : fieldAddrV Try.prog 61 0 (.ptr i r off) = some (.ptr i r (off + 0)) := by kernel_rfl
@[simp] theorem fe61_0 (cs : List PV) : fieldAddrV Try.prog 61 0 (.fe cs) = some (.fe (cs.drop 0)) := by kernel_rfl
@[simp] theorem fa61_1 (i r off : Nat) : fieldAddrV Try.prog 61 1 (.ptr i r off) = some (.ptr i r (off + 1)) := by kernel_rfl
@[simp] theorem fe61_1 (cs : List PV) : fieldAddrV Try.prog 61 1 (.fe cs) = some (.fe (cs.drop 1)) := by kernel_rfl
@[simp] theorem fa61_2 (i r off : Nat) : fieldAddrV Try.prog 61 2 (.ptr i r off) = some (.ptr i r (off + 3)) := by kernel_rfl
@[simp] theorem fe61_2 (cs : List PV) : fieldAddrV Try.prog 61 2 (.fe cs) = some (.fe (cs.drop 3)) := by kernel_rfl
@[simp] theorem sz62 : tySize Try.prog 62 = some 1 := by kernel_rfl
@[simp] theorem ag62 : tyAgg Try.prog 62 = some false := by kernel_rfl
@[simp] theorem ze62 : zeroV Try.prog 62 = some (V.tup [V.pv (PV.sc (Value.int IntKind.i64 0)), V.pv (PV.sc (Value.int IntKind.i64 0))]) := by kernel_rfl
@[simp] theorem sz63 : tySize Try.prog 63 = some 1 := by kernel_rfl
@[simp] theorem ag63 : tyAgg Try.prog 63 = some false := by kernel_rfl
@[simp] theorem ze63 : zeroV Try.prog 63 = some (V.pv (PV.sc Value.nilFunc)) := by kernel_rfl
@[simp] theorem sz64 : tySize Try.prog 64 = some 1 := by kernel_rfl
@[simp] theorem ag64 : tyAgg Try.prog 64 = some false := by kernel_rfl
@[simp] theorem ze64 : zeroV Try.prog 64 = some (V.pv (PV.sc Value.nilFunc)) := by kernel_rfl
@[simp] theorem sz65 : tySize Try.prog 65 = some 1 := by kernel_rfl
@[simp] theorem ag65 : tyAgg Try.prog 65 = some false := by kernel_rfl
@[simp] theorem ze65 : zeroV Try.prog 65 = some (V.pv (PV.sc (Value.int IntKind.i64 0))) := by kernel_rfl
@[simp] theorem sz66 : tySize Try.prog 66 = some 1 := by kernel_rfl
@[simp] theorem ag66 : tyAgg Try.prog 66 = some false := by kernel_rfl
@[simp] theorem ze66 : zeroV Try.prog 66 = some (V.pv (PV.sc Value.nilFunc)) := by kernel_rfl
@[simp] theorem sz67 : tySize Try.prog 67 = some 1 := by kernel_rfl
@[simp] theorem ag67 : tyAgg Try.prog 67 = some false := by kernel_rfl
@[simp] theorem ze67 : zeroV Try.prog 67 = some (V.pv (PV.sc Value.nilFunc)) := by kernel_rfl
@[simp] theorem sz68 : tySize Try.prog 68 = some 1 := by kernel_rfl
@[simp] theorem ag68 : tyAgg Try.prog 68 = some false := by kernel_rfl
@[simp] theorem ze68 : zeroV Try.prog 68 = some (V.pv (PV.sc Value.nilFunc)) := by kernel_rfl
@[simp] theorem sz69 : tySize Try.prog 69 = some 1 := by kernel_rfl
@[simp] theorem ag69 : tyAgg Try.prog 69 = some false := by kernel_rfl
@[simp] theorem ze69 : zeroV Try.prog 69 = some (V.pv (PV.sc Value.nilFunc)) := by kernel_rfl
@[simp] theorem sz70 : tySize Try.prog 70 = some 1 := by kernel_rfl
@[simp] theorem ag70 : tyAgg Try.prog 70 = some false := by kernel_rfl
@[simp] theorem ze70 : zeroV Try.prog 70 = some (V.pv (PV.sc Value.nilFunc)) := by kernel_rfl
@[simp] theorem sz71 : tySize Try.prog 71 = some 1 := by kernel_rfl
@[simp] theorem ag71 : tyAgg Try.prog 71 = some false := by kernel_rfl
@[simp] theorem ze71 : zeroV Try.prog 71 = some V.nl := by kernel_rfl
@[simp] theorem el71 : sliceElem Try.prog 71 = some 9 := by kernel_rfl
theorem by71 : (Try.prog.info? 9).map (fun i => (i.size, i.bytes)) = some (1, 16) := by kernel_rfl
@[simp] theorem iaF71 (rows : List (List PV)) (k : Int) : indexAddrV Try.prog 71 (.pv (.fz rows)) k = (if 0 ≤ k then match rows[k.toNat]? with | some row => if row.length = 1 then some (.fe row) else none | none => none else none) := by kernel_rfl
@[simp] theorem iaO71 (i s r len : Nat) (k : Int) : indexAddrV Try.prog 71 (.ow i s r len) k = (if 0 ≤ k ∧ k < len ∧ s = 1 then some (.ptr i (r + k.toNat) 0) else none) := by kernel_rfl
@[simp] theorem lnF71 (rows : List (List PV)) : lenV Try.prog 71 (.pv (.fz rows)) = some rows.length := by kernel_rfl
@[simp] theorem lnO71 (i s r len : Nat) : lenV Try.prog 71 (.ow i s r len) = some len := by kernel_rfl
@[simp] theorem lnN71 : lenV Try.prog 71 .nl = some 0 := by kernel_rfl
@[simp] theorem sz72 : tySize Try.prog 72 = some 1 := by kernel_rfl
@[simp] theorem ag72 : tyAgg Try.prog 72 = some false := by kernel_rfl
@[simp] theorem ze72 : zeroV Try.prog 72 = some (V.pv (PV.sc Value.nilFunc)) := by kernel_rfl
@[simp] theorem sz73 : tySize Try.prog 73 = some 1 := by kernel_rfl
@[simp] theorem ag73 : tyAgg Try.prog 73 = some false := by kernel_rfl
@[simp] theorem ze73 : zeroV Try.prog 73 = some (V.pv (PV.sc Value.nilFunc)) := by kernel_rfl
@[simp] theorem sz74 : tySize Try.prog 74 = some 1 := by kernel_rfl
@[simp] theorem ag74 : tyAgg Try.prog 74 = some false := by kernel_rfl
@[simp] theorem ze74 : zeroV Try.prog 74 = some (V.pv (PV.sc Value.nilFunc)) := by kernel_rfl
@[simp] theorem sz75 : tySize Try.prog 75 = some 1 := by kernel_rfl
@[simp] theorem ag75 : tyAgg Try.prog 75 = some false := by kernel_rfl
@[simp] theorem ze75 : zeroV Try.prog 75 = some V.nl := by kernel_rfl
@[simp] theorem el75 : sliceElem Try.prog 75 = some 85 := by kernel_rfl
theorem by75 : (Try.prog.info? 85).map (fun i => (i.size, i.bytes)) = some (2, 16) := by kernel_rfl
@[simp] theorem iaF75 (rows : List (List PV)) (k : Int) : indexAddrV Try.prog 75 (.pv (.fz rows)) k = (if 0 ≤ k then match rows[k.toNat]? with | some row => if row.length = 2 then some (.fe row) else none | none => none else none) := by kernel_rfl
@[simp] theorem iaO75 (i s r len : Nat) (k : Int) : indexAddrV Try.prog 75 (.ow i s r len) k = (if 0 ≤ k ∧ k < len ∧ s = 2 then some (.ptr i (r + k.toNat) 0) else none) := by kernel_rfl
@[simp] theorem lnF75 (rows : List (List PV)) : lenV Try.prog 75 (.pv (.fz rows)) = some rows.length := by kernel_rfl
@[simp] theorem lnO75 (i s r len : Nat) : lenV Try.prog 75 (.ow i s r len) = some len := by kernel_rfl
@[simp] theorem lnN75 : lenV Try.prog 75 .nl = some 0 := by kernel_rfl
@[simp] theorem sz76 : tySize Try.prog 76 = some 3 := by kernel_rfl
@[simp] theorem ag76 : tyAgg Try.prog 76 = some true := by kernel_rfl
@[simp] theorem ze76 : zeroV Try.prog 76 = some (V.agg [V.pv (PV.sc (Value.int IntKind.i64 0)), V.nl, V.nl]) := by kernel_rfl
@[simp] theorem fa76_0 (i r off : Nat) : fieldAddrV Try.prog 76 0 (.ptr i r off) = some (.ptr i r (off + 0)) := by kernel_rfl
@[simp] theorem fe76_0 (cs : List PV) : fieldAddrV Try.prog 76 0 (.fe cs) = some (.fe (cs.drop 0)) := by kernel_rfl
@[simp] theorem fa76_1 (i r off : Nat) : fieldAddrV Try.prog 76 1 (.ptr i r off) = some (.ptr i r (off + 1)) := by kernel_rfl
@[simp] theorem fe76_1 (cs : List PV) : fieldAddrV Try.prog 76 1 (.fe cs) = some (.fe (cs.drop 1)) := by kernel_rfl
@[simp] theorem fa76_2 (i r off : Nat) : fieldAddrV Try.prog 76 2 (.ptr i r off) = some (.ptr i r (off + 2)) := by kernel_rfl
@[simp] theorem fe76_2 (cs : List PV) : fieldAddrV Try.prog 76 2 (.fe cs) = some (.fe (cs.drop 2)) := by kernel_rfl
@[simp] theorem sz77 : tySize Try.prog 77 = some 3 := by kernel_rfl
@[simp] theorem ag77 : tyAgg Try.prog 77 = some true := by kernel_rfl
@[simp] theorem ze77 : zeroV Try.prog 77 = some (V.agg [V.pv (PV.sc (Value.int IntKind.i64 0)), V.nl, V.nl]) := by kernel_rfl
@[simp] theorem fa77_0 (i r off : Nat) : fieldAddrV Try.prog 77 0 (.ptr i r off) = some (.ptr i r (off + 0)) := by kernel_rfl
@[simp] theorem fe77_0 (cs : List PV) : fieldAddrV Try.prog 77 0 (.fe cs) = some (.fe (cs.drop 0)) := by kernel_rfl
@[simp] theorem fa77_1 (i r off : Nat) : fieldAddrV Try.prog 77 1 (.ptr i r off) = some (.ptr i r (off + 1)) := by kernel_rfl
@[simp] theorem fe77_1 (cs : List PV) : fieldAddrV Try.prog 77 1 (.fe cs) = some (.fe (cs.drop 1)) := by kernel_rfl
@[simp] theorem fa77_2 (i r off : Nat) : fieldAddrV Try.prog 77 2 (.ptr i r off) = some (.ptr i r (off + 2)) := by kernel_rfl
@[simp] theorem fe77_2 (cs : List PV) : fieldAddrV Try.prog 77 2 (.fe cs) = some (.fe (cs.drop 2)) := by kernel_rfl
@[simp] theorem sz78 : tySize Try.prog 78 = some 1 := by kernel_rfl
@[simp] theorem ag78 : tyAgg Try.prog 78 = some false := by kernel_rfl
@[simp] theorem ze78 : zeroV Try.prog 78 = some (V.tup [V.agg [V.pv (PV.sc (Value.int IntKind.i64 0)), V.nl, V.nl], V.pv (PV.sc (Value.int IntKind.i64 0))]) := by kernel_rfl
@[simp] theorem sz79 : tySize Try.prog 79 = some 1 := by kernel_rfl
@[simp] theorem ag79 : tyAgg Try.prog 79 = some false := by kernel_rfl
@[simp] theorem ze79 : zeroV Try.prog 79 = some (V.pv (PV.sc Value.nilFunc)) := by kernel_rfl
@[simp] theorem sz80 : tySize Try.prog 80 = some 1 := by kernel_rfl
@[simp] theorem ag80 : tyAgg Try.prog 80 = some false := by kernel_rfl
@[simp] theorem ze80 : zeroV Try.prog 80 = some (V.pv (PV.sc Value.nilFunc)) := by kernel_rfl
@[simp] theorem sz81 : tySize Try.prog 81 = some 2 := by kernel_rfl
@[simp] theorem ag81 : tyAgg Try.prog 81 = some true := by kernel_rfl
@[simp] theorem ze81 : zeroV Try.prog 81 = some (V.agg [V.nl, V.nl]) := by kernel_rfl
@[simp] theorem fa81_0 (i r off : Nat) : fieldAddrV Try.prog 81 0 (.ptr i r off) = some (.ptr i r (off + 0)) := by kernel_rfl
@[simp] theorem fe81_0 (cs : List PV) : fieldAddrV Try.prog 81 0 (.fe cs) = some (.fe (cs.drop 0)) := by kernel_rfl
@[simp] theorem fa81_1 (i r off : Nat) : fieldAddrV Try.prog 81 1 (.ptr i r off) = some (.ptr i r (off + 1)) := by kernel_rfl
@[simp] theorem fe81_1 (cs : List PV) : fieldAddrV Try.prog 81 1 (.fe cs) = some (.fe (cs.drop 1)) := by kernel_rfl
@[simp] theorem sz82 : tySize Try.prog 82 = some 2 := by kernel_rfl
@[simp] theorem ag82 : tyAgg Try.prog 82 = some true := by kernel_rfl
@[simp] theorem ze82 : zeroV Try.prog 82 = some (V.agg [V.nl, V.nl]) := by kernel_rfl
@[simp] theorem fa82_0 (i r off : Nat) : fieldAddrV Try.prog 82 0 (.ptr i r off) = some (.ptr i r (off + 0)) := by kernel_rfl
@[simp] theorem fe82_0 (cs : List PV) : fieldAddrV Try.prog 82 0 (.fe cs) = some (.fe (cs.drop 0)) := by kernel_rfl
@[simp] theorem fa82_1 (i r off : Nat) : fieldAddrV Try.prog 82 1 (.ptr i r off) = some (.ptr i r (off + 1)) := by kernel_rfl
@[simp] theorem fe82_1 (cs : List PV) : fieldAddrV Try.prog 82 1 (.fe cs) = some (.fe (cs.drop 1)) := by kernel_rfl
@[simp] theorem sz83 : tySize Try.prog 83 = some 1 := by kernel_rfl
@[simp] theorem ag83 : tyAgg Try.prog 83 = some false := by kernel_rfl
@[simp] theorem ze83 : zeroV Try.prog 83 = some (V.pv (PV.sc Value.nilFunc)) := by kernel_rfl
@[simp] theorem sz84 : tySize Try.prog 84 = some 2 := by kernel_rfl
@[simp] theorem ag84 : tyAgg Try.prog 84 = some true := by kernel_rfl
@[simp] theorem ze84 : zeroV Try.prog 84 = some (V.pv (PV.agg [PV.sc (Value.int IntKind.i64 0), PV.sc (Value.int IntKind.i64 0)])) := by kernel_rfl
@[simp] theorem fa84_0 (i r off : Nat) : fieldAddrV Try.prog 84 0 (.ptr i r off) = some (.ptr i r (off + 0)) := by kernel_rfl
@[simp] theorem fe84_0 (cs : List PV) : fieldAddrV Try.prog 84 0 (.fe cs) = some (.fe (cs.drop 0)) := by kernel_rfl
@[simp] theorem fa84_1 (i r off : Nat) : fieldAddrV Try.prog 84 1 (.ptr i r off) = some (.ptr i r (off + 1)) := by kernel_rfl
@[simp] theorem fe84_1 (cs : List PV) : fieldAddrV Try.prog 84 1 (.fe cs) = some (.fe (cs.drop 1)) := by kernel_rfl
@[simp] theorem sz85 : tySize Try.prog 85 = some 2 := by kernel_rfl
@[simp] theorem ag85 : tyAgg Try.prog 85 = some true := by kernel_rfl
@[simp] theorem ze85 : zeroV Try.prog 85 = some (V.pv (PV.agg [PV.sc (Value.int IntKind.i64 0), PV.sc (Value.int IntKind.i64 0)])) := by kernel_rfl
@[simp] theorem fa85_0 (i r off : Nat) : fieldAddrV Try.prog 85 0 (.ptr i r off) = some (.ptr i r (off + 0)) := by kernel_rfl
@[simp] theorem fe85_0 (cs : List PV) : fieldAddrV Try.prog 85 0 (.fe cs) = some (.fe (cs.drop 0)) := by kernel_rfl
@[simp] theorem fa85_1 (i r off : Nat) : fieldAddrV Try.prog 85 1 (.ptr i r off) = some (.ptr i r (off + 1)) := by kernel_rfl
@[simp] theorem fe85_1 (cs : List PV) : fieldAddrV Try.prog 85 1 (.fe cs) = some (.fe (cs.drop 1)) := by kernel_rfl
@[simp] theorem sz86 : tySize Try.prog 86 = some 1 := by kernel_rfl
@[simp] theorem ag86 : tyAgg Try.prog 86 = some false := by kernel_rfl
@[simp] theorem ze86 : zeroV Try.prog 86 = some (V.pv (PV.sc Value.nilFunc)) := by kernel_rfl
@[simp] theorem sz87 : tySize Try.prog 87 = some 1 := by kernel_rfl
@[simp] theorem ag87 : tyAgg Try.prog 87 = some false := by kernel_rfl
@[simp] theorem ze87 : zeroV Try.prog 87 = some V.nl := by kernel_rfl
@[simp] theorem el87 : sliceElem Try.prog 87 = some 2 := by kernel_rfl
theorem by87 : (Try.prog.info? 2).map (fun i => (i.size, i.bytes)) = some (1, 8) := by kernel_rfl
@[simp] theorem iaF87 (rows : List (List PV)) (k : Int) : indexAddrV Try.prog 87 (.pv (.fz rows)) k = (if 0 ≤ k then match rows[k.toNat]? with | some row => if row.length = 1 then some (.fe row) else none | none => none else none) := by kernel_rfl
@[simp] theorem iaO87 (i s r len : Nat) (k : Int) : indexAddrV Try.prog 87 (.ow i s r len) k = (if 0 ≤ k ∧ k < len ∧ s = 1 then some (.ptr i (r + k.toNat) 0) else none) := by kernel_rfl
@[simp] theorem lnF87 (rows : List (List PV)) : lenV Try.prog 87 (.pv (.fz rows)) = some rows.length := by kernel_rfl
@[simp] theorem lnO87 (i s r len : Nat) : lenV Try.prog 87 (.ow i s r len) = some len := by kernel_rfl
@[simp] theorem lnN87 : lenV Try.prog 87 .nl = some 0 := by kernel_rfl
@[simp] theorem sz88 : tySize Try.prog 88 = some 1 := by kernel_rfl
@[simp] theorem ag88 : tyAgg Try.prog 88 = some false := by kernel_rfl
@[simp] theorem ze88 : zeroV Try.prog 88 = some (V.pv (PV.sc Value.nilFunc)) := by kernel_rfl
@[simp] theorem sz89 : tySize Try.prog 89 = some 1 := by kernel_rfl
@[simp] theorem ag89 : tyAgg Try.prog 89 = some false := by kernel_rfl
@[simp] theorem ze89 : zeroV Try.prog 89 = some (V.pv (PV.sc Value.nilFunc)) := by kernel_rfl
@[simp] theorem sz90 : tySize Try.prog 90 = some 1 := by kernel_rfl
@[simp] theorem ag90 : tyAgg Try.prog 90 = some false := by kernel_rfl
@[simp] theorem ze90 : zeroV Try.prog 90 = some (V.pv (PV.sc Value.nilFunc)) := by kernel_rfl
@[simp] theorem sz91 : tySize Try.prog 91 = some 4 := by kernel_rfl
@[simp] theorem ag91 : tyAgg Try.prog 91 = some true := by kernel_rfl
@[simp] theorem ze91 : zeroV Try.prog 91 = some (V.pv (PV.agg [PV.sc (Value.bool false), PV.sc (Value.float FloatKind.f64 0), PV.sc (Value.int IntKind.i64 0), PV.sc (Value.int IntKind.i64 0)])) := by kernel_rfl
@[simp] theorem fa91_0 (i r off : Nat) : fieldAddrV Try.prog 91 0 (.ptr i r off) = some (.ptr i r (off + 0)) := by kernel_rfl
@[simp] theorem fe91_0 (cs : List PV) : fieldAddrV Try.prog 91 0 (.fe cs) = some (.fe (cs.drop 0)) := by kernel_rfl
@[simp] theorem fa91_1 (i r off : Nat) : fieldAddrV Try.prog 91 1 (.ptr i r off) = some (.ptr i r (off + 1)) := by kernel_rfl
@[simp] theorem fe91_1 (cs : List PV) : fieldAddrV Try.prog 91 1 (.fe cs) = some (.fe (cs.drop 1)) := by kernel_rfl
@[simp] theorem fa91_2 (i r off : Nat) : fieldAddrV Try.prog 91 2 (.ptr i r off) = some (.ptr i r (off + 3)) := by kernel_rfl
@[simp] theorem fe91_2 (cs : List PV) : fieldAddrV Try.prog 91 2 (.fe cs) = some (.fe (cs.drop 3)) := by kernel_rfl
@[simp] theorem sz92 : tySize Try.prog 92 = some 4 := by kernel_rfl
@[simp] theorem ag92 : tyAgg Try.prog 92 = some true := by kernel_rfl
@[simp] theorem ze92 : zeroV Try.prog 92 = some (V.pv (PV.agg [PV.sc (Value.bool false), PV.sc (Value.float FloatKind.f64 0), PV.sc (Value.int IntKind.i64 0), PV.sc (Value.int IntKind.i64 0)])) := by kernel_rfl
@[simp] theorem fa92_0 (i r off : Nat) : fieldAddrV Try.prog 92 0 (.ptr i r off) = some (.ptr i r (off + 0)) := by kernel_rfl
@[simp] theorem fe92_0 (cs : List PV) : fieldAddrV Try.prog 92 0 (.fe cs) = some (.fe (cs.drop 0)) := by kernel_rfl
@[simp] theorem fa92_1 (i r off : Nat) : fieldAddrV Try.prog 92 1 (.ptr i r off) = some (.ptr i r (off + 1)) := by kernel_rfl
@[simp] theorem fe92_1 (cs : List PV) : fieldAddrV Try.prog 92 1 (.fe cs) = some (.fe (cs.drop 1)) := by kernel_rfl
@[simp] theorem fa92_2 (i r off : Nat) : fieldAddrV Try.prog 92 2 (.ptr i r off) = some (.ptr i r (off + 3)) := by kernel_rfl
@[simp] theorem fe92_2 (cs : List PV) : fieldAddrV Try.prog 92 2 (.fe cs) = some (.fe (cs.drop 3)) := by kernel_rfl
@[simp] theorem sz93 : tySize Try.prog 93 = some 1 := by kernel_rfl
@[simp] theorem ag93 : tyAgg Try.prog 93 = some false := by kernel_rfl
@[simp] theorem ze93 : zeroV Try.prog 93 = some (V.tup [V.pv (PV.agg [PV.sc (Value.bool false), PV.sc (Value.float FloatKind.f64 0), PV.sc (Value.int IntKind.i64 0), PV.sc (Value.int IntKind.i64 0)]), V.pv (PV.sc (Value.bool false))]) := by kernel_rfl
@[simp] theorem sz94 : tySize Try.prog 94 = some 1 := by kernel_rfl
@[simp] theorem ag94 : tyAgg Try.prog 94 = some false := by kernel_rfl
@[simp] theorem ze94 : zeroV Try.prog 94 = some (V.pv (PV.sc Value.nilFunc)) := by kernel_rfl
@[simp] theorem sz95 : tySize Try.prog 95 = some 0 := by kernel_rfl
@[simp] theorem ag95 : tyAgg Try.prog 95 = some true := by kernel_rfl
@[simp] theorem ze95 : zeroV Try.prog 95 = some (V.pv (PV.agg [])) := by kernel_rfl
@[simp] theorem sz96 : tySize Try.prog 96 = some 0 := by kernel_rfl
@[simp] theorem ag96 : tyAgg Try.prog 96 = some true := by kernel_rfl
@[simp] theorem ze96 : zeroV Try.prog 96 = some (V.pv (PV.agg [])) := by kernel_rfl
@[simp] theorem sz97 : tySize Try.prog 97 = some 1 := by kernel_rfl
@[simp] theorem ag97 : tyAgg Try.prog 97 = some false := by kernel_rfl
@[simp] theorem ze97 : zeroV Try.prog 97 = some (V.pv (PV.sc (Value.map none))) := by kernel_rfl
@[simp] theorem sz98 : tySize Try.prog 98 = some 5 := by kernel_rfl
@[simp] theorem ag98 : tyAgg Try.prog 98 = some true := by kernel_rfl
@[simp] theorem ze98 : zeroV Try.prog 98 = some (V.agg [V.pv (PV.sc (Value.int IntKind.i64 0)), V.pv (PV.sc (Value.int IntKind.i64 0)), V.pv (PV.sc (Value.int IntKind.i64 0)), V.pv (PV.sc (Value.int IntKind.i64 0)), V.nl]) := by kernel_rfl
@[simp] theorem fa98_0 (i r off : Nat) : fieldAddrV Try.prog 98 0 (.ptr i r off) = some (.ptr i r (off + 0)) := by kernel_rfl
@[simp] theorem fe98_0 (cs : List PV) : fieldAddrV Try.prog 98 0 (.fe cs) = some (.fe (cs.drop 0)) := by kernel_rfl
@[simp] theorem fa98_1 (i r off : Nat) : fieldAddrV Try.prog 98 1 (.ptr i r off) = some (.ptr i r (off + 1)) := by kernel_rfl
@[simp] theorem fe98_1 (cs : List PV) : fieldAddrV Try.prog 98 1 (.fe cs) = some (.fe (cs.drop 1)) := by kernel_rfl
@[simp] theorem fa98_2 (i r off : Nat) : fieldAddrV Try.prog 98 2 (.ptr i r off) = some (.ptr i r (off + 2)) := by kernel_rfl
@[simp] theorem fe98_2 (cs : List PV) : fieldAddrV Try.prog 98 2 (.fe cs) = some (.fe (cs.drop 2)) := by kernel_rfl
@[simp] theorem fa98_3 (i r off : Nat) : fieldAddrV Try.prog 98 3 (.ptr i r off) = some (.ptr i r (off + 3)) := by kernel_rfl
@[simp] theorem fe98_3 (cs : List PV) : fieldAddrV Try.prog 98 3 (.fe cs) = some (.fe (cs.drop 3)) := by kernel_rfl
@[simp] theorem sz99 : tySize Try.prog 99 = some 5 := by kernel_rfl
@[simp] theorem ag99 : tyAgg Try.prog 99 = some true := by kernel_rfl
@[simp] theorem ze99 : zeroV Try.prog 99 = some (V.agg [V.pv (PV.sc (Value.int IntKind.i64 0)), V.pv (PV.sc (Value.int IntKind.i64 0)), V.pv (PV.sc (Value.int IntKind.i64 0)), V.pv (PV.sc (Value.int IntKind.i64 0)), V.nl]) := by kernel_rfl
@[simp] theorem fa99_0 (i r off : Nat) : fieldAddrV Try.prog 99 0 (.ptr i r off) = some (.ptr i r (off + 0)) := by kernel_rfl
@[simp] theorem fe99_0 (cs : List PV) : fieldAddrV Try.prog 99 0 (.fe cs) = some (.fe (cs.drop 0)) := by kernel_rfl
@[simp] theorem fa99_1 (i r off : Nat) : fieldAddrV Try.prog 99 1 (.ptr i r off) = some (.ptr i r (off + 1)) := by kernel_rfl
@[simp] theorem fe99_1 (cs : List PV) : fieldAddrV Try.prog 99 1 (.fe cs) = some (.fe (cs.drop 1)) := by kernel_rfl
@[simp] theorem fa99_2 (i r off : Nat) : fieldAddrV Try.prog 99 2 (.ptr i r off) = some (.ptr i r (off + 2)) := by kernel_rfl
@[simp] theorem fe99_2 (cs : List PV) : fieldAddrV Try.prog 99 2 (.fe cs) = some (.fe (cs.drop 2)) := by kernel_rfl
@[simp] theorem fa99_3 (i r off : Nat) : fieldAddrV Try.prog 99 3 (.ptr i r off) = some (.ptr i r (off + 3)) := by kernel_rfl
@[simp] theorem fe99_3 (cs : List PV) : fieldAddrV Try.prog 99 3 (.fe cs) = some (.fe (cs.drop 3)) := by kernel_rfl
@[simp] theorem sz100 : tySize Try.prog 100 = some 1 := by kernel_rfl
@[simp] theorem ag100 : tyAgg Try.prog 100 = some false := by kernel_rfl
@[simp] theorem ze100 : zeroV Try.prog 100 = some (V.pv (PV.sc Value.nilFunc)) := by kernel_rfl
@[simp] theorem sz101 : tySize Try.prog 101 = some 1 := by kernel_rfl
@[simp] theorem ag101 : tyAgg Try.prog 101 = some false := by kernel_rfl
@[simp] theorem ze101 : zeroV Try.prog 101 = some (V.pv (PV.sc Value.nilFunc)) := by kernel_rfl
@[simp] theorem sz102 : tySize Try.prog 102 = some 1 := by kernel_rfl
@[simp] theorem ag102 : tyAgg Try.prog 102 = some false := by kernel_rfl
@[simp] theorem ze102 : zeroV Try.prog 102 = some (V.pv (PV.sc Value.nilFunc)) := by kernel_rfl
@[simp] theorem sz103 : tySize Try.prog 103 = some 2 := by kernel_rfl
@[simp] theorem ag103 : tyAgg Try.prog 103 = some true := by kernel_rfl
@[simp] theorem ze103 : zeroV Try.prog 103 = some (V.pv (PV.agg [PV.sc (Value.int IntKind.u64 0), PV.sc (Value.int IntKind.i64 0)])) := by kernel_rfl
@[simp] theorem fa103_0 (i r off : Nat) : fieldAddrV Try.prog 103 0 (.ptr i r off) = some (.ptr i r (off + 0)) := by kernel_rfl
@[simp] theorem fe103_0 (cs : List PV) : fieldAddrV Try.prog 103 0 (.fe cs) = some (.fe (cs.drop 0)) := by kernel_rfl
@[simp] theorem fa103_1 (i r off : Nat) : fieldAddrV Try.prog 103 1 (.ptr i r off) = some (.ptr i r (off + 1)) := by kernel_rfl
@[simp] theorem fe103_1 (cs : List PV) : fieldAddrV Try.prog 103 1 (.fe cs) = some (.fe (cs.drop 1)) := by kernel_rfl
@[simp] theorem sz104 : tySize Try.prog 104 = some 1 := by kernel_rfl
@[simp] theorem ag104 : tyAgg Try.prog 104 = some false := by kernel_rfl
@[simp] theorem ze104 : zeroV Try.prog 104 = some (V.pv (PV.sc Value.nilFunc)) := by kernel_rfl
@[simp] theorem sz105 : tySize Try.prog 105 = some 1 := by kernel_rfl
@[simp] theorem ag105 : tyAgg Try.prog 105 = some false := by kernel_rfl
@[simp] theorem ze105 : zeroV Try.prog 105 = some (V.pv (PV.sc Value.nilFunc)) := by kernel_rfl
@[simp] theorem sz106 : tySize Try.prog 106 = some 1 := by kernel_rfl
@[simp] theorem ag106 : tyAgg Try.prog 106 = some false := by kernel_rfl
@[simp] theorem ze106 : zeroV Try.prog 106 = some (V.pv (PV.sc Value.nilFunc)) := by kernel_rfl
@[simp] theorem sz107 : tySize Try.prog 107 = some 1 := by kernel_rfl
@[simp] theorem ag107 : tyAgg Try.prog 107 = some false := by kernel_rfl
@[simp] theorem ze107 : zeroV Try.prog 107 = some (V.pv (PV.sc Value.nilFunc)) := by kernel_rfl
@[simp] theorem sz108 : tySize Try.prog 108 = some 1 := by kernel_rfl
@[simp] theorem ag108 : tyAgg Try.prog 108 = some false := by kernel_rfl
@[simp] theorem ze108 : zeroV Try.prog 108 = some (V.pv (PV.sc Value.nilFunc)) := by kernel_rfl
@[simp] theorem sz109 : tySize Try.prog 109 = some 1 := by kernel_rfl
@[simp] theorem ag109 : tyAgg Try.prog 109 = some false := by kernel_rfl
@[simp] theorem ze109 : zeroV Try.prog 109 = some (V.tup [V.nl, V.nl]) := by kernel_rfl
@[simp] theorem sz110 : tySize Try.prog 110 = some 1 := by kernel_rfl
@[simp] theorem ag110 : tyAgg Try.prog 110 = some false := by kernel_rfl
@[simp] theorem ze110 : zeroV Try.prog 110 = some (V.pv (PV.sc Value.nilFunc)) := by kernel_rfl
@[simp] theorem sz111 : tySize Try.prog 111 = some 1 := by kernel_rfl
@[simp] theorem ag111 : tyAgg Try.prog 111 = some false := by kernel_rfl
@[simp] theorem ze111 : zeroV Try.prog 111 = some (V.pv (PV.sc Value.nilFunc)) := by kernel_rfl
@[simp] theorem sz112 : tySize Try.prog 112 = some 1 := by kernel_rfl
@[simp] theorem ag112 : tyAgg Try.prog 112 = some false := by kernel_rfl
@[simp] theorem ze112 : zeroV Try.prog 112 = some (V.tup [V.nl, V.pv (PV.sc (Value.int IntKind.i64 0))]) := by kernel_rfl
@[simp] theorem sz113 : tySize Try.prog 113 = some 1 := by kernel_rfl
@[simp] theorem ag113 : tyAgg Try.prog 113 = some false := by kernel_rfl
@[simp] theorem ze113 : zeroV Try.prog 113 = some (V.pv (PV.sc Value.nilFunc)) := by kernel_rfl
@[simp] theorem sz114 : tySize Try.prog 114 = some 1 := by kernel_rfl
@[simp] theorem ag114 : tyAgg Try.prog 114 = some false := by kernel_rfl
@[simp] theorem ze114 : zeroV Try.prog 114 = some (V.pv (PV.sc Value.nilFunc)) := by kernel_rfl
@[simp] theorem sz115 : tySize Try.prog 115 = some 1 := by kernel_rfl
@[simp] theorem ag115 : tyAgg Try.prog 115 = some false := by kernel_rfl
@[simp] theorem ze115 : zeroV Try.prog 115 = some (V.pv (PV.sc Value.nilFunc)) := by kernel_rfl
@[simp] theorem sz116 : tySize Try.prog 116 = some 1 := by kernel_rfl
@[simp] theorem ag116 : tyAgg Try.prog 116 = some false := by kernel_rfl
@[simp] theorem ze116 : zeroV Try.prog 116 = some V.nl := by kernel_rfl
@[simp] theorem el116 : sliceElem Try.prog 116 = some 40 := by kernel_rfl
theorem by116 : (Try.prog.info? 40).map (fun i => (i.size, i.bytes)) = some (3, 40) := by kernel_rfl
@[simp] theorem iaF116 (rows : List (List PV)) (k : Int) : indexAddrV Try.prog 116 (.pv (.fz rows)) k = (if 0 ≤ k then match rows[k.toNat]? with | some row => if row.length = 3 then some (.fe row) else none | none => none else none) := by kernel_rfl
@[simp] theorem iaO116 (i s r len : Nat) (k : Int) : indexAddrV Try.prog 116 (.ow i s r len) k = (if 0 ≤ k ∧ k < len ∧ s = 3 then some (.ptr i (r + k.toNat) 0) else none) := by kernel_rfl
@[simp] theorem lnF116 (rows : List (List PV)) : lenV Try.prog 116 (.pv (.fz rows)) = some rows.length := by kernel_rfl
@[simp] theorem lnO116 (i s r len : Nat) : lenV Try.prog 116 (.ow i s r len) = some len := by kernel_rfl
@[simp] theorem lnN116 : lenV Try.prog 116 .nl = some 0 := by kernel_rfl
@[simp] theorem sz117 : tySize Try.prog 117 = some 2 := by kernel_rfl
@[simp] theorem ag117 : tyAgg Try.prog 117 = some true := by kernel_rfl
@[simp] theorem ze117 : zeroV Try.prog 117 = some (V.agg [V.nl, V.pv (PV.sc (Value.int IntKind.u64 0))]) := by kernel_rfl
@[simp] theorem fa117_0 (i r off : Nat) : fieldAddrV Try.prog 117 0 (.ptr i r off) = some (.ptr i r (off + 0)) := by kernel_rfl
@[simp] theorem fe117_0 (cs : List PV) : fieldAddrV Try.prog 117 0 (.fe cs) = some (.fe (cs.drop 0)) := by kernel_rfl
@[simp] theorem fa117_1 (i r off : Nat) : fieldAddrV Try.prog 117 1 (.ptr i r off) = some (.ptr i r (off + 1)) := by kernel_rfl
@[simp] theorem fe117_1 (cs : List PV) : fieldAddrV Try.prog 117 1 (.fe cs) = some (.fe (cs.drop 1)) := by kernel_rfl
@[simp] theorem sz118 : tySize Try.prog 118 = some 2 := by kernel_rfl
@[simp] theorem ag118 : tyAgg Try.prog 118 = some true := by kernel_rfl
@[simp] theorem ze118 : zeroV Try.prog 118 = some (V.agg [V.nl, V.pv (PV.sc (Value.int IntKind.u64 0))]) := by kernel_rfl
@[simp] theorem fa118_0 (i r off : Nat) : fieldAddrV Try.prog 118 0 (.ptr i r off) = some (.ptr i r (off + 0)) := by kernel_rfl
@[simp] theorem fe118_0 (cs : List PV) : fieldAddrV Try.prog 118 0 (.fe cs) = some (.fe (cs.drop 0)) := by kernel_rfl
@[simp] theorem fa118_1 (i r off : Nat) : fieldAddrV Try.prog 118 1 (.ptr i r off) = some (.ptr i r (off + 1)) := by kernel_rfl
@[simp] theorem fe118_1 (cs : List PV) : fieldAddrV Try.prog 118 1 (.fe cs) = some (.fe (cs.drop 1)) := by kernel_rfl
@[simp] theorem sz119 : tySize Try.prog 119 = some 1 := by kernel_rfl
@[simp] theorem ag119 : tyAgg Try.prog 119 = some false := by kernel_rfl
@[simp] theorem ze119 : zeroV Try.prog 119 = some (V.pv (PV.sc Value.nilFunc)) := by kernel_rfl
@[simp] theorem sz120 : tySize Try.prog 120 = some 1 := by kernel_rfl
@[simp] theorem ag120 : tyAgg Try.prog 120 = some false := by kernel_rfl
@[simp] theorem ze120 : zeroV Try.prog 120 = some (V.pv (PV.sc Value.nilFunc)) := by kernel_rfl
@[simp] theorem sz121 : tySize Try.prog 121 = some 1 := by kernel_rfl
@[simp] theorem ag121 : tyAgg Try.prog 121 = some false := by kernel_rfl
@[simp] theorem ze121 : zeroV Try.prog 121 = some (V.pv (PV.sc Value.nilFunc)) := by kernel_rfl
@[simp] theorem sz122 : tySize Try.prog 122 = some 1 := by kernel_rfl
@[simp] theorem ag122 : tyAgg Try.prog 122 = some false := by kernel_rfl
@[simp] theorem ze122 : zeroV Try.prog 122 = some (V.pv (PV.sc Value.nilFunc)) := by kernel_rfl
@[simp] theorem sz123 : tySize Try.prog 123 = some 1 := by kernel_rfl
@[simp] theorem ag123 : tyAgg Try.prog 123 = some false := by kernel_rfl
@[simp] theorem ze123 : zeroV Try.prog 123 = some (V.tup [V.agg [V.nl], V.pv (PV.sc (Value.bool false))]) := by kernel_rfl
@[simp] theorem sz124 : tySize Try.prog 124 = some 1 := by kernel_rfl
@[simp] theorem ag124 : tyAgg Try.prog 124 = some false := by kernel_rfl
@[simp] theorem ze124 : zeroV Try.prog 124 = some (V.pv (PV.sc Value.nilFunc)) := by kernel_rfl
@[simp] theorem sz125 : tySize Try.prog 125 = some 1 := by kernel_rfl
@[simp] theorem ag125 : tyAgg Try.prog 125 = some false := by kernel_rfl
@[simp] theorem ze125 : zeroV Try.prog 125 = some (V.pv (PV.sc Value.nilFunc)) := by kernel_rfl
@[simp] theorem sz126 : tySize Try.prog 126 = some 1 := by kernel_rfl
@[simp] theorem ag126 : tyAgg Try.prog 126 = some false := by kernel_rfl
@[simp] theorem ze126 : zeroV Try.prog 126 = some (V.pv (PV.sc Value.nilFunc)) := by kernel_rfl
@[simp] theorem sz127 : tySize Try.prog 127 = some 3 := by kernel_rfl
@[simp] theorem ag127 : tyAgg Try.prog 127 = some true := by kernel_rfl
@[simp] theorem ze127 : zeroV Try.prog 127 = some (V.agg [V.pv (PV.sc (Value.int IntKind.i64 0)), V.pv (PV.sc (Value.int IntKind.i64 0)), V.nl]) := by kernel_rfl
@[simp] theorem fa127_0 (i r off : Nat) : fieldAddrV Try.prog 127 0 (.ptr i r off) = some (.ptr i r (off + 0)) := by kernel_rfl
@[simp] theorem fe127_0 (cs : List PV) : fieldAddrV Try.prog 127 0 (.fe cs) = some (.fe (cs.drop 0)) := by kernel_rfl
@[simp] theorem fa127_1 (i r off : Nat) : fieldAddrV Try.prog 127 1 (.ptr i r off) = some (.ptr i r (off + 1)) := by kernel_rfl
@[simp] theorem fe127_1 (cs : List PV) : fieldAddrV Try.prog 127 1 (.fe cs) = some (.fe (cs.drop 1)) := by kernel_rfl
@[simp] theorem sz128 : tySize Try.prog 128 = some 3 := by kernel_rfl
@[simp] theorem ag128 : tyAgg Try.prog 128 = some true := by kernel_rfl
@[simp] theorem ze128 : zeroV Try.prog 128 = some (V.agg [V.pv (PV.sc (Value.int IntKind.i64 0)), V.pv (PV.sc (Value.int IntKind.i64 0)), V.nl]) := by kernel_rfl
@[simp] theorem fa128_0 (i r off : Nat) : fieldAddrV Try.prog 128 0 (.ptr i r off) = some (.ptr i r (off + 0)) := by kernel_rfl
@[simp] theorem fe128_0 (cs : List PV) : fieldAddrV Try.prog 128 0 (.fe cs) = some (.fe (cs.drop 0)) := by kernel_rfl
@[simp] theorem fa128_1 (i r off : Nat) : fieldAddrV Try.prog 128 1 (.ptr i r off) = some (.ptr i r (off + 1)) := by kernel_rfl
@[simp] theorem fe128_1 (cs : List PV) : fieldAddrV Try.prog 128 1 (.fe cs) = some (.fe (cs.drop 1)) := by kernel_rfl
@[simp] theorem sz129 : tySize Try.prog 129 = some 1 := by kernel_rfl
@[simp] theorem ag129 : tyAgg Try.prog 129 = some false := by kernel_rfl
@[simp] theorem ze129 : zeroV Try.prog 129 = some (V.pv (PV.sc Value.nilFunc)) := by kernel_rfl
@[simp] theorem sz130 : tySize Try.prog 130 = some 1 := by kernel_rfl
@[simp] theorem ag130 : tyAgg Try.prog 130 = some false := by kernel_rfl
@[simp] theorem ze130 : zeroV Try.prog 130 = some (V.pv (PV.sc Value.nilFunc)) := by kernel_rfl
@[simp] theorem sz131 : tySize Try.prog 131 = some 1 := by kernel_rfl
@[simp] theorem ag131 : tyAgg Try.prog 131 = some false := by kernel_rfl
@[simp] theorem ze131 : zeroV Try.prog 131 = some (V.pv (PV.sc Value.nilFunc)) := by kernel_rfl
@[simp] theorem sz132 : tySize Try.prog 132 = some 1 := by kernel_rfl
@[simp] theorem ag132 : tyAgg Try.prog 132 = some false := by kernel_rfl
@[simp] theorem ze132 : zeroV Try.prog 132 = some (V.pv (PV.sc (Value.int IntKind.u32 0))) := by kernel_rfl
@[simp] theorem sz133 : tySize Try.prog 133 = some 1 := by kernel_rfl
@[simp] theorem ag133 : tyAgg Try.prog 133 = some false := by kernel_rfl
@[simp] theorem ze133 : zeroV Try.prog 133 = some (V.pv (PV.sc Value.nilFunc)) := by kernel_rfl
@[simp] theorem sz134 : tySize Try.prog 134 = some 1 := by kernel_rfl
@[simp] theorem ag134 : tyAgg Try.prog 134 = some false := by kernel_rfl
@[simp] theorem ze134 : zeroV Try.prog 134 = some (V.pv (PV.sc Value.nilFunc)) := by kernel_rfl
@[simp] theorem sz135 : tySize Try.prog 135 = some 1 := by kernel_rfl
@[simp] theorem ag135 : tyAgg Try.prog 135 = some false := by kernel_rfl
@[simp] theorem ze135 : zeroV Try.prog 135 = some (V.pv (PV.sc Value.nilFunc)) := by kernel_rfl
@[simp] theorem sz136 : tySize Try.prog 136 = some 1 := by kernel_rfl
@[simp] theorem ag136 : tyAgg Try.prog 136 = some false := by kernel_rfl
@[simp] theorem ze136 : zeroV Try.prog 136 = some (V.pv (PV.sc Value.nilFunc)) := by kernel_rfl
@[simp] theorem sz137 : tySize Try.prog 137 = some 1 := by kernel_rfl
@[simp] theorem ag137 : tyAgg Try.prog 137 = some false := by kernel_rfl
@[simp] theorem ze137 : zeroV Try.prog 137 = some (V.pv (PV.sc Value.nilIface)) := by kernel_rfl
@[simp] theorem sz138 : tySize Try.prog 138 = some 1 := by kernel_rfl
@[simp] theorem ag138 : tyAgg Try.prog 138 = some false := by kernel_rfl
@[simp] theorem ze138 : zeroV Try.prog 138 = some (V.pv (PV.sc Value.nilIface)) := by kernel_rfl
@[simp] theorem sz139 : tySize Try.prog 139 = some 1 := by kernel_rfl
@[simp] theorem ag139 : tyAgg Try.prog 139 = some false := by kernel_rfl
@[simp] theorem ze139 : zeroV Try.prog 139 = some (V.pv (PV.sc (Value.pointer none))) := by kernel_rfl
@[simp] theorem sz140 : tySize Try.prog 140 = some 6 := by kernel_rfl
@[simp] theorem ag140 : tyAgg Try.prog 140 = some true := by kernel_rfl
@[simp] theorem ze140 : zeroV Try.prog 140 = some (V.agg [V.pv (PV.sc (Value.int IntKind.u64 0)), V.pv (PV.sc (Value.int IntKind.i64 0)), V.nl, V.pv (PV.sc (Value.int IntKind.u64 0)), V.pv (PV.sc (Value.int IntKind.i64 0)), V.nl]) := by kernel_rfl
@[simp] theorem sz141 : tySize Try.prog 141 = some 17 := by kernel_rfl
@[simp] theorem ag141 : tyAgg Try.prog 141 = some true := by kernel_rfl
@[simp] theorem ze141 : zeroV Try.prog 141 = some (V.agg [V.pv (PV.sc (Value.int IntKind.i64 0)), V.pv (PV.sc (Value.float FloatKind.f64 0)), V.pv (PV.sc (Value.int IntKind.i64 0)), V.pv (PV.sc (Value.int IntKind.i64 0)), V.pv (PV.sc (Value.int IntKind.i64 0)), V.pv (PV.sc (Value.int IntKind.i64 0)), V.pv (PV.sc (Value.int IntKind.i64 0)), V.pv (PV.sc (Value.int IntKind.i64 0)), V.pv (PV.sc (Value.int IntKind.i64 0)), V.pv (PV.sc (Value.int IntKind.i64 0)), V.pv (PV.sc (Value.bool false)), V.pv (PV.sc (Value.int IntKind.u64 0)), V.pv (PV.sc (Value.int IntKind.i64 0)), V.nl, V.pv (PV.sc (Value.int IntKind.u64 0)), V.pv (PV.sc (Value.int IntKind.i64 0)), V.nl]) := by kernel_rfl
@[simp] theorem fa141_0 (i r off : Nat) : fieldAddrV Try.prog 141 0 (.ptr i r off) = some (.ptr i r (off + 0)) := by kernel_rfl
@[simp] theorem fe141_0 (cs : List PV) : fieldAddrV Try.prog 141 0 (.fe cs) = some (.fe (cs.drop 0)) := by kernel_rfl
@[simp] theorem fa141_1 (i r off : Nat) : fieldAddrV Try.prog 141 1 (.ptr i r off) = some (.ptr i r (off + 5)) := by kernel_rfl
@[simp] theorem fe141_1 (cs : List PV) : fieldAddrV Try.prog 141 1 (.fe cs) = some (.fe (cs.drop 5)) := by kernel_rfl
@[simp] theorem fa141_2 (i r off : Nat) : fieldAddrV Try.prog 141 2 (.ptr i r off) = some (.ptr i r (off + 6)) := by kernel_rfl
@[simp] theorem fe141_2 (cs : List PV) : fieldAddrV Try.prog 141 2 (.fe cs) = some (.fe (cs.drop 6)) := by kernel_rfl
@[simp] theorem fa141_3 (i r off : Nat) : fieldAddrV Try.prog 141 3 (.ptr i r off) = some (.ptr i r (off + 7)) := by kernel_rfl
@[simp] theorem fe141_3 (cs : List PV) : fieldAddrV Try.prog 141 3 (.fe cs) = some (.fe (cs.drop 7)) := by kernel_rfl
@[simp] theorem fa141_4 (i r off : Nat) : fieldAddrV Try.prog 141 4 (.ptr i r off) = some (.ptr i r (off + 8)) := by kernel_rfl
@[simp] theorem fe141_4 (cs : List PV) : fieldAddrV Try.prog 141 4 (.fe cs) = some (.fe (cs.drop 8)) := by kernel_rfl
@[simp] theorem fa141_5 (i r off : Nat) : fieldAddrV Try.prog 141 5 (.ptr i r off) = some (.ptr i r (off + 9)) := by kernel_rfl
@[simp] theorem fe141_5 (cs : List PV) : fieldAddrV Try.prog 141 5 (.fe cs) = some (.fe (cs.drop 9)) := by kernel_rfl
@[simp] theorem fa141_6 (i r off : Nat) : fieldAddrV Try.prog 141 6 (.ptr i r off) = some (.ptr i r (off + 10)) := by kernel_rfl
@[simp] theorem fe141_6 (cs : List PV) : fieldAddrV Try.prog 141 6 (.fe cs) = some (.fe (cs.drop 10)) := by kernel_rfl
@[simp] theorem fa141_7 (i r off : Nat) : fieldAddrV Try.prog 141 7 (.ptr i r off) = some (.ptr i r (off + 11)) := by kernel_rfl
@[simp] theorem fe141_7 (cs : List PV) : fieldAddrV Try.prog 141 7 (.fe cs) = some (.fe (cs.drop 11)) := by kernel_rfl
@[simp] theorem sz142 : tySize Try.prog 142 = some 17 := by kernel_rfl
@[simp] theorem ag142 : tyAgg Try.prog 142 = some true := by kernel_rfl
@[simp] theorem ze142 : zeroV Try.prog 142 = some (V.agg [V.pv (PV.sc (Value.int IntKind.i64 0)), V.pv (PV.sc (Value.float FloatKind.f64 0)), V.pv (PV.sc (Value.int IntKind.i64 0)), V.pv (PV.sc (Value.int IntKind.i64 0)), V.pv (PV.sc (Value.int IntKind.i64 0)), V.pv (PV.sc (Value.int IntKind.i64 0)), V.pv (PV.sc (Value.int IntKind.i64 0)), V.pv (PV.sc (Value.int IntKind.i64 0)), V.pv (PV.sc (Value.int IntKind.i64 0)), V.pv (PV.sc (Value.int IntKind.i64 0)), V.pv (PV.sc (Value.bool false)), V.pv (PV.sc (Value.int IntKind.u64 0)), V.pv (PV.sc (Value.int IntKind.i64 0)), V.nl, V.pv (PV.sc (Value.int IntKind.u64 0)), V.pv (PV.sc (Value.int IntKind.i64 0)), V.nl]) := by kernel_rfl
@[simp] theorem fa142_0 (i r off : Nat) : fieldAddrV Try.prog 142 0 (.ptr i r off) = some (.ptr i r (off + 0)) := by kernel_rfl
@[simp] theorem fe142_0 (cs : List PV) : fieldAddrV Try.prog 142 0 (.fe cs) = some (.fe (cs.drop 0)) := by kernel_rfl
@[simp] theorem fa142_1 (i r off : Nat) : fieldAddrV Try.prog 142 1 (.ptr i r off) = some (.ptr i r (off + 5)) := by kernel_rfl
@[simp] theorem fe142_1 (cs : List PV) : fieldAddrV Try.prog 142 1 (.fe cs) = some (.fe (cs.drop 5)) := by kernel_rfl
@[simp] theorem fa142_2 (i r off : Nat) : fieldAddrV Try.prog 142 2 (.ptr i r off) = some (.ptr i r (off + 6)) := by kernel_rfl
@[simp] theorem fe142_2 (cs : List PV) : fieldAddrV Try.prog 142 2 (.fe cs) = some (.fe (cs.drop 6)) := by kernel_rfl
@[simp] theorem fa142_3 (i r off : Nat) : fieldAddrV Try.prog 142 3 (.ptr i r off) = some (.ptr i r (off + 7)) := by kernel_rfl
@[simp] theorem fe142_3 (cs : List PV) : fieldAddrV Try.prog 142 3 (.fe cs) = some (.fe (cs.drop 7)) := by kernel_rfl
@[simp] theorem fa142_4 (i r off : Nat) : fieldAddrV Try.prog 142 4 (.ptr i r off) = some (.ptr i r (off + 8)) := by kernel_rfl
@[simp] theorem fe142_4 (cs : List PV) : fieldAddrV Try.prog 142 4 (.fe cs) = some (.fe (cs.drop 8)) := by kernel_rfl
@[simp] theorem fa142_5 (i r off : Nat) : fieldAddrV Try.prog 142 5 (.ptr i r off) = some (.ptr i r (off + 9)) := by kernel_rfl
@[simp] theorem fe142_5 (cs : List PV) : fieldAddrV Try.prog 142 5 (.fe cs) = some (.fe (cs.drop 9)) := by kernel_rfl
@[simp] theorem fa142_6 (i r off : Nat) : fieldAddrV Try.prog 142 6 (.ptr i r off) = some (.ptr i r (off + 10)) := by kernel_rfl
@[simp] theorem fe142_6 (cs : List PV) : fieldAddrV Try.prog 142 6 (.fe cs) = some (.fe (cs.drop 10)) := by kernel_rfl
@[simp] theorem fa142_7 (i r off : Nat) : fieldAddrV Try.prog 142 7 (.ptr i r off) = some (.ptr i r (off + 11)) := by kernel_rfl
@[simp] theorem fe142_7 (cs : List PV) : fieldAddrV Try.prog 142 7 (.fe cs) = some (.fe (cs.drop 11)) := by kernel_rfl
@[simp] theorem sz143 : tySize Try.prog 143 = some 1 := by kernel_rfl
@[simp] theorem ag143 : tyAgg Try.prog 143 = some false := by kernel_rfl
@[simp] theorem ze143 : zeroV Try.prog 143 = some (V.pv (PV.sc Value.nilFunc)) := by kernel_rfl
@[simp] theorem sz144 : tySize Try.prog 144 = some 1 := by kernel_rfl
@[simp] theorem ag144 : tyAgg Try.prog 144 = some false := by kernel_rfl
@[simp] theorem ze144 : zeroV Try.prog 144 = some (V.pv (PV.sc Value.nilFunc)) := by kernel_rfl
@[simp] theorem sz145 : tySize Try.prog 145 = some 1 := by kernel_rfl
@[simp] theorem ag145 : tyAgg Try.prog 145 = some false := by kernel_rfl
@[simp] theorem ze145 : zeroV Try.prog 145 = some (V.pv (PV.sc Value.nilFunc)) := by kernel_rfl
@[simp] theorem sz146 : tySize Try.prog 146 = some 1 := by kernel_rfl
@[simp] theorem ag146 : tyAgg Try.prog 146 = some false := by kernel_rfl
@[simp] theorem ze146 : zeroV Try.prog 146 = some (V.pv (PV.sc Value.nilFunc)) := by kernel_rfl
@[simp] theorem sz147 : tySize Try.prog 147 = some 1 := by kernel_rfl
@[simp] theorem ag147 : tyAgg Try.prog 147 = some false := by kernel_rfl
@[simp] theorem ze147 : zeroV Try.prog 147 = some (V.pv (PV.sc Value.nilFunc)) := by kernel_rfl
@[simp] theorem sz148 : tySize Try.prog 148 = some 1 := by kernel_rfl
@[simp] theorem ag148 : tyAgg Try.prog 148 = some false := by kernel_rfl
@[simp] theorem ze148 : zeroV Try.prog 148 = some (V.pv (PV.sc Value.nilFunc)) := by kernel_rfl
@[simp] theorem sz149 : tySize Try.prog 149 = some 1 := by kernel_rfl
@[simp] theorem ag149 : tyAgg Try.prog 149 = some false := by kernel_rfl
@[simp] theorem ze149 : zeroV Try.prog 149 = some (V.pv (PV.sc Value.nilFunc)) := by kernel_rfl
@[simp] theorem sz150 : tySize Try.prog 150 = some 1 := by kernel_rfl
@[simp] theorem ag150 : tyAgg Try.prog 150 = some false := by kernel_rfl
@[simp] theorem ze150 : zeroV Try.prog 150 = some (V.pv (PV.sc (Value.pointer none))) := by kernel_rfl
@[simp] theorem sz151 : tySize Try.prog 151 = some 1 := by kernel_rfl
@[simp] theorem ag151 : tyAgg Try.prog 151 = some false := by kernel_rfl
@[simp] theorem ze151 : zeroV Try.prog 151 = some (V.pv (PV.sc Value.nilFunc)) := by kernel_rfl
@[simp] theorem sz152 : tySize Try.prog 152 = some 1 := by kernel_rfl
@[simp] theorem ag152 : tyAgg Try.prog 152 = some false := by kernel_rfl
@[simp] theorem ze152 : zeroV Try.prog 152 = some (V.pv (PV.sc Value.nilFunc)) := by kernel_rfl
@[simp] theorem sz153 : tySize Try.prog 153 = some 1 := by kernel_rfl
@[simp] theorem ag153 : tyAgg Try.prog 153 = some false := by kernel_rfl
@[simp] theorem ze153 : zeroV Try.prog 153 = some (V.pv (PV.sc Value.nilFunc)) := by kernel_rfl
@[simp] theorem sz154 : tySize Try.prog 154 = some 1 := by kernel_rfl
@[simp] theorem ag154 : tyAgg Try.prog 154 = some false := by kernel_rfl
@[simp] theorem ze154 : zeroV Try.prog 154 = some (V.pv (PV.sc Value.nilFunc)) := by kernel_rfl
@[simp] theorem sz155 : tySize Try.prog 155 = some 1 := by kernel_rfl
@[simp] theorem ag155 : tyAgg Try.prog 155 = some false := by kernel_rfl
@[simp] theorem ze155 : zeroV Try.prog 155 = some (V.pv (PV.sc Value.nilFunc)) := by kernel_rfl
@[simp] theorem sz156 : tySize Try.prog 156 = some 1 := by kernel_rfl
@[simp] theorem ag156 : tyAgg Try.prog 156 = some false := by kernel_rfl
@[simp] theorem ze156 : zeroV Try.prog 156 = some V.nl := by kernel_rfl
@[simp] theorem el156 : sliceElem Try.prog 156 = some 5 := by kernel_rfl
theorem by156 : (Try.prog.info? 5).map (fun i => (i.size, i.bytes)) = some (1, 1) := by kernel_rfl
@[simp] theorem iaF156 (rows : List (List PV)) (k : Int) : indexAddrV Try.prog 156 (.pv (.fz rows)) k = (if 0 ≤ k then match rows[k.toNat]? with | some row => if row.length = 1 then some (.fe row) else none | none => none else none) := by kernel_rfl
@[simp] theorem iaO156 (i s r len : Nat) (k : Int) : indexAddrV Try.prog 156 (.ow i s r len) k = (if 0 ≤ k ∧ k < len ∧ s = 1 then some (.ptr i (r + k.toNat) 0) else none) := by kernel_rfl
@[simp] theorem lnF156 (rows : List (List PV)) : lenV Try.prog 156 (.pv (.fz rows)) = some rows.length := by kernel_rfl
@[simp] theorem lnO156 (i s r len : Nat) : lenV Try.prog 156 (.ow i s r len) = some len := by kernel_rfl
@[simp] theorem lnN156 : lenV Try.prog 156 .nl = some 0 := by kernel_rfl
@[simp] theorem sz157 : tySize Try.prog 157 = some 1 := by kernel_rfl
@[simp] theorem ag157 : tyAgg Try.prog 157 = some false := by kernel_rfl
@[simp] theorem ze157 : zeroV Try.prog 157 = some (V.pv (PV.sc Value.nilFunc)) := by kernel_rfl
@[simp] theorem sz158 : tySize Try.prog 158 = some 1 := by kernel_rfl
@[simp] theorem ag158 : tyAgg Try.prog 158 = some false := by kernel_rfl
@[simp] theorem ze158 : zeroV Try.prog 158 = some (V.pv (PV.sc Value.nilFunc)) := by kernel_rfl
@[simp] theorem sz159 : tySize Try.prog 159 = some 4 := by kernel_rfl
@[simp] theorem ag159 : tyAgg Try.prog 159 = some true := by kernel_rfl
@[simp] theorem ze159 : zeroV Try.prog 159 = some (V.pv (PV.agg [PV.sc (Value.pointer none), PV.sc (Value.pointer none), PV.sc (Value.pointer none), PV.sc (Value.string { data := { toList := [] } })])) := by kernel_rfl
@[simp] theorem fa159_0 (i r off : Nat) : fieldAddrV Try.prog 159 0 (.ptr i r off) = some (.ptr i r (off + 0)) := by kernel_rfl
@[simp] theorem fe159_0 (cs : List PV) : fieldAddrV Try.prog 159 0 (.fe cs) = some (.fe (cs.drop 0)) := by kernel_rfl
@[simp] theorem fa159_1 (i r off : Nat) : fieldAddrV Try.prog 159 1 (.ptr i r off) = some (.ptr i r (off + 1)) := by kernel_rfl
@[simp] theorem fe159_1 (cs : List PV) : fieldAddrV Try.prog 159 1 (.fe cs) = some (.fe (cs.drop 1)) := by kernel_rfl
@[simp] theorem fa159_2 (i r off : Nat) : fieldAddrV Try.prog 159 2 (.ptr i r off) = some (.ptr i r (off + 2)) := by kernel_rfl
@[simp] theorem fe159_2 (cs : List PV) : fieldAddrV Try.prog 159 2 (.fe cs) = some (.fe (cs.drop 2)) := by kernel_rfl
@[simp] theorem fa159_3 (i r off : Nat) : fieldAddrV Try.prog 159 3 (.ptr i r off) = some (.ptr i r (off + 3)) := by kernel_rfl
@[simp] theorem fe159_3 (cs : List PV) : fieldAddrV Try.prog 159 3 (.fe cs) = some (.fe (cs.drop 3)) := by kernel_rfl
@[simp] theorem sz160 : tySize Try.prog 160 = some 4 := by kernel_rfl
@[simp] theorem ag160 : tyAgg Try.prog 160 = some true := by kernel_rfl
@[simp] theorem ze160 : zeroV Try.prog 160 = some (V.pv (PV.agg [PV.sc (Value.pointer none), PV.sc (Value.pointer none), PV.sc (Value.pointer none), PV.sc (Value.string { data := { toList := [] } })])) := by kernel_rfl
@[simp] theorem fa160_0 (i r off : Nat) : fieldAddrV Try.prog 160 0 (.ptr i r off) = some (.ptr i r (off + 0)) := by kernel_rfl
@[simp] theorem fe160_0 (cs : List PV) : fieldAddrV Try.prog 160 0 (.fe cs) = some (.fe (cs.drop 0)) := by kernel_rfl
@[simp] theorem fa160_1 (i r off : Nat) : fieldAddrV Try.prog 160 1 (.ptr i r off) = some (.ptr i r (off + 1)) := by kernel_rfl
@[simp] theorem fe160_1 (cs : List PV) : fieldAddrV Try.prog 160 1 (.fe cs) = some (.fe (cs.drop 1)) := by kernel_rfl
@[simp] theorem fa160_2 (i r off : Nat) : fieldAddrV Try.prog 160 2 (.ptr i r off) = some (.ptr i r (off + 2)) := by kernel_rfl
@[simp] theorem fe160_2 (cs : List PV) : fieldAddrV Try.prog 160 2 (.fe cs) = some (.fe (cs.drop 2)) := by kernel_rfl
@[simp] theorem fa160_3 (i r off : Nat) : fieldAddrV Try.prog 160 3 (.ptr i r off) = some (.ptr i r (off + 3)) := by kernel_rfl
@[simp] theorem fe160_3 (cs : List PV) : fieldAddrV Try.prog 160 3 (.fe cs) = some (.fe (cs.drop 3)) := by kernel_rfl
@[simp] theorem sz161 : tySize Try.prog 161 = some 0 := by kernel_rfl
@[simp] theorem ag161 : tyAgg Try.prog 161 = some true := by kernel_rfl
@[simp] theorem ze161 : zeroV Try.prog 161 = some (V.pv (PV.agg [])) := by kernel_rfl
@[simp] theorem sz162 : tySize Try.prog 162 = some 0 := by kernel_rfl
@[simp] theorem ag162 : tyAgg Try.prog 162 = some true := by kernel_rfl
@[simp] theorem ze162 : zeroV Try.prog 162 = some (V.pv (PV.agg [])) := by kernel_rfl
@[simp] theorem sz163 : tySize Try.prog 163 = some 0 := by kernel_rfl
@[simp] theorem ag163 : tyAgg Try.prog 163 = some true := by kernel_rfl
@[simp] theorem ze163 : zeroV Try.prog 163 = some (V.pv (PV.agg [])) := by kernel_rfl
@[simp] theorem sz164 : tySize Try.prog 164 = some 1 := by kernel_rfl
@[simp] theorem ag164 : tyAgg Try.prog 164 = some false := by kernel_rfl
@[simp] theorem ze164 : zeroV Try.prog 164 = some (V.pv (PV.sc (Value.int IntKind.u8 0))) := by kernel_rfl
@[simp] theorem sz165 : tySize Try.prog 165 = some 1 := by kernel_rfl
@[simp] theorem ag165 : tyAgg Try.prog 165 = some false := by kernel_rfl
@[simp] theorem ze165 : zeroV Try.prog 165 = some (V.pv (PV.sc (Value.int IntKind.u8 0))) := by kernel_rfl
@[simp] theorem sz166 : tySize Try.prog 166 = some 1 := by kernel_rfl
@[simp] theorem ag166 : tyAgg Try.prog 166 = some false := by kernel_rfl
@[simp] theorem ze166 : zeroV Try.prog 166 = some (V.pv (PV.sc Value.nilFunc)) := by kernel_rfl
@[simp] theorem sz167 : tySize Try.prog 167 = some 1 := by kernel_rfl
@[simp] theorem ag167 : tyAgg Try.prog 167 = some false := by kernel_rfl
@[simp] theorem ze167 : zeroV Try.prog 167 = some (V.pv (PV.sc (Value.pointer none))) := by kernel_rfl
@[simp] theorem sz168 : tySize Try.prog 168 = some 1 := by kernel_rfl
@[simp] theorem ag168 : tyAgg Try.prog 168 = some false := by kernel_rfl
@[simp] theorem ze168 : zeroV Try.prog 168 = some (V.pv (PV.sc (Value.int IntKind.i32 0))) := by kernel_rfl
@[simp] theorem sz169 : tySize Try.prog 169 = some 1 := by kernel_rfl
@[simp] theorem ag169 : tyAgg Try.prog 169 = some false := by kernel_rfl
@[simp] theorem ze169 : zeroV Try.prog 169 = some (V.pv (PV.sc (Value.int IntKind.i32 0))) := by kernel_rfl
@[simp] theorem sz170 : tySize Try.prog 170 = some 11 := by kernel_rfl
@[simp] theorem ag170 : tyAgg Try.prog 170 = some true := by kernel_rfl
@[simp] theorem ze170 : zeroV Try.prog 170 = some (V.pv (PV.agg [PV.sc (Value.int IntKind.u64 0), PV.sc (Value.int IntKind.u64 0), PV.sc (Value.int IntKind.u32 0), PV.sc (Value.int IntKind.u8 0), PV.sc (Value.int IntKind.u8 0), PV.sc (Value.int IntKind.u8 0), PV.sc (Value.int IntKind.u8 0), PV.sc Value.nilFunc, PV.sc (Value.pointer none), PV.sc (Value.int IntKind.i32 0), PV.sc (Value.int IntKind.i32 0)])) := by kernel_rfl
@[simp] theorem fa170_0 (i r off : Nat) : fieldAddrV Try.prog 170 0 (.ptr i r off) = some (.ptr i r (off + 0)) := by kernel_rfl
@[simp] theorem fe170_0 (cs : List PV) : fieldAddrV Try.prog 170 0 (.fe cs) = some (.fe (cs.drop 0)) := by kernel_rfl
@[simp] theorem fa170_1 (i r off : Nat) : fieldAddrV Try.prog 170 1 (.ptr i r off) = some (.ptr i r (off + 1)) := by kernel_rfl
@[simp] theorem fe170_1 (cs : List PV) : fieldAddrV Try.prog 170 1 (.fe cs) = some (.fe (cs.drop 1)) := by kernel_rfl
@[simp] theorem fa170_2 (i r off : Nat) : fieldAddrV Try.prog 170 2 (.ptr i r off) = some (.ptr i r (off + 2)) := by kernel_rfl
@[simp] theorem fe170_2 (cs : List PV) : fieldAddrV Try.prog 170 2 (.fe cs) = some (.fe (cs.drop 2)) := by kernel_rfl
@[simp] theorem fa170_3 (i r off : Nat) : fieldAddrV Try.prog 170 3 (.ptr i r off) = some (.ptr i r (off + 3)) := by kernel_rfl
@[simp] theorem fe170_3 (cs : List PV) : fieldAddrV Try.prog 170 3 (.fe cs) = some (.fe (cs.drop 3)) := by kernel_rfl
@[simp] theorem fa170_4 (i r off : Nat) : fieldAddrV Try.prog 170 4 (.ptr i r off) = some (.ptr i r (off + 4)) := by kernel_rfl
@[simp] theorem fe170_4 (cs : List PV) : fieldAddrV Try.prog 170 4 (.fe cs) = some (.fe (cs.drop 4)) := by kernel_rfl
@[simp] theorem fa170_5 (i r off : Nat) : fieldAddrV Try.prog 170 5 (.ptr i r off) = some (.ptr i r (off + 5)) := by kernel_rfl
@[simp] theorem fe170_5 (cs : List PV) : fieldAddrV Try.prog 170 5 (.fe cs) = some (.fe (cs.drop 5)) := by kernel_rfl
@[simp] theorem fa170_6 (i r off : Nat) : fieldAddrV Try.prog 170 6 (.ptr i r off) = some (.ptr i r (off + 6)) := by kernel_rfl
@[simp] theorem fe170_6 (cs : List PV) : fieldAddrV Try.prog 170 6 (.fe cs) = some (.fe (cs.drop 6)) := by kernel_rfl
@[simp] theorem fa170_7 (i r off : Nat) : fieldAddrV Try.prog 170 7 (.ptr i r off) = some (.ptr i r (off + 7)) := by kernel_rfl
@[simp] theorem fe170_7 (cs : List PV) : fieldAddrV Try.prog 170 7 (.fe cs) = some (.fe (cs.drop 7)) := by kernel_rfl
@[simp] theorem fa170_8 (i r off : Nat) : fieldAddrV Try.prog 170 8 (.ptr i r off) = some (.ptr i r (off + 8)) := by kernel_rfl
@[simp] theorem fe170_8 (cs : List PV) : fieldAddrV Try.prog 170 8 (.fe cs) = some (.fe (cs.drop 8)) := by kernel_rfl
@[simp] theorem fa170_9 (i r off : Nat) : fieldAddrV Try.prog 170 9 (.ptr i r off) = some (.ptr i r (off + 9)) := by kernel_rfl
@[simp] theorem fe170_9 (cs : List PV) : fieldAddrV Try.prog 170 9 (.fe cs) = some (.fe (cs.drop 9)) := by kernel_rfl
@[simp] theorem fa170_10 (i r off : Nat) : fieldAddrV Try.prog 170 10 (.ptr i r off) = some (.ptr i r (off + 10)) := by kernel_rfl
@[simp] theorem fe170_10 (cs : List PV) : fieldAddrV Try.prog 170 10 (.fe cs) = some (.fe (cs.drop 10)) := by kernel_rfl
@[simp] theorem sz171 : tySize Try.prog 171 = some 11 := by kernel_rfl
@[simp] theorem ag171 : tyAgg Try.prog 171 = some true := by kernel_rfl
@[simp] theorem ze171 : zeroV Try.prog 171 = some (V.pv (PV.agg [PV.sc (Value.int IntKind.u64 0), PV.sc (Value.int IntKind.u64 0), PV.sc (Value.int IntKind.u32 0), PV.sc (Value.int IntKind.u8 0), PV.sc (Value.int IntKind.u8 0), PV.sc (Value.int IntKind.u8 0), PV.sc (Value.int IntKind.u8 0), PV.sc Value.nilFunc, PV.sc (Value.pointer none), PV.sc (Value.int IntKind.i32 0), PV.sc (Value.int IntKind.i32 0)])) := by kernel_rfl
@[simp] theorem fa171_0 (i r off : Nat) : fieldAddrV Try.prog 171 0 (.ptr i r off) = some (.ptr i r (off + 0)) := by kernel_rfl
@[simp] theorem fe171_0 (cs : List PV) : fieldAddrV Try.prog 171 0 (.fe cs) = some (.fe (cs.drop 0)) := by kernel_rfl
@[simp] theorem fa171_1 (i r off : Nat) : fieldAddrV Try.prog 171 1 (.ptr i r off) = some (.ptr i r (off + 1)) := by kernel_rfl
@[simp] theorem fe171_1 (cs : List PV) : fieldAddrV Try.prog 171 1 (.fe cs) = some (.fe (cs.drop 1)) := by kernel_rfl
@[simp] theorem fa171_2 (i r off : Nat) : fieldAddrV Try.prog 171 2 (.ptr i r off) = some (.ptr i r (off + 2)) := by kernel_rfl
@[simp] theorem fe171_2 (cs : List PV) : fieldAddrV Try.prog 171 2 (.fe cs) = some (.fe (cs.drop 2)) := by kernel_rfl
@[simp] theorem fa171_3 (i r off : Nat) : fieldAddrV Try.prog 171 3 (.ptr i r off) = some (.ptr i r (off + 3)) := by kernel_rfl
@[simp] theorem fe171_3 (cs : List PV) : fieldAddrV Try.prog 171 3 (.fe cs) = some (.fe (cs.drop 3)) := by kernel_rfl
@[simp] theorem fa171_4 (i r off : Nat) : fieldAddrV Try.prog 171 4 (.ptr i r off) = some (.ptr i r (off + 4)) := by kernel_rfl
@[simp] theorem fe171_4 (cs : List PV) : fieldAddrV Try.prog 171 4 (.fe cs) = some (.fe (cs.drop 4)) := by kernel_rfl
@[simp] theorem fa171_5 (i r off : Nat) : fieldAddrV Try.prog 171 5 (.ptr i r off) = some (.ptr i r (off + 5)) := by kernel_rfl
@[simp] theorem fe171_5 (cs : List PV) : fieldAddrV Try.prog 171 5 (.fe cs) = some (.fe (cs.drop 5)) := by kernel_rfl
@[simp] theorem fa171_6 (i r off : Nat) : fieldAddrV Try.prog 171 6 (.ptr i r off) = some (.ptr i r (off + 6)) := by kernel_rfl
@[simp] theorem fe171_6 (cs : List PV) : fieldAddrV Try.prog 171 6 (.fe cs) = some (.fe (cs.drop 6)) := by kernel_rfl
@[simp] theorem fa171_7 (i r off : Nat) : fieldAddrV Try.prog 171 7 (.ptr i r off) = some (.ptr i r (off + 7)) := by kernel_rfl
@[simp] theorem fe171_7 (cs : List PV) : fieldAddrV Try.prog 171 7 (.fe cs) = some (.fe (cs.drop 7)) := by kernel_rfl
@[simp] theorem fa171_8 (i r off : Nat) : fieldAddrV Try.prog 171 8 (.ptr i r off) = some (.ptr i r (off + 8)) := by kernel_rfl
@[simp] theorem fe171_8 (cs : List PV) : fieldAddrV Try.prog 171 8 (.fe cs) = some (.fe (cs.drop 8)) := by kernel_rfl
@[simp] theorem fa171_9 (i r off : Nat) : fieldAddrV Try.prog 171 9 (.ptr i r off) = some (.ptr i r (off + 9)) := by kernel_rfl
@[simp] theorem fe171_9 (cs : List PV) : fieldAddrV Try.prog 171 9 (.fe cs) = some (.fe (cs.drop 9)) := by kernel_rfl
@[simp] theorem fa171_10 (i r off : Nat) : fieldAddrV Try.prog 171 10 (.ptr i r off) = some (.ptr i r (off + 10)) := by kernel_rfl
@[simp] theorem fe171_10 (cs : List PV) : fieldAddrV Try.prog 171 10 (.fe cs) = some (.fe (cs.drop 10)) := by kernel_rfl
@[simp] theorem sz172 : tySize Try.prog 172 = some 1 := by kernel_rfl
@[simp] theorem ag172 : tyAgg Try.prog 172 = some false := by kernel_rfl
@[simp] theorem ze172 : zeroV Try.prog 172 = some (V.pv (PV.sc (Value.pointer none))) := by kernel_rfl
@[simp] theorem hb2 : hasBody Try.prog 2 = true := by kernel_rfl
@[simp] theorem hb3 : hasBody Try.prog 3 = true := by kernel_rfl
@[simp] theorem hb4 : hasBody Try.prog 4 = true := by kernel_rfl
@[simp] theorem hb5 : hasBody Try.prog 5 = true := by kernel_rfl
@[simp] theorem hb6 : hasBody Try.prog 6 = true := by kernel_rfl
@[simp] theorem hb7 : hasBody Try.prog 7 = true := by kernel_rfl
@[simp] theorem hb8 : hasBody Try.prog 8 = true := by kernel_rfl
@[simp] theorem hb9 : hasBody Try.prog 9 = true := by kernel_rfl
@[simp] theorem hb10 : hasBody Try.prog 10 = true := by kernel_rfl
@[simp] theorem hb11 : hasBody Try.prog 11 = true := by kernel_rfl
@[simp] theorem hb12 : hasBody Try.prog 12 = true := by kernel_rfl
@[simp] theorem hb13 : hasBody Try.prog 13 = true := by kernel_rfl
@[simp] theorem hb14 : hasBody Try.prog 14 = true := by kernel_rfl
@[simp] theorem hb15 : hasBody Try.prog 15 = true := by kernel_rfl
@[simp] theorem hb16 : hasBody Try.prog 16 = true := by kernel_rfl
@[simp] theorem hb17 : hasBody Try.prog 17 = true := by kernel_rfl
@[simp] theorem hb18 : hasBody Try.prog 18 = true := by kernel_rfl
@[simp] theorem hb19 : hasBody Try.prog 19 = true := by kernel_rfl
@[simp] theorem hb20 : hasBody Try.prog 20 = true := by kernel_rfl
@[simp] theorem hb21 : hasBody Try.prog 21 = true := by kernel_rfl
@[simp] theorem hb22 : hasBody Try.prog 22 = true := by kernel_rfl
@[simp] theorem hb23 : hasBody Try.prog 23 = true := by kernel_rfl
@[simp] theorem hb24 : hasBody Try.prog 24 = true := by kernel_rfl
@[simp] theorem hb25 : hasBody Try.prog 25 = true := by kernel_rfl
@[simp] theorem hb26 : hasBody Try.prog 26 = true := by kernel_rfl
@[simp] theorem hb27 : hasBody Try.prog 27 = true := by kernel_rfl
@[simp] theorem hb28 : hasBody Try.prog 28 = true := by kernel_rfl
@[simp] theorem hb29 : hasBody Try.prog 29 = true := by kernel_rfl
@[simp] theorem hb30 : hasBody Try.prog 30 = true := by kernel_rfl
@[simp] theorem hb31 : hasBody Try.prog 31 = true := by kernel_rfl
@[simp] theorem hb32 : hasBody Try.prog 32 = true := by kernel_rfl
@[simp] theorem hb33 : hasBody Try.prog 33 = true := by kernel_rfl
@[simp] theorem hb34 : hasBody Try.prog 34 = true := by kernel_rfl
@[simp] theorem hb35 : hasBody Try.prog 35 = true := by kernel_rfl
@[simp] theorem hb36 : hasBody Try.prog 36 = true := by kernel_rfl
@[simp] theorem hb37 : hasBody Try.prog 37 = true := by kernel_rfl
@[simp] theorem hb38 : hasBody Try.prog 38 = true := by kernel_rfl
@[simp] theorem hb39 : hasBody Try.prog 39 = true := by kernel_rfl
@[simp] theorem hb40 : hasBody Try.prog 40 = true := by kernel_rfl
@[simp] theorem hb41 : hasBody Try.prog 41 = true := by kernel_rfl
@[simp] theorem hb42 : hasBody Try.prog 42 = true := by kernel_rfl
@[simp] theorem hb43 : hasBody Try.prog 43 = true := by kernel_rfl
@[simp] theorem hb44 : hasBody Try.prog 44 = true := by kernel_rfl
@[simp] theorem hb45 : hasBody Try.prog 45 = true := by kernel_rfl
@[simp] theorem hb46 : hasBody Try.prog 46 = true := by kernel_rfl
@[simp] theorem hb47 : hasBody Try.prog 47 = true := by kernel_rfl
@[simp] theorem hb48 : hasBody Try.prog 48 = true := by kernel_rfl
@[simp] theorem hb49 : hasBody Try.prog 49 = true := by kernel_rfl
@[simp] theorem hb50 : hasBody Try.prog 50 = true := by kernel_rfl
@[simp] theorem hb51 : hasBody Try.prog 51 = true := by kernel_rfl
@[simp] theorem hb52 : hasBody Try.prog 52 = true := by kernel_rfl
@[simp] theorem hb53 : hasBody Try.prog 53 = true := by kernel_rfl
@[simp] theorem hb54 : hasBody Try.prog 54 = true := by kernel_rfl
@[simp] theorem hb55 : hasBody Try.prog 55 = true := by kernel_rfl
@[simp] theorem hb56 : hasBody Try.prog 56 = true := by kernel_rfl
@[simp] theorem hb57 : hasBody Try.prog 57 = true := by kernel_rfl
@[simp] theorem hb58 : hasBody Try.prog 58 = true := by kernel_rfl
@[simp] theorem hb59 : hasBody Try.prog 59 = true := by kernel_rfl
@[simp] theorem hb60 : hasBody Try.prog 60 = true := by kernel_rfl
@[simp] theorem hb61 : hasBody Try.prog 61 = true := by kernel_rfl
@[simp] theorem hb62 : hasBody Try.prog 62 = true := by kernel_rfl
@[simp] theorem hb63 : hasBody Try.prog 63 = true := by kernel_rfl
@[simp] theorem hb64 : hasBody Try.prog 64 = true := by kernel_rfl
@[simp] theorem hb65 : hasBody Try.prog 65 = true := by kernel_rfl
@[simp] theorem hb66 : hasBody Try.prog 66 = true := by kernel_rfl
@[simp] theorem hb67 : hasBody Try.prog 67 = true := by kernel_rfl
@[simp] theorem hb68 : hasBody Try.prog 68 = true := by kernel_rfl
@[simp] theorem hb69 : hasBody Try.prog 69 = true := by kernel_rfl
@[simp] theorem hb70 : hasBody Try.prog 70 = true := by kernel_rfl
@[simp] theorem hb71 : hasBody Try.prog 71 = true := by kernel_rfl
@[simp] theorem hb72 : hasBody Try.prog 72 = true := by kernel_rfl
@[simp] theorem hb73 : hasBody Try.prog 73 = true := by kernel_rfl
@[simp] theorem hb75 : hasBody Try.prog 75 = true := by kernel_rfl
@[simp] theorem hb76 : hasBody Try.prog 76 = true := by kernel_rfl
@[simp] theorem hb77 : hasBody Try.prog 77 = true := by kernel_rfl
@[simp] theorem hb78 : hasBody Try.prog 78 = true := by kernel_rfl
@[simp] theorem hb79 : hasBody Try.prog 79 = true := by kernel_rfl
@[simp] theorem hb80 : hasBody Try.prog 80 = true := by kernel_rfl
@[simp] theorem hb82 : hasBody Try.prog 82 = true := by kernel_rfl
@[simp] theorem hb83 : hasBody Try.prog 83 = true := by kernel_rfl
@[simp] theorem hb84 : hasBody Try.prog 84 = true := by kernel_rfl
@[simp] theorem hb85 : hasBody Try.prog 85 = true := by kernel_rfl
@[simp] theorem hb101 : hasBody Try.prog 101 = true := by kernel_rfl
end Go.Proofs.Ytfieppbehmglbaa.Ve
