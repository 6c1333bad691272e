/- TopCasts 130: its calls, and that it answers true. -/
import Derived.Test.YtoinghomkcjkcaaGreatDoorTcD
namespace Go.Proofs.YtoinghomkcjkcaaGreatDoor
set_option linter.unusedSimpArgs false
set_option linter.unusedVariables false
set_option linter.constructorNameAsVariable false
open Go Go.RowKit
open Ev
noncomputable def ct130s : List Z := Ev.app cfam (T 140 0x3b2050203a2029203020595449524f495250202c2031204c41565245544e4920282054204b534154204d4152474f52505f444e45203b2046495f444e45203b2031203d3a20792045534c45203b2032203d3a2079204e454854204c4c554e203d2072204649203b2029206620282044205341203d3a2072203b20292062202820464552203d3a2066203b2044)
noncomputable def ct130o0 : List (List V) := [ck0, ck1, ck2, [.s (T 1 0x46)], ck3, ck4, ck5, ck6, [.s (T 1 0x46)], ck7, ck119, ck9, ck10, ck10, ck11, ck12, ck10, ck13, ck10, ck14, ck10, ck15, ck133, ck120, ck18, ck19, ck20, ck21, ck22, ck23, ck24, ck25, ck26, ck27, ck28, ck29, ck30, ck31, ck32, ck33, ck34, ck35, ck36, ck31, ck35]
noncomputable def ct130r0 : Rec := ⟨23, [.s ct130s], q 1004, [], cn0, .u [.g [.sl (q 1004) 0 11 7], .sl (q 1005) 0 1 7, .n0], ct130o0⟩
set_option maxRecDepth 1000000 in
theorem ct130t0 : memoT sOv ct130r0 = true := by kernel_rfl
noncomputable def ct130v0 : Ov := memoOv ct130r0 sOv
theorem ct130g0 {ν : Nat → Int} : OvGood ν ct130v0 := memo_good sOv_good sOv_good ct130t0
noncomputable def ct130o1 : List (List V) := [ck37, ck38, [.s (T 1 0x46)], ck3, ck39, ck40, ck41, [.s (T 1 0x46)], ck42, ck119, ck43, ck10, ck10, ck44, ck45, ck10, ck46, ck10, ck47, ck10, ck48, ck133, ck121, ck50, ck51, ck52, ck53, ck20, ck54, ck22, ck55, ck26, ck27, ck56, ck57, ck30, ck31, ck32, ck33, ck58, ck35, ck36, ck31, ck35]
noncomputable def ct130r1 : Rec := ⟨14, [.s ct130s], q 1003, [], cn1, .u [.g [.sl (q 1003) 0 11 7], .s0], ct130o1⟩
set_option maxRecDepth 1000000 in
theorem ct130t1 : memoT ct130v0 ct130r1 = true := by kernel_rfl
noncomputable def ct130v1 : Ov := memoOv ct130r1 ct130v0
theorem ct130g1 {ν : Nat → Int} : OvGood ν ct130v1 := memo_good ct130g0 ct130g0 ct130t1
noncomputable def ct130o2 : List (List V) := [[.sl (q 1009) 0 1 1], ck59, ck60, [I 0, I 1, I 2, I 3], [I 0, I 0, I 0], [I 0, I 0, .b false], [I 5, I 1, I 0], [.s (T 3 0x693e69)], [I 5], [I 0, I 1], ck61, ck62, [I 5], [I 2, I 1], ck61, ck63, [I 5], [I 3, I 1], ck61, ck64, [I 4], [.s (T 3 0x693e69)], ck65, ck66, ck67, ck68, ck69, ck70, ck146, [I 0], [I 2], [I 3], [I 4]]
noncomputable def ct130r2 : Rec := ⟨12, [.s ct130s], q 1002, [], N [4118, 5341, 5673, 5485, 4111, 5361, 5580, 4116, 4164, 4307, 4310, 4390, 4452, 4629, 4632, 4726, 4804, 5016, 5019, 5129, 5256, 5259, 5339, 5863, 6004, 6375, 6757, 6859, 7423, 4388, 4724, 5127, 5337], .u [.g [.sl (q 1002) 0 1 1, .sl (q 1003) 0 6 4, .sl (q 1004) 0 6 6, .sl (q 1005) 0 1 4, .s (T 3 0x727269), .sl (q 1006) 0 1 3, .s0, .s0, .sl (q 1007) 0 3 1, .sl (q 1008) 0 3 1, I 1, I 2], .s0], ct130o2⟩
set_option maxRecDepth 1000000 in
theorem ct130t2 : memoT ct130v1 ct130r2 = true := by kernel_rfl
noncomputable def ct130v2 : Ov := memoOv ct130r2 ct130v1
theorem ct130g2 {ν : Nat → Int} : OvGood ν ct130v2 := memo_good ct130g1 ct130g1 ct130t2
noncomputable def ct130r3 : Rec := ⟨15, [.g [.sl (q 1002) 0 1 1, .sl (q 1003) 0 6 4, .sl (q 1004) 0 6 6, .sl (q 1005) 0 1 4, .s (T 3 0x727269), .sl (q 1006) 0 1 3, .s0, .s0, .sl (q 1007) 0 3 1, .sl (q 1008) 0 3 1, I 1, I 2]], q 1041, nmL 1002 ct130o2, N [], .n0, []⟩
set_option maxRecDepth 1000000 in
theorem ct130t3 : memoT ct130v2 ct130r3 = true := by kernel_rfl
noncomputable def ct130v3 : Ov := memoOv ct130r3 ct130v2
theorem ct130g3 {ν : Nat → Int} : OvGood ν ct130v3 := memo_good ct130g2 ct130g2 ct130t3
noncomputable def ct130o4 : List (List V) := [ck147]
noncomputable def ct130r4 : Rec := ⟨90, [.g [.sl (q 1002) 0 1 1, .sl (q 1003) 0 6 4, .sl (q 1004) 0 6 6, .sl (q 1005) 0 1 4, .s (T 3 0x727269), .sl (q 1006) 0 1 3, .s0, .s0, .sl (q 1007) 0 3 1, .sl (q 1008) 0 3 1, I 1, I 2]], q 1041, nmL 1002 ct130o2, N [2001], .u [.sl (q 1041) 0 1 1224, .n0], ct130o4⟩
set_option maxRecDepth 1000000 in
theorem ct130t4 : memoT ct130v3 ct130r4 = true := by kernel_rfl
noncomputable def ct130v4 : Ov := memoOv ct130r4 ct130v3
theorem ct130g4 {ν : Nat → Int} : OvGood ν ct130v4 := memo_good ct130g3 ct130g3 ct130t4
noncomputable def ct130o5 : List (List V) := [ck147]
noncomputable def ct130r5 : Rec := ⟨90, [.g [.sl (q 1048) 0 1 1, .sl (q 1122) 0 6 4, .sl (q 1386) 0 6 6, .sl (q 1394) 0 1 4, .s (T 3 0x727269), .sl (q 1400) 0 1 3, .s0, .s0, .sl (q 1404) 0 3 1, .sl (q 1408) 0 3 1, I 1, I 2]], q 1410, rnL 1002 (N [1048, 1122, 1386, 1394, 1400, 1404, 1408, 1046, 1051, 1055, 1059, 1065, 1071, 1075, 1079, 1085, 1091, 1095, 1099, 1105, 1111, 1113, 1119, 1151, 1179, 1231, 1267, 1295, 1383, 1062, 1082, 1102, 1116]) ct130o2, N [2370], .u [.sl (q 1410) 0 1 1224, .n0], ct130o5⟩
set_option maxRecDepth 1000000 in
theorem ct130t5 : memoT ct130v4 ct130r5 = true := by kernel_rfl
noncomputable def ct130v5 : Ov := memoOv ct130r5 ct130v4
theorem ct130g5 {ν : Nat → Int} : OvGood ν ct130v5 := memo_good ct130g4 ct130g4 ct130t5
noncomputable def ct130r6 : Rec := ⟨91, [.sl (q 1041) 0 1 1224], q 1042, [(q 1041, ck147)], cn2, .u [.g [.sl (q 1042) 0 1 1, .sl (q 1043) 0 6 4, .sl (q 1044) 0 6 6, .sl (q 1045) 0 1 4, .s (T 3 0x727269), .sl (q 1046) 0 1 3, .s0, .s0, .sl (q 1047) 0 3 1, .sl (q 1048) 0 3 1, I 1, I 2], .n0], shO 1002 1042 33 ct130o2⟩
set_option maxRecDepth 1000000 in
theorem ct130t6 : memoT ct130v5 ct130r6 = true := by kernel_rfl
noncomputable def ct130v6 : Ov := memoOv ct130r6 ct130v5
theorem ct130g6 {ν : Nat → Int} : OvGood ν ct130v6 := memo_good ct130g5 ct130g5 ct130t6
noncomputable def ct130o7 : List (List V) := [ck73, ck74, [I 5, I 1, I 0], [I 0, I 0, .b false], ck75, [I 0], [.sl (q 1054) 0 1 1], ck76, ck77, [I 0, I 1, I 2, I 3], [I 0, I 0, I 0], [I 0, I 0, .b false], [I 5, I 1, I 0], [I 0, I 0, I 0], ck78, [.s (T 3 0x693e69)], [I 5], [I 0, I 1], ck61, ck79, [I 5], [I 2, I 1], ck61, ck80, [I 5], [I 3, I 1], ck61, ck81, [I 4], [.s (T 3 0x693e69)], ck82, ck66, ck67, ck68, ck69, ck70, ck146, [I 5], [I 5], [I 5], [I 0], [I 2], [I 3], [I 4]]
noncomputable def ct130r7 : Rec := ⟨21, [.g [.sl (q 1002) 0 1 1, .sl (q 1003) 0 6 4, .sl (q 1004) 0 6 6, .sl (q 1005) 0 1 4, .s (T 3 0x727269), .sl (q 1006) 0 1 3, .s0, .s0, .sl (q 1007) 0 3 1, .sl (q 1008) 0 3 1, I 1, I 2]], q 1039, nmL 1002 ct130o2, cn3, .u [.p (q 1039) 0, .n0], ct130o7⟩
set_option maxRecDepth 1000000 in
theorem ct130t7 : memoT ct130v6 ct130r7 = true := by kernel_rfl
noncomputable def ct130v7 : Ov := memoOv ct130r7 ct130v6
theorem ct130g7 {ν : Nat → Int} : OvGood ν ct130v7 := memo_good ct130g6 ct130g6 ct130t7
set_option maxRecDepth 1000000 in
theorem ct130_ev : okv (mEv ct130v7 [] [(lowZ 0 4, 1), (lowZ 1 5, 3)] 3 [.i .i64 (.var 0), .i .i64 (.var 1), .b false] start) = some (.b true) := by kernel_rfl
theorem ct130 (x y : Int) (w : World) (hA : Tp.Asc w) (h0 : zval (fun n => match n with | 0 => x | _ => y) (lowZ 0 4) = 1) (h1 : zval (fun n => match n with | 0 => x | _ => y) (lowZ 1 5) = 3) : Calls Tryz.prog 3 #[.int .i64 x, .int .i64 y, .bool false] w (fun e w' => e = .returned (.bool true) ∧ Below w.heap.size w w') :=
  tm_true (ν := (fun n => match n with | 0 => x | _ => y)) w hA ct130g7 path_nil (norm_cons h0 (norm_cons h1 norm_nil)) ct130_ev (args := [.int .i64 x, .int .i64 y, .bool false]) (by simp [VRs, VR, zval])
end Go.Proofs.YtoinghomkcjkcaaGreatDoor
/- TopCasts 131: its calls, and that it answers true. -/
namespace Go.Proofs.YtoinghomkcjkcaaGreatDoor
set_option linter.unusedSimpArgs false
set_option linter.unusedVariables false
set_option linter.constructorNameAsVariable false
open Go Go.RowKit
open Ev
noncomputable def ct131s : List Z := Ev.app cfam (T 131 0x3b2050203a2029203020595449524f495250202c2031204c41565245544e4920282054204b534154204d4152474f52505f444e45203b2046495f444e45203b2031203d3a20792045534c45203b2032203d3a2079204e454854204c4c554e203d2072204649203b2066203d3f2072203b20292062202820464552203d3a2066203b2044)
noncomputable def ct131o0 : List (List V) := [ck0, ck83, ck2, [.s (T 1 0x46)], ck3, ck4, ck5, ck6, [.s (T 1 0x46)], ck7, ck119, ck84, ck10, ck10, ck11, ck12, ck10, ck13, ck10, ck14, ck10, ck15, ck133, ck26, ck85, ck86, ck87, ck88, ck89, ck90, ck91, ck92, ck27, ck57, ck28, ck30, ck31, ck32, ck33, ck93, ck35, ck36, ck31, ck35]
noncomputable def ct131r0 : Rec := ⟨23, [.s ct131s], q 1004, [], cn4, .u [.g [.sl (q 1004) 0 11 7], .sl (q 1005) 0 1 7, .n0], ct131o0⟩
set_option maxRecDepth 1000000 in
theorem ct131t0 : memoT sOv ct131r0 = true := by kernel_rfl
noncomputable def ct131v0 : Ov := memoOv ct131r0 sOv
theorem ct131g0 {ν : Nat → Int} : OvGood ν ct131v0 := memo_good sOv_good sOv_good ct131t0
noncomputable def ct131o1 : List (List V) := [ck37, ck38, [.s (T 1 0x46)], ck3, ck39, ck40, ck41, [.s (T 1 0x46)], ck42, ck119, ck94, ck10, ck10, ck44, ck45, ck10, ck46, ck10, ck47, ck10, ck48, ck133, ck26, ck95, ck96, ck97, ck98, ck87, ck99, ck89, ck100, ck27, ck101, ck56, ck30, ck31, ck32, ck33, ck102, ck35, ck36, ck31, ck35]
noncomputable def ct131r1 : Rec := ⟨14, [.s ct131s], q 1003, [], cn5, .u [.g [.sl (q 1003) 0 11 7], .s0], ct131o1⟩
set_option maxRecDepth 1000000 in
theorem ct131t1 : memoT ct131v0 ct131r1 = true := by kernel_rfl
noncomputable def ct131v1 : Ov := memoOv ct131r1 ct131v0
theorem ct131g1 {ν : Nat → Int} : OvGood ν ct131v1 := memo_good ct131g0 ct131g0 ct131t1
noncomputable def ct131o2 : List (List V) := [[.sl (q 1009) 0 1 1], ck59, ck60, [I 0, I 1, I 2, I 3], [I 0, I 0, I 0], [I 0, I 0, .b false], [I 5, I 1, I 0], [.s (T 3 0x693e69)], [I 5], [I 0, I 1], ck61, ck62, [I 5], [I 2, I 1], ck61, ck63, [I 5], [I 3, I 1], ck61, ck64, [I 4], [.s (T 3 0x693e69)], ck65, ck66, ck67, ck68, ck69, ck70, ck148, [I 0], [I 2], [I 3], [I 4]]
noncomputable def ct131r2 : Rec := ⟨12, [.s ct131s], q 1002, [], N [4099, 5322, 5654, 5466, 4092, 5342, 5561, 4097, 4145, 4288, 4291, 4371, 4433, 4610, 4613, 4707, 4785, 4997, 5000, 5110, 5237, 5240, 5320, 5844, 5985, 6356, 6738, 6840, 7401, 4369, 4705, 5108, 5318], .u [.g [.sl (q 1002) 0 1 1, .sl (q 1003) 0 6 4, .sl (q 1004) 0 6 6, .sl (q 1005) 0 1 4, .s (T 3 0x727269), .sl (q 1006) 0 1 3, .s0, .s0, .sl (q 1007) 0 3 1, .sl (q 1008) 0 3 1, I 1, I 2], .s0], ct131o2⟩
set_option maxRecDepth 1000000 in
theorem ct131t2 : memoT ct131v1 ct131r2 = true := by kernel_rfl
noncomputable def ct131v2 : Ov := memoOv ct131r2 ct131v1
theorem ct131g2 {ν : Nat → Int} : OvGood ν ct131v2 := memo_good ct131g1 ct131g1 ct131t2
noncomputable def ct131r3 : Rec := ⟨15, [.g [.sl (q 1002) 0 1 1, .sl (q 1003) 0 6 4, .sl (q 1004) 0 6 6, .sl (q 1005) 0 1 4, .s (T 3 0x727269), .sl (q 1006) 0 1 3, .s0, .s0, .sl (q 1007) 0 3 1, .sl (q 1008) 0 3 1, I 1, I 2]], q 1041, nmL 1002 ct131o2, N [], .n0, []⟩
set_option maxRecDepth 1000000 in
theorem ct131t3 : memoT ct131v2 ct131r3 = true := by kernel_rfl
noncomputable def ct131v3 : Ov := memoOv ct131r3 ct131v2
theorem ct131g3 {ν : Nat → Int} : OvGood ν ct131v3 := memo_good ct131g2 ct131g2 ct131t3
noncomputable def ct131o4 : List (List V) := [ck149]
noncomputable def ct131r4 : Rec := ⟨90, [.g [.sl (q 1002) 0 1 1, .sl (q 1003) 0 6 4, .sl (q 1004) 0 6 6, .sl (q 1005) 0 1 4, .s (T 3 0x727269), .sl (q 1006) 0 1 3, .s0, .s0, .sl (q 1007) 0 3 1, .sl (q 1008) 0 3 1, I 1, I 2]], q 1041, nmL 1002 ct131o2, N [2001], .u [.sl (q 1041) 0 1 1224, .n0], ct131o4⟩
set_option maxRecDepth 1000000 in
theorem ct131t4 : memoT ct131v3 ct131r4 = true := by kernel_rfl
noncomputable def ct131v4 : Ov := memoOv ct131r4 ct131v3
theorem ct131g4 {ν : Nat → Int} : OvGood ν ct131v4 := memo_good ct131g3 ct131g3 ct131t4
noncomputable def ct131o5 : List (List V) := [ck149]
noncomputable def ct131r5 : Rec := ⟨90, [.g [.sl (q 1048) 0 1 1, .sl (q 1122) 0 6 4, .sl (q 1386) 0 6 6, .sl (q 1394) 0 1 4, .s (T 3 0x727269), .sl (q 1400) 0 1 3, .s0, .s0, .sl (q 1404) 0 3 1, .sl (q 1408) 0 3 1, I 1, I 2]], q 1410, rnL 1002 (N [1048, 1122, 1386, 1394, 1400, 1404, 1408, 1046, 1051, 1055, 1059, 1065, 1071, 1075, 1079, 1085, 1091, 1095, 1099, 1105, 1111, 1113, 1119, 1151, 1179, 1231, 1267, 1295, 1383, 1062, 1082, 1102, 1116]) ct131o2, N [2370], .u [.sl (q 1410) 0 1 1224, .n0], ct131o5⟩
set_option maxRecDepth 1000000 in
theorem ct131t5 : memoT ct131v4 ct131r5 = true := by kernel_rfl
noncomputable def ct131v5 : Ov := memoOv ct131r5 ct131v4
theorem ct131g5 {ν : Nat → Int} : OvGood ν ct131v5 := memo_good ct131g4 ct131g4 ct131t5
noncomputable def ct131r6 : Rec := ⟨91, [.sl (q 1041) 0 1 1224], q 1042, [(q 1041, ck149)], cn2, .u [.g [.sl (q 1042) 0 1 1, .sl (q 1043) 0 6 4, .sl (q 1044) 0 6 6, .sl (q 1045) 0 1 4, .s (T 3 0x727269), .sl (q 1046) 0 1 3, .s0, .s0, .sl (q 1047) 0 3 1, .sl (q 1048) 0 3 1, I 1, I 2], .n0], shO 1002 1042 33 ct131o2⟩
set_option maxRecDepth 1000000 in
theorem ct131t6 : memoT ct131v5 ct131r6 = true := by kernel_rfl
noncomputable def ct131v6 : Ov := memoOv ct131r6 ct131v5
theorem ct131g6 {ν : Nat → Int} : OvGood ν ct131v6 := memo_good ct131g5 ct131g5 ct131t6
noncomputable def ct131o7 : List (List V) := [ck73, ck74, [I 5, I 1, I 0], [I 0, I 0, .b false], ck75, [I 0], [.sl (q 1054) 0 1 1], ck76, ck77, [I 0, I 1, I 2, I 3], [I 0, I 0, I 0], [I 0, I 0, .b false], [I 5, I 1, I 0], [I 0, I 0, I 0], ck78, [.s (T 3 0x693e69)], [I 5], [I 0, I 1], ck61, ck79, [I 5], [I 2, I 1], ck61, ck80, [I 5], [I 3, I 1], ck61, ck81, [I 4], [.s (T 3 0x693e69)], ck82, ck66, ck67, ck68, ck69, ck70, ck148, [I 5], [I 5], [I 5], [I 0], [I 2], [I 3], [I 4]]
noncomputable def ct131r7 : Rec := ⟨21, [.g [.sl (q 1002) 0 1 1, .sl (q 1003) 0 6 4, .sl (q 1004) 0 6 6, .sl (q 1005) 0 1 4, .s (T 3 0x727269), .sl (q 1006) 0 1 3, .s0, .s0, .sl (q 1007) 0 3 1, .sl (q 1008) 0 3 1, I 1, I 2]], q 1039, nmL 1002 ct131o2, cn3, .u [.p (q 1039) 0, .n0], ct131o7⟩
set_option maxRecDepth 1000000 in
theorem ct131t7 : memoT ct131v6 ct131r7 = true := by kernel_rfl
noncomputable def ct131v7 : Ov := memoOv ct131r7 ct131v6
theorem ct131g7 {ν : Nat → Int} : OvGood ν ct131v7 := memo_good ct131g6 ct131g6 ct131t7
set_option maxRecDepth 1000000 in
theorem ct131_ev : okv (mEv ct131v7 [] [(lowZ 0 4, 1), (lowZ 1 5, 3)] 3 [.i .i64 (.var 0), .i .i64 (.var 1), .b true] start) = some (.b true) := by kernel_rfl
theorem ct131 (x y : Int) (w : World) (hA : Tp.Asc w) (h0 : zval (fun n => match n with | 0 => x | _ => y) (lowZ 0 4) = 1) (h1 : zval (fun n => match n with | 0 => x | _ => y) (lowZ 1 5) = 3) : Calls Tryz.prog 3 #[.int .i64 x, .int .i64 y, .bool true] w (fun e w' => e = .returned (.bool true) ∧ Below w.heap.size w w') :=
  tm_true (ν := (fun n => match n with | 0 => x | _ => y)) w hA ct131g7 path_nil (norm_cons h0 (norm_cons h1 norm_nil)) ct131_ev (args := [.int .i64 x, .int .i64 y, .bool true]) (by simp [VRs, VR, zval])
end Go.Proofs.YtoinghomkcjkcaaGreatDoor
