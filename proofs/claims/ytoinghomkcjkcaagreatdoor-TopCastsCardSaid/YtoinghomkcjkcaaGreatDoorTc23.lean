/- TopCasts 230: its calls, and that it answers true. -/
import Derived.Test.YtoinghomkcjkcaaGreatDoorTcD
namespace Go.Proofs.YtoinghomkcjkcaaGreatDoor
set_option linter.unusedSimpArgs false
set_option linter.unusedVariables false
set_option linter.constructorNameAsVariable false
open Go Go.RowKit
open Ev
noncomputable def ct230s : List Z := Ev.app cfam (T 140 0x3b2050203a2029203020595449524f495250202c2031204c41565245544e4920282054204b534154204d4152474f52505f444e45203b2046495f444e45203b2031203d3a20792045534c45203b2032203d3a2079204e454854204c4c554e203d2072204649203b2029206620282044205341203d3a2072203b20292063202820464552203d3a2066203b2044)
noncomputable def ct230o0 : List (List V) := [ck0, ck1, ck2, [.s (T 1 0x46)], ck3, ck4, ck5, ck6, [.s (T 1 0x46)], ck7, ck119, ck9, ck10, ck10, ck11, ck12, ck10, ck13, ck10, ck14, ck10, ck15, ck154, ck120, ck18, ck19, ck20, ck21, ck22, ck23, ck24, ck25, ck26, ck27, ck28, ck29, ck30, ck31, ck32, ck33, ck34, ck35, ck36, ck31, ck35]
noncomputable def ct230r0 : Rec := ⟨23, [.s ct230s], q 1004, [], cn0, .u [.g [.sl (q 1004) 0 11 7], .sl (q 1005) 0 1 7, .n0], ct230o0⟩
set_option maxRecDepth 1000000 in
theorem ct230t0 : memoT sOv ct230r0 = true := by kernel_rfl
noncomputable def ct230v0 : Ov := memoOv ct230r0 sOv
theorem ct230g0 {ν : Nat → Int} : OvGood ν ct230v0 := memo_good sOv_good sOv_good ct230t0
noncomputable def ct230o1 : List (List V) := [ck37, ck38, [.s (T 1 0x46)], ck3, ck39, ck40, ck41, [.s (T 1 0x46)], ck42, ck119, ck43, ck10, ck10, ck44, ck45, ck10, ck46, ck10, ck47, ck10, ck48, ck154, ck121, ck50, ck51, ck52, ck53, ck20, ck54, ck22, ck55, ck26, ck27, ck56, ck57, ck30, ck31, ck32, ck33, ck58, ck35, ck36, ck31, ck35]
noncomputable def ct230r1 : Rec := ⟨14, [.s ct230s], q 1003, [], cn1, .u [.g [.sl (q 1003) 0 11 7], .s0], ct230o1⟩
set_option maxRecDepth 1000000 in
theorem ct230t1 : memoT ct230v0 ct230r1 = true := by kernel_rfl
noncomputable def ct230v1 : Ov := memoOv ct230r1 ct230v0
theorem ct230g1 {ν : Nat → Int} : OvGood ν ct230v1 := memo_good ct230g0 ct230g0 ct230t1
noncomputable def ct230o2 : List (List V) := [[.sl (q 1009) 0 1 1], ck59, ck60, [I 0, I 1, I 2, I 3], [I 0, I 0, I 0], [I 0, I 0, .b false], [I 5, I 1, I 0], [.s (T 3 0x693e69)], [I 5], [I 0, I 1], ck61, ck62, [I 5], [I 2, I 1], ck61, ck63, [I 5], [I 3, I 1], ck61, ck64, [I 4], [.s (T 3 0x693e69)], ck65, ck66, ck67, ck68, ck69, ck70, ck167, [I 0], [I 2], [I 3], [I 4]]
noncomputable def ct230r2 : Rec := ⟨12, [.s ct230s], q 1002, [], N [4136, 5359, 5691, 5503, 4129, 5379, 5598, 4134, 4182, 4325, 4328, 4408, 4470, 4647, 4650, 4744, 4822, 5034, 5037, 5147, 5274, 5277, 5357, 5881, 6022, 6393, 6775, 6877, 7443, 4406, 4742, 5145, 5355], .u [.g [.sl (q 1002) 0 1 1, .sl (q 1003) 0 6 4, .sl (q 1004) 0 6 6, .sl (q 1005) 0 1 4, .s (T 3 0x727269), .sl (q 1006) 0 1 3, .s0, .s0, .sl (q 1007) 0 3 1, .sl (q 1008) 0 3 1, I 1, I 2], .s0], ct230o2⟩
set_option maxRecDepth 1000000 in
theorem ct230t2 : memoT ct230v1 ct230r2 = true := by kernel_rfl
noncomputable def ct230v2 : Ov := memoOv ct230r2 ct230v1
theorem ct230g2 {ν : Nat → Int} : OvGood ν ct230v2 := memo_good ct230g1 ct230g1 ct230t2
noncomputable def ct230r3 : Rec := ⟨15, [.g [.sl (q 1002) 0 1 1, .sl (q 1003) 0 6 4, .sl (q 1004) 0 6 6, .sl (q 1005) 0 1 4, .s (T 3 0x727269), .sl (q 1006) 0 1 3, .s0, .s0, .sl (q 1007) 0 3 1, .sl (q 1008) 0 3 1, I 1, I 2]], q 1041, nmL 1002 ct230o2, N [], .n0, []⟩
set_option maxRecDepth 1000000 in
theorem ct230t3 : memoT ct230v2 ct230r3 = true := by kernel_rfl
noncomputable def ct230v3 : Ov := memoOv ct230r3 ct230v2
theorem ct230g3 {ν : Nat → Int} : OvGood ν ct230v3 := memo_good ct230g2 ct230g2 ct230t3
noncomputable def ct230o4 : List (List V) := [ck168]
noncomputable def ct230r4 : Rec := ⟨90, [.g [.sl (q 1002) 0 1 1, .sl (q 1003) 0 6 4, .sl (q 1004) 0 6 6, .sl (q 1005) 0 1 4, .s (T 3 0x727269), .sl (q 1006) 0 1 3, .s0, .s0, .sl (q 1007) 0 3 1, .sl (q 1008) 0 3 1, I 1, I 2]], q 1041, nmL 1002 ct230o2, N [2001], .u [.sl (q 1041) 0 1 1224, .n0], ct230o4⟩
set_option maxRecDepth 1000000 in
theorem ct230t4 : memoT ct230v3 ct230r4 = true := by kernel_rfl
noncomputable def ct230v4 : Ov := memoOv ct230r4 ct230v3
theorem ct230g4 {ν : Nat → Int} : OvGood ν ct230v4 := memo_good ct230g3 ct230g3 ct230t4
noncomputable def ct230o5 : List (List V) := [ck168]
noncomputable def ct230r5 : Rec := ⟨90, [.g [.sl (q 1048) 0 1 1, .sl (q 1122) 0 6 4, .sl (q 1386) 0 6 6, .sl (q 1394) 0 1 4, .s (T 3 0x727269), .sl (q 1400) 0 1 3, .s0, .s0, .sl (q 1404) 0 3 1, .sl (q 1408) 0 3 1, I 1, I 2]], q 1410, rnL 1002 (N [1048, 1122, 1386, 1394, 1400, 1404, 1408, 1046, 1051, 1055, 1059, 1065, 1071, 1075, 1079, 1085, 1091, 1095, 1099, 1105, 1111, 1113, 1119, 1151, 1179, 1231, 1267, 1295, 1383, 1062, 1082, 1102, 1116]) ct230o2, N [2370], .u [.sl (q 1410) 0 1 1224, .n0], ct230o5⟩
set_option maxRecDepth 1000000 in
theorem ct230t5 : memoT ct230v4 ct230r5 = true := by kernel_rfl
noncomputable def ct230v5 : Ov := memoOv ct230r5 ct230v4
theorem ct230g5 {ν : Nat → Int} : OvGood ν ct230v5 := memo_good ct230g4 ct230g4 ct230t5
noncomputable def ct230r6 : Rec := ⟨91, [.sl (q 1041) 0 1 1224], q 1042, [(q 1041, ck168)], cn2, .u [.g [.sl (q 1042) 0 1 1, .sl (q 1043) 0 6 4, .sl (q 1044) 0 6 6, .sl (q 1045) 0 1 4, .s (T 3 0x727269), .sl (q 1046) 0 1 3, .s0, .s0, .sl (q 1047) 0 3 1, .sl (q 1048) 0 3 1, I 1, I 2], .n0], shO 1002 1042 33 ct230o2⟩
set_option maxRecDepth 1000000 in
theorem ct230t6 : memoT ct230v5 ct230r6 = true := by kernel_rfl
noncomputable def ct230v6 : Ov := memoOv ct230r6 ct230v5
theorem ct230g6 {ν : Nat → Int} : OvGood ν ct230v6 := memo_good ct230g5 ct230g5 ct230t6
noncomputable def ct230o7 : List (List V) := [ck73, ck74, [I 5, I 1, I 0], [I 0, I 0, .b false], ck75, [I 0], [.sl (q 1054) 0 1 1], ck76, ck77, [I 0, I 1, I 2, I 3], [I 0, I 0, I 0], [I 0, I 0, .b false], [I 5, I 1, I 0], [I 0, I 0, I 0], ck78, [.s (T 3 0x693e69)], [I 5], [I 0, I 1], ck61, ck79, [I 5], [I 2, I 1], ck61, ck80, [I 5], [I 3, I 1], ck61, ck81, [I 4], [.s (T 3 0x693e69)], ck82, ck66, ck67, ck68, ck69, ck70, ck167, [I 5], [I 5], [I 5], [I 0], [I 2], [I 3], [I 4]]
noncomputable def ct230r7 : Rec := ⟨21, [.g [.sl (q 1002) 0 1 1, .sl (q 1003) 0 6 4, .sl (q 1004) 0 6 6, .sl (q 1005) 0 1 4, .s (T 3 0x727269), .sl (q 1006) 0 1 3, .s0, .s0, .sl (q 1007) 0 3 1, .sl (q 1008) 0 3 1, I 1, I 2]], q 1039, nmL 1002 ct230o2, cn3, .u [.p (q 1039) 0, .n0], ct230o7⟩
set_option maxRecDepth 1000000 in
theorem ct230t7 : memoT ct230v6 ct230r7 = true := by kernel_rfl
noncomputable def ct230v7 : Ov := memoOv ct230r7 ct230v6
theorem ct230g7 {ν : Nat → Int} : OvGood ν ct230v7 := memo_good ct230g6 ct230g6 ct230t7
set_option maxRecDepth 1000000 in
theorem ct230_ev : okv (mEv ct230v7 [] [(lowZ 0 4, 2), (lowZ 1 5, 3)] 3 [.i .i64 (.var 0), .i .i64 (.var 1), .b false] start) = some (.b true) := by kernel_rfl
theorem ct230 (x y : Int) (w : World) (hA : Tp.Asc w) (h0 : zval (fun n => match n with | 0 => x | _ => y) (lowZ 0 4) = 2) (h1 : zval (fun n => match n with | 0 => x | _ => y) (lowZ 1 5) = 3) : Calls Tryz.prog 3 #[.int .i64 x, .int .i64 y, .bool false] w (fun e w' => e = .returned (.bool true) ∧ Below w.heap.size w w') :=
  tm_true (ν := (fun n => match n with | 0 => x | _ => y)) w hA ct230g7 path_nil (norm_cons h0 (norm_cons h1 norm_nil)) ct230_ev (args := [.int .i64 x, .int .i64 y, .bool false]) (by simp [VRs, VR, zval])
end Go.Proofs.YtoinghomkcjkcaaGreatDoor
/- TopCasts 231: its calls, and that it answers true. -/
namespace Go.Proofs.YtoinghomkcjkcaaGreatDoor
set_option linter.unusedSimpArgs false
set_option linter.unusedVariables false
set_option linter.constructorNameAsVariable false
open Go Go.RowKit
open Ev
noncomputable def ct231s : List Z := Ev.app cfam (T 131 0x3b2050203a2029203020595449524f495250202c2031204c41565245544e4920282054204b534154204d4152474f52505f444e45203b2046495f444e45203b2031203d3a20792045534c45203b2032203d3a2079204e454854204c4c554e203d2072204649203b2066203d3f2072203b20292063202820464552203d3a2066203b2044)
noncomputable def ct231o0 : List (List V) := [ck0, ck83, ck2, [.s (T 1 0x46)], ck3, ck4, ck5, ck6, [.s (T 1 0x46)], ck7, ck119, ck84, ck10, ck10, ck11, ck12, ck10, ck13, ck10, ck14, ck10, ck15, ck154, ck26, ck85, ck86, ck87, ck88, ck89, ck90, ck91, ck92, ck27, ck57, ck28, ck30, ck31, ck32, ck33, ck93, ck35, ck36, ck31, ck35]
noncomputable def ct231r0 : Rec := ⟨23, [.s ct231s], q 1004, [], cn4, .u [.g [.sl (q 1004) 0 11 7], .sl (q 1005) 0 1 7, .n0], ct231o0⟩
set_option maxRecDepth 1000000 in
theorem ct231t0 : memoT sOv ct231r0 = true := by kernel_rfl
noncomputable def ct231v0 : Ov := memoOv ct231r0 sOv
theorem ct231g0 {ν : Nat → Int} : OvGood ν ct231v0 := memo_good sOv_good sOv_good ct231t0
noncomputable def ct231o1 : List (List V) := [ck37, ck38, [.s (T 1 0x46)], ck3, ck39, ck40, ck41, [.s (T 1 0x46)], ck42, ck119, ck94, ck10, ck10, ck44, ck45, ck10, ck46, ck10, ck47, ck10, ck48, ck154, ck26, ck95, ck96, ck97, ck98, ck87, ck99, ck89, ck100, ck27, ck101, ck56, ck30, ck31, ck32, ck33, ck102, ck35, ck36, ck31, ck35]
noncomputable def ct231r1 : Rec := ⟨14, [.s ct231s], q 1003, [], cn5, .u [.g [.sl (q 1003) 0 11 7], .s0], ct231o1⟩
set_option maxRecDepth 1000000 in
theorem ct231t1 : memoT ct231v0 ct231r1 = true := by kernel_rfl
noncomputable def ct231v1 : Ov := memoOv ct231r1 ct231v0
theorem ct231g1 {ν : Nat → Int} : OvGood ν ct231v1 := memo_good ct231g0 ct231g0 ct231t1
noncomputable def ct231o2 : List (List V) := [[.sl (q 1009) 0 1 1], ck59, ck60, [I 0, I 1, I 2, I 3], [I 0, I 0, I 0], [I 0, I 0, .b false], [I 5, I 1, I 0], [.s (T 3 0x693e69)], [I 5], [I 0, I 1], ck61, ck62, [I 5], [I 2, I 1], ck61, ck63, [I 5], [I 3, I 1], ck61, ck64, [I 4], [.s (T 3 0x693e69)], ck65, ck66, ck67, ck68, ck69, ck70, ck169, [I 0], [I 2], [I 3], [I 4]]
noncomputable def ct231r2 : Rec := ⟨12, [.s ct231s], q 1002, [], N [4117, 5340, 5672, 5484, 4110, 5360, 5579, 4115, 4163, 4306, 4309, 4389, 4451, 4628, 4631, 4725, 4803, 5015, 5018, 5128, 5255, 5258, 5338, 5862, 6003, 6374, 6756, 6858, 7421, 4387, 4723, 5126, 5336], .u [.g [.sl (q 1002) 0 1 1, .sl (q 1003) 0 6 4, .sl (q 1004) 0 6 6, .sl (q 1005) 0 1 4, .s (T 3 0x727269), .sl (q 1006) 0 1 3, .s0, .s0, .sl (q 1007) 0 3 1, .sl (q 1008) 0 3 1, I 1, I 2], .s0], ct231o2⟩
set_option maxRecDepth 1000000 in
theorem ct231t2 : memoT ct231v1 ct231r2 = true := by kernel_rfl
noncomputable def ct231v2 : Ov := memoOv ct231r2 ct231v1
theorem ct231g2 {ν : Nat → Int} : OvGood ν ct231v2 := memo_good ct231g1 ct231g1 ct231t2
noncomputable def ct231r3 : Rec := ⟨15, [.g [.sl (q 1002) 0 1 1, .sl (q 1003) 0 6 4, .sl (q 1004) 0 6 6, .sl (q 1005) 0 1 4, .s (T 3 0x727269), .sl (q 1006) 0 1 3, .s0, .s0, .sl (q 1007) 0 3 1, .sl (q 1008) 0 3 1, I 1, I 2]], q 1041, nmL 1002 ct231o2, N [], .n0, []⟩
set_option maxRecDepth 1000000 in
theorem ct231t3 : memoT ct231v2 ct231r3 = true := by kernel_rfl
noncomputable def ct231v3 : Ov := memoOv ct231r3 ct231v2
theorem ct231g3 {ν : Nat → Int} : OvGood ν ct231v3 := memo_good ct231g2 ct231g2 ct231t3
noncomputable def ct231o4 : List (List V) := [ck170]
noncomputable def ct231r4 : Rec := ⟨90, [.g [.sl (q 1002) 0 1 1, .sl (q 1003) 0 6 4, .sl (q 1004) 0 6 6, .sl (q 1005) 0 1 4, .s (T 3 0x727269), .sl (q 1006) 0 1 3, .s0, .s0, .sl (q 1007) 0 3 1, .sl (q 1008) 0 3 1, I 1, I 2]], q 1041, nmL 1002 ct231o2, N [2001], .u [.sl (q 1041) 0 1 1224, .n0], ct231o4⟩
set_option maxRecDepth 1000000 in
theorem ct231t4 : memoT ct231v3 ct231r4 = true := by kernel_rfl
noncomputable def ct231v4 : Ov := memoOv ct231r4 ct231v3
theorem ct231g4 {ν : Nat → Int} : OvGood ν ct231v4 := memo_good ct231g3 ct231g3 ct231t4
noncomputable def ct231o5 : List (List V) := [ck170]
noncomputable def ct231r5 : Rec := ⟨90, [.g [.sl (q 1048) 0 1 1, .sl (q 1122) 0 6 4, .sl (q 1386) 0 6 6, .sl (q 1394) 0 1 4, .s (T 3 0x727269), .sl (q 1400) 0 1 3, .s0, .s0, .sl (q 1404) 0 3 1, .sl (q 1408) 0 3 1, I 1, I 2]], q 1410, rnL 1002 (N [1048, 1122, 1386, 1394, 1400, 1404, 1408, 1046, 1051, 1055, 1059, 1065, 1071, 1075, 1079, 1085, 1091, 1095, 1099, 1105, 1111, 1113, 1119, 1151, 1179, 1231, 1267, 1295, 1383, 1062, 1082, 1102, 1116]) ct231o2, N [2370], .u [.sl (q 1410) 0 1 1224, .n0], ct231o5⟩
set_option maxRecDepth 1000000 in
theorem ct231t5 : memoT ct231v4 ct231r5 = true := by kernel_rfl
noncomputable def ct231v5 : Ov := memoOv ct231r5 ct231v4
theorem ct231g5 {ν : Nat → Int} : OvGood ν ct231v5 := memo_good ct231g4 ct231g4 ct231t5
noncomputable def ct231r6 : Rec := ⟨91, [.sl (q 1041) 0 1 1224], q 1042, [(q 1041, ck170)], cn2, .u [.g [.sl (q 1042) 0 1 1, .sl (q 1043) 0 6 4, .sl (q 1044) 0 6 6, .sl (q 1045) 0 1 4, .s (T 3 0x727269), .sl (q 1046) 0 1 3, .s0, .s0, .sl (q 1047) 0 3 1, .sl (q 1048) 0 3 1, I 1, I 2], .n0], shO 1002 1042 33 ct231o2⟩
set_option maxRecDepth 1000000 in
theorem ct231t6 : memoT ct231v5 ct231r6 = true := by kernel_rfl
noncomputable def ct231v6 : Ov := memoOv ct231r6 ct231v5
theorem ct231g6 {ν : Nat → Int} : OvGood ν ct231v6 := memo_good ct231g5 ct231g5 ct231t6
noncomputable def ct231o7 : List (List V) := [ck73, ck74, [I 5, I 1, I 0], [I 0, I 0, .b false], ck75, [I 0], [.sl (q 1054) 0 1 1], ck76, ck77, [I 0, I 1, I 2, I 3], [I 0, I 0, I 0], [I 0, I 0, .b false], [I 5, I 1, I 0], [I 0, I 0, I 0], ck78, [.s (T 3 0x693e69)], [I 5], [I 0, I 1], ck61, ck79, [I 5], [I 2, I 1], ck61, ck80, [I 5], [I 3, I 1], ck61, ck81, [I 4], [.s (T 3 0x693e69)], ck82, ck66, ck67, ck68, ck69, ck70, ck169, [I 5], [I 5], [I 5], [I 0], [I 2], [I 3], [I 4]]
noncomputable def ct231r7 : Rec := ⟨21, [.g [.sl (q 1002) 0 1 1, .sl (q 1003) 0 6 4, .sl (q 1004) 0 6 6, .sl (q 1005) 0 1 4, .s (T 3 0x727269), .sl (q 1006) 0 1 3, .s0, .s0, .sl (q 1007) 0 3 1, .sl (q 1008) 0 3 1, I 1, I 2]], q 1039, nmL 1002 ct231o2, cn3, .u [.p (q 1039) 0, .n0], ct231o7⟩
set_option maxRecDepth 1000000 in
theorem ct231t7 : memoT ct231v6 ct231r7 = true := by kernel_rfl
noncomputable def ct231v7 : Ov := memoOv ct231r7 ct231v6
theorem ct231g7 {ν : Nat → Int} : OvGood ν ct231v7 := memo_good ct231g6 ct231g6 ct231t7
set_option maxRecDepth 1000000 in
theorem ct231_ev : okv (mEv ct231v7 [] [(lowZ 0 4, 2), (lowZ 1 5, 3)] 3 [.i .i64 (.var 0), .i .i64 (.var 1), .b true] start) = some (.b true) := by kernel_rfl
theorem ct231 (x y : Int) (w : World) (hA : Tp.Asc w) (h0 : zval (fun n => match n with | 0 => x | _ => y) (lowZ 0 4) = 2) (h1 : zval (fun n => match n with | 0 => x | _ => y) (lowZ 1 5) = 3) : Calls Tryz.prog 3 #[.int .i64 x, .int .i64 y, .bool true] w (fun e w' => e = .returned (.bool true) ∧ Below w.heap.size w w') :=
  tm_true (ν := (fun n => match n with | 0 => x | _ => y)) w hA ct231g7 path_nil (norm_cons h0 (norm_cons h1 norm_nil)) ct231_ev (args := [.int .i64 x, .int .i64 y, .bool true]) (by simp [VRs, VR, zval])
end Go.Proofs.YtoinghomkcjkcaaGreatDoor
