/- TopCasts 220: its calls, and that it answers true. -/
import Derived.Test.YtoinghomkcjkcaaGreatDoorTcD
namespace Go.Proofs.YtoinghomkcjkcaaGreatDoor
set_option linter.unusedSimpArgs false
set_option linter.unusedVariables false
set_option linter.constructorNameAsVariable false
open Go Go.RowKit
open Ev
noncomputable def ct220s : List Z := Ev.app cfam (T 140 0x3b2050203a2029203020595449524f495250202c2031204c41565245544e4920282054204b534154204d4152474f52505f444e45203b2046495f444e45203b2031203d3a20792045534c45203b2032203d3a2079204e454854204c4c554e203d2072204649203b2029206620282043205341203d3a2072203b20292063202820464552203d3a2066203b2043)
noncomputable def ct220o0 : List (List V) := [ck0, ck1, ck2, [.s (T 1 0x46)], ck3, ck4, ck5, ck6, [.s (T 1 0x46)], ck7, ck112, ck9, ck10, ck10, ck11, ck12, ck10, ck13, ck10, ck14, ck10, ck15, ck154, ck113, ck18, ck19, ck20, ck21, ck22, ck23, ck24, ck25, ck26, ck27, ck28, ck29, ck30, ck31, ck32, ck33, ck34, ck35, ck36, ck31, ck35]
noncomputable def ct220r0 : Rec := ⟨23, [.s ct220s], q 1004, [], cn0, .u [.g [.sl (q 1004) 0 11 7], .sl (q 1005) 0 1 7, .n0], ct220o0⟩
set_option maxRecDepth 1000000 in
theorem ct220t0 : memoT sOv ct220r0 = true := by kernel_rfl
noncomputable def ct220v0 : Ov := memoOv ct220r0 sOv
theorem ct220g0 {ν : Nat → Int} : OvGood ν ct220v0 := memo_good sOv_good sOv_good ct220t0
noncomputable def ct220o1 : List (List V) := [ck37, ck38, [.s (T 1 0x46)], ck3, ck39, ck40, ck41, [.s (T 1 0x46)], ck42, ck112, ck43, ck10, ck10, ck44, ck45, ck10, ck46, ck10, ck47, ck10, ck48, ck154, ck114, ck50, ck51, ck52, ck53, ck20, ck54, ck22, ck55, ck26, ck27, ck56, ck57, ck30, ck31, ck32, ck33, ck58, ck35, ck36, ck31, ck35]
noncomputable def ct220r1 : Rec := ⟨14, [.s ct220s], q 1003, [], cn1, .u [.g [.sl (q 1003) 0 11 7], .s0], ct220o1⟩
set_option maxRecDepth 1000000 in
theorem ct220t1 : memoT ct220v0 ct220r1 = true := by kernel_rfl
noncomputable def ct220v1 : Ov := memoOv ct220r1 ct220v0
theorem ct220g1 {ν : Nat → Int} : OvGood ν ct220v1 := memo_good ct220g0 ct220g0 ct220t1
noncomputable def ct220o2 : List (List V) := [[.sl (q 1009) 0 1 1], ck59, ck60, [I 0, I 1, I 2, I 3], [I 0, I 0, I 0], [I 0, I 0, .b false], [I 5, I 1, I 0], [.s (T 3 0x693e69)], [I 5], [I 0, I 1], ck61, ck62, [I 5], [I 2, I 1], ck61, ck63, [I 5], [I 3, I 1], ck61, ck64, [I 4], [.s (T 3 0x693e69)], ck65, ck66, ck67, ck68, ck69, ck70, ck163, [I 0], [I 2], [I 3], [I 4]]
noncomputable def ct220r2 : Rec := ⟨12, [.s ct220s], q 1002, [], N [4134, 5357, 5689, 5501, 4127, 5377, 5596, 4132, 4180, 4323, 4326, 4406, 4468, 4645, 4648, 4742, 4820, 5032, 5035, 5145, 5272, 5275, 5355, 5879, 6020, 6391, 6773, 6875, 7439, 4404, 4740, 5143, 5353], .u [.g [.sl (q 1002) 0 1 1, .sl (q 1003) 0 6 4, .sl (q 1004) 0 6 6, .sl (q 1005) 0 1 4, .s (T 3 0x727269), .sl (q 1006) 0 1 3, .s0, .s0, .sl (q 1007) 0 3 1, .sl (q 1008) 0 3 1, I 1, I 2], .s0], ct220o2⟩
set_option maxRecDepth 1000000 in
theorem ct220t2 : memoT ct220v1 ct220r2 = true := by kernel_rfl
noncomputable def ct220v2 : Ov := memoOv ct220r2 ct220v1
theorem ct220g2 {ν : Nat → Int} : OvGood ν ct220v2 := memo_good ct220g1 ct220g1 ct220t2
noncomputable def ct220r3 : Rec := ⟨15, [.g [.sl (q 1002) 0 1 1, .sl (q 1003) 0 6 4, .sl (q 1004) 0 6 6, .sl (q 1005) 0 1 4, .s (T 3 0x727269), .sl (q 1006) 0 1 3, .s0, .s0, .sl (q 1007) 0 3 1, .sl (q 1008) 0 3 1, I 1, I 2]], q 1041, nmL 1002 ct220o2, N [], .n0, []⟩
set_option maxRecDepth 1000000 in
theorem ct220t3 : memoT ct220v2 ct220r3 = true := by kernel_rfl
noncomputable def ct220v3 : Ov := memoOv ct220r3 ct220v2
theorem ct220g3 {ν : Nat → Int} : OvGood ν ct220v3 := memo_good ct220g2 ct220g2 ct220t3
noncomputable def ct220o4 : List (List V) := [ck164]
noncomputable def ct220r4 : Rec := ⟨90, [.g [.sl (q 1002) 0 1 1, .sl (q 1003) 0 6 4, .sl (q 1004) 0 6 6, .sl (q 1005) 0 1 4, .s (T 3 0x727269), .sl (q 1006) 0 1 3, .s0, .s0, .sl (q 1007) 0 3 1, .sl (q 1008) 0 3 1, I 1, I 2]], q 1041, nmL 1002 ct220o2, N [2001], .u [.sl (q 1041) 0 1 1224, .n0], ct220o4⟩
set_option maxRecDepth 1000000 in
theorem ct220t4 : memoT ct220v3 ct220r4 = true := by kernel_rfl
noncomputable def ct220v4 : Ov := memoOv ct220r4 ct220v3
theorem ct220g4 {ν : Nat → Int} : OvGood ν ct220v4 := memo_good ct220g3 ct220g3 ct220t4
noncomputable def ct220o5 : List (List V) := [ck164]
noncomputable def ct220r5 : Rec := ⟨90, [.g [.sl (q 1048) 0 1 1, .sl (q 1122) 0 6 4, .sl (q 1386) 0 6 6, .sl (q 1394) 0 1 4, .s (T 3 0x727269), .sl (q 1400) 0 1 3, .s0, .s0, .sl (q 1404) 0 3 1, .sl (q 1408) 0 3 1, I 1, I 2]], q 1410, rnL 1002 (N [1048, 1122, 1386, 1394, 1400, 1404, 1408, 1046, 1051, 1055, 1059, 1065, 1071, 1075, 1079, 1085, 1091, 1095, 1099, 1105, 1111, 1113, 1119, 1151, 1179, 1231, 1267, 1295, 1383, 1062, 1082, 1102, 1116]) ct220o2, N [2370], .u [.sl (q 1410) 0 1 1224, .n0], ct220o5⟩
set_option maxRecDepth 1000000 in
theorem ct220t5 : memoT ct220v4 ct220r5 = true := by kernel_rfl
noncomputable def ct220v5 : Ov := memoOv ct220r5 ct220v4
theorem ct220g5 {ν : Nat → Int} : OvGood ν ct220v5 := memo_good ct220g4 ct220g4 ct220t5
noncomputable def ct220r6 : Rec := ⟨91, [.sl (q 1041) 0 1 1224], q 1042, [(q 1041, ck164)], cn2, .u [.g [.sl (q 1042) 0 1 1, .sl (q 1043) 0 6 4, .sl (q 1044) 0 6 6, .sl (q 1045) 0 1 4, .s (T 3 0x727269), .sl (q 1046) 0 1 3, .s0, .s0, .sl (q 1047) 0 3 1, .sl (q 1048) 0 3 1, I 1, I 2], .n0], shO 1002 1042 33 ct220o2⟩
set_option maxRecDepth 1000000 in
theorem ct220t6 : memoT ct220v5 ct220r6 = true := by kernel_rfl
noncomputable def ct220v6 : Ov := memoOv ct220r6 ct220v5
theorem ct220g6 {ν : Nat → Int} : OvGood ν ct220v6 := memo_good ct220g5 ct220g5 ct220t6
noncomputable def ct220o7 : List (List V) := [ck73, ck74, [I 5, I 1, I 0], [I 0, I 0, .b false], ck75, [I 0], [.sl (q 1054) 0 1 1], ck76, ck77, [I 0, I 1, I 2, I 3], [I 0, I 0, I 0], [I 0, I 0, .b false], [I 5, I 1, I 0], [I 0, I 0, I 0], ck78, [.s (T 3 0x693e69)], [I 5], [I 0, I 1], ck61, ck79, [I 5], [I 2, I 1], ck61, ck80, [I 5], [I 3, I 1], ck61, ck81, [I 4], [.s (T 3 0x693e69)], ck82, ck66, ck67, ck68, ck69, ck70, ck163, [I 5], [I 5], [I 5], [I 0], [I 2], [I 3], [I 4]]
noncomputable def ct220r7 : Rec := ⟨21, [.g [.sl (q 1002) 0 1 1, .sl (q 1003) 0 6 4, .sl (q 1004) 0 6 6, .sl (q 1005) 0 1 4, .s (T 3 0x727269), .sl (q 1006) 0 1 3, .s0, .s0, .sl (q 1007) 0 3 1, .sl (q 1008) 0 3 1, I 1, I 2]], q 1039, nmL 1002 ct220o2, cn3, .u [.p (q 1039) 0, .n0], ct220o7⟩
set_option maxRecDepth 1000000 in
theorem ct220t7 : memoT ct220v6 ct220r7 = true := by kernel_rfl
noncomputable def ct220v7 : Ov := memoOv ct220r7 ct220v6
theorem ct220g7 {ν : Nat → Int} : OvGood ν ct220v7 := memo_good ct220g6 ct220g6 ct220t7
set_option maxRecDepth 1000000 in
theorem ct220_ev : okv (mEv ct220v7 [] [(lowZ 0 4, 2), (lowZ 1 5, 2)] 3 [.i .i64 (.var 0), .i .i64 (.var 1), .b false] start) = some (.b true) := by kernel_rfl
theorem ct220 (x y : Int) (w : World) (hA : Tp.Asc w) (h0 : zval (fun n => match n with | 0 => x | _ => y) (lowZ 0 4) = 2) (h1 : zval (fun n => match n with | 0 => x | _ => y) (lowZ 1 5) = 2) : Calls Tryz.prog 3 #[.int .i64 x, .int .i64 y, .bool false] w (fun e w' => e = .returned (.bool true) ∧ Below w.heap.size w w') :=
  tm_true (ν := (fun n => match n with | 0 => x | _ => y)) w hA ct220g7 path_nil (norm_cons h0 (norm_cons h1 norm_nil)) ct220_ev (args := [.int .i64 x, .int .i64 y, .bool false]) (by simp [VRs, VR, zval])
end Go.Proofs.YtoinghomkcjkcaaGreatDoor
/- TopCasts 221: its calls, and that it answers true. -/
namespace Go.Proofs.YtoinghomkcjkcaaGreatDoor
set_option linter.unusedSimpArgs false
set_option linter.unusedVariables false
set_option linter.constructorNameAsVariable false
open Go Go.RowKit
open Ev
noncomputable def ct221s : List Z := Ev.app cfam (T 131 0x3b2050203a2029203020595449524f495250202c2031204c41565245544e4920282054204b534154204d4152474f52505f444e45203b2046495f444e45203b2031203d3a20792045534c45203b2032203d3a2079204e454854204c4c554e203d2072204649203b2066203d3f2072203b20292063202820464552203d3a2066203b2043)
noncomputable def ct221o0 : List (List V) := [ck0, ck83, ck2, [.s (T 1 0x46)], ck3, ck4, ck5, ck6, [.s (T 1 0x46)], ck7, ck112, ck84, ck10, ck10, ck11, ck12, ck10, ck13, ck10, ck14, ck10, ck15, ck154, ck26, ck85, ck86, ck87, ck88, ck89, ck90, ck91, ck92, ck27, ck57, ck28, ck30, ck31, ck32, ck33, ck93, ck35, ck36, ck31, ck35]
noncomputable def ct221r0 : Rec := ⟨23, [.s ct221s], q 1004, [], cn4, .u [.g [.sl (q 1004) 0 11 7], .sl (q 1005) 0 1 7, .n0], ct221o0⟩
set_option maxRecDepth 1000000 in
theorem ct221t0 : memoT sOv ct221r0 = true := by kernel_rfl
noncomputable def ct221v0 : Ov := memoOv ct221r0 sOv
theorem ct221g0 {ν : Nat → Int} : OvGood ν ct221v0 := memo_good sOv_good sOv_good ct221t0
noncomputable def ct221o1 : List (List V) := [ck37, ck38, [.s (T 1 0x46)], ck3, ck39, ck40, ck41, [.s (T 1 0x46)], ck42, ck112, ck94, ck10, ck10, ck44, ck45, ck10, ck46, ck10, ck47, ck10, ck48, ck154, ck26, ck95, ck96, ck97, ck98, ck87, ck99, ck89, ck100, ck27, ck101, ck56, ck30, ck31, ck32, ck33, ck102, ck35, ck36, ck31, ck35]
noncomputable def ct221r1 : Rec := ⟨14, [.s ct221s], q 1003, [], cn5, .u [.g [.sl (q 1003) 0 11 7], .s0], ct221o1⟩
set_option maxRecDepth 1000000 in
theorem ct221t1 : memoT ct221v0 ct221r1 = true := by kernel_rfl
noncomputable def ct221v1 : Ov := memoOv ct221r1 ct221v0
theorem ct221g1 {ν : Nat → Int} : OvGood ν ct221v1 := memo_good ct221g0 ct221g0 ct221t1
noncomputable def ct221o2 : List (List V) := [[.sl (q 1009) 0 1 1], ck59, ck60, [I 0, I 1, I 2, I 3], [I 0, I 0, I 0], [I 0, I 0, .b false], [I 5, I 1, I 0], [.s (T 3 0x693e69)], [I 5], [I 0, I 1], ck61, ck62, [I 5], [I 2, I 1], ck61, ck63, [I 5], [I 3, I 1], ck61, ck64, [I 4], [.s (T 3 0x693e69)], ck65, ck66, ck67, ck68, ck69, ck70, ck165, [I 0], [I 2], [I 3], [I 4]]
noncomputable def ct221r2 : Rec := ⟨12, [.s ct221s], q 1002, [], N [4116, 5339, 5671, 5483, 4109, 5359, 5578, 4114, 4162, 4305, 4308, 4388, 4450, 4627, 4630, 4724, 4802, 5014, 5017, 5127, 5254, 5257, 5337, 5861, 6002, 6373, 6755, 6857, 7418, 4386, 4722, 5125, 5335], .u [.g [.sl (q 1002) 0 1 1, .sl (q 1003) 0 6 4, .sl (q 1004) 0 6 6, .sl (q 1005) 0 1 4, .s (T 3 0x727269), .sl (q 1006) 0 1 3, .s0, .s0, .sl (q 1007) 0 3 1, .sl (q 1008) 0 3 1, I 1, I 2], .s0], ct221o2⟩
set_option maxRecDepth 1000000 in
theorem ct221t2 : memoT ct221v1 ct221r2 = true := by kernel_rfl
noncomputable def ct221v2 : Ov := memoOv ct221r2 ct221v1
theorem ct221g2 {ν : Nat → Int} : OvGood ν ct221v2 := memo_good ct221g1 ct221g1 ct221t2
noncomputable def ct221r3 : Rec := ⟨15, [.g [.sl (q 1002) 0 1 1, .sl (q 1003) 0 6 4, .sl (q 1004) 0 6 6, .sl (q 1005) 0 1 4, .s (T 3 0x727269), .sl (q 1006) 0 1 3, .s0, .s0, .sl (q 1007) 0 3 1, .sl (q 1008) 0 3 1, I 1, I 2]], q 1041, nmL 1002 ct221o2, N [], .n0, []⟩
set_option maxRecDepth 1000000 in
theorem ct221t3 : memoT ct221v2 ct221r3 = true := by kernel_rfl
noncomputable def ct221v3 : Ov := memoOv ct221r3 ct221v2
theorem ct221g3 {ν : Nat → Int} : OvGood ν ct221v3 := memo_good ct221g2 ct221g2 ct221t3
noncomputable def ct221o4 : List (List V) := [ck166]
noncomputable def ct221r4 : Rec := ⟨90, [.g [.sl (q 1002) 0 1 1, .sl (q 1003) 0 6 4, .sl (q 1004) 0 6 6, .sl (q 1005) 0 1 4, .s (T 3 0x727269), .sl (q 1006) 0 1 3, .s0, .s0, .sl (q 1007) 0 3 1, .sl (q 1008) 0 3 1, I 1, I 2]], q 1041, nmL 1002 ct221o2, N [2001], .u [.sl (q 1041) 0 1 1224, .n0], ct221o4⟩
set_option maxRecDepth 1000000 in
theorem ct221t4 : memoT ct221v3 ct221r4 = true := by kernel_rfl
noncomputable def ct221v4 : Ov := memoOv ct221r4 ct221v3
theorem ct221g4 {ν : Nat → Int} : OvGood ν ct221v4 := memo_good ct221g3 ct221g3 ct221t4
noncomputable def ct221o5 : List (List V) := [ck166]
noncomputable def ct221r5 : Rec := ⟨90, [.g [.sl (q 1048) 0 1 1, .sl (q 1122) 0 6 4, .sl (q 1386) 0 6 6, .sl (q 1394) 0 1 4, .s (T 3 0x727269), .sl (q 1400) 0 1 3, .s0, .s0, .sl (q 1404) 0 3 1, .sl (q 1408) 0 3 1, I 1, I 2]], q 1410, rnL 1002 (N [1048, 1122, 1386, 1394, 1400, 1404, 1408, 1046, 1051, 1055, 1059, 1065, 1071, 1075, 1079, 1085, 1091, 1095, 1099, 1105, 1111, 1113, 1119, 1151, 1179, 1231, 1267, 1295, 1383, 1062, 1082, 1102, 1116]) ct221o2, N [2370], .u [.sl (q 1410) 0 1 1224, .n0], ct221o5⟩
set_option maxRecDepth 1000000 in
theorem ct221t5 : memoT ct221v4 ct221r5 = true := by kernel_rfl
noncomputable def ct221v5 : Ov := memoOv ct221r5 ct221v4
theorem ct221g5 {ν : Nat → Int} : OvGood ν ct221v5 := memo_good ct221g4 ct221g4 ct221t5
noncomputable def ct221r6 : Rec := ⟨91, [.sl (q 1041) 0 1 1224], q 1042, [(q 1041, ck166)], cn2, .u [.g [.sl (q 1042) 0 1 1, .sl (q 1043) 0 6 4, .sl (q 1044) 0 6 6, .sl (q 1045) 0 1 4, .s (T 3 0x727269), .sl (q 1046) 0 1 3, .s0, .s0, .sl (q 1047) 0 3 1, .sl (q 1048) 0 3 1, I 1, I 2], .n0], shO 1002 1042 33 ct221o2⟩
set_option maxRecDepth 1000000 in
theorem ct221t6 : memoT ct221v5 ct221r6 = true := by kernel_rfl
noncomputable def ct221v6 : Ov := memoOv ct221r6 ct221v5
theorem ct221g6 {ν : Nat → Int} : OvGood ν ct221v6 := memo_good ct221g5 ct221g5 ct221t6
noncomputable def ct221o7 : List (List V) := [ck73, ck74, [I 5, I 1, I 0], [I 0, I 0, .b false], ck75, [I 0], [.sl (q 1054) 0 1 1], ck76, ck77, [I 0, I 1, I 2, I 3], [I 0, I 0, I 0], [I 0, I 0, .b false], [I 5, I 1, I 0], [I 0, I 0, I 0], ck78, [.s (T 3 0x693e69)], [I 5], [I 0, I 1], ck61, ck79, [I 5], [I 2, I 1], ck61, ck80, [I 5], [I 3, I 1], ck61, ck81, [I 4], [.s (T 3 0x693e69)], ck82, ck66, ck67, ck68, ck69, ck70, ck165, [I 5], [I 5], [I 5], [I 0], [I 2], [I 3], [I 4]]
noncomputable def ct221r7 : Rec := ⟨21, [.g [.sl (q 1002) 0 1 1, .sl (q 1003) 0 6 4, .sl (q 1004) 0 6 6, .sl (q 1005) 0 1 4, .s (T 3 0x727269), .sl (q 1006) 0 1 3, .s0, .s0, .sl (q 1007) 0 3 1, .sl (q 1008) 0 3 1, I 1, I 2]], q 1039, nmL 1002 ct221o2, cn3, .u [.p (q 1039) 0, .n0], ct221o7⟩
set_option maxRecDepth 1000000 in
theorem ct221t7 : memoT ct221v6 ct221r7 = true := by kernel_rfl
noncomputable def ct221v7 : Ov := memoOv ct221r7 ct221v6
theorem ct221g7 {ν : Nat → Int} : OvGood ν ct221v7 := memo_good ct221g6 ct221g6 ct221t7
set_option maxRecDepth 1000000 in
theorem ct221_ev : okv (mEv ct221v7 [] [(lowZ 0 4, 2), (lowZ 1 5, 2)] 3 [.i .i64 (.var 0), .i .i64 (.var 1), .b true] start) = some (.b true) := by kernel_rfl
theorem ct221 (x y : Int) (w : World) (hA : Tp.Asc w) (h0 : zval (fun n => match n with | 0 => x | _ => y) (lowZ 0 4) = 2) (h1 : zval (fun n => match n with | 0 => x | _ => y) (lowZ 1 5) = 2) : Calls Tryz.prog 3 #[.int .i64 x, .int .i64 y, .bool true] w (fun e w' => e = .returned (.bool true) ∧ Below w.heap.size w w') :=
  tm_true (ν := (fun n => match n with | 0 => x | _ => y)) w hA ct221g7 path_nil (norm_cons h0 (norm_cons h1 norm_nil)) ct221_ev (args := [.int .i64 x, .int .i64 y, .bool true]) (by simp [VRs, VR, zval])
end Go.Proofs.YtoinghomkcjkcaaGreatDoor
