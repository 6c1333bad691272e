/- TopCasts 300: its calls, and that it answers true. -/
import Derived.Test.YtoinghomkcjkcaaGreatDoorTcD
namespace Go.Proofs.YtoinghomkcjkcaaGreatDoor
set_option linter.unusedSimpArgs false
set_option linter.unusedVariables false
set_option linter.constructorNameAsVariable false
open Go Go.RowKit
open Ev
noncomputable def ct300s : List Z := Ev.app cfam (T 140 0x3b2050203a2029203020595449524f495250202c2031204c41565245544e4920282054204b534154204d4152474f52505f444e45203b2046495f444e45203b2031203d3a20792045534c45203b2032203d3a2079204e454854204c4c554e203d2072204649203b2029206620282041205341203d3a2072203b20292064202820464552203d3a2066203b2041)
noncomputable def ct300o0 : List (List V) := [ck0, ck1, ck2, [.s (T 1 0x46)], ck3, ck4, ck5, ck6, [.s (T 1 0x46)], ck7, ck8, ck9, ck10, ck10, ck11, ck12, ck10, ck13, ck10, ck14, ck10, ck15, ck175, ck17, ck18, ck19, ck20, ck21, ck22, ck23, ck24, ck25, ck26, ck27, ck28, ck29, ck30, ck31, ck32, ck33, ck34, ck35, ck36, ck31, ck35]
noncomputable def ct300r0 : Rec := ⟨23, [.s ct300s], q 1004, [], cn0, .u [.g [.sl (q 1004) 0 11 7], .sl (q 1005) 0 1 7, .n0], ct300o0⟩
set_option maxRecDepth 1000000 in
theorem ct300t0 : memoT sOv ct300r0 = true := by kernel_rfl
noncomputable def ct300v0 : Ov := memoOv ct300r0 sOv
theorem ct300g0 {ν : Nat → Int} : OvGood ν ct300v0 := memo_good sOv_good sOv_good ct300t0
noncomputable def ct300o1 : List (List V) := [ck37, ck38, [.s (T 1 0x46)], ck3, ck39, ck40, ck41, [.s (T 1 0x46)], ck42, ck8, ck43, ck10, ck10, ck44, ck45, ck10, ck46, ck10, ck47, ck10, ck48, ck175, ck49, ck50, ck51, ck52, ck53, ck20, ck54, ck22, ck55, ck26, ck27, ck56, ck57, ck30, ck31, ck32, ck33, ck58, ck35, ck36, ck31, ck35]
noncomputable def ct300r1 : Rec := ⟨14, [.s ct300s], q 1003, [], cn1, .u [.g [.sl (q 1003) 0 11 7], .s0], ct300o1⟩
set_option maxRecDepth 1000000 in
theorem ct300t1 : memoT ct300v0 ct300r1 = true := by kernel_rfl
noncomputable def ct300v1 : Ov := memoOv ct300r1 ct300v0
theorem ct300g1 {ν : Nat → Int} : OvGood ν ct300v1 := memo_good ct300g0 ct300g0 ct300t1
noncomputable def ct300o2 : List (List V) := [[.sl (q 1009) 0 1 1], ck59, ck60, [I 0, I 1, I 2, I 3], [I 0, I 0, I 0], [I 0, I 0, .b false], [I 5, I 1, I 0], [.s (T 3 0x693e69)], [I 5], [I 0, I 1], ck61, ck62, [I 5], [I 2, I 1], ck61, ck63, [I 5], [I 3, I 1], ck61, ck64, [I 4], [.s (T 3 0x693e69)], ck65, ck66, ck67, ck68, ck69, ck70, ck176, [I 0], [I 2], [I 3], [I 4]]
noncomputable def ct300r2 : Rec := ⟨12, [.s ct300s], q 1002, [], cn7, .u [.g [.sl (q 1002) 0 1 1, .sl (q 1003) 0 6 4, .sl (q 1004) 0 6 6, .sl (q 1005) 0 1 4, .s (T 3 0x727269), .sl (q 1006) 0 1 3, .s0, .s0, .sl (q 1007) 0 3 1, .sl (q 1008) 0 3 1, I 1, I 2], .s0], ct300o2⟩
set_option maxRecDepth 1000000 in
theorem ct300t2 : memoT ct300v1 ct300r2 = true := by kernel_rfl
noncomputable def ct300v2 : Ov := memoOv ct300r2 ct300v1
theorem ct300g2 {ν : Nat → Int} : OvGood ν ct300v2 := memo_good ct300g1 ct300g1 ct300t2
noncomputable def ct300r3 : Rec := ⟨15, [.g [.sl (q 1002) 0 1 1, .sl (q 1003) 0 6 4, .sl (q 1004) 0 6 6, .sl (q 1005) 0 1 4, .s (T 3 0x727269), .sl (q 1006) 0 1 3, .s0, .s0, .sl (q 1007) 0 3 1, .sl (q 1008) 0 3 1, I 1, I 2]], q 1041, nmL 1002 ct300o2, N [], .n0, []⟩
set_option maxRecDepth 1000000 in
theorem ct300t3 : memoT ct300v2 ct300r3 = true := by kernel_rfl
noncomputable def ct300v3 : Ov := memoOv ct300r3 ct300v2
theorem ct300g3 {ν : Nat → Int} : OvGood ν ct300v3 := memo_good ct300g2 ct300g2 ct300t3
noncomputable def ct300o4 : List (List V) := [ck177]
noncomputable def ct300r4 : Rec := ⟨90, [.g [.sl (q 1002) 0 1 1, .sl (q 1003) 0 6 4, .sl (q 1004) 0 6 6, .sl (q 1005) 0 1 4, .s (T 3 0x727269), .sl (q 1006) 0 1 3, .s0, .s0, .sl (q 1007) 0 3 1, .sl (q 1008) 0 3 1, I 1, I 2]], q 1041, nmL 1002 ct300o2, N [2001], .u [.sl (q 1041) 0 1 1224, .n0], ct300o4⟩
set_option maxRecDepth 1000000 in
theorem ct300t4 : memoT ct300v3 ct300r4 = true := by kernel_rfl
noncomputable def ct300v4 : Ov := memoOv ct300r4 ct300v3
theorem ct300g4 {ν : Nat → Int} : OvGood ν ct300v4 := memo_good ct300g3 ct300g3 ct300t4
noncomputable def ct300o5 : List (List V) := [ck177]
noncomputable def ct300r5 : Rec := ⟨90, [.g [.sl (q 1048) 0 1 1, .sl (q 1122) 0 6 4, .sl (q 1386) 0 6 6, .sl (q 1394) 0 1 4, .s (T 3 0x727269), .sl (q 1400) 0 1 3, .s0, .s0, .sl (q 1404) 0 3 1, .sl (q 1408) 0 3 1, I 1, I 2]], q 1410, rnL 1002 (N [1048, 1122, 1386, 1394, 1400, 1404, 1408, 1046, 1051, 1055, 1059, 1065, 1071, 1075, 1079, 1085, 1091, 1095, 1099, 1105, 1111, 1113, 1119, 1151, 1179, 1231, 1267, 1295, 1383, 1062, 1082, 1102, 1116]) ct300o2, N [2370], .u [.sl (q 1410) 0 1 1224, .n0], ct300o5⟩
set_option maxRecDepth 1000000 in
theorem ct300t5 : memoT ct300v4 ct300r5 = true := by kernel_rfl
noncomputable def ct300v5 : Ov := memoOv ct300r5 ct300v4
theorem ct300g5 {ν : Nat → Int} : OvGood ν ct300v5 := memo_good ct300g4 ct300g4 ct300t5
noncomputable def ct300r6 : Rec := ⟨91, [.sl (q 1041) 0 1 1224], q 1042, [(q 1041, ck177)], cn2, .u [.g [.sl (q 1042) 0 1 1, .sl (q 1043) 0 6 4, .sl (q 1044) 0 6 6, .sl (q 1045) 0 1 4, .s (T 3 0x727269), .sl (q 1046) 0 1 3, .s0, .s0, .sl (q 1047) 0 3 1, .sl (q 1048) 0 3 1, I 1, I 2], .n0], shO 1002 1042 33 ct300o2⟩
set_option maxRecDepth 1000000 in
theorem ct300t6 : memoT ct300v5 ct300r6 = true := by kernel_rfl
noncomputable def ct300v6 : Ov := memoOv ct300r6 ct300v5
theorem ct300g6 {ν : Nat → Int} : OvGood ν ct300v6 := memo_good ct300g5 ct300g5 ct300t6
noncomputable def ct300o7 : List (List V) := [ck73, ck74, [I 5, I 1, I 0], [I 0, I 0, .b false], ck75, [I 0], [.sl (q 1054) 0 1 1], ck76, ck77, [I 0, I 1, I 2, I 3], [I 0, I 0, I 0], [I 0, I 0, .b false], [I 5, I 1, I 0], [I 0, I 0, I 0], ck78, [.s (T 3 0x693e69)], [I 5], [I 0, I 1], ck61, ck79, [I 5], [I 2, I 1], ck61, ck80, [I 5], [I 3, I 1], ck61, ck81, [I 4], [.s (T 3 0x693e69)], ck82, ck66, ck67, ck68, ck69, ck70, ck176, [I 5], [I 5], [I 5], [I 0], [I 2], [I 3], [I 4]]
noncomputable def ct300r7 : Rec := ⟨21, [.g [.sl (q 1002) 0 1 1, .sl (q 1003) 0 6 4, .sl (q 1004) 0 6 6, .sl (q 1005) 0 1 4, .s (T 3 0x727269), .sl (q 1006) 0 1 3, .s0, .s0, .sl (q 1007) 0 3 1, .sl (q 1008) 0 3 1, I 1, I 2]], q 1039, nmL 1002 ct300o2, cn3, .u [.p (q 1039) 0, .n0], ct300o7⟩
set_option maxRecDepth 1000000 in
theorem ct300t7 : memoT ct300v6 ct300r7 = true := by kernel_rfl
noncomputable def ct300v7 : Ov := memoOv ct300r7 ct300v6
theorem ct300g7 {ν : Nat → Int} : OvGood ν ct300v7 := memo_good ct300g6 ct300g6 ct300t7
set_option maxRecDepth 1000000 in
theorem ct300_ev : okv (mEv ct300v7 [] [(lowZ 0 4, 3), (lowZ 1 5, 0)] 3 [.i .i64 (.var 0), .i .i64 (.var 1), .b false] start) = some (.b true) := by kernel_rfl
theorem ct300 (x y : Int) (w : World) (hA : Tp.Asc w) (h0 : zval (fun n => match n with | 0 => x | _ => y) (lowZ 0 4) = 3) (h1 : zval (fun n => match n with | 0 => x | _ => y) (lowZ 1 5) = 0) : Calls Tryz.prog 3 #[.int .i64 x, .int .i64 y, .bool false] w (fun e w' => e = .returned (.bool true) ∧ Below w.heap.size w w') :=
  tm_true (ν := (fun n => match n with | 0 => x | _ => y)) w hA ct300g7 path_nil (norm_cons h0 (norm_cons h1 norm_nil)) ct300_ev (args := [.int .i64 x, .int .i64 y, .bool false]) (by simp [VRs, VR, zval])
end Go.Proofs.YtoinghomkcjkcaaGreatDoor
/- TopCasts 301: its calls, and that it answers true. -/
namespace Go.Proofs.YtoinghomkcjkcaaGreatDoor
set_option linter.unusedSimpArgs false
set_option linter.unusedVariables false
set_option linter.constructorNameAsVariable false
open Go Go.RowKit
open Ev
noncomputable def ct301s : List Z := Ev.app cfam (T 131 0x3b2050203a2029203020595449524f495250202c2031204c41565245544e4920282054204b534154204d4152474f52505f444e45203b2046495f444e45203b2031203d3a20792045534c45203b2032203d3a2079204e454854204c4c554e203d2072204649203b2066203d3f2072203b20292064202820464552203d3a2066203b2041)
noncomputable def ct301o0 : List (List V) := [ck0, ck83, ck2, [.s (T 1 0x46)], ck3, ck4, ck5, ck6, [.s (T 1 0x46)], ck7, ck8, ck84, ck10, ck10, ck11, ck12, ck10, ck13, ck10, ck14, ck10, ck15, ck175, ck26, ck85, ck86, ck87, ck88, ck89, ck90, ck91, ck92, ck27, ck57, ck28, ck30, ck31, ck32, ck33, ck93, ck35, ck36, ck31, ck35]
noncomputable def ct301r0 : Rec := ⟨23, [.s ct301s], q 1004, [], cn4, .u [.g [.sl (q 1004) 0 11 7], .sl (q 1005) 0 1 7, .n0], ct301o0⟩
set_option maxRecDepth 1000000 in
theorem ct301t0 : memoT sOv ct301r0 = true := by kernel_rfl
noncomputable def ct301v0 : Ov := memoOv ct301r0 sOv
theorem ct301g0 {ν : Nat → Int} : OvGood ν ct301v0 := memo_good sOv_good sOv_good ct301t0
noncomputable def ct301o1 : List (List V) := [ck37, ck38, [.s (T 1 0x46)], ck3, ck39, ck40, ck41, [.s (T 1 0x46)], ck42, ck8, ck94, ck10, ck10, ck44, ck45, ck10, ck46, ck10, ck47, ck10, ck48, ck175, ck26, ck95, ck96, ck97, ck98, ck87, ck99, ck89, ck100, ck27, ck101, ck56, ck30, ck31, ck32, ck33, ck102, ck35, ck36, ck31, ck35]
noncomputable def ct301r1 : Rec := ⟨14, [.s ct301s], q 1003, [], cn5, .u [.g [.sl (q 1003) 0 11 7], .s0], ct301o1⟩
set_option maxRecDepth 1000000 in
theorem ct301t1 : memoT ct301v0 ct301r1 = true := by kernel_rfl
noncomputable def ct301v1 : Ov := memoOv ct301r1 ct301v0
theorem ct301g1 {ν : Nat → Int} : OvGood ν ct301v1 := memo_good ct301g0 ct301g0 ct301t1
noncomputable def ct301o2 : List (List V) := [[.sl (q 1009) 0 1 1], ck59, ck60, [I 0, I 1, I 2, I 3], [I 0, I 0, I 0], [I 0, I 0, .b false], [I 5, I 1, I 0], [.s (T 3 0x693e69)], [I 5], [I 0, I 1], ck61, ck62, [I 5], [I 2, I 1], ck61, ck63, [I 5], [I 3, I 1], ck61, ck64, [I 4], [.s (T 3 0x693e69)], ck65, ck66, ck67, ck68, ck69, ck70, ck178, [I 0], [I 2], [I 3], [I 4]]
noncomputable def ct301r2 : Rec := ⟨12, [.s ct301s], q 1002, [], N [4086, 5309, 5641, 5453, 4079, 5329, 5548, 4084, 4132, 4275, 4278, 4358, 4420, 4597, 4600, 4694, 4772, 4984, 4987, 5097, 5224, 5227, 5307, 5831, 5972, 6343, 6725, 6827, 7386, 4356, 4692, 5095, 5305], .u [.g [.sl (q 1002) 0 1 1, .sl (q 1003) 0 6 4, .sl (q 1004) 0 6 6, .sl (q 1005) 0 1 4, .s (T 3 0x727269), .sl (q 1006) 0 1 3, .s0, .s0, .sl (q 1007) 0 3 1, .sl (q 1008) 0 3 1, I 1, I 2], .s0], ct301o2⟩
set_option maxRecDepth 1000000 in
theorem ct301t2 : memoT ct301v1 ct301r2 = true := by kernel_rfl
noncomputable def ct301v2 : Ov := memoOv ct301r2 ct301v1
theorem ct301g2 {ν : Nat → Int} : OvGood ν ct301v2 := memo_good ct301g1 ct301g1 ct301t2
noncomputable def ct301r3 : Rec := ⟨15, [.g [.sl (q 1002) 0 1 1, .sl (q 1003) 0 6 4, .sl (q 1004) 0 6 6, .sl (q 1005) 0 1 4, .s (T 3 0x727269), .sl (q 1006) 0 1 3, .s0, .s0, .sl (q 1007) 0 3 1, .sl (q 1008) 0 3 1, I 1, I 2]], q 1041, nmL 1002 ct301o2, N [], .n0, []⟩
set_option maxRecDepth 1000000 in
theorem ct301t3 : memoT ct301v2 ct301r3 = true := by kernel_rfl
noncomputable def ct301v3 : Ov := memoOv ct301r3 ct301v2
theorem ct301g3 {ν : Nat → Int} : OvGood ν ct301v3 := memo_good ct301g2 ct301g2 ct301t3
noncomputable def ct301o4 : List (List V) := [ck179]
noncomputable def ct301r4 : Rec := ⟨90, [.g [.sl (q 1002) 0 1 1, .sl (q 1003) 0 6 4, .sl (q 1004) 0 6 6, .sl (q 1005) 0 1 4, .s (T 3 0x727269), .sl (q 1006) 0 1 3, .s0, .s0, .sl (q 1007) 0 3 1, .sl (q 1008) 0 3 1, I 1, I 2]], q 1041, nmL 1002 ct301o2, N [2001], .u [.sl (q 1041) 0 1 1224, .n0], ct301o4⟩
set_option maxRecDepth 1000000 in
theorem ct301t4 : memoT ct301v3 ct301r4 = true := by kernel_rfl
noncomputable def ct301v4 : Ov := memoOv ct301r4 ct301v3
theorem ct301g4 {ν : Nat → Int} : OvGood ν ct301v4 := memo_good ct301g3 ct301g3 ct301t4
noncomputable def ct301o5 : List (List V) := [ck179]
noncomputable def ct301r5 : Rec := ⟨90, [.g [.sl (q 1048) 0 1 1, .sl (q 1122) 0 6 4, .sl (q 1386) 0 6 6, .sl (q 1394) 0 1 4, .s (T 3 0x727269), .sl (q 1400) 0 1 3, .s0, .s0, .sl (q 1404) 0 3 1, .sl (q 1408) 0 3 1, I 1, I 2]], q 1410, rnL 1002 (N [1048, 1122, 1386, 1394, 1400, 1404, 1408, 1046, 1051, 1055, 1059, 1065, 1071, 1075, 1079, 1085, 1091, 1095, 1099, 1105, 1111, 1113, 1119, 1151, 1179, 1231, 1267, 1295, 1383, 1062, 1082, 1102, 1116]) ct301o2, N [2370], .u [.sl (q 1410) 0 1 1224, .n0], ct301o5⟩
set_option maxRecDepth 1000000 in
theorem ct301t5 : memoT ct301v4 ct301r5 = true := by kernel_rfl
noncomputable def ct301v5 : Ov := memoOv ct301r5 ct301v4
theorem ct301g5 {ν : Nat → Int} : OvGood ν ct301v5 := memo_good ct301g4 ct301g4 ct301t5
noncomputable def ct301r6 : Rec := ⟨91, [.sl (q 1041) 0 1 1224], q 1042, [(q 1041, ck179)], cn2, .u [.g [.sl (q 1042) 0 1 1, .sl (q 1043) 0 6 4, .sl (q 1044) 0 6 6, .sl (q 1045) 0 1 4, .s (T 3 0x727269), .sl (q 1046) 0 1 3, .s0, .s0, .sl (q 1047) 0 3 1, .sl (q 1048) 0 3 1, I 1, I 2], .n0], shO 1002 1042 33 ct301o2⟩
set_option maxRecDepth 1000000 in
theorem ct301t6 : memoT ct301v5 ct301r6 = true := by kernel_rfl
noncomputable def ct301v6 : Ov := memoOv ct301r6 ct301v5
theorem ct301g6 {ν : Nat → Int} : OvGood ν ct301v6 := memo_good ct301g5 ct301g5 ct301t6
noncomputable def ct301o7 : List (List V) := [ck73, ck74, [I 5, I 1, I 0], [I 0, I 0, .b false], ck75, [I 0], [.sl (q 1054) 0 1 1], ck76, ck77, [I 0, I 1, I 2, I 3], [I 0, I 0, I 0], [I 0, I 0, .b false], [I 5, I 1, I 0], [I 0, I 0, I 0], ck78, [.s (T 3 0x693e69)], [I 5], [I 0, I 1], ck61, ck79, [I 5], [I 2, I 1], ck61, ck80, [I 5], [I 3, I 1], ck61, ck81, [I 4], [.s (T 3 0x693e69)], ck82, ck66, ck67, ck68, ck69, ck70, ck178, [I 5], [I 5], [I 5], [I 0], [I 2], [I 3], [I 4]]
noncomputable def ct301r7 : Rec := ⟨21, [.g [.sl (q 1002) 0 1 1, .sl (q 1003) 0 6 4, .sl (q 1004) 0 6 6, .sl (q 1005) 0 1 4, .s (T 3 0x727269), .sl (q 1006) 0 1 3, .s0, .s0, .sl (q 1007) 0 3 1, .sl (q 1008) 0 3 1, I 1, I 2]], q 1039, nmL 1002 ct301o2, cn3, .u [.p (q 1039) 0, .n0], ct301o7⟩
set_option maxRecDepth 1000000 in
theorem ct301t7 : memoT ct301v6 ct301r7 = true := by kernel_rfl
noncomputable def ct301v7 : Ov := memoOv ct301r7 ct301v6
theorem ct301g7 {ν : Nat → Int} : OvGood ν ct301v7 := memo_good ct301g6 ct301g6 ct301t7
set_option maxRecDepth 1000000 in
theorem ct301_ev : okv (mEv ct301v7 [] [(lowZ 0 4, 3), (lowZ 1 5, 0)] 3 [.i .i64 (.var 0), .i .i64 (.var 1), .b true] start) = some (.b true) := by kernel_rfl
theorem ct301 (x y : Int) (w : World) (hA : Tp.Asc w) (h0 : zval (fun n => match n with | 0 => x | _ => y) (lowZ 0 4) = 3) (h1 : zval (fun n => match n with | 0 => x | _ => y) (lowZ 1 5) = 0) : Calls Tryz.prog 3 #[.int .i64 x, .int .i64 y, .bool true] w (fun e w' => e = .returned (.bool true) ∧ Below w.heap.size w w') :=
  tm_true (ν := (fun n => match n with | 0 => x | _ => y)) w hA ct301g7 path_nil (norm_cons h0 (norm_cons h1 norm_nil)) ct301_ev (args := [.int .i64 x, .int .i64 y, .bool true]) (by simp [VRs, VR, zval])
end Go.Proofs.YtoinghomkcjkcaaGreatDoor
