/- TopCasts 330: its calls, and that it answers true. -/
import Derived.Test.YtoinghomkcjkcaaGreatDoorTcD
namespace Go.Proofs.YtoinghomkcjkcaaGreatDoor
set_option linter.unusedSimpArgs false
set_option linter.unusedVariables false
set_option linter.constructorNameAsVariable false
open Go Go.RowKit
open Ev
noncomputable def ct330s : List Z := Ev.app cfam (T 140 0x3b2050203a2029203020595449524f495250202c2031204c41565245544e4920282054204b534154204d4152474f52505f444e45203b2046495f444e45203b2031203d3a20792045534c45203b2032203d3a2079204e454854204c4c554e203d2072204649203b2029206620282044205341203d3a2072203b20292064202820464552203d3a2066203b2044)
noncomputable def ct330o0 : List (List V) := [ck0, ck1, ck2, [.s (T 1 0x46)], ck3, ck4, ck5, ck6, [.s (T 1 0x46)], ck7, ck119, ck9, ck10, ck10, ck11, ck12, ck10, ck13, ck10, ck14, ck10, ck15, ck175, ck120, ck18, ck19, ck20, ck21, ck22, ck23, ck24, ck25, ck26, ck27, ck28, ck29, ck30, ck31, ck32, ck33, ck34, ck35, ck36, ck31, ck35]
noncomputable def ct330r0 : Rec := ⟨23, [.s ct330s], q 1004, [], cn0, .u [.g [.sl (q 1004) 0 11 7], .sl (q 1005) 0 1 7, .n0], ct330o0⟩
set_option maxRecDepth 1000000 in
theorem ct330t0 : memoT sOv ct330r0 = true := by kernel_rfl
noncomputable def ct330v0 : Ov := memoOv ct330r0 sOv
theorem ct330g0 {ν : Nat → Int} : OvGood ν ct330v0 := memo_good sOv_good sOv_good ct330t0
noncomputable def ct330o1 : List (List V) := [ck37, ck38, [.s (T 1 0x46)], ck3, ck39, ck40, ck41, [.s (T 1 0x46)], ck42, ck119, ck43, ck10, ck10, ck44, ck45, ck10, ck46, ck10, ck47, ck10, ck48, ck175, ck121, ck50, ck51, ck52, ck53, ck20, ck54, ck22, ck55, ck26, ck27, ck56, ck57, ck30, ck31, ck32, ck33, ck58, ck35, ck36, ck31, ck35]
noncomputable def ct330r1 : Rec := ⟨14, [.s ct330s], q 1003, [], cn1, .u [.g [.sl (q 1003) 0 11 7], .s0], ct330o1⟩
set_option maxRecDepth 1000000 in
theorem ct330t1 : memoT ct330v0 ct330r1 = true := by kernel_rfl
noncomputable def ct330v1 : Ov := memoOv ct330r1 ct330v0
theorem ct330g1 {ν : Nat → Int} : OvGood ν ct330v1 := memo_good ct330g0 ct330g0 ct330t1
noncomputable def ct330o2 : List (List V) := [[.sl (q 1009) 0 1 1], ck59, ck60, [I 0, I 1, I 2, I 3], [I 0, I 0, I 0], [I 0, I 0, .b false], [I 5, I 1, I 0], [.s (T 3 0x693e69)], [I 5], [I 0, I 1], ck61, ck62, [I 5], [I 2, I 1], ck61, ck63, [I 5], [I 3, I 1], ck61, ck64, [I 4], [.s (T 3 0x693e69)], ck65, ck66, ck67, ck68, ck69, ck70, ck188, [I 0], [I 2], [I 3], [I 4]]
noncomputable def ct330r2 : Rec := ⟨12, [.s ct330s], q 1002, [], N [4108, 5331, 5663, 5475, 4101, 5351, 5570, 4106, 4154, 4297, 4300, 4380, 4442, 4619, 4622, 4716, 4794, 5006, 5009, 5119, 5246, 5249, 5329, 5853, 5994, 6365, 6747, 6849, 7417, 4378, 4714, 5117, 5327], .u [.g [.sl (q 1002) 0 1 1, .sl (q 1003) 0 6 4, .sl (q 1004) 0 6 6, .sl (q 1005) 0 1 4, .s (T 3 0x727269), .sl (q 1006) 0 1 3, .s0, .s0, .sl (q 1007) 0 3 1, .sl (q 1008) 0 3 1, I 1, I 2], .s0], ct330o2⟩
set_option maxRecDepth 1000000 in
theorem ct330t2 : memoT ct330v1 ct330r2 = true := by kernel_rfl
noncomputable def ct330v2 : Ov := memoOv ct330r2 ct330v1
theorem ct330g2 {ν : Nat → Int} : OvGood ν ct330v2 := memo_good ct330g1 ct330g1 ct330t2
noncomputable def ct330r3 : Rec := ⟨15, [.g [.sl (q 1002) 0 1 1, .sl (q 1003) 0 6 4, .sl (q 1004) 0 6 6, .sl (q 1005) 0 1 4, .s (T 3 0x727269), .sl (q 1006) 0 1 3, .s0, .s0, .sl (q 1007) 0 3 1, .sl (q 1008) 0 3 1, I 1, I 2]], q 1041, nmL 1002 ct330o2, N [], .n0, []⟩
set_option maxRecDepth 1000000 in
theorem ct330t3 : memoT ct330v2 ct330r3 = true := by kernel_rfl
noncomputable def ct330v3 : Ov := memoOv ct330r3 ct330v2
theorem ct330g3 {ν : Nat → Int} : OvGood ν ct330v3 := memo_good ct330g2 ct330g2 ct330t3
noncomputable def ct330o4 : List (List V) := [ck189]
noncomputable def ct330r4 : Rec := ⟨90, [.g [.sl (q 1002) 0 1 1, .sl (q 1003) 0 6 4, .sl (q 1004) 0 6 6, .sl (q 1005) 0 1 4, .s (T 3 0x727269), .sl (q 1006) 0 1 3, .s0, .s0, .sl (q 1007) 0 3 1, .sl (q 1008) 0 3 1, I 1, I 2]], q 1041, nmL 1002 ct330o2, N [2001], .u [.sl (q 1041) 0 1 1224, .n0], ct330o4⟩
set_option maxRecDepth 1000000 in
theorem ct330t4 : memoT ct330v3 ct330r4 = true := by kernel_rfl
noncomputable def ct330v4 : Ov := memoOv ct330r4 ct330v3
theorem ct330g4 {ν : Nat → Int} : OvGood ν ct330v4 := memo_good ct330g3 ct330g3 ct330t4
noncomputable def ct330o5 : List (List V) := [ck189]
noncomputable def ct330r5 : Rec := ⟨90, [.g [.sl (q 1048) 0 1 1, .sl (q 1122) 0 6 4, .sl (q 1386) 0 6 6, .sl (q 1394) 0 1 4, .s (T 3 0x727269), .sl (q 1400) 0 1 3, .s0, .s0, .sl (q 1404) 0 3 1, .sl (q 1408) 0 3 1, I 1, I 2]], q 1410, rnL 1002 (N [1048, 1122, 1386, 1394, 1400, 1404, 1408, 1046, 1051, 1055, 1059, 1065, 1071, 1075, 1079, 1085, 1091, 1095, 1099, 1105, 1111, 1113, 1119, 1151, 1179, 1231, 1267, 1295, 1383, 1062, 1082, 1102, 1116]) ct330o2, N [2370], .u [.sl (q 1410) 0 1 1224, .n0], ct330o5⟩
set_option maxRecDepth 1000000 in
theorem ct330t5 : memoT ct330v4 ct330r5 = true := by kernel_rfl
noncomputable def ct330v5 : Ov := memoOv ct330r5 ct330v4
theorem ct330g5 {ν : Nat → Int} : OvGood ν ct330v5 := memo_good ct330g4 ct330g4 ct330t5
noncomputable def ct330r6 : Rec := ⟨91, [.sl (q 1041) 0 1 1224], q 1042, [(q 1041, ck189)], cn2, .u [.g [.sl (q 1042) 0 1 1, .sl (q 1043) 0 6 4, .sl (q 1044) 0 6 6, .sl (q 1045) 0 1 4, .s (T 3 0x727269), .sl (q 1046) 0 1 3, .s0, .s0, .sl (q 1047) 0 3 1, .sl (q 1048) 0 3 1, I 1, I 2], .n0], shO 1002 1042 33 ct330o2⟩
set_option maxRecDepth 1000000 in
theorem ct330t6 : memoT ct330v5 ct330r6 = true := by kernel_rfl
noncomputable def ct330v6 : Ov := memoOv ct330r6 ct330v5
theorem ct330g6 {ν : Nat → Int} : OvGood ν ct330v6 := memo_good ct330g5 ct330g5 ct330t6
noncomputable def ct330o7 : List (List V) := [ck73, ck74, [I 5, I 1, I 0], [I 0, I 0, .b false], ck75, [I 0], [.sl (q 1054) 0 1 1], ck76, ck77, [I 0, I 1, I 2, I 3], [I 0, I 0, I 0], [I 0, I 0, .b false], [I 5, I 1, I 0], [I 0, I 0, I 0], ck78, [.s (T 3 0x693e69)], [I 5], [I 0, I 1], ck61, ck79, [I 5], [I 2, I 1], ck61, ck80, [I 5], [I 3, I 1], ck61, ck81, [I 4], [.s (T 3 0x693e69)], ck82, ck66, ck67, ck68, ck69, ck70, ck188, [I 5], [I 5], [I 5], [I 0], [I 2], [I 3], [I 4]]
noncomputable def ct330r7 : Rec := ⟨21, [.g [.sl (q 1002) 0 1 1, .sl (q 1003) 0 6 4, .sl (q 1004) 0 6 6, .sl (q 1005) 0 1 4, .s (T 3 0x727269), .sl (q 1006) 0 1 3, .s0, .s0, .sl (q 1007) 0 3 1, .sl (q 1008) 0 3 1, I 1, I 2]], q 1039, nmL 1002 ct330o2, cn3, .u [.p (q 1039) 0, .n0], ct330o7⟩
set_option maxRecDepth 1000000 in
theorem ct330t7 : memoT ct330v6 ct330r7 = true := by kernel_rfl
noncomputable def ct330v7 : Ov := memoOv ct330r7 ct330v6
theorem ct330g7 {ν : Nat → Int} : OvGood ν ct330v7 := memo_good ct330g6 ct330g6 ct330t7
set_option maxRecDepth 1000000 in
theorem ct330_ev : okv (mEv ct330v7 [] [(lowZ 0 4, 3), (lowZ 1 5, 3)] 3 [.i .i64 (.var 0), .i .i64 (.var 1), .b false] start) = some (.b true) := by kernel_rfl
theorem ct330 (x y : Int) (w : World) (hA : Tp.Asc w) (h0 : zval (fun n => match n with | 0 => x | _ => y) (lowZ 0 4) = 3) (h1 : zval (fun n => match n with | 0 => x | _ => y) (lowZ 1 5) = 3) : Calls Tryz.prog 3 #[.int .i64 x, .int .i64 y, .bool false] w (fun e w' => e = .returned (.bool true) ∧ Below w.heap.size w w') :=
  tm_true (ν := (fun n => match n with | 0 => x | _ => y)) w hA ct330g7 path_nil (norm_cons h0 (norm_cons h1 norm_nil)) ct330_ev (args := [.int .i64 x, .int .i64 y, .bool false]) (by simp [VRs, VR, zval])
end Go.Proofs.YtoinghomkcjkcaaGreatDoor
/- TopCasts 331: its calls, and that it answers true. -/
namespace Go.Proofs.YtoinghomkcjkcaaGreatDoor
set_option linter.unusedSimpArgs false
set_option linter.unusedVariables false
set_option linter.constructorNameAsVariable false
open Go Go.RowKit
open Ev
noncomputable def ct331s : List Z := Ev.app cfam (T 131 0x3b2050203a2029203020595449524f495250202c2031204c41565245544e4920282054204b534154204d4152474f52505f444e45203b2046495f444e45203b2031203d3a20792045534c45203b2032203d3a2079204e454854204c4c554e203d2072204649203b2066203d3f2072203b20292064202820464552203d3a2066203b2044)
noncomputable def ct331o0 : List (List V) := [ck0, ck83, ck2, [.s (T 1 0x46)], ck3, ck4, ck5, ck6, [.s (T 1 0x46)], ck7, ck119, ck84, ck10, ck10, ck11, ck12, ck10, ck13, ck10, ck14, ck10, ck15, ck175, ck26, ck85, ck86, ck87, ck88, ck89, ck90, ck91, ck92, ck27, ck57, ck28, ck30, ck31, ck32, ck33, ck93, ck35, ck36, ck31, ck35]
noncomputable def ct331r0 : Rec := ⟨23, [.s ct331s], q 1004, [], cn4, .u [.g [.sl (q 1004) 0 11 7], .sl (q 1005) 0 1 7, .n0], ct331o0⟩
set_option maxRecDepth 1000000 in
theorem ct331t0 : memoT sOv ct331r0 = true := by kernel_rfl
noncomputable def ct331v0 : Ov := memoOv ct331r0 sOv
theorem ct331g0 {ν : Nat → Int} : OvGood ν ct331v0 := memo_good sOv_good sOv_good ct331t0
noncomputable def ct331o1 : List (List V) := [ck37, ck38, [.s (T 1 0x46)], ck3, ck39, ck40, ck41, [.s (T 1 0x46)], ck42, ck119, ck94, ck10, ck10, ck44, ck45, ck10, ck46, ck10, ck47, ck10, ck48, ck175, ck26, ck95, ck96, ck97, ck98, ck87, ck99, ck89, ck100, ck27, ck101, ck56, ck30, ck31, ck32, ck33, ck102, ck35, ck36, ck31, ck35]
noncomputable def ct331r1 : Rec := ⟨14, [.s ct331s], q 1003, [], cn5, .u [.g [.sl (q 1003) 0 11 7], .s0], ct331o1⟩
set_option maxRecDepth 1000000 in
theorem ct331t1 : memoT ct331v0 ct331r1 = true := by kernel_rfl
noncomputable def ct331v1 : Ov := memoOv ct331r1 ct331v0
theorem ct331g1 {ν : Nat → Int} : OvGood ν ct331v1 := memo_good ct331g0 ct331g0 ct331t1
noncomputable def ct331o2 : List (List V) := [[.sl (q 1009) 0 1 1], ck59, ck60, [I 0, I 1, I 2, I 3], [I 0, I 0, I 0], [I 0, I 0, .b false], [I 5, I 1, I 0], [.s (T 3 0x693e69)], [I 5], [I 0, I 1], ck61, ck62, [I 5], [I 2, I 1], ck61, ck63, [I 5], [I 3, I 1], ck61, ck64, [I 4], [.s (T 3 0x693e69)], ck65, ck66, ck67, ck68, ck69, ck70, ck190, [I 0], [I 2], [I 3], [I 4]]
noncomputable def ct331r2 : Rec := ⟨12, [.s ct331s], q 1002, [], N [4089, 5312, 5644, 5456, 4082, 5332, 5551, 4087, 4135, 4278, 4281, 4361, 4423, 4600, 4603, 4697, 4775, 4987, 4990, 5100, 5227, 5230, 5310, 5834, 5975, 6346, 6728, 6830, 7395, 4359, 4695, 5098, 5308], .u [.g [.sl (q 1002) 0 1 1, .sl (q 1003) 0 6 4, .sl (q 1004) 0 6 6, .sl (q 1005) 0 1 4, .s (T 3 0x727269), .sl (q 1006) 0 1 3, .s0, .s0, .sl (q 1007) 0 3 1, .sl (q 1008) 0 3 1, I 1, I 2], .s0], ct331o2⟩
set_option maxRecDepth 1000000 in
theorem ct331t2 : memoT ct331v1 ct331r2 = true := by kernel_rfl
noncomputable def ct331v2 : Ov := memoOv ct331r2 ct331v1
theorem ct331g2 {ν : Nat → Int} : OvGood ν ct331v2 := memo_good ct331g1 ct331g1 ct331t2
noncomputable def ct331r3 : Rec := ⟨15, [.g [.sl (q 1002) 0 1 1, .sl (q 1003) 0 6 4, .sl (q 1004) 0 6 6, .sl (q 1005) 0 1 4, .s (T 3 0x727269), .sl (q 1006) 0 1 3, .s0, .s0, .sl (q 1007) 0 3 1, .sl (q 1008) 0 3 1, I 1, I 2]], q 1041, nmL 1002 ct331o2, N [], .n0, []⟩
set_option maxRecDepth 1000000 in
theorem ct331t3 : memoT ct331v2 ct331r3 = true := by kernel_rfl
noncomputable def ct331v3 : Ov := memoOv ct331r3 ct331v2
theorem ct331g3 {ν : Nat → Int} : OvGood ν ct331v3 := memo_good ct331g2 ct331g2 ct331t3
noncomputable def ct331o4 : List (List V) := [ck191]
noncomputable def ct331r4 : Rec := ⟨90, [.g [.sl (q 1002) 0 1 1, .sl (q 1003) 0 6 4, .sl (q 1004) 0 6 6, .sl (q 1005) 0 1 4, .s (T 3 0x727269), .sl (q 1006) 0 1 3, .s0, .s0, .sl (q 1007) 0 3 1, .sl (q 1008) 0 3 1, I 1, I 2]], q 1041, nmL 1002 ct331o2, N [2001], .u [.sl (q 1041) 0 1 1224, .n0], ct331o4⟩
set_option maxRecDepth 1000000 in
theorem ct331t4 : memoT ct331v3 ct331r4 = true := by kernel_rfl
noncomputable def ct331v4 : Ov := memoOv ct331r4 ct331v3
theorem ct331g4 {ν : Nat → Int} : OvGood ν ct331v4 := memo_good ct331g3 ct331g3 ct331t4
noncomputable def ct331o5 : List (List V) := [ck191]
noncomputable def ct331r5 : Rec := ⟨90, [.g [.sl (q 1048) 0 1 1, .sl (q 1122) 0 6 4, .sl (q 1386) 0 6 6, .sl (q 1394) 0 1 4, .s (T 3 0x727269), .sl (q 1400) 0 1 3, .s0, .s0, .sl (q 1404) 0 3 1, .sl (q 1408) 0 3 1, I 1, I 2]], q 1410, rnL 1002 (N [1048, 1122, 1386, 1394, 1400, 1404, 1408, 1046, 1051, 1055, 1059, 1065, 1071, 1075, 1079, 1085, 1091, 1095, 1099, 1105, 1111, 1113, 1119, 1151, 1179, 1231, 1267, 1295, 1383, 1062, 1082, 1102, 1116]) ct331o2, N [2370], .u [.sl (q 1410) 0 1 1224, .n0], ct331o5⟩
set_option maxRecDepth 1000000 in
theorem ct331t5 : memoT ct331v4 ct331r5 = true := by kernel_rfl
noncomputable def ct331v5 : Ov := memoOv ct331r5 ct331v4
theorem ct331g5 {ν : Nat → Int} : OvGood ν ct331v5 := memo_good ct331g4 ct331g4 ct331t5
noncomputable def ct331r6 : Rec := ⟨91, [.sl (q 1041) 0 1 1224], q 1042, [(q 1041, ck191)], cn2, .u [.g [.sl (q 1042) 0 1 1, .sl (q 1043) 0 6 4, .sl (q 1044) 0 6 6, .sl (q 1045) 0 1 4, .s (T 3 0x727269), .sl (q 1046) 0 1 3, .s0, .s0, .sl (q 1047) 0 3 1, .sl (q 1048) 0 3 1, I 1, I 2], .n0], shO 1002 1042 33 ct331o2⟩
set_option maxRecDepth 1000000 in
theorem ct331t6 : memoT ct331v5 ct331r6 = true := by kernel_rfl
noncomputable def ct331v6 : Ov := memoOv ct331r6 ct331v5
theorem ct331g6 {ν : Nat → Int} : OvGood ν ct331v6 := memo_good ct331g5 ct331g5 ct331t6
noncomputable def ct331o7 : List (List V) := [ck73, ck74, [I 5, I 1, I 0], [I 0, I 0, .b false], ck75, [I 0], [.sl (q 1054) 0 1 1], ck76, ck77, [I 0, I 1, I 2, I 3], [I 0, I 0, I 0], [I 0, I 0, .b false], [I 5, I 1, I 0], [I 0, I 0, I 0], ck78, [.s (T 3 0x693e69)], [I 5], [I 0, I 1], ck61, ck79, [I 5], [I 2, I 1], ck61, ck80, [I 5], [I 3, I 1], ck61, ck81, [I 4], [.s (T 3 0x693e69)], ck82, ck66, ck67, ck68, ck69, ck70, ck190, [I 5], [I 5], [I 5], [I 0], [I 2], [I 3], [I 4]]
noncomputable def ct331r7 : Rec := ⟨21, [.g [.sl (q 1002) 0 1 1, .sl (q 1003) 0 6 4, .sl (q 1004) 0 6 6, .sl (q 1005) 0 1 4, .s (T 3 0x727269), .sl (q 1006) 0 1 3, .s0, .s0, .sl (q 1007) 0 3 1, .sl (q 1008) 0 3 1, I 1, I 2]], q 1039, nmL 1002 ct331o2, cn3, .u [.p (q 1039) 0, .n0], ct331o7⟩
set_option maxRecDepth 1000000 in
theorem ct331t7 : memoT ct331v6 ct331r7 = true := by kernel_rfl
noncomputable def ct331v7 : Ov := memoOv ct331r7 ct331v6
theorem ct331g7 {ν : Nat → Int} : OvGood ν ct331v7 := memo_good ct331g6 ct331g6 ct331t7
set_option maxRecDepth 1000000 in
theorem ct331_ev : okv (mEv ct331v7 [] [(lowZ 0 4, 3), (lowZ 1 5, 3)] 3 [.i .i64 (.var 0), .i .i64 (.var 1), .b true] start) = some (.b true) := by kernel_rfl
theorem ct331 (x y : Int) (w : World) (hA : Tp.Asc w) (h0 : zval (fun n => match n with | 0 => x | _ => y) (lowZ 0 4) = 3) (h1 : zval (fun n => match n with | 0 => x | _ => y) (lowZ 1 5) = 3) : Calls Tryz.prog 3 #[.int .i64 x, .int .i64 y, .bool true] w (fun e w' => e = .returned (.bool true) ∧ Below w.heap.size w w') :=
  tm_true (ν := (fun n => match n with | 0 => x | _ => y)) w hA ct331g7 path_nil (norm_cons h0 (norm_cons h1 norm_nil)) ct331_ev (args := [.int .i64 x, .int .i64 y, .bool true]) (by simp [VRs, VR, zval])
end Go.Proofs.YtoinghomkcjkcaaGreatDoor
