/- TopCasts 320: its calls, and that it answers true. -/
import Derived.Test.YtoinghomkcjkcaaGreatDoorTcD
namespace Go.Proofs.YtoinghomkcjkcaaGreatDoor
set_option linter.unusedSimpArgs false
set_option linter.unusedVariables false
set_option linter.constructorNameAsVariable false
open Go Go.RowKit
open Ev
noncomputable def ct320s : List Z := Ev.app cfam (T 140 0x3b2050203a2029203020595449524f495250202c2031204c41565245544e4920282054204b534154204d4152474f52505f444e45203b2046495f444e45203b2031203d3a20792045534c45203b2032203d3a2079204e454854204c4c554e203d2072204649203b2029206620282043205341203d3a2072203b20292064202820464552203d3a2066203b2043)
noncomputable def ct320o0 : List (List V) := [ck0, ck1, ck2, [.s (T 1 0x46)], ck3, ck4, ck5, ck6, [.s (T 1 0x46)], ck7, ck112, ck9, ck10, ck10, ck11, ck12, ck10, ck13, ck10, ck14, ck10, ck15, ck175, ck113, ck18, ck19, ck20, ck21, ck22, ck23, ck24, ck25, ck26, ck27, ck28, ck29, ck30, ck31, ck32, ck33, ck34, ck35, ck36, ck31, ck35]
noncomputable def ct320r0 : Rec := ⟨23, [.s ct320s], q 1004, [], cn0, .u [.g [.sl (q 1004) 0 11 7], .sl (q 1005) 0 1 7, .n0], ct320o0⟩
set_option maxRecDepth 1000000 in
theorem ct320t0 : memoT sOv ct320r0 = true := by kernel_rfl
noncomputable def ct320v0 : Ov := memoOv ct320r0 sOv
theorem ct320g0 {ν : Nat → Int} : OvGood ν ct320v0 := memo_good sOv_good sOv_good ct320t0
noncomputable def ct320o1 : List (List V) := [ck37, ck38, [.s (T 1 0x46)], ck3, ck39, ck40, ck41, [.s (T 1 0x46)], ck42, ck112, ck43, ck10, ck10, ck44, ck45, ck10, ck46, ck10, ck47, ck10, ck48, ck175, ck114, ck50, ck51, ck52, ck53, ck20, ck54, ck22, ck55, ck26, ck27, ck56, ck57, ck30, ck31, ck32, ck33, ck58, ck35, ck36, ck31, ck35]
noncomputable def ct320r1 : Rec := ⟨14, [.s ct320s], q 1003, [], cn1, .u [.g [.sl (q 1003) 0 11 7], .s0], ct320o1⟩
set_option maxRecDepth 1000000 in
theorem ct320t1 : memoT ct320v0 ct320r1 = true := by kernel_rfl
noncomputable def ct320v1 : Ov := memoOv ct320r1 ct320v0
theorem ct320g1 {ν : Nat → Int} : OvGood ν ct320v1 := memo_good ct320g0 ct320g0 ct320t1
noncomputable def ct320o2 : List (List V) := [[.sl (q 1009) 0 1 1], ck59, ck60, [I 0, I 1, I 2, I 3], [I 0, I 0, I 0], [I 0, I 0, .b false], [I 5, I 1, I 0], [.s (T 3 0x693e69)], [I 5], [I 0, I 1], ck61, ck62, [I 5], [I 2, I 1], ck61, ck63, [I 5], [I 3, I 1], ck61, ck64, [I 4], [.s (T 3 0x693e69)], ck65, ck66, ck67, ck68, ck69, ck70, ck184, [I 0], [I 2], [I 3], [I 4]]
noncomputable def ct320r2 : Rec := ⟨12, [.s ct320s], q 1002, [], N [4106, 5329, 5661, 5473, 4099, 5349, 5568, 4104, 4152, 4295, 4298, 4378, 4440, 4617, 4620, 4714, 4792, 5004, 5007, 5117, 5244, 5247, 5327, 5851, 5992, 6363, 6745, 6847, 7413, 4376, 4712, 5115, 5325], .u [.g [.sl (q 1002) 0 1 1, .sl (q 1003) 0 6 4, .sl (q 1004) 0 6 6, .sl (q 1005) 0 1 4, .s (T 3 0x727269), .sl (q 1006) 0 1 3, .s0, .s0, .sl (q 1007) 0 3 1, .sl (q 1008) 0 3 1, I 1, I 2], .s0], ct320o2⟩
set_option maxRecDepth 1000000 in
theorem ct320t2 : memoT ct320v1 ct320r2 = true := by kernel_rfl
noncomputable def ct320v2 : Ov := memoOv ct320r2 ct320v1
theorem ct320g2 {ν : Nat → Int} : OvGood ν ct320v2 := memo_good ct320g1 ct320g1 ct320t2
noncomputable def ct320r3 : Rec := ⟨15, [.g [.sl (q 1002) 0 1 1, .sl (q 1003) 0 6 4, .sl (q 1004) 0 6 6, .sl (q 1005) 0 1 4, .s (T 3 0x727269), .sl (q 1006) 0 1 3, .s0, .s0, .sl (q 1007) 0 3 1, .sl (q 1008) 0 3 1, I 1, I 2]], q 1041, nmL 1002 ct320o2, N [], .n0, []⟩
set_option maxRecDepth 1000000 in
theorem ct320t3 : memoT ct320v2 ct320r3 = true := by kernel_rfl
noncomputable def ct320v3 : Ov := memoOv ct320r3 ct320v2
theorem ct320g3 {ν : Nat → Int} : OvGood ν ct320v3 := memo_good ct320g2 ct320g2 ct320t3
noncomputable def ct320o4 : List (List V) := [ck185]
noncomputable def ct320r4 : Rec := ⟨90, [.g [.sl (q 1002) 0 1 1, .sl (q 1003) 0 6 4, .sl (q 1004) 0 6 6, .sl (q 1005) 0 1 4, .s (T 3 0x727269), .sl (q 1006) 0 1 3, .s0, .s0, .sl (q 1007) 0 3 1, .sl (q 1008) 0 3 1, I 1, I 2]], q 1041, nmL 1002 ct320o2, N [2001], .u [.sl (q 1041) 0 1 1224, .n0], ct320o4⟩
set_option maxRecDepth 1000000 in
theorem ct320t4 : memoT ct320v3 ct320r4 = true := by kernel_rfl
noncomputable def ct320v4 : Ov := memoOv ct320r4 ct320v3
theorem ct320g4 {ν : Nat → Int} : OvGood ν ct320v4 := memo_good ct320g3 ct320g3 ct320t4
noncomputable def ct320o5 : List (List V) := [ck185]
noncomputable def ct320r5 : Rec := ⟨90, [.g [.sl (q 1048) 0 1 1, .sl (q 1122) 0 6 4, .sl (q 1386) 0 6 6, .sl (q 1394) 0 1 4, .s (T 3 0x727269), .sl (q 1400) 0 1 3, .s0, .s0, .sl (q 1404) 0 3 1, .sl (q 1408) 0 3 1, I 1, I 2]], q 1410, rnL 1002 (N [1048, 1122, 1386, 1394, 1400, 1404, 1408, 1046, 1051, 1055, 1059, 1065, 1071, 1075, 1079, 1085, 1091, 1095, 1099, 1105, 1111, 1113, 1119, 1151, 1179, 1231, 1267, 1295, 1383, 1062, 1082, 1102, 1116]) ct320o2, N [2370], .u [.sl (q 1410) 0 1 1224, .n0], ct320o5⟩
set_option maxRecDepth 1000000 in
theorem ct320t5 : memoT ct320v4 ct320r5 = true := by kernel_rfl
noncomputable def ct320v5 : Ov := memoOv ct320r5 ct320v4
theorem ct320g5 {ν : Nat → Int} : OvGood ν ct320v5 := memo_good ct320g4 ct320g4 ct320t5
noncomputable def ct320r6 : Rec := ⟨91, [.sl (q 1041) 0 1 1224], q 1042, [(q 1041, ck185)], cn2, .u [.g [.sl (q 1042) 0 1 1, .sl (q 1043) 0 6 4, .sl (q 1044) 0 6 6, .sl (q 1045) 0 1 4, .s (T 3 0x727269), .sl (q 1046) 0 1 3, .s0, .s0, .sl (q 1047) 0 3 1, .sl (q 1048) 0 3 1, I 1, I 2], .n0], shO 1002 1042 33 ct320o2⟩
set_option maxRecDepth 1000000 in
theorem ct320t6 : memoT ct320v5 ct320r6 = true := by kernel_rfl
noncomputable def ct320v6 : Ov := memoOv ct320r6 ct320v5
theorem ct320g6 {ν : Nat → Int} : OvGood ν ct320v6 := memo_good ct320g5 ct320g5 ct320t6
noncomputable def ct320o7 : List (List V) := [ck73, ck74, [I 5, I 1, I 0], [I 0, I 0, .b false], ck75, [I 0], [.sl (q 1054) 0 1 1], ck76, ck77, [I 0, I 1, I 2, I 3], [I 0, I 0, I 0], [I 0, I 0, .b false], [I 5, I 1, I 0], [I 0, I 0, I 0], ck78, [.s (T 3 0x693e69)], [I 5], [I 0, I 1], ck61, ck79, [I 5], [I 2, I 1], ck61, ck80, [I 5], [I 3, I 1], ck61, ck81, [I 4], [.s (T 3 0x693e69)], ck82, ck66, ck67, ck68, ck69, ck70, ck184, [I 5], [I 5], [I 5], [I 0], [I 2], [I 3], [I 4]]
noncomputable def ct320r7 : Rec := ⟨21, [.g [.sl (q 1002) 0 1 1, .sl (q 1003) 0 6 4, .sl (q 1004) 0 6 6, .sl (q 1005) 0 1 4, .s (T 3 0x727269), .sl (q 1006) 0 1 3, .s0, .s0, .sl (q 1007) 0 3 1, .sl (q 1008) 0 3 1, I 1, I 2]], q 1039, nmL 1002 ct320o2, cn3, .u [.p (q 1039) 0, .n0], ct320o7⟩
set_option maxRecDepth 1000000 in
theorem ct320t7 : memoT ct320v6 ct320r7 = true := by kernel_rfl
noncomputable def ct320v7 : Ov := memoOv ct320r7 ct320v6
theorem ct320g7 {ν : Nat → Int} : OvGood ν ct320v7 := memo_good ct320g6 ct320g6 ct320t7
set_option maxRecDepth 1000000 in
theorem ct320_ev : okv (mEv ct320v7 [] [(lowZ 0 4, 3), (lowZ 1 5, 2)] 3 [.i .i64 (.var 0), .i .i64 (.var 1), .b false] start) = some (.b true) := by kernel_rfl
theorem ct320 (x y : Int) (w : World) (hA : Tp.Asc w) (h0 : zval (fun n => match n with | 0 => x | _ => y) (lowZ 0 4) = 3) (h1 : zval (fun n => match n with | 0 => x | _ => y) (lowZ 1 5) = 2) : Calls Tryz.prog 3 #[.int .i64 x, .int .i64 y, .bool false] w (fun e w' => e = .returned (.bool true) ∧ Below w.heap.size w w') :=
  tm_true (ν := (fun n => match n with | 0 => x | _ => y)) w hA ct320g7 path_nil (norm_cons h0 (norm_cons h1 norm_nil)) ct320_ev (args := [.int .i64 x, .int .i64 y, .bool false]) (by simp [VRs, VR, zval])
end Go.Proofs.YtoinghomkcjkcaaGreatDoor
/- TopCasts 321: its calls, and that it answers true. -/
namespace Go.Proofs.YtoinghomkcjkcaaGreatDoor
set_option linter.unusedSimpArgs false
set_option linter.unusedVariables false
set_option linter.constructorNameAsVariable false
open Go Go.RowKit
open Ev
noncomputable def ct321s : List Z := Ev.app cfam (T 131 0x3b2050203a2029203020595449524f495250202c2031204c41565245544e4920282054204b534154204d4152474f52505f444e45203b2046495f444e45203b2031203d3a20792045534c45203b2032203d3a2079204e454854204c4c554e203d2072204649203b2066203d3f2072203b20292064202820464552203d3a2066203b2043)
noncomputable def ct321o0 : List (List V) := [ck0, ck83, ck2, [.s (T 1 0x46)], ck3, ck4, ck5, ck6, [.s (T 1 0x46)], ck7, ck112, ck84, ck10, ck10, ck11, ck12, ck10, ck13, ck10, ck14, ck10, ck15, ck175, ck26, ck85, ck86, ck87, ck88, ck89, ck90, ck91, ck92, ck27, ck57, ck28, ck30, ck31, ck32, ck33, ck93, ck35, ck36, ck31, ck35]
noncomputable def ct321r0 : Rec := ⟨23, [.s ct321s], q 1004, [], cn4, .u [.g [.sl (q 1004) 0 11 7], .sl (q 1005) 0 1 7, .n0], ct321o0⟩
set_option maxRecDepth 1000000 in
theorem ct321t0 : memoT sOv ct321r0 = true := by kernel_rfl
noncomputable def ct321v0 : Ov := memoOv ct321r0 sOv
theorem ct321g0 {ν : Nat → Int} : OvGood ν ct321v0 := memo_good sOv_good sOv_good ct321t0
noncomputable def ct321o1 : List (List V) := [ck37, ck38, [.s (T 1 0x46)], ck3, ck39, ck40, ck41, [.s (T 1 0x46)], ck42, ck112, ck94, ck10, ck10, ck44, ck45, ck10, ck46, ck10, ck47, ck10, ck48, ck175, ck26, ck95, ck96, ck97, ck98, ck87, ck99, ck89, ck100, ck27, ck101, ck56, ck30, ck31, ck32, ck33, ck102, ck35, ck36, ck31, ck35]
noncomputable def ct321r1 : Rec := ⟨14, [.s ct321s], q 1003, [], cn5, .u [.g [.sl (q 1003) 0 11 7], .s0], ct321o1⟩
set_option maxRecDepth 1000000 in
theorem ct321t1 : memoT ct321v0 ct321r1 = true := by kernel_rfl
noncomputable def ct321v1 : Ov := memoOv ct321r1 ct321v0
theorem ct321g1 {ν : Nat → Int} : OvGood ν ct321v1 := memo_good ct321g0 ct321g0 ct321t1
noncomputable def ct321o2 : List (List V) := [[.sl (q 1009) 0 1 1], ck59, ck60, [I 0, I 1, I 2, I 3], [I 0, I 0, I 0], [I 0, I 0, .b false], [I 5, I 1, I 0], [.s (T 3 0x693e69)], [I 5], [I 0, I 1], ck61, ck62, [I 5], [I 2, I 1], ck61, ck63, [I 5], [I 3, I 1], ck61, ck64, [I 4], [.s (T 3 0x693e69)], ck65, ck66, ck67, ck68, ck69, ck70, ck186, [I 0], [I 2], [I 3], [I 4]]
noncomputable def ct321r2 : Rec := ⟨12, [.s ct321s], q 1002, [], N [4088, 5311, 5643, 5455, 4081, 5331, 5550, 4086, 4134, 4277, 4280, 4360, 4422, 4599, 4602, 4696, 4774, 4986, 4989, 5099, 5226, 5229, 5309, 5833, 5974, 6345, 6727, 6829, 7392, 4358, 4694, 5097, 5307], .u [.g [.sl (q 1002) 0 1 1, .sl (q 1003) 0 6 4, .sl (q 1004) 0 6 6, .sl (q 1005) 0 1 4, .s (T 3 0x727269), .sl (q 1006) 0 1 3, .s0, .s0, .sl (q 1007) 0 3 1, .sl (q 1008) 0 3 1, I 1, I 2], .s0], ct321o2⟩
set_option maxRecDepth 1000000 in
theorem ct321t2 : memoT ct321v1 ct321r2 = true := by kernel_rfl
noncomputable def ct321v2 : Ov := memoOv ct321r2 ct321v1
theorem ct321g2 {ν : Nat → Int} : OvGood ν ct321v2 := memo_good ct321g1 ct321g1 ct321t2
noncomputable def ct321r3 : Rec := ⟨15, [.g [.sl (q 1002) 0 1 1, .sl (q 1003) 0 6 4, .sl (q 1004) 0 6 6, .sl (q 1005) 0 1 4, .s (T 3 0x727269), .sl (q 1006) 0 1 3, .s0, .s0, .sl (q 1007) 0 3 1, .sl (q 1008) 0 3 1, I 1, I 2]], q 1041, nmL 1002 ct321o2, N [], .n0, []⟩
set_option maxRecDepth 1000000 in
theorem ct321t3 : memoT ct321v2 ct321r3 = true := by kernel_rfl
noncomputable def ct321v3 : Ov := memoOv ct321r3 ct321v2
theorem ct321g3 {ν : Nat → Int} : OvGood ν ct321v3 := memo_good ct321g2 ct321g2 ct321t3
noncomputable def ct321o4 : List (List V) := [ck187]
noncomputable def ct321r4 : Rec := ⟨90, [.g [.sl (q 1002) 0 1 1, .sl (q 1003) 0 6 4, .sl (q 1004) 0 6 6, .sl (q 1005) 0 1 4, .s (T 3 0x727269), .sl (q 1006) 0 1 3, .s0, .s0, .sl (q 1007) 0 3 1, .sl (q 1008) 0 3 1, I 1, I 2]], q 1041, nmL 1002 ct321o2, N [2001], .u [.sl (q 1041) 0 1 1224, .n0], ct321o4⟩
set_option maxRecDepth 1000000 in
theorem ct321t4 : memoT ct321v3 ct321r4 = true := by kernel_rfl
noncomputable def ct321v4 : Ov := memoOv ct321r4 ct321v3
theorem ct321g4 {ν : Nat → Int} : OvGood ν ct321v4 := memo_good ct321g3 ct321g3 ct321t4
noncomputable def ct321o5 : List (List V) := [ck187]
noncomputable def ct321r5 : Rec := ⟨90, [.g [.sl (q 1048) 0 1 1, .sl (q 1122) 0 6 4, .sl (q 1386) 0 6 6, .sl (q 1394) 0 1 4, .s (T 3 0x727269), .sl (q 1400) 0 1 3, .s0, .s0, .sl (q 1404) 0 3 1, .sl (q 1408) 0 3 1, I 1, I 2]], q 1410, rnL 1002 (N [1048, 1122, 1386, 1394, 1400, 1404, 1408, 1046, 1051, 1055, 1059, 1065, 1071, 1075, 1079, 1085, 1091, 1095, 1099, 1105, 1111, 1113, 1119, 1151, 1179, 1231, 1267, 1295, 1383, 1062, 1082, 1102, 1116]) ct321o2, N [2370], .u [.sl (q 1410) 0 1 1224, .n0], ct321o5⟩
set_option maxRecDepth 1000000 in
theorem ct321t5 : memoT ct321v4 ct321r5 = true := by kernel_rfl
noncomputable def ct321v5 : Ov := memoOv ct321r5 ct321v4
theorem ct321g5 {ν : Nat → Int} : OvGood ν ct321v5 := memo_good ct321g4 ct321g4 ct321t5
noncomputable def ct321r6 : Rec := ⟨91, [.sl (q 1041) 0 1 1224], q 1042, [(q 1041, ck187)], cn2, .u [.g [.sl (q 1042) 0 1 1, .sl (q 1043) 0 6 4, .sl (q 1044) 0 6 6, .sl (q 1045) 0 1 4, .s (T 3 0x727269), .sl (q 1046) 0 1 3, .s0, .s0, .sl (q 1047) 0 3 1, .sl (q 1048) 0 3 1, I 1, I 2], .n0], shO 1002 1042 33 ct321o2⟩
set_option maxRecDepth 1000000 in
theorem ct321t6 : memoT ct321v5 ct321r6 = true := by kernel_rfl
noncomputable def ct321v6 : Ov := memoOv ct321r6 ct321v5
theorem ct321g6 {ν : Nat → Int} : OvGood ν ct321v6 := memo_good ct321g5 ct321g5 ct321t6
noncomputable def ct321o7 : List (List V) := [ck73, ck74, [I 5, I 1, I 0], [I 0, I 0, .b false], ck75, [I 0], [.sl (q 1054) 0 1 1], ck76, ck77, [I 0, I 1, I 2, I 3], [I 0, I 0, I 0], [I 0, I 0, .b false], [I 5, I 1, I 0], [I 0, I 0, I 0], ck78, [.s (T 3 0x693e69)], [I 5], [I 0, I 1], ck61, ck79, [I 5], [I 2, I 1], ck61, ck80, [I 5], [I 3, I 1], ck61, ck81, [I 4], [.s (T 3 0x693e69)], ck82, ck66, ck67, ck68, ck69, ck70, ck186, [I 5], [I 5], [I 5], [I 0], [I 2], [I 3], [I 4]]
noncomputable def ct321r7 : Rec := ⟨21, [.g [.sl (q 1002) 0 1 1, .sl (q 1003) 0 6 4, .sl (q 1004) 0 6 6, .sl (q 1005) 0 1 4, .s (T 3 0x727269), .sl (q 1006) 0 1 3, .s0, .s0, .sl (q 1007) 0 3 1, .sl (q 1008) 0 3 1, I 1, I 2]], q 1039, nmL 1002 ct321o2, cn3, .u [.p (q 1039) 0, .n0], ct321o7⟩
set_option maxRecDepth 1000000 in
theorem ct321t7 : memoT ct321v6 ct321r7 = true := by kernel_rfl
noncomputable def ct321v7 : Ov := memoOv ct321r7 ct321v6
theorem ct321g7 {ν : Nat → Int} : OvGood ν ct321v7 := memo_good ct321g6 ct321g6 ct321t7
set_option maxRecDepth 1000000 in
theorem ct321_ev : okv (mEv ct321v7 [] [(lowZ 0 4, 3), (lowZ 1 5, 2)] 3 [.i .i64 (.var 0), .i .i64 (.var 1), .b true] start) = some (.b true) := by kernel_rfl
theorem ct321 (x y : Int) (w : World) (hA : Tp.Asc w) (h0 : zval (fun n => match n with | 0 => x | _ => y) (lowZ 0 4) = 3) (h1 : zval (fun n => match n with | 0 => x | _ => y) (lowZ 1 5) = 2) : Calls Tryz.prog 3 #[.int .i64 x, .int .i64 y, .bool true] w (fun e w' => e = .returned (.bool true) ∧ Below w.heap.size w w') :=
  tm_true (ν := (fun n => match n with | 0 => x | _ => y)) w hA ct321g7 path_nil (norm_cons h0 (norm_cons h1 norm_nil)) ct321_ev (args := [.int .i64 x, .int .i64 y, .bool true]) (by simp [VRs, VR, zval])
end Go.Proofs.YtoinghomkcjkcaaGreatDoor
