/- TopCasts 010: its calls, and that it answers true. -/
import Derived.Test.YtoinghomkcjkcaaGreatDoorTcD
namespace Go.Proofs.YtoinghomkcjkcaaGreatDoor
set_option linter.unusedSimpArgs false
set_option linter.unusedVariables false
set_option linter.constructorNameAsVariable false
open Go Go.RowKit
open Ev
noncomputable def ct010s : List Z := Ev.app cfam (T 140 0x3b2050203a2029203020595449524f495250202c2031204c41565245544e4920282054204b534154204d4152474f52505f444e45203b2046495f444e45203b2031203d3a20792045534c45203b2032203d3a2079204e454854204c4c554e203d2072204649203b2029206620282042205341203d3a2072203b20292061202820464552203d3a2066203b2042)
noncomputable def ct010o0 : List (List V) := [ck0, ck1, ck2, [.s (T 1 0x46)], ck3, ck4, ck5, ck6, [.s (T 1 0x46)], ck7, ck105, ck9, ck10, ck10, ck11, ck12, ck10, ck13, ck10, ck14, ck10, ck15, ck16, ck106, ck18, ck19, ck20, ck21, ck22, ck23, ck24, ck25, ck26, ck27, ck28, ck29, ck30, ck31, ck32, ck33, ck34, ck35, ck36, ck31, ck35]
noncomputable def ct010r0 : Rec := ⟨23, [.s ct010s], q 1004, [], cn0, .u [.g [.sl (q 1004) 0 11 7], .sl (q 1005) 0 1 7, .n0], ct010o0⟩
set_option maxRecDepth 1000000 in
theorem ct010t0 : memoT sOv ct010r0 = true := by kernel_rfl
noncomputable def ct010v0 : Ov := memoOv ct010r0 sOv
theorem ct010g0 {ν : Nat → Int} : OvGood ν ct010v0 := memo_good sOv_good sOv_good ct010t0
noncomputable def ct010o1 : List (List V) := [ck37, ck38, [.s (T 1 0x46)], ck3, ck39, ck40, ck41, [.s (T 1 0x46)], ck42, ck105, ck43, ck10, ck10, ck44, ck45, ck10, ck46, ck10, ck47, ck10, ck48, ck16, ck107, ck50, ck51, ck52, ck53, ck20, ck54, ck22, ck55, ck26, ck27, ck56, ck57, ck30, ck31, ck32, ck33, ck58, ck35, ck36, ck31, ck35]
noncomputable def ct010r1 : Rec := ⟨14, [.s ct010s], q 1003, [], cn1, .u [.g [.sl (q 1003) 0 11 7], .s0], ct010o1⟩
set_option maxRecDepth 1000000 in
theorem ct010t1 : memoT ct010v0 ct010r1 = true := by kernel_rfl
noncomputable def ct010v1 : Ov := memoOv ct010r1 ct010v0
theorem ct010g1 {ν : Nat → Int} : OvGood ν ct010v1 := memo_good ct010g0 ct010g0 ct010t1
noncomputable def ct010o2 : List (List V) := [[.sl (q 1009) 0 1 1], ck59, ck60, [I 0, I 1, I 2, I 3], [I 0, I 0, I 0], [I 0, I 0, .b false], [I 5, I 1, I 0], [.s (T 3 0x693e69)], [I 5], [I 0, I 1], ck61, ck62, [I 5], [I 2, I 1], ck61, ck63, [I 5], [I 3, I 1], ck61, ck64, [I 4], [.s (T 3 0x693e69)], ck65, ck66, ck67, ck68, ck69, ck70, ck108, [I 0], [I 2], [I 3], [I 4]]
noncomputable def ct010r2 : Rec := ⟨12, [.s ct010s], q 1002, [], N [4098, 5321, 5653, 5465, 4091, 5341, 5560, 4096, 4144, 4287, 4290, 4370, 4432, 4609, 4612, 4706, 4784, 4996, 4999, 5109, 5236, 5239, 5319, 5843, 5984, 6355, 6737, 6839, 7397, 4368, 4704, 5107, 5317], .u [.g [.sl (q 1002) 0 1 1, .sl (q 1003) 0 6 4, .sl (q 1004) 0 6 6, .sl (q 1005) 0 1 4, .s (T 3 0x727269), .sl (q 1006) 0 1 3, .s0, .s0, .sl (q 1007) 0 3 1, .sl (q 1008) 0 3 1, I 1, I 2], .s0], ct010o2⟩
set_option maxRecDepth 1000000 in
theorem ct010t2 : memoT ct010v1 ct010r2 = true := by kernel_rfl
noncomputable def ct010v2 : Ov := memoOv ct010r2 ct010v1
theorem ct010g2 {ν : Nat → Int} : OvGood ν ct010v2 := memo_good ct010g1 ct010g1 ct010t2
noncomputable def ct010r3 : Rec := ⟨15, [.g [.sl (q 1002) 0 1 1, .sl (q 1003) 0 6 4, .sl (q 1004) 0 6 6, .sl (q 1005) 0 1 4, .s (T 3 0x727269), .sl (q 1006) 0 1 3, .s0, .s0, .sl (q 1007) 0 3 1, .sl (q 1008) 0 3 1, I 1, I 2]], q 1041, nmL 1002 ct010o2, N [], .n0, []⟩
set_option maxRecDepth 1000000 in
theorem ct010t3 : memoT ct010v2 ct010r3 = true := by kernel_rfl
noncomputable def ct010v3 : Ov := memoOv ct010r3 ct010v2
theorem ct010g3 {ν : Nat → Int} : OvGood ν ct010v3 := memo_good ct010g2 ct010g2 ct010t3
noncomputable def ct010o4 : List (List V) := [ck109]
noncomputable def ct010r4 : Rec := ⟨90, [.g [.sl (q 1002) 0 1 1, .sl (q 1003) 0 6 4, .sl (q 1004) 0 6 6, .sl (q 1005) 0 1 4, .s (T 3 0x727269), .sl (q 1006) 0 1 3, .s0, .s0, .sl (q 1007) 0 3 1, .sl (q 1008) 0 3 1, I 1, I 2]], q 1041, nmL 1002 ct010o2, N [2001], .u [.sl (q 1041) 0 1 1224, .n0], ct010o4⟩
set_option maxRecDepth 1000000 in
theorem ct010t4 : memoT ct010v3 ct010r4 = true := by kernel_rfl
noncomputable def ct010v4 : Ov := memoOv ct010r4 ct010v3
theorem ct010g4 {ν : Nat → Int} : OvGood ν ct010v4 := memo_good ct010g3 ct010g3 ct010t4
noncomputable def ct010o5 : List (List V) := [ck109]
noncomputable def ct010r5 : Rec := ⟨90, [.g [.sl (q 1048) 0 1 1, .sl (q 1122) 0 6 4, .sl (q 1386) 0 6 6, .sl (q 1394) 0 1 4, .s (T 3 0x727269), .sl (q 1400) 0 1 3, .s0, .s0, .sl (q 1404) 0 3 1, .sl (q 1408) 0 3 1, I 1, I 2]], q 1410, rnL 1002 (N [1048, 1122, 1386, 1394, 1400, 1404, 1408, 1046, 1051, 1055, 1059, 1065, 1071, 1075, 1079, 1085, 1091, 1095, 1099, 1105, 1111, 1113, 1119, 1151, 1179, 1231, 1267, 1295, 1383, 1062, 1082, 1102, 1116]) ct010o2, N [2370], .u [.sl (q 1410) 0 1 1224, .n0], ct010o5⟩
set_option maxRecDepth 1000000 in
theorem ct010t5 : memoT ct010v4 ct010r5 = true := by kernel_rfl
noncomputable def ct010v5 : Ov := memoOv ct010r5 ct010v4
theorem ct010g5 {ν : Nat → Int} : OvGood ν ct010v5 := memo_good ct010g4 ct010g4 ct010t5
noncomputable def ct010r6 : Rec := ⟨91, [.sl (q 1041) 0 1 1224], q 1042, [(q 1041, ck109)], cn2, .u [.g [.sl (q 1042) 0 1 1, .sl (q 1043) 0 6 4, .sl (q 1044) 0 6 6, .sl (q 1045) 0 1 4, .s (T 3 0x727269), .sl (q 1046) 0 1 3, .s0, .s0, .sl (q 1047) 0 3 1, .sl (q 1048) 0 3 1, I 1, I 2], .n0], shO 1002 1042 33 ct010o2⟩
set_option maxRecDepth 1000000 in
theorem ct010t6 : memoT ct010v5 ct010r6 = true := by kernel_rfl
noncomputable def ct010v6 : Ov := memoOv ct010r6 ct010v5
theorem ct010g6 {ν : Nat → Int} : OvGood ν ct010v6 := memo_good ct010g5 ct010g5 ct010t6
noncomputable def ct010o7 : List (List V) := [ck73, ck74, [I 5, I 1, I 0], [I 0, I 0, .b false], ck75, [I 0], [.sl (q 1054) 0 1 1], ck76, ck77, [I 0, I 1, I 2, I 3], [I 0, I 0, I 0], [I 0, I 0, .b false], [I 5, I 1, I 0], [I 0, I 0, I 0], ck78, [.s (T 3 0x693e69)], [I 5], [I 0, I 1], ck61, ck79, [I 5], [I 2, I 1], ck61, ck80, [I 5], [I 3, I 1], ck61, ck81, [I 4], [.s (T 3 0x693e69)], ck82, ck66, ck67, ck68, ck69, ck70, ck108, [I 5], [I 5], [I 5], [I 0], [I 2], [I 3], [I 4]]
noncomputable def ct010r7 : Rec := ⟨21, [.g [.sl (q 1002) 0 1 1, .sl (q 1003) 0 6 4, .sl (q 1004) 0 6 6, .sl (q 1005) 0 1 4, .s (T 3 0x727269), .sl (q 1006) 0 1 3, .s0, .s0, .sl (q 1007) 0 3 1, .sl (q 1008) 0 3 1, I 1, I 2]], q 1039, nmL 1002 ct010o2, cn3, .u [.p (q 1039) 0, .n0], ct010o7⟩
set_option maxRecDepth 1000000 in
theorem ct010t7 : memoT ct010v6 ct010r7 = true := by kernel_rfl
noncomputable def ct010v7 : Ov := memoOv ct010r7 ct010v6
theorem ct010g7 {ν : Nat → Int} : OvGood ν ct010v7 := memo_good ct010g6 ct010g6 ct010t7
set_option maxRecDepth 1000000 in
theorem ct010_ev : okv (mEv ct010v7 [] [(lowZ 0 4, 0), (lowZ 1 5, 1)] 3 [.i .i64 (.var 0), .i .i64 (.var 1), .b false] start) = some (.b true) := by kernel_rfl
theorem ct010 (x y : Int) (w : World) (hA : Tp.Asc w) (h0 : zval (fun n => match n with | 0 => x | _ => y) (lowZ 0 4) = 0) (h1 : zval (fun n => match n with | 0 => x | _ => y) (lowZ 1 5) = 1) : Calls Tryz.prog 3 #[.int .i64 x, .int .i64 y, .bool false] w (fun e w' => e = .returned (.bool true) ∧ Below w.heap.size w w') :=
  tm_true (ν := (fun n => match n with | 0 => x | _ => y)) w hA ct010g7 path_nil (norm_cons h0 (norm_cons h1 norm_nil)) ct010_ev (args := [.int .i64 x, .int .i64 y, .bool false]) (by simp [VRs, VR, zval])
end Go.Proofs.YtoinghomkcjkcaaGreatDoor
/- TopCasts 011: its calls, and that it answers true. -/
namespace Go.Proofs.YtoinghomkcjkcaaGreatDoor
set_option linter.unusedSimpArgs false
set_option linter.unusedVariables false
set_option linter.constructorNameAsVariable false
open Go Go.RowKit
open Ev
noncomputable def ct011s : List Z := Ev.app cfam (T 131 0x3b2050203a2029203020595449524f495250202c2031204c41565245544e4920282054204b534154204d4152474f52505f444e45203b2046495f444e45203b2031203d3a20792045534c45203b2032203d3a2079204e454854204c4c554e203d2072204649203b2066203d3f2072203b20292061202820464552203d3a2066203b2042)
noncomputable def ct011o0 : List (List V) := [ck0, ck83, ck2, [.s (T 1 0x46)], ck3, ck4, ck5, ck6, [.s (T 1 0x46)], ck7, ck105, ck84, ck10, ck10, ck11, ck12, ck10, ck13, ck10, ck14, ck10, ck15, ck16, ck26, ck85, ck86, ck87, ck88, ck89, ck90, ck91, ck92, ck27, ck57, ck28, ck30, ck31, ck32, ck33, ck93, ck35, ck36, ck31, ck35]
noncomputable def ct011r0 : Rec := ⟨23, [.s ct011s], q 1004, [], cn4, .u [.g [.sl (q 1004) 0 11 7], .sl (q 1005) 0 1 7, .n0], ct011o0⟩
set_option maxRecDepth 1000000 in
theorem ct011t0 : memoT sOv ct011r0 = true := by kernel_rfl
noncomputable def ct011v0 : Ov := memoOv ct011r0 sOv
theorem ct011g0 {ν : Nat → Int} : OvGood ν ct011v0 := memo_good sOv_good sOv_good ct011t0
noncomputable def ct011o1 : List (List V) := [ck37, ck38, [.s (T 1 0x46)], ck3, ck39, ck40, ck41, [.s (T 1 0x46)], ck42, ck105, ck94, ck10, ck10, ck44, ck45, ck10, ck46, ck10, ck47, ck10, ck48, ck16, ck26, ck95, ck96, ck97, ck98, ck87, ck99, ck89, ck100, ck27, ck101, ck56, ck30, ck31, ck32, ck33, ck102, ck35, ck36, ck31, ck35]
noncomputable def ct011r1 : Rec := ⟨14, [.s ct011s], q 1003, [], cn5, .u [.g [.sl (q 1003) 0 11 7], .s0], ct011o1⟩
set_option maxRecDepth 1000000 in
theorem ct011t1 : memoT ct011v0 ct011r1 = true := by kernel_rfl
noncomputable def ct011v1 : Ov := memoOv ct011r1 ct011v0
theorem ct011g1 {ν : Nat → Int} : OvGood ν ct011v1 := memo_good ct011g0 ct011g0 ct011t1
noncomputable def ct011o2 : List (List V) := [[.sl (q 1009) 0 1 1], ck59, ck60, [I 0, I 1, I 2, I 3], [I 0, I 0, I 0], [I 0, I 0, .b false], [I 5, I 1, I 0], [.s (T 3 0x693e69)], [I 5], [I 0, I 1], ck61, ck62, [I 5], [I 2, I 1], ck61, ck63, [I 5], [I 3, I 1], ck61, ck64, [I 4], [.s (T 3 0x693e69)], ck65, ck66, ck67, ck68, ck69, ck70, ck110, [I 0], [I 2], [I 3], [I 4]]
noncomputable def ct011r2 : Rec := ⟨12, [.s ct011s], q 1002, [], N [4081, 5304, 5636, 5448, 4074, 5324, 5543, 4079, 4127, 4270, 4273, 4353, 4415, 4592, 4595, 4689, 4767, 4979, 4982, 5092, 5219, 5222, 5302, 5826, 5967, 6338, 6720, 6822, 7377, 4351, 4687, 5090, 5300], .u [.g [.sl (q 1002) 0 1 1, .sl (q 1003) 0 6 4, .sl (q 1004) 0 6 6, .sl (q 1005) 0 1 4, .s (T 3 0x727269), .sl (q 1006) 0 1 3, .s0, .s0, .sl (q 1007) 0 3 1, .sl (q 1008) 0 3 1, I 1, I 2], .s0], ct011o2⟩
set_option maxRecDepth 1000000 in
theorem ct011t2 : memoT ct011v1 ct011r2 = true := by kernel_rfl
noncomputable def ct011v2 : Ov := memoOv ct011r2 ct011v1
theorem ct011g2 {ν : Nat → Int} : OvGood ν ct011v2 := memo_good ct011g1 ct011g1 ct011t2
noncomputable def ct011r3 : Rec := ⟨15, [.g [.sl (q 1002) 0 1 1, .sl (q 1003) 0 6 4, .sl (q 1004) 0 6 6, .sl (q 1005) 0 1 4, .s (T 3 0x727269), .sl (q 1006) 0 1 3, .s0, .s0, .sl (q 1007) 0 3 1, .sl (q 1008) 0 3 1, I 1, I 2]], q 1041, nmL 1002 ct011o2, N [], .n0, []⟩
set_option maxRecDepth 1000000 in
theorem ct011t3 : memoT ct011v2 ct011r3 = true := by kernel_rfl
noncomputable def ct011v3 : Ov := memoOv ct011r3 ct011v2
theorem ct011g3 {ν : Nat → Int} : OvGood ν ct011v3 := memo_good ct011g2 ct011g2 ct011t3
noncomputable def ct011o4 : List (List V) := [ck111]
noncomputable def ct011r4 : Rec := ⟨90, [.g [.sl (q 1002) 0 1 1, .sl (q 1003) 0 6 4, .sl (q 1004) 0 6 6, .sl (q 1005) 0 1 4, .s (T 3 0x727269), .sl (q 1006) 0 1 3, .s0, .s0, .sl (q 1007) 0 3 1, .sl (q 1008) 0 3 1, I 1, I 2]], q 1041, nmL 1002 ct011o2, N [2001], .u [.sl (q 1041) 0 1 1224, .n0], ct011o4⟩
set_option maxRecDepth 1000000 in
theorem ct011t4 : memoT ct011v3 ct011r4 = true := by kernel_rfl
noncomputable def ct011v4 : Ov := memoOv ct011r4 ct011v3
theorem ct011g4 {ν : Nat → Int} : OvGood ν ct011v4 := memo_good ct011g3 ct011g3 ct011t4
noncomputable def ct011o5 : List (List V) := [ck111]
noncomputable def ct011r5 : Rec := ⟨90, [.g [.sl (q 1048) 0 1 1, .sl (q 1122) 0 6 4, .sl (q 1386) 0 6 6, .sl (q 1394) 0 1 4, .s (T 3 0x727269), .sl (q 1400) 0 1 3, .s0, .s0, .sl (q 1404) 0 3 1, .sl (q 1408) 0 3 1, I 1, I 2]], q 1410, rnL 1002 (N [1048, 1122, 1386, 1394, 1400, 1404, 1408, 1046, 1051, 1055, 1059, 1065, 1071, 1075, 1079, 1085, 1091, 1095, 1099, 1105, 1111, 1113, 1119, 1151, 1179, 1231, 1267, 1295, 1383, 1062, 1082, 1102, 1116]) ct011o2, N [2370], .u [.sl (q 1410) 0 1 1224, .n0], ct011o5⟩
set_option maxRecDepth 1000000 in
theorem ct011t5 : memoT ct011v4 ct011r5 = true := by kernel_rfl
noncomputable def ct011v5 : Ov := memoOv ct011r5 ct011v4
theorem ct011g5 {ν : Nat → Int} : OvGood ν ct011v5 := memo_good ct011g4 ct011g4 ct011t5
noncomputable def ct011r6 : Rec := ⟨91, [.sl (q 1041) 0 1 1224], q 1042, [(q 1041, ck111)], cn2, .u [.g [.sl (q 1042) 0 1 1, .sl (q 1043) 0 6 4, .sl (q 1044) 0 6 6, .sl (q 1045) 0 1 4, .s (T 3 0x727269), .sl (q 1046) 0 1 3, .s0, .s0, .sl (q 1047) 0 3 1, .sl (q 1048) 0 3 1, I 1, I 2], .n0], shO 1002 1042 33 ct011o2⟩
set_option maxRecDepth 1000000 in
theorem ct011t6 : memoT ct011v5 ct011r6 = true := by kernel_rfl
noncomputable def ct011v6 : Ov := memoOv ct011r6 ct011v5
theorem ct011g6 {ν : Nat → Int} : OvGood ν ct011v6 := memo_good ct011g5 ct011g5 ct011t6
noncomputable def ct011o7 : List (List V) := [ck73, ck74, [I 5, I 1, I 0], [I 0, I 0, .b false], ck75, [I 0], [.sl (q 1054) 0 1 1], ck76, ck77, [I 0, I 1, I 2, I 3], [I 0, I 0, I 0], [I 0, I 0, .b false], [I 5, I 1, I 0], [I 0, I 0, I 0], ck78, [.s (T 3 0x693e69)], [I 5], [I 0, I 1], ck61, ck79, [I 5], [I 2, I 1], ck61, ck80, [I 5], [I 3, I 1], ck61, ck81, [I 4], [.s (T 3 0x693e69)], ck82, ck66, ck67, ck68, ck69, ck70, ck110, [I 5], [I 5], [I 5], [I 0], [I 2], [I 3], [I 4]]
noncomputable def ct011r7 : Rec := ⟨21, [.g [.sl (q 1002) 0 1 1, .sl (q 1003) 0 6 4, .sl (q 1004) 0 6 6, .sl (q 1005) 0 1 4, .s (T 3 0x727269), .sl (q 1006) 0 1 3, .s0, .s0, .sl (q 1007) 0 3 1, .sl (q 1008) 0 3 1, I 1, I 2]], q 1039, nmL 1002 ct011o2, cn3, .u [.p (q 1039) 0, .n0], ct011o7⟩
set_option maxRecDepth 1000000 in
theorem ct011t7 : memoT ct011v6 ct011r7 = true := by kernel_rfl
noncomputable def ct011v7 : Ov := memoOv ct011r7 ct011v6
theorem ct011g7 {ν : Nat → Int} : OvGood ν ct011v7 := memo_good ct011g6 ct011g6 ct011t7
set_option maxRecDepth 1000000 in
theorem ct011_ev : okv (mEv ct011v7 [] [(lowZ 0 4, 0), (lowZ 1 5, 1)] 3 [.i .i64 (.var 0), .i .i64 (.var 1), .b true] start) = some (.b true) := by kernel_rfl
theorem ct011 (x y : Int) (w : World) (hA : Tp.Asc w) (h0 : zval (fun n => match n with | 0 => x | _ => y) (lowZ 0 4) = 0) (h1 : zval (fun n => match n with | 0 => x | _ => y) (lowZ 1 5) = 1) : Calls Tryz.prog 3 #[.int .i64 x, .int .i64 y, .bool true] w (fun e w' => e = .returned (.bool true) ∧ Below w.heap.size w w') :=
  tm_true (ν := (fun n => match n with | 0 => x | _ => y)) w hA ct011g7 path_nil (norm_cons h0 (norm_cons h1 norm_nil)) ct011_ev (args := [.int .i64 x, .int .i64 y, .bool true]) (by simp [VRs, VR, zval])
end Go.Proofs.YtoinghomkcjkcaaGreatDoor
