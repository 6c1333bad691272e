/- TopCasts 100: its calls, and that it answers true. -/
import Derived.Test.YtoinghomkcjkcaaGreatDoorTcD
namespace Go.Proofs.YtoinghomkcjkcaaGreatDoor
set_option linter.unusedSimpArgs false
set_option linter.unusedVariables false
set_option linter.constructorNameAsVariable false
open Go Go.RowKit
open Ev
noncomputable def ct100s : List Z := Ev.app cfam (T 140 0x3b2050203a2029203020595449524f495250202c2031204c41565245544e4920282054204b534154204d4152474f52505f444e45203b2046495f444e45203b2031203d3a20792045534c45203b2032203d3a2079204e454854204c4c554e203d2072204649203b2029206620282041205341203d3a2072203b20292062202820464552203d3a2066203b2041)
noncomputable def ct100o0 : List (List V) := [ck0, ck1, ck2, [.s (T 1 0x46)], ck3, ck4, ck5, ck6, [.s (T 1 0x46)], ck7, ck8, ck9, ck10, ck10, ck11, ck12, ck10, ck13, ck10, ck14, ck10, ck15, ck133, ck17, ck18, ck19, ck20, ck21, ck22, ck23, ck24, ck25, ck26, ck27, ck28, ck29, ck30, ck31, ck32, ck33, ck34, ck35, ck36, ck31, ck35]
noncomputable def ct100r0 : Rec := ⟨23, [.s ct100s], q 1004, [], cn0, .u [.g [.sl (q 1004) 0 11 7], .sl (q 1005) 0 1 7, .n0], ct100o0⟩
set_option maxRecDepth 1000000 in
theorem ct100t0 : memoT sOv ct100r0 = true := by kernel_rfl
noncomputable def ct100v0 : Ov := memoOv ct100r0 sOv
theorem ct100g0 {ν : Nat → Int} : OvGood ν ct100v0 := memo_good sOv_good sOv_good ct100t0
noncomputable def ct100o1 : List (List V) := [ck37, ck38, [.s (T 1 0x46)], ck3, ck39, ck40, ck41, [.s (T 1 0x46)], ck42, ck8, ck43, ck10, ck10, ck44, ck45, ck10, ck46, ck10, ck47, ck10, ck48, ck133, ck49, ck50, ck51, ck52, ck53, ck20, ck54, ck22, ck55, ck26, ck27, ck56, ck57, ck30, ck31, ck32, ck33, ck58, ck35, ck36, ck31, ck35]
noncomputable def ct100r1 : Rec := ⟨14, [.s ct100s], q 1003, [], cn1, .u [.g [.sl (q 1003) 0 11 7], .s0], ct100o1⟩
set_option maxRecDepth 1000000 in
theorem ct100t1 : memoT ct100v0 ct100r1 = true := by kernel_rfl
noncomputable def ct100v1 : Ov := memoOv ct100r1 ct100v0
theorem ct100g1 {ν : Nat → Int} : OvGood ν ct100v1 := memo_good ct100g0 ct100g0 ct100t1
noncomputable def ct100o2 : List (List V) := [[.sl (q 1009) 0 1 1], ck59, ck60, [I 0, I 1, I 2, I 3], [I 0, I 0, I 0], [I 0, I 0, .b false], [I 5, I 1, I 0], [.s (T 3 0x693e69)], [I 5], [I 0, I 1], ck61, ck62, [I 5], [I 2, I 1], ck61, ck63, [I 5], [I 3, I 1], ck61, ck64, [I 4], [.s (T 3 0x693e69)], ck65, ck66, ck67, ck68, ck69, ck70, ck134, [I 0], [I 2], [I 3], [I 4]]
noncomputable def ct100r2 : Rec := ⟨12, [.s ct100s], q 1002, [], N [4112, 5335, 5667, 5479, 4105, 5355, 5574, 4110, 4158, 4301, 4304, 4384, 4446, 4623, 4626, 4720, 4798, 5010, 5013, 5123, 5250, 5253, 5333, 5857, 5998, 6369, 6751, 6853, 7411, 4382, 4718, 5121, 5331], .u [.g [.sl (q 1002) 0 1 1, .sl (q 1003) 0 6 4, .sl (q 1004) 0 6 6, .sl (q 1005) 0 1 4, .s (T 3 0x727269), .sl (q 1006) 0 1 3, .s0, .s0, .sl (q 1007) 0 3 1, .sl (q 1008) 0 3 1, I 1, I 2], .s0], ct100o2⟩
set_option maxRecDepth 1000000 in
theorem ct100t2 : memoT ct100v1 ct100r2 = true := by kernel_rfl
noncomputable def ct100v2 : Ov := memoOv ct100r2 ct100v1
theorem ct100g2 {ν : Nat → Int} : OvGood ν ct100v2 := memo_good ct100g1 ct100g1 ct100t2
noncomputable def ct100r3 : Rec := ⟨15, [.g [.sl (q 1002) 0 1 1, .sl (q 1003) 0 6 4, .sl (q 1004) 0 6 6, .sl (q 1005) 0 1 4, .s (T 3 0x727269), .sl (q 1006) 0 1 3, .s0, .s0, .sl (q 1007) 0 3 1, .sl (q 1008) 0 3 1, I 1, I 2]], q 1041, nmL 1002 ct100o2, N [], .n0, []⟩
set_option maxRecDepth 1000000 in
theorem ct100t3 : memoT ct100v2 ct100r3 = true := by kernel_rfl
noncomputable def ct100v3 : Ov := memoOv ct100r3 ct100v2
theorem ct100g3 {ν : Nat → Int} : OvGood ν ct100v3 := memo_good ct100g2 ct100g2 ct100t3
noncomputable def ct100o4 : List (List V) := [ck135]
noncomputable def ct100r4 : Rec := ⟨90, [.g [.sl (q 1002) 0 1 1, .sl (q 1003) 0 6 4, .sl (q 1004) 0 6 6, .sl (q 1005) 0 1 4, .s (T 3 0x727269), .sl (q 1006) 0 1 3, .s0, .s0, .sl (q 1007) 0 3 1, .sl (q 1008) 0 3 1, I 1, I 2]], q 1041, nmL 1002 ct100o2, N [2001], .u [.sl (q 1041) 0 1 1224, .n0], ct100o4⟩
set_option maxRecDepth 1000000 in
theorem ct100t4 : memoT ct100v3 ct100r4 = true := by kernel_rfl
noncomputable def ct100v4 : Ov := memoOv ct100r4 ct100v3
theorem ct100g4 {ν : Nat → Int} : OvGood ν ct100v4 := memo_good ct100g3 ct100g3 ct100t4
noncomputable def ct100o5 : List (List V) := [ck135]
noncomputable def ct100r5 : Rec := ⟨90, [.g [.sl (q 1048) 0 1 1, .sl (q 1122) 0 6 4, .sl (q 1386) 0 6 6, .sl (q 1394) 0 1 4, .s (T 3 0x727269), .sl (q 1400) 0 1 3, .s0, .s0, .sl (q 1404) 0 3 1, .sl (q 1408) 0 3 1, I 1, I 2]], q 1410, rnL 1002 (N [1048, 1122, 1386, 1394, 1400, 1404, 1408, 1046, 1051, 1055, 1059, 1065, 1071, 1075, 1079, 1085, 1091, 1095, 1099, 1105, 1111, 1113, 1119, 1151, 1179, 1231, 1267, 1295, 1383, 1062, 1082, 1102, 1116]) ct100o2, N [2370], .u [.sl (q 1410) 0 1 1224, .n0], ct100o5⟩
set_option maxRecDepth 1000000 in
theorem ct100t5 : memoT ct100v4 ct100r5 = true := by kernel_rfl
noncomputable def ct100v5 : Ov := memoOv ct100r5 ct100v4
theorem ct100g5 {ν : Nat → Int} : OvGood ν ct100v5 := memo_good ct100g4 ct100g4 ct100t5
noncomputable def ct100r6 : Rec := ⟨91, [.sl (q 1041) 0 1 1224], q 1042, [(q 1041, ck135)], cn2, .u [.g [.sl (q 1042) 0 1 1, .sl (q 1043) 0 6 4, .sl (q 1044) 0 6 6, .sl (q 1045) 0 1 4, .s (T 3 0x727269), .sl (q 1046) 0 1 3, .s0, .s0, .sl (q 1047) 0 3 1, .sl (q 1048) 0 3 1, I 1, I 2], .n0], shO 1002 1042 33 ct100o2⟩
set_option maxRecDepth 1000000 in
theorem ct100t6 : memoT ct100v5 ct100r6 = true := by kernel_rfl
noncomputable def ct100v6 : Ov := memoOv ct100r6 ct100v5
theorem ct100g6 {ν : Nat → Int} : OvGood ν ct100v6 := memo_good ct100g5 ct100g5 ct100t6
noncomputable def ct100o7 : List (List V) := [ck73, ck74, [I 5, I 1, I 0], [I 0, I 0, .b false], ck75, [I 0], [.sl (q 1054) 0 1 1], ck76, ck77, [I 0, I 1, I 2, I 3], [I 0, I 0, I 0], [I 0, I 0, .b false], [I 5, I 1, I 0], [I 0, I 0, I 0], ck78, [.s (T 3 0x693e69)], [I 5], [I 0, I 1], ck61, ck79, [I 5], [I 2, I 1], ck61, ck80, [I 5], [I 3, I 1], ck61, ck81, [I 4], [.s (T 3 0x693e69)], ck82, ck66, ck67, ck68, ck69, ck70, ck134, [I 5], [I 5], [I 5], [I 0], [I 2], [I 3], [I 4]]
noncomputable def ct100r7 : Rec := ⟨21, [.g [.sl (q 1002) 0 1 1, .sl (q 1003) 0 6 4, .sl (q 1004) 0 6 6, .sl (q 1005) 0 1 4, .s (T 3 0x727269), .sl (q 1006) 0 1 3, .s0, .s0, .sl (q 1007) 0 3 1, .sl (q 1008) 0 3 1, I 1, I 2]], q 1039, nmL 1002 ct100o2, cn3, .u [.p (q 1039) 0, .n0], ct100o7⟩
set_option maxRecDepth 1000000 in
theorem ct100t7 : memoT ct100v6 ct100r7 = true := by kernel_rfl
noncomputable def ct100v7 : Ov := memoOv ct100r7 ct100v6
theorem ct100g7 {ν : Nat → Int} : OvGood ν ct100v7 := memo_good ct100g6 ct100g6 ct100t7
set_option maxRecDepth 1000000 in
theorem ct100_ev : okv (mEv ct100v7 [] [(lowZ 0 4, 1), (lowZ 1 5, 0)] 3 [.i .i64 (.var 0), .i .i64 (.var 1), .b false] start) = some (.b true) := by kernel_rfl
theorem ct100 (x y : Int) (w : World) (hA : Tp.Asc w) (h0 : zval (fun n => match n with | 0 => x | _ => y) (lowZ 0 4) = 1) (h1 : zval (fun n => match n with | 0 => x | _ => y) (lowZ 1 5) = 0) : Calls Tryz.prog 3 #[.int .i64 x, .int .i64 y, .bool false] w (fun e w' => e = .returned (.bool true) ∧ Below w.heap.size w w') :=
  tm_true (ν := (fun n => match n with | 0 => x | _ => y)) w hA ct100g7 path_nil (norm_cons h0 (norm_cons h1 norm_nil)) ct100_ev (args := [.int .i64 x, .int .i64 y, .bool false]) (by simp [VRs, VR, zval])
end Go.Proofs.YtoinghomkcjkcaaGreatDoor
/- TopCasts 101: its calls, and that it answers true. -/
namespace Go.Proofs.YtoinghomkcjkcaaGreatDoor
set_option linter.unusedSimpArgs false
set_option linter.unusedVariables false
set_option linter.constructorNameAsVariable false
open Go Go.RowKit
open Ev
noncomputable def ct101s : List Z := Ev.app cfam (T 131 0x3b2050203a2029203020595449524f495250202c2031204c41565245544e4920282054204b534154204d4152474f52505f444e45203b2046495f444e45203b2031203d3a20792045534c45203b2032203d3a2079204e454854204c4c554e203d2072204649203b2066203d3f2072203b20292062202820464552203d3a2066203b2041)
noncomputable def ct101o0 : List (List V) := [ck0, ck83, ck2, [.s (T 1 0x46)], ck3, ck4, ck5, ck6, [.s (T 1 0x46)], ck7, ck8, ck84, ck10, ck10, ck11, ck12, ck10, ck13, ck10, ck14, ck10, ck15, ck133, ck26, ck85, ck86, ck87, ck88, ck89, ck90, ck91, ck92, ck27, ck57, ck28, ck30, ck31, ck32, ck33, ck93, ck35, ck36, ck31, ck35]
noncomputable def ct101r0 : Rec := ⟨23, [.s ct101s], q 1004, [], cn4, .u [.g [.sl (q 1004) 0 11 7], .sl (q 1005) 0 1 7, .n0], ct101o0⟩
set_option maxRecDepth 1000000 in
theorem ct101t0 : memoT sOv ct101r0 = true := by kernel_rfl
noncomputable def ct101v0 : Ov := memoOv ct101r0 sOv
theorem ct101g0 {ν : Nat → Int} : OvGood ν ct101v0 := memo_good sOv_good sOv_good ct101t0
noncomputable def ct101o1 : List (List V) := [ck37, ck38, [.s (T 1 0x46)], ck3, ck39, ck40, ck41, [.s (T 1 0x46)], ck42, ck8, ck94, ck10, ck10, ck44, ck45, ck10, ck46, ck10, ck47, ck10, ck48, ck133, ck26, ck95, ck96, ck97, ck98, ck87, ck99, ck89, ck100, ck27, ck101, ck56, ck30, ck31, ck32, ck33, ck102, ck35, ck36, ck31, ck35]
noncomputable def ct101r1 : Rec := ⟨14, [.s ct101s], q 1003, [], cn5, .u [.g [.sl (q 1003) 0 11 7], .s0], ct101o1⟩
set_option maxRecDepth 1000000 in
theorem ct101t1 : memoT ct101v0 ct101r1 = true := by kernel_rfl
noncomputable def ct101v1 : Ov := memoOv ct101r1 ct101v0
theorem ct101g1 {ν : Nat → Int} : OvGood ν ct101v1 := memo_good ct101g0 ct101g0 ct101t1
noncomputable def ct101o2 : List (List V) := [[.sl (q 1009) 0 1 1], ck59, ck60, [I 0, I 1, I 2, I 3], [I 0, I 0, I 0], [I 0, I 0, .b false], [I 5, I 1, I 0], [.s (T 3 0x693e69)], [I 5], [I 0, I 1], ck61, ck62, [I 5], [I 2, I 1], ck61, ck63, [I 5], [I 3, I 1], ck61, ck64, [I 4], [.s (T 3 0x693e69)], ck65, ck66, ck67, ck68, ck69, ck70, ck136, [I 0], [I 2], [I 3], [I 4]]
noncomputable def ct101r2 : Rec := ⟨12, [.s ct101s], q 1002, [], N [4096, 5319, 5651, 5463, 4089, 5339, 5558, 4094, 4142, 4285, 4288, 4368, 4430, 4607, 4610, 4704, 4782, 4994, 4997, 5107, 5234, 5237, 5317, 5841, 5982, 6353, 6735, 6837, 7392, 4366, 4702, 5105, 5315], .u [.g [.sl (q 1002) 0 1 1, .sl (q 1003) 0 6 4, .sl (q 1004) 0 6 6, .sl (q 1005) 0 1 4, .s (T 3 0x727269), .sl (q 1006) 0 1 3, .s0, .s0, .sl (q 1007) 0 3 1, .sl (q 1008) 0 3 1, I 1, I 2], .s0], ct101o2⟩
set_option maxRecDepth 1000000 in
theorem ct101t2 : memoT ct101v1 ct101r2 = true := by kernel_rfl
noncomputable def ct101v2 : Ov := memoOv ct101r2 ct101v1
theorem ct101g2 {ν : Nat → Int} : OvGood ν ct101v2 := memo_good ct101g1 ct101g1 ct101t2
noncomputable def ct101r3 : Rec := ⟨15, [.g [.sl (q 1002) 0 1 1, .sl (q 1003) 0 6 4, .sl (q 1004) 0 6 6, .sl (q 1005) 0 1 4, .s (T 3 0x727269), .sl (q 1006) 0 1 3, .s0, .s0, .sl (q 1007) 0 3 1, .sl (q 1008) 0 3 1, I 1, I 2]], q 1041, nmL 1002 ct101o2, N [], .n0, []⟩
set_option maxRecDepth 1000000 in
theorem ct101t3 : memoT ct101v2 ct101r3 = true := by kernel_rfl
noncomputable def ct101v3 : Ov := memoOv ct101r3 ct101v2
theorem ct101g3 {ν : Nat → Int} : OvGood ν ct101v3 := memo_good ct101g2 ct101g2 ct101t3
noncomputable def ct101o4 : List (List V) := [ck137]
noncomputable def ct101r4 : Rec := ⟨90, [.g [.sl (q 1002) 0 1 1, .sl (q 1003) 0 6 4, .sl (q 1004) 0 6 6, .sl (q 1005) 0 1 4, .s (T 3 0x727269), .sl (q 1006) 0 1 3, .s0, .s0, .sl (q 1007) 0 3 1, .sl (q 1008) 0 3 1, I 1, I 2]], q 1041, nmL 1002 ct101o2, N [2001], .u [.sl (q 1041) 0 1 1224, .n0], ct101o4⟩
set_option maxRecDepth 1000000 in
theorem ct101t4 : memoT ct101v3 ct101r4 = true := by kernel_rfl
noncomputable def ct101v4 : Ov := memoOv ct101r4 ct101v3
theorem ct101g4 {ν : Nat → Int} : OvGood ν ct101v4 := memo_good ct101g3 ct101g3 ct101t4
noncomputable def ct101o5 : List (List V) := [ck137]
noncomputable def ct101r5 : Rec := ⟨90, [.g [.sl (q 1048) 0 1 1, .sl (q 1122) 0 6 4, .sl (q 1386) 0 6 6, .sl (q 1394) 0 1 4, .s (T 3 0x727269), .sl (q 1400) 0 1 3, .s0, .s0, .sl (q 1404) 0 3 1, .sl (q 1408) 0 3 1, I 1, I 2]], q 1410, rnL 1002 (N [1048, 1122, 1386, 1394, 1400, 1404, 1408, 1046, 1051, 1055, 1059, 1065, 1071, 1075, 1079, 1085, 1091, 1095, 1099, 1105, 1111, 1113, 1119, 1151, 1179, 1231, 1267, 1295, 1383, 1062, 1082, 1102, 1116]) ct101o2, N [2370], .u [.sl (q 1410) 0 1 1224, .n0], ct101o5⟩
set_option maxRecDepth 1000000 in
theorem ct101t5 : memoT ct101v4 ct101r5 = true := by kernel_rfl
noncomputable def ct101v5 : Ov := memoOv ct101r5 ct101v4
theorem ct101g5 {ν : Nat → Int} : OvGood ν ct101v5 := memo_good ct101g4 ct101g4 ct101t5
noncomputable def ct101r6 : Rec := ⟨91, [.sl (q 1041) 0 1 1224], q 1042, [(q 1041, ck137)], cn2, .u [.g [.sl (q 1042) 0 1 1, .sl (q 1043) 0 6 4, .sl (q 1044) 0 6 6, .sl (q 1045) 0 1 4, .s (T 3 0x727269), .sl (q 1046) 0 1 3, .s0, .s0, .sl (q 1047) 0 3 1, .sl (q 1048) 0 3 1, I 1, I 2], .n0], shO 1002 1042 33 ct101o2⟩
set_option maxRecDepth 1000000 in
theorem ct101t6 : memoT ct101v5 ct101r6 = true := by kernel_rfl
noncomputable def ct101v6 : Ov := memoOv ct101r6 ct101v5
theorem ct101g6 {ν : Nat → Int} : OvGood ν ct101v6 := memo_good ct101g5 ct101g5 ct101t6
noncomputable def ct101o7 : List (List V) := [ck73, ck74, [I 5, I 1, I 0], [I 0, I 0, .b false], ck75, [I 0], [.sl (q 1054) 0 1 1], ck76, ck77, [I 0, I 1, I 2, I 3], [I 0, I 0, I 0], [I 0, I 0, .b false], [I 5, I 1, I 0], [I 0, I 0, I 0], ck78, [.s (T 3 0x693e69)], [I 5], [I 0, I 1], ck61, ck79, [I 5], [I 2, I 1], ck61, ck80, [I 5], [I 3, I 1], ck61, ck81, [I 4], [.s (T 3 0x693e69)], ck82, ck66, ck67, ck68, ck69, ck70, ck136, [I 5], [I 5], [I 5], [I 0], [I 2], [I 3], [I 4]]
noncomputable def ct101r7 : Rec := ⟨21, [.g [.sl (q 1002) 0 1 1, .sl (q 1003) 0 6 4, .sl (q 1004) 0 6 6, .sl (q 1005) 0 1 4, .s (T 3 0x727269), .sl (q 1006) 0 1 3, .s0, .s0, .sl (q 1007) 0 3 1, .sl (q 1008) 0 3 1, I 1, I 2]], q 1039, nmL 1002 ct101o2, cn3, .u [.p (q 1039) 0, .n0], ct101o7⟩
set_option maxRecDepth 1000000 in
theorem ct101t7 : memoT ct101v6 ct101r7 = true := by kernel_rfl
noncomputable def ct101v7 : Ov := memoOv ct101r7 ct101v6
theorem ct101g7 {ν : Nat → Int} : OvGood ν ct101v7 := memo_good ct101g6 ct101g6 ct101t7
set_option maxRecDepth 1000000 in
theorem ct101_ev : okv (mEv ct101v7 [] [(lowZ 0 4, 1), (lowZ 1 5, 0)] 3 [.i .i64 (.var 0), .i .i64 (.var 1), .b true] start) = some (.b true) := by kernel_rfl
theorem ct101 (x y : Int) (w : World) (hA : Tp.Asc w) (h0 : zval (fun n => match n with | 0 => x | _ => y) (lowZ 0 4) = 1) (h1 : zval (fun n => match n with | 0 => x | _ => y) (lowZ 1 5) = 0) : Calls Tryz.prog 3 #[.int .i64 x, .int .i64 y, .bool true] w (fun e w' => e = .returned (.bool true) ∧ Below w.heap.size w w') :=
  tm_true (ν := (fun n => match n with | 0 => x | _ => y)) w hA ct101g7 path_nil (norm_cons h0 (norm_cons h1 norm_nil)) ct101_ev (args := [.int .i64 x, .int .i64 y, .bool true]) (by simp [VRs, VR, zval])
end Go.Proofs.YtoinghomkcjkcaaGreatDoor
