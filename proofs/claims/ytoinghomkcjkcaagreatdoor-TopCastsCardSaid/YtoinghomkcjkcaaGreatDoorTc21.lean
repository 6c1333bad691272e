/- TopCasts 210: its calls, and that it answers true. -/
import Derived.Test.YtoinghomkcjkcaaGreatDoorTcD
namespace Go.Proofs.YtoinghomkcjkcaaGreatDoor
set_option linter.unusedSimpArgs false
set_option linter.unusedVariables false
set_option linter.constructorNameAsVariable false
open Go Go.RowKit
open Ev
noncomputable def ct210s : List Z := Ev.app cfam (T 140 0x3b2050203a2029203020595449524f495250202c2031204c41565245544e4920282054204b534154204d4152474f52505f444e45203b2046495f444e45203b2031203d3a20792045534c45203b2032203d3a2079204e454854204c4c554e203d2072204649203b2029206620282042205341203d3a2072203b20292063202820464552203d3a2066203b2042)
noncomputable def ct210o0 : List (List V) := [ck0, ck1, ck2, [.s (T 1 0x46)], ck3, ck4, ck5, ck6, [.s (T 1 0x46)], ck7, ck105, ck9, ck10, ck10, ck11, ck12, ck10, ck13, ck10, ck14, ck10, ck15, ck154, ck106, ck18, ck19, ck20, ck21, ck22, ck23, ck24, ck25, ck26, ck27, ck28, ck29, ck30, ck31, ck32, ck33, ck34, ck35, ck36, ck31, ck35]
noncomputable def ct210r0 : Rec := ⟨23, [.s ct210s], q 1004, [], cn0, .u [.g [.sl (q 1004) 0 11 7], .sl (q 1005) 0 1 7, .n0], ct210o0⟩
set_option maxRecDepth 1000000 in
theorem ct210t0 : memoT sOv ct210r0 = true := by kernel_rfl
noncomputable def ct210v0 : Ov := memoOv ct210r0 sOv
theorem ct210g0 {ν : Nat → Int} : OvGood ν ct210v0 := memo_good sOv_good sOv_good ct210t0
noncomputable def ct210o1 : List (List V) := [ck37, ck38, [.s (T 1 0x46)], ck3, ck39, ck40, ck41, [.s (T 1 0x46)], ck42, ck105, ck43, ck10, ck10, ck44, ck45, ck10, ck46, ck10, ck47, ck10, ck48, ck154, ck107, ck50, ck51, ck52, ck53, ck20, ck54, ck22, ck55, ck26, ck27, ck56, ck57, ck30, ck31, ck32, ck33, ck58, ck35, ck36, ck31, ck35]
noncomputable def ct210r1 : Rec := ⟨14, [.s ct210s], q 1003, [], cn1, .u [.g [.sl (q 1003) 0 11 7], .s0], ct210o1⟩
set_option maxRecDepth 1000000 in
theorem ct210t1 : memoT ct210v0 ct210r1 = true := by kernel_rfl
noncomputable def ct210v1 : Ov := memoOv ct210r1 ct210v0
theorem ct210g1 {ν : Nat → Int} : OvGood ν ct210v1 := memo_good ct210g0 ct210g0 ct210t1
noncomputable def ct210o2 : List (List V) := [[.sl (q 1009) 0 1 1], ck59, ck60, [I 0, I 1, I 2, I 3], [I 0, I 0, I 0], [I 0, I 0, .b false], [I 5, I 1, I 0], [.s (T 3 0x693e69)], [I 5], [I 0, I 1], ck61, ck62, [I 5], [I 2, I 1], ck61, ck63, [I 5], [I 3, I 1], ck61, ck64, [I 4], [.s (T 3 0x693e69)], ck65, ck66, ck67, ck68, ck69, ck70, ck159, [I 0], [I 2], [I 3], [I 4]]
noncomputable def ct210r2 : Rec := ⟨12, [.s ct210s], q 1002, [], N [4132, 5355, 5687, 5499, 4125, 5375, 5594, 4130, 4178, 4321, 4324, 4404, 4466, 4643, 4646, 4740, 4818, 5030, 5033, 5143, 5270, 5273, 5353, 5877, 6018, 6389, 6771, 6873, 7435, 4402, 4738, 5141, 5351], .u [.g [.sl (q 1002) 0 1 1, .sl (q 1003) 0 6 4, .sl (q 1004) 0 6 6, .sl (q 1005) 0 1 4, .s (T 3 0x727269), .sl (q 1006) 0 1 3, .s0, .s0, .sl (q 1007) 0 3 1, .sl (q 1008) 0 3 1, I 1, I 2], .s0], ct210o2⟩
set_option maxRecDepth 1000000 in
theorem ct210t2 : memoT ct210v1 ct210r2 = true := by kernel_rfl
noncomputable def ct210v2 : Ov := memoOv ct210r2 ct210v1
theorem ct210g2 {ν : Nat → Int} : OvGood ν ct210v2 := memo_good ct210g1 ct210g1 ct210t2
noncomputable def ct210r3 : Rec := ⟨15, [.g [.sl (q 1002) 0 1 1, .sl (q 1003) 0 6 4, .sl (q 1004) 0 6 6, .sl (q 1005) 0 1 4, .s (T 3 0x727269), .sl (q 1006) 0 1 3, .s0, .s0, .sl (q 1007) 0 3 1, .sl (q 1008) 0 3 1, I 1, I 2]], q 1041, nmL 1002 ct210o2, N [], .n0, []⟩
set_option maxRecDepth 1000000 in
theorem ct210t3 : memoT ct210v2 ct210r3 = true := by kernel_rfl
noncomputable def ct210v3 : Ov := memoOv ct210r3 ct210v2
theorem ct210g3 {ν : Nat → Int} : OvGood ν ct210v3 := memo_good ct210g2 ct210g2 ct210t3
noncomputable def ct210o4 : List (List V) := [ck160]
noncomputable def ct210r4 : Rec := ⟨90, [.g [.sl (q 1002) 0 1 1, .sl (q 1003) 0 6 4, .sl (q 1004) 0 6 6, .sl (q 1005) 0 1 4, .s (T 3 0x727269), .sl (q 1006) 0 1 3, .s0, .s0, .sl (q 1007) 0 3 1, .sl (q 1008) 0 3 1, I 1, I 2]], q 1041, nmL 1002 ct210o2, N [2001], .u [.sl (q 1041) 0 1 1224, .n0], ct210o4⟩
set_option maxRecDepth 1000000 in
theorem ct210t4 : memoT ct210v3 ct210r4 = true := by kernel_rfl
noncomputable def ct210v4 : Ov := memoOv ct210r4 ct210v3
theorem ct210g4 {ν : Nat → Int} : OvGood ν ct210v4 := memo_good ct210g3 ct210g3 ct210t4
noncomputable def ct210o5 : List (List V) := [ck160]
noncomputable def ct210r5 : Rec := ⟨90, [.g [.sl (q 1048) 0 1 1, .sl (q 1122) 0 6 4, .sl (q 1386) 0 6 6, .sl (q 1394) 0 1 4, .s (T 3 0x727269), .sl (q 1400) 0 1 3, .s0, .s0, .sl (q 1404) 0 3 1, .sl (q 1408) 0 3 1, I 1, I 2]], q 1410, rnL 1002 (N [1048, 1122, 1386, 1394, 1400, 1404, 1408, 1046, 1051, 1055, 1059, 1065, 1071, 1075, 1079, 1085, 1091, 1095, 1099, 1105, 1111, 1113, 1119, 1151, 1179, 1231, 1267, 1295, 1383, 1062, 1082, 1102, 1116]) ct210o2, N [2370], .u [.sl (q 1410) 0 1 1224, .n0], ct210o5⟩
set_option maxRecDepth 1000000 in
theorem ct210t5 : memoT ct210v4 ct210r5 = true := by kernel_rfl
noncomputable def ct210v5 : Ov := memoOv ct210r5 ct210v4
theorem ct210g5 {ν : Nat → Int} : OvGood ν ct210v5 := memo_good ct210g4 ct210g4 ct210t5
noncomputable def ct210r6 : Rec := ⟨91, [.sl (q 1041) 0 1 1224], q 1042, [(q 1041, ck160)], cn2, .u [.g [.sl (q 1042) 0 1 1, .sl (q 1043) 0 6 4, .sl (q 1044) 0 6 6, .sl (q 1045) 0 1 4, .s (T 3 0x727269), .sl (q 1046) 0 1 3, .s0, .s0, .sl (q 1047) 0 3 1, .sl (q 1048) 0 3 1, I 1, I 2], .n0], shO 1002 1042 33 ct210o2⟩
set_option maxRecDepth 1000000 in
theorem ct210t6 : memoT ct210v5 ct210r6 = true := by kernel_rfl
noncomputable def ct210v6 : Ov := memoOv ct210r6 ct210v5
theorem ct210g6 {ν : Nat → Int} : OvGood ν ct210v6 := memo_good ct210g5 ct210g5 ct210t6
noncomputable def ct210o7 : List (List V) := [ck73, ck74, [I 5, I 1, I 0], [I 0, I 0, .b false], ck75, [I 0], [.sl (q 1054) 0 1 1], ck76, ck77, [I 0, I 1, I 2, I 3], [I 0, I 0, I 0], [I 0, I 0, .b false], [I 5, I 1, I 0], [I 0, I 0, I 0], ck78, [.s (T 3 0x693e69)], [I 5], [I 0, I 1], ck61, ck79, [I 5], [I 2, I 1], ck61, ck80, [I 5], [I 3, I 1], ck61, ck81, [I 4], [.s (T 3 0x693e69)], ck82, ck66, ck67, ck68, ck69, ck70, ck159, [I 5], [I 5], [I 5], [I 0], [I 2], [I 3], [I 4]]
noncomputable def ct210r7 : Rec := ⟨21, [.g [.sl (q 1002) 0 1 1, .sl (q 1003) 0 6 4, .sl (q 1004) 0 6 6, .sl (q 1005) 0 1 4, .s (T 3 0x727269), .sl (q 1006) 0 1 3, .s0, .s0, .sl (q 1007) 0 3 1, .sl (q 1008) 0 3 1, I 1, I 2]], q 1039, nmL 1002 ct210o2, cn3, .u [.p (q 1039) 0, .n0], ct210o7⟩
set_option maxRecDepth 1000000 in
theorem ct210t7 : memoT ct210v6 ct210r7 = true := by kernel_rfl
noncomputable def ct210v7 : Ov := memoOv ct210r7 ct210v6
theorem ct210g7 {ν : Nat → Int} : OvGood ν ct210v7 := memo_good ct210g6 ct210g6 ct210t7
set_option maxRecDepth 1000000 in
theorem ct210_ev : okv (mEv ct210v7 [] [(lowZ 0 4, 2), (lowZ 1 5, 1)] 3 [.i .i64 (.var 0), .i .i64 (.var 1), .b false] start) = some (.b true) := by kernel_rfl
theorem ct210 (x y : Int) (w : World) (hA : Tp.Asc w) (h0 : zval (fun n => match n with | 0 => x | _ => y) (lowZ 0 4) = 2) (h1 : zval (fun n => match n with | 0 => x | _ => y) (lowZ 1 5) = 1) : Calls Tryz.prog 3 #[.int .i64 x, .int .i64 y, .bool false] w (fun e w' => e = .returned (.bool true) ∧ Below w.heap.size w w') :=
  tm_true (ν := (fun n => match n with | 0 => x | _ => y)) w hA ct210g7 path_nil (norm_cons h0 (norm_cons h1 norm_nil)) ct210_ev (args := [.int .i64 x, .int .i64 y, .bool false]) (by simp [VRs, VR, zval])
end Go.Proofs.YtoinghomkcjkcaaGreatDoor
/- TopCasts 211: its calls, and that it answers true. -/
namespace Go.Proofs.YtoinghomkcjkcaaGreatDoor
set_option linter.unusedSimpArgs false
set_option linter.unusedVariables false
set_option linter.constructorNameAsVariable false
open Go Go.RowKit
open Ev
noncomputable def ct211s : List Z := Ev.app cfam (T 131 0x3b2050203a2029203020595449524f495250202c2031204c41565245544e4920282054204b534154204d4152474f52505f444e45203b2046495f444e45203b2031203d3a20792045534c45203b2032203d3a2079204e454854204c4c554e203d2072204649203b2066203d3f2072203b20292063202820464552203d3a2066203b2042)
noncomputable def ct211o0 : List (List V) := [ck0, ck83, ck2, [.s (T 1 0x46)], ck3, ck4, ck5, ck6, [.s (T 1 0x46)], ck7, ck105, ck84, ck10, ck10, ck11, ck12, ck10, ck13, ck10, ck14, ck10, ck15, ck154, ck26, ck85, ck86, ck87, ck88, ck89, ck90, ck91, ck92, ck27, ck57, ck28, ck30, ck31, ck32, ck33, ck93, ck35, ck36, ck31, ck35]
noncomputable def ct211r0 : Rec := ⟨23, [.s ct211s], q 1004, [], cn4, .u [.g [.sl (q 1004) 0 11 7], .sl (q 1005) 0 1 7, .n0], ct211o0⟩
set_option maxRecDepth 1000000 in
theorem ct211t0 : memoT sOv ct211r0 = true := by kernel_rfl
noncomputable def ct211v0 : Ov := memoOv ct211r0 sOv
theorem ct211g0 {ν : Nat → Int} : OvGood ν ct211v0 := memo_good sOv_good sOv_good ct211t0
noncomputable def ct211o1 : List (List V) := [ck37, ck38, [.s (T 1 0x46)], ck3, ck39, ck40, ck41, [.s (T 1 0x46)], ck42, ck105, ck94, ck10, ck10, ck44, ck45, ck10, ck46, ck10, ck47, ck10, ck48, ck154, ck26, ck95, ck96, ck97, ck98, ck87, ck99, ck89, ck100, ck27, ck101, ck56, ck30, ck31, ck32, ck33, ck102, ck35, ck36, ck31, ck35]
noncomputable def ct211r1 : Rec := ⟨14, [.s ct211s], q 1003, [], cn5, .u [.g [.sl (q 1003) 0 11 7], .s0], ct211o1⟩
set_option maxRecDepth 1000000 in
theorem ct211t1 : memoT ct211v0 ct211r1 = true := by kernel_rfl
noncomputable def ct211v1 : Ov := memoOv ct211r1 ct211v0
theorem ct211g1 {ν : Nat → Int} : OvGood ν ct211v1 := memo_good ct211g0 ct211g0 ct211t1
noncomputable def ct211o2 : List (List V) := [[.sl (q 1009) 0 1 1], ck59, ck60, [I 0, I 1, I 2, I 3], [I 0, I 0, I 0], [I 0, I 0, .b false], [I 5, I 1, I 0], [.s (T 3 0x693e69)], [I 5], [I 0, I 1], ck61, ck62, [I 5], [I 2, I 1], ck61, ck63, [I 5], [I 3, I 1], ck61, ck64, [I 4], [.s (T 3 0x693e69)], ck65, ck66, ck67, ck68, ck69, ck70, ck161, [I 0], [I 2], [I 3], [I 4]]
noncomputable def ct211r2 : Rec := ⟨12, [.s ct211s], q 1002, [], N [4115, 5338, 5670, 5482, 4108, 5358, 5577, 4113, 4161, 4304, 4307, 4387, 4449, 4626, 4629, 4723, 4801, 5013, 5016, 5126, 5253, 5256, 5336, 5860, 6001, 6372, 6754, 6856, 7415, 4385, 4721, 5124, 5334], .u [.g [.sl (q 1002) 0 1 1, .sl (q 1003) 0 6 4, .sl (q 1004) 0 6 6, .sl (q 1005) 0 1 4, .s (T 3 0x727269), .sl (q 1006) 0 1 3, .s0, .s0, .sl (q 1007) 0 3 1, .sl (q 1008) 0 3 1, I 1, I 2], .s0], ct211o2⟩
set_option maxRecDepth 1000000 in
theorem ct211t2 : memoT ct211v1 ct211r2 = true := by kernel_rfl
noncomputable def ct211v2 : Ov := memoOv ct211r2 ct211v1
theorem ct211g2 {ν : Nat → Int} : OvGood ν ct211v2 := memo_good ct211g1 ct211g1 ct211t2
noncomputable def ct211r3 : Rec := ⟨15, [.g [.sl (q 1002) 0 1 1, .sl (q 1003) 0 6 4, .sl (q 1004) 0 6 6, .sl (q 1005) 0 1 4, .s (T 3 0x727269), .sl (q 1006) 0 1 3, .s0, .s0, .sl (q 1007) 0 3 1, .sl (q 1008) 0 3 1, I 1, I 2]], q 1041, nmL 1002 ct211o2, N [], .n0, []⟩
set_option maxRecDepth 1000000 in
theorem ct211t3 : memoT ct211v2 ct211r3 = true := by kernel_rfl
noncomputable def ct211v3 : Ov := memoOv ct211r3 ct211v2
theorem ct211g3 {ν : Nat → Int} : OvGood ν ct211v3 := memo_good ct211g2 ct211g2 ct211t3
noncomputable def ct211o4 : List (List V) := [ck162]
noncomputable def ct211r4 : Rec := ⟨90, [.g [.sl (q 1002) 0 1 1, .sl (q 1003) 0 6 4, .sl (q 1004) 0 6 6, .sl (q 1005) 0 1 4, .s (T 3 0x727269), .sl (q 1006) 0 1 3, .s0, .s0, .sl (q 1007) 0 3 1, .sl (q 1008) 0 3 1, I 1, I 2]], q 1041, nmL 1002 ct211o2, N [2001], .u [.sl (q 1041) 0 1 1224, .n0], ct211o4⟩
set_option maxRecDepth 1000000 in
theorem ct211t4 : memoT ct211v3 ct211r4 = true := by kernel_rfl
noncomputable def ct211v4 : Ov := memoOv ct211r4 ct211v3
theorem ct211g4 {ν : Nat → Int} : OvGood ν ct211v4 := memo_good ct211g3 ct211g3 ct211t4
noncomputable def ct211o5 : List (List V) := [ck162]
noncomputable def ct211r5 : Rec := ⟨90, [.g [.sl (q 1048) 0 1 1, .sl (q 1122) 0 6 4, .sl (q 1386) 0 6 6, .sl (q 1394) 0 1 4, .s (T 3 0x727269), .sl (q 1400) 0 1 3, .s0, .s0, .sl (q 1404) 0 3 1, .sl (q 1408) 0 3 1, I 1, I 2]], q 1410, rnL 1002 (N [1048, 1122, 1386, 1394, 1400, 1404, 1408, 1046, 1051, 1055, 1059, 1065, 1071, 1075, 1079, 1085, 1091, 1095, 1099, 1105, 1111, 1113, 1119, 1151, 1179, 1231, 1267, 1295, 1383, 1062, 1082, 1102, 1116]) ct211o2, N [2370], .u [.sl (q 1410) 0 1 1224, .n0], ct211o5⟩
set_option maxRecDepth 1000000 in
theorem ct211t5 : memoT ct211v4 ct211r5 = true := by kernel_rfl
noncomputable def ct211v5 : Ov := memoOv ct211r5 ct211v4
theorem ct211g5 {ν : Nat → Int} : OvGood ν ct211v5 := memo_good ct211g4 ct211g4 ct211t5
noncomputable def ct211r6 : Rec := ⟨91, [.sl (q 1041) 0 1 1224], q 1042, [(q 1041, ck162)], cn2, .u [.g [.sl (q 1042) 0 1 1, .sl (q 1043) 0 6 4, .sl (q 1044) 0 6 6, .sl (q 1045) 0 1 4, .s (T 3 0x727269), .sl (q 1046) 0 1 3, .s0, .s0, .sl (q 1047) 0 3 1, .sl (q 1048) 0 3 1, I 1, I 2], .n0], shO 1002 1042 33 ct211o2⟩
set_option maxRecDepth 1000000 in
theorem ct211t6 : memoT ct211v5 ct211r6 = true := by kernel_rfl
noncomputable def ct211v6 : Ov := memoOv ct211r6 ct211v5
theorem ct211g6 {ν : Nat → Int} : OvGood ν ct211v6 := memo_good ct211g5 ct211g5 ct211t6
noncomputable def ct211o7 : List (List V) := [ck73, ck74, [I 5, I 1, I 0], [I 0, I 0, .b false], ck75, [I 0], [.sl (q 1054) 0 1 1], ck76, ck77, [I 0, I 1, I 2, I 3], [I 0, I 0, I 0], [I 0, I 0, .b false], [I 5, I 1, I 0], [I 0, I 0, I 0], ck78, [.s (T 3 0x693e69)], [I 5], [I 0, I 1], ck61, ck79, [I 5], [I 2, I 1], ck61, ck80, [I 5], [I 3, I 1], ck61, ck81, [I 4], [.s (T 3 0x693e69)], ck82, ck66, ck67, ck68, ck69, ck70, ck161, [I 5], [I 5], [I 5], [I 0], [I 2], [I 3], [I 4]]
noncomputable def ct211r7 : Rec := ⟨21, [.g [.sl (q 1002) 0 1 1, .sl (q 1003) 0 6 4, .sl (q 1004) 0 6 6, .sl (q 1005) 0 1 4, .s (T 3 0x727269), .sl (q 1006) 0 1 3, .s0, .s0, .sl (q 1007) 0 3 1, .sl (q 1008) 0 3 1, I 1, I 2]], q 1039, nmL 1002 ct211o2, cn3, .u [.p (q 1039) 0, .n0], ct211o7⟩
set_option maxRecDepth 1000000 in
theorem ct211t7 : memoT ct211v6 ct211r7 = true := by kernel_rfl
noncomputable def ct211v7 : Ov := memoOv ct211r7 ct211v6
theorem ct211g7 {ν : Nat → Int} : OvGood ν ct211v7 := memo_good ct211g6 ct211g6 ct211t7
set_option maxRecDepth 1000000 in
theorem ct211_ev : okv (mEv ct211v7 [] [(lowZ 0 4, 2), (lowZ 1 5, 1)] 3 [.i .i64 (.var 0), .i .i64 (.var 1), .b true] start) = some (.b true) := by kernel_rfl
theorem ct211 (x y : Int) (w : World) (hA : Tp.Asc w) (h0 : zval (fun n => match n with | 0 => x | _ => y) (lowZ 0 4) = 2) (h1 : zval (fun n => match n with | 0 => x | _ => y) (lowZ 1 5) = 1) : Calls Tryz.prog 3 #[.int .i64 x, .int .i64 y, .bool true] w (fun e w' => e = .returned (.bool true) ∧ Below w.heap.size w w') :=
  tm_true (ν := (fun n => match n with | 0 => x | _ => y)) w hA ct211g7 path_nil (norm_cons h0 (norm_cons h1 norm_nil)) ct211_ev (args := [.int .i64 x, .int .i64 y, .bool true]) (by simp [VRs, VR, zval])
end Go.Proofs.YtoinghomkcjkcaaGreatDoor
