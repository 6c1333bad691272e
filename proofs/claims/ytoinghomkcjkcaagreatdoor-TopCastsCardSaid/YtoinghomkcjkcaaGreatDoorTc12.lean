/- TopCasts 120: its calls, and that it answers true. -/
import Derived.Test.YtoinghomkcjkcaaGreatDoorTcD
namespace Go.Proofs.YtoinghomkcjkcaaGreatDoor
set_option linter.unusedSimpArgs false
set_option linter.unusedVariables false
set_option linter.constructorNameAsVariable false
open Go Go.RowKit
open Ev
noncomputable def ct120s : List Z := Ev.app cfam (T 140 0x3b2050203a2029203020595449524f495250202c2031204c41565245544e4920282054204b534154204d4152474f52505f444e45203b2046495f444e45203b2031203d3a20792045534c45203b2032203d3a2079204e454854204c4c554e203d2072204649203b2029206620282043205341203d3a2072203b20292062202820464552203d3a2066203b2043)
noncomputable def ct120o0 : List (List V) := [ck0, ck1, ck2, [.s (T 1 0x46)], ck3, ck4, ck5, ck6, [.s (T 1 0x46)], ck7, ck112, ck9, ck10, ck10, ck11, ck12, ck10, ck13, ck10, ck14, ck10, ck15, ck133, ck113, ck18, ck19, ck20, ck21, ck22, ck23, ck24, ck25, ck26, ck27, ck28, ck29, ck30, ck31, ck32, ck33, ck34, ck35, ck36, ck31, ck35]
noncomputable def ct120r0 : Rec := ⟨23, [.s ct120s], q 1004, [], cn0, .u [.g [.sl (q 1004) 0 11 7], .sl (q 1005) 0 1 7, .n0], ct120o0⟩
set_option maxRecDepth 1000000 in
theorem ct120t0 : memoT sOv ct120r0 = true := by kernel_rfl
noncomputable def ct120v0 : Ov := memoOv ct120r0 sOv
theorem ct120g0 {ν : Nat → Int} : OvGood ν ct120v0 := memo_good sOv_good sOv_good ct120t0
noncomputable def ct120o1 : List (List V) := [ck37, ck38, [.s (T 1 0x46)], ck3, ck39, ck40, ck41, [.s (T 1 0x46)], ck42, ck112, ck43, ck10, ck10, ck44, ck45, ck10, ck46, ck10, ck47, ck10, ck48, ck133, ck114, ck50, ck51, ck52, ck53, ck20, ck54, ck22, ck55, ck26, ck27, ck56, ck57, ck30, ck31, ck32, ck33, ck58, ck35, ck36, ck31, ck35]
noncomputable def ct120r1 : Rec := ⟨14, [.s ct120s], q 1003, [], cn1, .u [.g [.sl (q 1003) 0 11 7], .s0], ct120o1⟩
set_option maxRecDepth 1000000 in
theorem ct120t1 : memoT ct120v0 ct120r1 = true := by kernel_rfl
noncomputable def ct120v1 : Ov := memoOv ct120r1 ct120v0
theorem ct120g1 {ν : Nat → Int} : OvGood ν ct120v1 := memo_good ct120g0 ct120g0 ct120t1
noncomputable def ct120o2 : List (List V) := [[.sl (q 1009) 0 1 1], ck59, ck60, [I 0, I 1, I 2, I 3], [I 0, I 0, I 0], [I 0, I 0, .b false], [I 5, I 1, I 0], [.s (T 3 0x693e69)], [I 5], [I 0, I 1], ck61, ck62, [I 5], [I 2, I 1], ck61, ck63, [I 5], [I 3, I 1], ck61, ck64, [I 4], [.s (T 3 0x693e69)], ck65, ck66, ck67, ck68, ck69, ck70, ck142, [I 0], [I 2], [I 3], [I 4]]
noncomputable def ct120r2 : Rec := ⟨12, [.s ct120s], q 1002, [], N [4116, 5339, 5671, 5483, 4109, 5359, 5578, 4114, 4162, 4305, 4308, 4388, 4450, 4627, 4630, 4724, 4802, 5014, 5017, 5127, 5254, 5257, 5337, 5861, 6002, 6373, 6755, 6857, 7419, 4386, 4722, 5125, 5335], .u [.g [.sl (q 1002) 0 1 1, .sl (q 1003) 0 6 4, .sl (q 1004) 0 6 6, .sl (q 1005) 0 1 4, .s (T 3 0x727269), .sl (q 1006) 0 1 3, .s0, .s0, .sl (q 1007) 0 3 1, .sl (q 1008) 0 3 1, I 1, I 2], .s0], ct120o2⟩
set_option maxRecDepth 1000000 in
theorem ct120t2 : memoT ct120v1 ct120r2 = true := by kernel_rfl
noncomputable def ct120v2 : Ov := memoOv ct120r2 ct120v1
theorem ct120g2 {ν : Nat → Int} : OvGood ν ct120v2 := memo_good ct120g1 ct120g1 ct120t2
noncomputable def ct120r3 : Rec := ⟨15, [.g [.sl (q 1002) 0 1 1, .sl (q 1003) 0 6 4, .sl (q 1004) 0 6 6, .sl (q 1005) 0 1 4, .s (T 3 0x727269), .sl (q 1006) 0 1 3, .s0, .s0, .sl (q 1007) 0 3 1, .sl (q 1008) 0 3 1, I 1, I 2]], q 1041, nmL 1002 ct120o2, N [], .n0, []⟩
set_option maxRecDepth 1000000 in
theorem ct120t3 : memoT ct120v2 ct120r3 = true := by kernel_rfl
noncomputable def ct120v3 : Ov := memoOv ct120r3 ct120v2
theorem ct120g3 {ν : Nat → Int} : OvGood ν ct120v3 := memo_good ct120g2 ct120g2 ct120t3
noncomputable def ct120o4 : List (List V) := [ck143]
noncomputable def ct120r4 : Rec := ⟨90, [.g [.sl (q 1002) 0 1 1, .sl (q 1003) 0 6 4, .sl (q 1004) 0 6 6, .sl (q 1005) 0 1 4, .s (T 3 0x727269), .sl (q 1006) 0 1 3, .s0, .s0, .sl (q 1007) 0 3 1, .sl (q 1008) 0 3 1, I 1, I 2]], q 1041, nmL 1002 ct120o2, N [2001], .u [.sl (q 1041) 0 1 1224, .n0], ct120o4⟩
set_option maxRecDepth 1000000 in
theorem ct120t4 : memoT ct120v3 ct120r4 = true := by kernel_rfl
noncomputable def ct120v4 : Ov := memoOv ct120r4 ct120v3
theorem ct120g4 {ν : Nat → Int} : OvGood ν ct120v4 := memo_good ct120g3 ct120g3 ct120t4
noncomputable def ct120o5 : List (List V) := [ck143]
noncomputable def ct120r5 : Rec := ⟨90, [.g [.sl (q 1048) 0 1 1, .sl (q 1122) 0 6 4, .sl (q 1386) 0 6 6, .sl (q 1394) 0 1 4, .s (T 3 0x727269), .sl (q 1400) 0 1 3, .s0, .s0, .sl (q 1404) 0 3 1, .sl (q 1408) 0 3 1, I 1, I 2]], q 1410, rnL 1002 (N [1048, 1122, 1386, 1394, 1400, 1404, 1408, 1046, 1051, 1055, 1059, 1065, 1071, 1075, 1079, 1085, 1091, 1095, 1099, 1105, 1111, 1113, 1119, 1151, 1179, 1231, 1267, 1295, 1383, 1062, 1082, 1102, 1116]) ct120o2, N [2370], .u [.sl (q 1410) 0 1 1224, .n0], ct120o5⟩
set_option maxRecDepth 1000000 in
theorem ct120t5 : memoT ct120v4 ct120r5 = true := by kernel_rfl
noncomputable def ct120v5 : Ov := memoOv ct120r5 ct120v4
theorem ct120g5 {ν : Nat → Int} : OvGood ν ct120v5 := memo_good ct120g4 ct120g4 ct120t5
noncomputable def ct120r6 : Rec := ⟨91, [.sl (q 1041) 0 1 1224], q 1042, [(q 1041, ck143)], cn2, .u [.g [.sl (q 1042) 0 1 1, .sl (q 1043) 0 6 4, .sl (q 1044) 0 6 6, .sl (q 1045) 0 1 4, .s (T 3 0x727269), .sl (q 1046) 0 1 3, .s0, .s0, .sl (q 1047) 0 3 1, .sl (q 1048) 0 3 1, I 1, I 2], .n0], shO 1002 1042 33 ct120o2⟩
set_option maxRecDepth 1000000 in
theorem ct120t6 : memoT ct120v5 ct120r6 = true := by kernel_rfl
noncomputable def ct120v6 : Ov := memoOv ct120r6 ct120v5
theorem ct120g6 {ν : Nat → Int} : OvGood ν ct120v6 := memo_good ct120g5 ct120g5 ct120t6
noncomputable def ct120o7 : List (List V) := [ck73, ck74, [I 5, I 1, I 0], [I 0, I 0, .b false], ck75, [I 0], [.sl (q 1054) 0 1 1], ck76, ck77, [I 0, I 1, I 2, I 3], [I 0, I 0, I 0], [I 0, I 0, .b false], [I 5, I 1, I 0], [I 0, I 0, I 0], ck78, [.s (T 3 0x693e69)], [I 5], [I 0, I 1], ck61, ck79, [I 5], [I 2, I 1], ck61, ck80, [I 5], [I 3, I 1], ck61, ck81, [I 4], [.s (T 3 0x693e69)], ck82, ck66, ck67, ck68, ck69, ck70, ck142, [I 5], [I 5], [I 5], [I 0], [I 2], [I 3], [I 4]]
noncomputable def ct120r7 : Rec := ⟨21, [.g [.sl (q 1002) 0 1 1, .sl (q 1003) 0 6 4, .sl (q 1004) 0 6 6, .sl (q 1005) 0 1 4, .s (T 3 0x727269), .sl (q 1006) 0 1 3, .s0, .s0, .sl (q 1007) 0 3 1, .sl (q 1008) 0 3 1, I 1, I 2]], q 1039, nmL 1002 ct120o2, cn3, .u [.p (q 1039) 0, .n0], ct120o7⟩
set_option maxRecDepth 1000000 in
theorem ct120t7 : memoT ct120v6 ct120r7 = true := by kernel_rfl
noncomputable def ct120v7 : Ov := memoOv ct120r7 ct120v6
theorem ct120g7 {ν : Nat → Int} : OvGood ν ct120v7 := memo_good ct120g6 ct120g6 ct120t7
set_option maxRecDepth 1000000 in
theorem ct120_ev : okv (mEv ct120v7 [] [(lowZ 0 4, 1), (lowZ 1 5, 2)] 3 [.i .i64 (.var 0), .i .i64 (.var 1), .b false] start) = some (.b true) := by kernel_rfl
theorem ct120 (x y : Int) (w : World) (hA : Tp.Asc w) (h0 : zval (fun n => match n with | 0 => x | _ => y) (lowZ 0 4) = 1) (h1 : zval (fun n => match n with | 0 => x | _ => y) (lowZ 1 5) = 2) : Calls Tryz.prog 3 #[.int .i64 x, .int .i64 y, .bool false] w (fun e w' => e = .returned (.bool true) ∧ Below w.heap.size w w') :=
  tm_true (ν := (fun n => match n with | 0 => x | _ => y)) w hA ct120g7 path_nil (norm_cons h0 (norm_cons h1 norm_nil)) ct120_ev (args := [.int .i64 x, .int .i64 y, .bool false]) (by simp [VRs, VR, zval])
end Go.Proofs.YtoinghomkcjkcaaGreatDoor
/- TopCasts 121: its calls, and that it answers true. -/
namespace Go.Proofs.YtoinghomkcjkcaaGreatDoor
set_option linter.unusedSimpArgs false
set_option linter.unusedVariables false
set_option linter.constructorNameAsVariable false
open Go Go.RowKit
open Ev
noncomputable def ct121s : List Z := Ev.app cfam (T 131 0x3b2050203a2029203020595449524f495250202c2031204c41565245544e4920282054204b534154204d4152474f52505f444e45203b2046495f444e45203b2031203d3a20792045534c45203b2032203d3a2079204e454854204c4c554e203d2072204649203b2066203d3f2072203b20292062202820464552203d3a2066203b2043)
noncomputable def ct121o0 : List (List V) := [ck0, ck83, ck2, [.s (T 1 0x46)], ck3, ck4, ck5, ck6, [.s (T 1 0x46)], ck7, ck112, ck84, ck10, ck10, ck11, ck12, ck10, ck13, ck10, ck14, ck10, ck15, ck133, ck26, ck85, ck86, ck87, ck88, ck89, ck90, ck91, ck92, ck27, ck57, ck28, ck30, ck31, ck32, ck33, ck93, ck35, ck36, ck31, ck35]
noncomputable def ct121r0 : Rec := ⟨23, [.s ct121s], q 1004, [], cn4, .u [.g [.sl (q 1004) 0 11 7], .sl (q 1005) 0 1 7, .n0], ct121o0⟩
set_option maxRecDepth 1000000 in
theorem ct121t0 : memoT sOv ct121r0 = true := by kernel_rfl
noncomputable def ct121v0 : Ov := memoOv ct121r0 sOv
theorem ct121g0 {ν : Nat → Int} : OvGood ν ct121v0 := memo_good sOv_good sOv_good ct121t0
noncomputable def ct121o1 : List (List V) := [ck37, ck38, [.s (T 1 0x46)], ck3, ck39, ck40, ck41, [.s (T 1 0x46)], ck42, ck112, ck94, ck10, ck10, ck44, ck45, ck10, ck46, ck10, ck47, ck10, ck48, ck133, ck26, ck95, ck96, ck97, ck98, ck87, ck99, ck89, ck100, ck27, ck101, ck56, ck30, ck31, ck32, ck33, ck102, ck35, ck36, ck31, ck35]
noncomputable def ct121r1 : Rec := ⟨14, [.s ct121s], q 1003, [], cn5, .u [.g [.sl (q 1003) 0 11 7], .s0], ct121o1⟩
set_option maxRecDepth 1000000 in
theorem ct121t1 : memoT ct121v0 ct121r1 = true := by kernel_rfl
noncomputable def ct121v1 : Ov := memoOv ct121r1 ct121v0
theorem ct121g1 {ν : Nat → Int} : OvGood ν ct121v1 := memo_good ct121g0 ct121g0 ct121t1
noncomputable def ct121o2 : List (List V) := [[.sl (q 1009) 0 1 1], ck59, ck60, [I 0, I 1, I 2, I 3], [I 0, I 0, I 0], [I 0, I 0, .b false], [I 5, I 1, I 0], [.s (T 3 0x693e69)], [I 5], [I 0, I 1], ck61, ck62, [I 5], [I 2, I 1], ck61, ck63, [I 5], [I 3, I 1], ck61, ck64, [I 4], [.s (T 3 0x693e69)], ck65, ck66, ck67, ck68, ck69, ck70, ck144, [I 0], [I 2], [I 3], [I 4]]
noncomputable def ct121r2 : Rec := ⟨12, [.s ct121s], q 1002, [], N [4098, 5321, 5653, 5465, 4091, 5341, 5560, 4096, 4144, 4287, 4290, 4370, 4432, 4609, 4612, 4706, 4784, 4996, 4999, 5109, 5236, 5239, 5319, 5843, 5984, 6355, 6737, 6839, 7398, 4368, 4704, 5107, 5317], .u [.g [.sl (q 1002) 0 1 1, .sl (q 1003) 0 6 4, .sl (q 1004) 0 6 6, .sl (q 1005) 0 1 4, .s (T 3 0x727269), .sl (q 1006) 0 1 3, .s0, .s0, .sl (q 1007) 0 3 1, .sl (q 1008) 0 3 1, I 1, I 2], .s0], ct121o2⟩
set_option maxRecDepth 1000000 in
theorem ct121t2 : memoT ct121v1 ct121r2 = true := by kernel_rfl
noncomputable def ct121v2 : Ov := memoOv ct121r2 ct121v1
theorem ct121g2 {ν : Nat → Int} : OvGood ν ct121v2 := memo_good ct121g1 ct121g1 ct121t2
noncomputable def ct121r3 : Rec := ⟨15, [.g [.sl (q 1002) 0 1 1, .sl (q 1003) 0 6 4, .sl (q 1004) 0 6 6, .sl (q 1005) 0 1 4, .s (T 3 0x727269), .sl (q 1006) 0 1 3, .s0, .s0, .sl (q 1007) 0 3 1, .sl (q 1008) 0 3 1, I 1, I 2]], q 1041, nmL 1002 ct121o2, N [], .n0, []⟩
set_option maxRecDepth 1000000 in
theorem ct121t3 : memoT ct121v2 ct121r3 = true := by kernel_rfl
noncomputable def ct121v3 : Ov := memoOv ct121r3 ct121v2
theorem ct121g3 {ν : Nat → Int} : OvGood ν ct121v3 := memo_good ct121g2 ct121g2 ct121t3
noncomputable def ct121o4 : List (List V) := [ck145]
noncomputable def ct121r4 : Rec := ⟨90, [.g [.sl (q 1002) 0 1 1, .sl (q 1003) 0 6 4, .sl (q 1004) 0 6 6, .sl (q 1005) 0 1 4, .s (T 3 0x727269), .sl (q 1006) 0 1 3, .s0, .s0, .sl (q 1007) 0 3 1, .sl (q 1008) 0 3 1, I 1, I 2]], q 1041, nmL 1002 ct121o2, N [2001], .u [.sl (q 1041) 0 1 1224, .n0], ct121o4⟩
set_option maxRecDepth 1000000 in
theorem ct121t4 : memoT ct121v3 ct121r4 = true := by kernel_rfl
noncomputable def ct121v4 : Ov := memoOv ct121r4 ct121v3
theorem ct121g4 {ν : Nat → Int} : OvGood ν ct121v4 := memo_good ct121g3 ct121g3 ct121t4
noncomputable def ct121o5 : List (List V) := [ck145]
noncomputable def ct121r5 : Rec := ⟨90, [.g [.sl (q 1048) 0 1 1, .sl (q 1122) 0 6 4, .sl (q 1386) 0 6 6, .sl (q 1394) 0 1 4, .s (T 3 0x727269), .sl (q 1400) 0 1 3, .s0, .s0, .sl (q 1404) 0 3 1, .sl (q 1408) 0 3 1, I 1, I 2]], q 1410, rnL 1002 (N [1048, 1122, 1386, 1394, 1400, 1404, 1408, 1046, 1051, 1055, 1059, 1065, 1071, 1075, 1079, 1085, 1091, 1095, 1099, 1105, 1111, 1113, 1119, 1151, 1179, 1231, 1267, 1295, 1383, 1062, 1082, 1102, 1116]) ct121o2, N [2370], .u [.sl (q 1410) 0 1 1224, .n0], ct121o5⟩
set_option maxRecDepth 1000000 in
theorem ct121t5 : memoT ct121v4 ct121r5 = true := by kernel_rfl
noncomputable def ct121v5 : Ov := memoOv ct121r5 ct121v4
theorem ct121g5 {ν : Nat → Int} : OvGood ν ct121v5 := memo_good ct121g4 ct121g4 ct121t5
noncomputable def ct121r6 : Rec := ⟨91, [.sl (q 1041) 0 1 1224], q 1042, [(q 1041, ck145)], cn2, .u [.g [.sl (q 1042) 0 1 1, .sl (q 1043) 0 6 4, .sl (q 1044) 0 6 6, .sl (q 1045) 0 1 4, .s (T 3 0x727269), .sl (q 1046) 0 1 3, .s0, .s0, .sl (q 1047) 0 3 1, .sl (q 1048) 0 3 1, I 1, I 2], .n0], shO 1002 1042 33 ct121o2⟩
set_option maxRecDepth 1000000 in
theorem ct121t6 : memoT ct121v5 ct121r6 = true := by kernel_rfl
noncomputable def ct121v6 : Ov := memoOv ct121r6 ct121v5
theorem ct121g6 {ν : Nat → Int} : OvGood ν ct121v6 := memo_good ct121g5 ct121g5 ct121t6
noncomputable def ct121o7 : List (List V) := [ck73, ck74, [I 5, I 1, I 0], [I 0, I 0, .b false], ck75, [I 0], [.sl (q 1054) 0 1 1], ck76, ck77, [I 0, I 1, I 2, I 3], [I 0, I 0, I 0], [I 0, I 0, .b false], [I 5, I 1, I 0], [I 0, I 0, I 0], ck78, [.s (T 3 0x693e69)], [I 5], [I 0, I 1], ck61, ck79, [I 5], [I 2, I 1], ck61, ck80, [I 5], [I 3, I 1], ck61, ck81, [I 4], [.s (T 3 0x693e69)], ck82, ck66, ck67, ck68, ck69, ck70, ck144, [I 5], [I 5], [I 5], [I 0], [I 2], [I 3], [I 4]]
noncomputable def ct121r7 : Rec := ⟨21, [.g [.sl (q 1002) 0 1 1, .sl (q 1003) 0 6 4, .sl (q 1004) 0 6 6, .sl (q 1005) 0 1 4, .s (T 3 0x727269), .sl (q 1006) 0 1 3, .s0, .s0, .sl (q 1007) 0 3 1, .sl (q 1008) 0 3 1, I 1, I 2]], q 1039, nmL 1002 ct121o2, cn3, .u [.p (q 1039) 0, .n0], ct121o7⟩
set_option maxRecDepth 1000000 in
theorem ct121t7 : memoT ct121v6 ct121r7 = true := by kernel_rfl
noncomputable def ct121v7 : Ov := memoOv ct121r7 ct121v6
theorem ct121g7 {ν : Nat → Int} : OvGood ν ct121v7 := memo_good ct121g6 ct121g6 ct121t7
set_option maxRecDepth 1000000 in
theorem ct121_ev : okv (mEv ct121v7 [] [(lowZ 0 4, 1), (lowZ 1 5, 2)] 3 [.i .i64 (.var 0), .i .i64 (.var 1), .b true] start) = some (.b true) := by kernel_rfl
theorem ct121 (x y : Int) (w : World) (hA : Tp.Asc w) (h0 : zval (fun n => match n with | 0 => x | _ => y) (lowZ 0 4) = 1) (h1 : zval (fun n => match n with | 0 => x | _ => y) (lowZ 1 5) = 2) : Calls Tryz.prog 3 #[.int .i64 x, .int .i64 y, .bool true] w (fun e w' => e = .returned (.bool true) ∧ Below w.heap.size w w') :=
  tm_true (ν := (fun n => match n with | 0 => x | _ => y)) w hA ct121g7 path_nil (norm_cons h0 (norm_cons h1 norm_nil)) ct121_ev (args := [.int .i64 x, .int .i64 y, .bool true]) (by simp [VRs, VR, zval])
end Go.Proofs.YtoinghomkcjkcaaGreatDoor
