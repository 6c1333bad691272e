/- TopCasts 200: its calls, and that it answers true. -/
import Derived.Test.YtoinghomkcjkcaaGreatDoorTcD
namespace Go.Proofs.YtoinghomkcjkcaaGreatDoor
set_option linter.unusedSimpArgs false
set_option linter.unusedVariables false
set_option linter.constructorNameAsVariable false
open Go Go.RowKit
open Ev
noncomputable def ct200s : List Z := Ev.app cfam (T 140 0x3b2050203a2029203020595449524f495250202c2031204c41565245544e4920282054204b534154204d4152474f52505f444e45203b2046495f444e45203b2031203d3a20792045534c45203b2032203d3a2079204e454854204c4c554e203d2072204649203b2029206620282041205341203d3a2072203b20292063202820464552203d3a2066203b2041)
noncomputable def ct200o0 : List (List V) := [ck0, ck1, ck2, [.s (T 1 0x46)], ck3, ck4, ck5, ck6, [.s (T 1 0x46)], ck7, ck8, ck9, ck10, ck10, ck11, ck12, ck10, ck13, ck10, ck14, ck10, ck15, ck154, ck17, ck18, ck19, ck20, ck21, ck22, ck23, ck24, ck25, ck26, ck27, ck28, ck29, ck30, ck31, ck32, ck33, ck34, ck35, ck36, ck31, ck35]
noncomputable def ct200r0 : Rec := ⟨23, [.s ct200s], q 1004, [], cn0, .u [.g [.sl (q 1004) 0 11 7], .sl (q 1005) 0 1 7, .n0], ct200o0⟩
set_option maxRecDepth 1000000 in
theorem ct200t0 : memoT sOv ct200r0 = true := by kernel_rfl
noncomputable def ct200v0 : Ov := memoOv ct200r0 sOv
theorem ct200g0 {ν : Nat → Int} : OvGood ν ct200v0 := memo_good sOv_good sOv_good ct200t0
noncomputable def ct200o1 : List (List V) := [ck37, ck38, [.s (T 1 0x46)], ck3, ck39, ck40, ck41, [.s (T 1 0x46)], ck42, ck8, ck43, ck10, ck10, ck44, ck45, ck10, ck46, ck10, ck47, ck10, ck48, ck154, ck49, ck50, ck51, ck52, ck53, ck20, ck54, ck22, ck55, ck26, ck27, ck56, ck57, ck30, ck31, ck32, ck33, ck58, ck35, ck36, ck31, ck35]
noncomputable def ct200r1 : Rec := ⟨14, [.s ct200s], q 1003, [], cn1, .u [.g [.sl (q 1003) 0 11 7], .s0], ct200o1⟩
set_option maxRecDepth 1000000 in
theorem ct200t1 : memoT ct200v0 ct200r1 = true := by kernel_rfl
noncomputable def ct200v1 : Ov := memoOv ct200r1 ct200v0
theorem ct200g1 {ν : Nat → Int} : OvGood ν ct200v1 := memo_good ct200g0 ct200g0 ct200t1
noncomputable def ct200o2 : List (List V) := [[.sl (q 1009) 0 1 1], ck59, ck60, [I 0, I 1, I 2, I 3], [I 0, I 0, I 0], [I 0, I 0, .b false], [I 5, I 1, I 0], [.s (T 3 0x693e69)], [I 5], [I 0, I 1], ck61, ck62, [I 5], [I 2, I 1], ck61, ck63, [I 5], [I 3, I 1], ck61, ck64, [I 4], [.s (T 3 0x693e69)], ck65, ck66, ck67, ck68, ck69, ck70, ck155, [I 0], [I 2], [I 3], [I 4]]
noncomputable def ct200r2 : Rec := ⟨12, [.s ct200s], q 1002, [], N [4130, 5353, 5685, 5497, 4123, 5373, 5592, 4128, 4176, 4319, 4322, 4402, 4464, 4641, 4644, 4738, 4816, 5028, 5031, 5141, 5268, 5271, 5351, 5875, 6016, 6387, 6769, 6871, 7431, 4400, 4736, 5139, 5349], .u [.g [.sl (q 1002) 0 1 1, .sl (q 1003) 0 6 4, .sl (q 1004) 0 6 6, .sl (q 1005) 0 1 4, .s (T 3 0x727269), .sl (q 1006) 0 1 3, .s0, .s0, .sl (q 1007) 0 3 1, .sl (q 1008) 0 3 1, I 1, I 2], .s0], ct200o2⟩
set_option maxRecDepth 1000000 in
theorem ct200t2 : memoT ct200v1 ct200r2 = true := by kernel_rfl
noncomputable def ct200v2 : Ov := memoOv ct200r2 ct200v1
theorem ct200g2 {ν : Nat → Int} : OvGood ν ct200v2 := memo_good ct200g1 ct200g1 ct200t2
noncomputable def ct200r3 : Rec := ⟨15, [.g [.sl (q 1002) 0 1 1, .sl (q 1003) 0 6 4, .sl (q 1004) 0 6 6, .sl (q 1005) 0 1 4, .s (T 3 0x727269), .sl (q 1006) 0 1 3, .s0, .s0, .sl (q 1007) 0 3 1, .sl (q 1008) 0 3 1, I 1, I 2]], q 1041, nmL 1002 ct200o2, N [], .n0, []⟩
set_option maxRecDepth 1000000 in
theorem ct200t3 : memoT ct200v2 ct200r3 = true := by kernel_rfl
noncomputable def ct200v3 : Ov := memoOv ct200r3 ct200v2
theorem ct200g3 {ν : Nat → Int} : OvGood ν ct200v3 := memo_good ct200g2 ct200g2 ct200t3
noncomputable def ct200o4 : List (List V) := [ck156]
noncomputable def ct200r4 : Rec := ⟨90, [.g [.sl (q 1002) 0 1 1, .sl (q 1003) 0 6 4, .sl (q 1004) 0 6 6, .sl (q 1005) 0 1 4, .s (T 3 0x727269), .sl (q 1006) 0 1 3, .s0, .s0, .sl (q 1007) 0 3 1, .sl (q 1008) 0 3 1, I 1, I 2]], q 1041, nmL 1002 ct200o2, N [2001], .u [.sl (q 1041) 0 1 1224, .n0], ct200o4⟩
set_option maxRecDepth 1000000 in
theorem ct200t4 : memoT ct200v3 ct200r4 = true := by kernel_rfl
noncomputable def ct200v4 : Ov := memoOv ct200r4 ct200v3
theorem ct200g4 {ν : Nat → Int} : OvGood ν ct200v4 := memo_good ct200g3 ct200g3 ct200t4
noncomputable def ct200o5 : List (List V) := [ck156]
noncomputable def ct200r5 : Rec := ⟨90, [.g [.sl (q 1048) 0 1 1, .sl (q 1122) 0 6 4, .sl (q 1386) 0 6 6, .sl (q 1394) 0 1 4, .s (T 3 0x727269), .sl (q 1400) 0 1 3, .s0, .s0, .sl (q 1404) 0 3 1, .sl (q 1408) 0 3 1, I 1, I 2]], q 1410, rnL 1002 (N [1048, 1122, 1386, 1394, 1400, 1404, 1408, 1046, 1051, 1055, 1059, 1065, 1071, 1075, 1079, 1085, 1091, 1095, 1099, 1105, 1111, 1113, 1119, 1151, 1179, 1231, 1267, 1295, 1383, 1062, 1082, 1102, 1116]) ct200o2, N [2370], .u [.sl (q 1410) 0 1 1224, .n0], ct200o5⟩
set_option maxRecDepth 1000000 in
theorem ct200t5 : memoT ct200v4 ct200r5 = true := by kernel_rfl
noncomputable def ct200v5 : Ov := memoOv ct200r5 ct200v4
theorem ct200g5 {ν : Nat → Int} : OvGood ν ct200v5 := memo_good ct200g4 ct200g4 ct200t5
noncomputable def ct200r6 : Rec := ⟨91, [.sl (q 1041) 0 1 1224], q 1042, [(q 1041, ck156)], cn2, .u [.g [.sl (q 1042) 0 1 1, .sl (q 1043) 0 6 4, .sl (q 1044) 0 6 6, .sl (q 1045) 0 1 4, .s (T 3 0x727269), .sl (q 1046) 0 1 3, .s0, .s0, .sl (q 1047) 0 3 1, .sl (q 1048) 0 3 1, I 1, I 2], .n0], shO 1002 1042 33 ct200o2⟩
set_option maxRecDepth 1000000 in
theorem ct200t6 : memoT ct200v5 ct200r6 = true := by kernel_rfl
noncomputable def ct200v6 : Ov := memoOv ct200r6 ct200v5
theorem ct200g6 {ν : Nat → Int} : OvGood ν ct200v6 := memo_good ct200g5 ct200g5 ct200t6
noncomputable def ct200o7 : List (List V) := [ck73, ck74, [I 5, I 1, I 0], [I 0, I 0, .b false], ck75, [I 0], [.sl (q 1054) 0 1 1], ck76, ck77, [I 0, I 1, I 2, I 3], [I 0, I 0, I 0], [I 0, I 0, .b false], [I 5, I 1, I 0], [I 0, I 0, I 0], ck78, [.s (T 3 0x693e69)], [I 5], [I 0, I 1], ck61, ck79, [I 5], [I 2, I 1], ck61, ck80, [I 5], [I 3, I 1], ck61, ck81, [I 4], [.s (T 3 0x693e69)], ck82, ck66, ck67, ck68, ck69, ck70, ck155, [I 5], [I 5], [I 5], [I 0], [I 2], [I 3], [I 4]]
noncomputable def ct200r7 : Rec := ⟨21, [.g [.sl (q 1002) 0 1 1, .sl (q 1003) 0 6 4, .sl (q 1004) 0 6 6, .sl (q 1005) 0 1 4, .s (T 3 0x727269), .sl (q 1006) 0 1 3, .s0, .s0, .sl (q 1007) 0 3 1, .sl (q 1008) 0 3 1, I 1, I 2]], q 1039, nmL 1002 ct200o2, cn3, .u [.p (q 1039) 0, .n0], ct200o7⟩
set_option maxRecDepth 1000000 in
theorem ct200t7 : memoT ct200v6 ct200r7 = true := by kernel_rfl
noncomputable def ct200v7 : Ov := memoOv ct200r7 ct200v6
theorem ct200g7 {ν : Nat → Int} : OvGood ν ct200v7 := memo_good ct200g6 ct200g6 ct200t7
set_option maxRecDepth 1000000 in
theorem ct200_ev : okv (mEv ct200v7 [] [(lowZ 0 4, 2), (lowZ 1 5, 0)] 3 [.i .i64 (.var 0), .i .i64 (.var 1), .b false] start) = some (.b true) := by kernel_rfl
theorem ct200 (x y : Int) (w : World) (hA : Tp.Asc w) (h0 : zval (fun n => match n with | 0 => x | _ => y) (lowZ 0 4) = 2) (h1 : zval (fun n => match n with | 0 => x | _ => y) (lowZ 1 5) = 0) : Calls Tryz.prog 3 #[.int .i64 x, .int .i64 y, .bool false] w (fun e w' => e = .returned (.bool true) ∧ Below w.heap.size w w') :=
  tm_true (ν := (fun n => match n with | 0 => x | _ => y)) w hA ct200g7 path_nil (norm_cons h0 (norm_cons h1 norm_nil)) ct200_ev (args := [.int .i64 x, .int .i64 y, .bool false]) (by simp [VRs, VR, zval])
end Go.Proofs.YtoinghomkcjkcaaGreatDoor
/- TopCasts 201: its calls, and that it answers true. -/
namespace Go.Proofs.YtoinghomkcjkcaaGreatDoor
set_option linter.unusedSimpArgs false
set_option linter.unusedVariables false
set_option linter.constructorNameAsVariable false
open Go Go.RowKit
open Ev
noncomputable def ct201s : List Z := Ev.app cfam (T 131 0x3b2050203a2029203020595449524f495250202c2031204c41565245544e4920282054204b534154204d4152474f52505f444e45203b2046495f444e45203b2031203d3a20792045534c45203b2032203d3a2079204e454854204c4c554e203d2072204649203b2066203d3f2072203b20292063202820464552203d3a2066203b2041)
noncomputable def ct201o0 : List (List V) := [ck0, ck83, ck2, [.s (T 1 0x46)], ck3, ck4, ck5, ck6, [.s (T 1 0x46)], ck7, ck8, ck84, ck10, ck10, ck11, ck12, ck10, ck13, ck10, ck14, ck10, ck15, ck154, ck26, ck85, ck86, ck87, ck88, ck89, ck90, ck91, ck92, ck27, ck57, ck28, ck30, ck31, ck32, ck33, ck93, ck35, ck36, ck31, ck35]
noncomputable def ct201r0 : Rec := ⟨23, [.s ct201s], q 1004, [], cn4, .u [.g [.sl (q 1004) 0 11 7], .sl (q 1005) 0 1 7, .n0], ct201o0⟩
set_option maxRecDepth 1000000 in
theorem ct201t0 : memoT sOv ct201r0 = true := by kernel_rfl
noncomputable def ct201v0 : Ov := memoOv ct201r0 sOv
theorem ct201g0 {ν : Nat → Int} : OvGood ν ct201v0 := memo_good sOv_good sOv_good ct201t0
noncomputable def ct201o1 : List (List V) := [ck37, ck38, [.s (T 1 0x46)], ck3, ck39, ck40, ck41, [.s (T 1 0x46)], ck42, ck8, ck94, ck10, ck10, ck44, ck45, ck10, ck46, ck10, ck47, ck10, ck48, ck154, ck26, ck95, ck96, ck97, ck98, ck87, ck99, ck89, ck100, ck27, ck101, ck56, ck30, ck31, ck32, ck33, ck102, ck35, ck36, ck31, ck35]
noncomputable def ct201r1 : Rec := ⟨14, [.s ct201s], q 1003, [], cn5, .u [.g [.sl (q 1003) 0 11 7], .s0], ct201o1⟩
set_option maxRecDepth 1000000 in
theorem ct201t1 : memoT ct201v0 ct201r1 = true := by kernel_rfl
noncomputable def ct201v1 : Ov := memoOv ct201r1 ct201v0
theorem ct201g1 {ν : Nat → Int} : OvGood ν ct201v1 := memo_good ct201g0 ct201g0 ct201t1
noncomputable def ct201o2 : List (List V) := [[.sl (q 1009) 0 1 1], ck59, ck60, [I 0, I 1, I 2, I 3], [I 0, I 0, I 0], [I 0, I 0, .b false], [I 5, I 1, I 0], [.s (T 3 0x693e69)], [I 5], [I 0, I 1], ck61, ck62, [I 5], [I 2, I 1], ck61, ck63, [I 5], [I 3, I 1], ck61, ck64, [I 4], [.s (T 3 0x693e69)], ck65, ck66, ck67, ck68, ck69, ck70, ck157, [I 0], [I 2], [I 3], [I 4]]
noncomputable def ct201r2 : Rec := ⟨12, [.s ct201s], q 1002, [], N [4114, 5337, 5669, 5481, 4107, 5357, 5576, 4112, 4160, 4303, 4306, 4386, 4448, 4625, 4628, 4722, 4800, 5012, 5015, 5125, 5252, 5255, 5335, 5859, 6000, 6371, 6753, 6855, 7412, 4384, 4720, 5123, 5333], .u [.g [.sl (q 1002) 0 1 1, .sl (q 1003) 0 6 4, .sl (q 1004) 0 6 6, .sl (q 1005) 0 1 4, .s (T 3 0x727269), .sl (q 1006) 0 1 3, .s0, .s0, .sl (q 1007) 0 3 1, .sl (q 1008) 0 3 1, I 1, I 2], .s0], ct201o2⟩
set_option maxRecDepth 1000000 in
theorem ct201t2 : memoT ct201v1 ct201r2 = true := by kernel_rfl
noncomputable def ct201v2 : Ov := memoOv ct201r2 ct201v1
theorem ct201g2 {ν : Nat → Int} : OvGood ν ct201v2 := memo_good ct201g1 ct201g1 ct201t2
noncomputable def ct201r3 : Rec := ⟨15, [.g [.sl (q 1002) 0 1 1, .sl (q 1003) 0 6 4, .sl (q 1004) 0 6 6, .sl (q 1005) 0 1 4, .s (T 3 0x727269), .sl (q 1006) 0 1 3, .s0, .s0, .sl (q 1007) 0 3 1, .sl (q 1008) 0 3 1, I 1, I 2]], q 1041, nmL 1002 ct201o2, N [], .n0, []⟩
set_option maxRecDepth 1000000 in
theorem ct201t3 : memoT ct201v2 ct201r3 = true := by kernel_rfl
noncomputable def ct201v3 : Ov := memoOv ct201r3 ct201v2
theorem ct201g3 {ν : Nat → Int} : OvGood ν ct201v3 := memo_good ct201g2 ct201g2 ct201t3
noncomputable def ct201o4 : List (List V) := [ck158]
noncomputable def ct201r4 : Rec := ⟨90, [.g [.sl (q 1002) 0 1 1, .sl (q 1003) 0 6 4, .sl (q 1004) 0 6 6, .sl (q 1005) 0 1 4, .s (T 3 0x727269), .sl (q 1006) 0 1 3, .s0, .s0, .sl (q 1007) 0 3 1, .sl (q 1008) 0 3 1, I 1, I 2]], q 1041, nmL 1002 ct201o2, N [2001], .u [.sl (q 1041) 0 1 1224, .n0], ct201o4⟩
set_option maxRecDepth 1000000 in
theorem ct201t4 : memoT ct201v3 ct201r4 = true := by kernel_rfl
noncomputable def ct201v4 : Ov := memoOv ct201r4 ct201v3
theorem ct201g4 {ν : Nat → Int} : OvGood ν ct201v4 := memo_good ct201g3 ct201g3 ct201t4
noncomputable def ct201o5 : List (List V) := [ck158]
noncomputable def ct201r5 : Rec := ⟨90, [.g [.sl (q 1048) 0 1 1, .sl (q 1122) 0 6 4, .sl (q 1386) 0 6 6, .sl (q 1394) 0 1 4, .s (T 3 0x727269), .sl (q 1400) 0 1 3, .s0, .s0, .sl (q 1404) 0 3 1, .sl (q 1408) 0 3 1, I 1, I 2]], q 1410, rnL 1002 (N [1048, 1122, 1386, 1394, 1400, 1404, 1408, 1046, 1051, 1055, 1059, 1065, 1071, 1075, 1079, 1085, 1091, 1095, 1099, 1105, 1111, 1113, 1119, 1151, 1179, 1231, 1267, 1295, 1383, 1062, 1082, 1102, 1116]) ct201o2, N [2370], .u [.sl (q 1410) 0 1 1224, .n0], ct201o5⟩
set_option maxRecDepth 1000000 in
theorem ct201t5 : memoT ct201v4 ct201r5 = true := by kernel_rfl
noncomputable def ct201v5 : Ov := memoOv ct201r5 ct201v4
theorem ct201g5 {ν : Nat → Int} : OvGood ν ct201v5 := memo_good ct201g4 ct201g4 ct201t5
noncomputable def ct201r6 : Rec := ⟨91, [.sl (q 1041) 0 1 1224], q 1042, [(q 1041, ck158)], cn2, .u [.g [.sl (q 1042) 0 1 1, .sl (q 1043) 0 6 4, .sl (q 1044) 0 6 6, .sl (q 1045) 0 1 4, .s (T 3 0x727269), .sl (q 1046) 0 1 3, .s0, .s0, .sl (q 1047) 0 3 1, .sl (q 1048) 0 3 1, I 1, I 2], .n0], shO 1002 1042 33 ct201o2⟩
set_option maxRecDepth 1000000 in
theorem ct201t6 : memoT ct201v5 ct201r6 = true := by kernel_rfl
noncomputable def ct201v6 : Ov := memoOv ct201r6 ct201v5
theorem ct201g6 {ν : Nat → Int} : OvGood ν ct201v6 := memo_good ct201g5 ct201g5 ct201t6
noncomputable def ct201o7 : List (List V) := [ck73, ck74, [I 5, I 1, I 0], [I 0, I 0, .b false], ck75, [I 0], [.sl (q 1054) 0 1 1], ck76, ck77, [I 0, I 1, I 2, I 3], [I 0, I 0, I 0], [I 0, I 0, .b false], [I 5, I 1, I 0], [I 0, I 0, I 0], ck78, [.s (T 3 0x693e69)], [I 5], [I 0, I 1], ck61, ck79, [I 5], [I 2, I 1], ck61, ck80, [I 5], [I 3, I 1], ck61, ck81, [I 4], [.s (T 3 0x693e69)], ck82, ck66, ck67, ck68, ck69, ck70, ck157, [I 5], [I 5], [I 5], [I 0], [I 2], [I 3], [I 4]]
noncomputable def ct201r7 : Rec := ⟨21, [.g [.sl (q 1002) 0 1 1, .sl (q 1003) 0 6 4, .sl (q 1004) 0 6 6, .sl (q 1005) 0 1 4, .s (T 3 0x727269), .sl (q 1006) 0 1 3, .s0, .s0, .sl (q 1007) 0 3 1, .sl (q 1008) 0 3 1, I 1, I 2]], q 1039, nmL 1002 ct201o2, cn3, .u [.p (q 1039) 0, .n0], ct201o7⟩
set_option maxRecDepth 1000000 in
theorem ct201t7 : memoT ct201v6 ct201r7 = true := by kernel_rfl
noncomputable def ct201v7 : Ov := memoOv ct201r7 ct201v6
theorem ct201g7 {ν : Nat → Int} : OvGood ν ct201v7 := memo_good ct201g6 ct201g6 ct201t7
set_option maxRecDepth 1000000 in
theorem ct201_ev : okv (mEv ct201v7 [] [(lowZ 0 4, 2), (lowZ 1 5, 0)] 3 [.i .i64 (.var 0), .i .i64 (.var 1), .b true] start) = some (.b true) := by kernel_rfl
theorem ct201 (x y : Int) (w : World) (hA : Tp.Asc w) (h0 : zval (fun n => match n with | 0 => x | _ => y) (lowZ 0 4) = 2) (h1 : zval (fun n => match n with | 0 => x | _ => y) (lowZ 1 5) = 0) : Calls Tryz.prog 3 #[.int .i64 x, .int .i64 y, .bool true] w (fun e w' => e = .returned (.bool true) ∧ Below w.heap.size w w') :=
  tm_true (ν := (fun n => match n with | 0 => x | _ => y)) w hA ct201g7 path_nil (norm_cons h0 (norm_cons h1 norm_nil)) ct201_ev (args := [.int .i64 x, .int .i64 y, .bool true]) (by simp [VRs, VR, zval])
end Go.Proofs.YtoinghomkcjkcaaGreatDoor
