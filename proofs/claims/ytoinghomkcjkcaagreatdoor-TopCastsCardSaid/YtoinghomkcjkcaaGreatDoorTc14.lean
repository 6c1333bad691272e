/- TopCasts 140: its calls, and that it answers true. -/
import Derived.Test.YtoinghomkcjkcaaGreatDoorTcD
namespace Go.Proofs.YtoinghomkcjkcaaGreatDoor
set_option linter.unusedSimpArgs false
set_option linter.unusedVariables false
set_option linter.constructorNameAsVariable false
open Go Go.RowKit
open Ev
noncomputable def ct140s : List Z := Ev.app cfam (T 140 0x3b2050203a2029203020595449524f495250202c2031204c41565245544e4920282054204b534154204d4152474f52505f444e45203b2046495f444e45203b2031203d3a20792045534c45203b2032203d3a2079204e454854204c4c554e203d2072204649203b2029206620282046205341203d3a2072203b20292062202820464552203d3a2066203b2046)
noncomputable def ct140o0 : List (List V) := [ck0, ck1, ck2, [.s (T 1 0x46)], ck3, ck4, ck5, ck6, [.s (T 1 0x46)], ck7, ck126, ck9, ck10, ck10, ck11, ck12, ck10, ck13, ck10, ck14, ck10, ck15, ck133, ck127, ck18, ck19, ck20, ck21, ck22, ck23, ck24, ck25, ck26, ck27, ck28, ck29, ck30, ck31, ck32, ck33, ck34, ck35, ck36, ck31, ck35]
noncomputable def ct140r0 : Rec := ⟨23, [.s ct140s], q 1004, [], cn0, .u [.g [.sl (q 1004) 0 11 7], .sl (q 1005) 0 1 7, .n0], ct140o0⟩
set_option maxRecDepth 1000000 in
theorem ct140t0 : memoT sOv ct140r0 = true := by kernel_rfl
noncomputable def ct140v0 : Ov := memoOv ct140r0 sOv
theorem ct140g0 {ν : Nat → Int} : OvGood ν ct140v0 := memo_good sOv_good sOv_good ct140t0
noncomputable def ct140o1 : List (List V) := [ck37, ck38, [.s (T 1 0x46)], ck3, ck39, ck40, ck41, [.s (T 1 0x46)], ck42, ck126, ck43, ck10, ck10, ck44, ck45, ck10, ck46, ck10, ck47, ck10, ck48, ck133, ck128, ck50, ck51, ck52, ck53, ck20, ck54, ck22, ck55, ck26, ck27, ck56, ck57, ck30, ck31, ck32, ck33, ck58, ck35, ck36, ck31, ck35]
noncomputable def ct140r1 : Rec := ⟨14, [.s ct140s], q 1003, [], cn1, .u [.g [.sl (q 1003) 0 11 7], .s0], ct140o1⟩
set_option maxRecDepth 1000000 in
theorem ct140t1 : memoT ct140v0 ct140r1 = true := by kernel_rfl
noncomputable def ct140v1 : Ov := memoOv ct140r1 ct140v0
theorem ct140g1 {ν : Nat → Int} : OvGood ν ct140v1 := memo_good ct140g0 ct140g0 ct140t1
noncomputable def ct140o2 : List (List V) := [[.sl (q 1009) 0 1 1], ck59, ck60, [I 0, I 1, I 2, I 3], [I 0, I 0, I 0], [I 0, I 0, .b false], [I 5, I 1, I 0], [.s (T 3 0x693e69)], [I 5], [I 0, I 1], ck61, ck62, [I 5], [I 2, I 1], ck61, ck63, [I 5], [I 3, I 1], ck61, ck64, [I 4], [.s (T 3 0x693e69)], ck65, ck66, ck67, ck68, ck69, ck70, ck150, [I 0], [I 2], [I 3], [I 4]]
noncomputable def ct140r2 : Rec := ⟨12, [.s ct140s], q 1002, [], N [4110, 5333, 5665, 5477, 4103, 5353, 5572, 4108, 4156, 4299, 4302, 4382, 4444, 4621, 4624, 4718, 4796, 5008, 5011, 5121, 5248, 5251, 5331, 5855, 5996, 6367, 6749, 6851, 7407, 4380, 4716, 5119, 5329], .u [.g [.sl (q 1002) 0 1 1, .sl (q 1003) 0 6 4, .sl (q 1004) 0 6 6, .sl (q 1005) 0 1 4, .s (T 3 0x727269), .sl (q 1006) 0 1 3, .s0, .s0, .sl (q 1007) 0 3 1, .sl (q 1008) 0 3 1, I 1, I 2], .s0], ct140o2⟩
set_option maxRecDepth 1000000 in
theorem ct140t2 : memoT ct140v1 ct140r2 = true := by kernel_rfl
noncomputable def ct140v2 : Ov := memoOv ct140r2 ct140v1
theorem ct140g2 {ν : Nat → Int} : OvGood ν ct140v2 := memo_good ct140g1 ct140g1 ct140t2
noncomputable def ct140r3 : Rec := ⟨15, [.g [.sl (q 1002) 0 1 1, .sl (q 1003) 0 6 4, .sl (q 1004) 0 6 6, .sl (q 1005) 0 1 4, .s (T 3 0x727269), .sl (q 1006) 0 1 3, .s0, .s0, .sl (q 1007) 0 3 1, .sl (q 1008) 0 3 1, I 1, I 2]], q 1041, nmL 1002 ct140o2, N [], .n0, []⟩
set_option maxRecDepth 1000000 in
theorem ct140t3 : memoT ct140v2 ct140r3 = true := by kernel_rfl
noncomputable def ct140v3 : Ov := memoOv ct140r3 ct140v2
theorem ct140g3 {ν : Nat → Int} : OvGood ν ct140v3 := memo_good ct140g2 ct140g2 ct140t3
noncomputable def ct140o4 : List (List V) := [ck151]
noncomputable def ct140r4 : Rec := ⟨90, [.g [.sl (q 1002) 0 1 1, .sl (q 1003) 0 6 4, .sl (q 1004) 0 6 6, .sl (q 1005) 0 1 4, .s (T 3 0x727269), .sl (q 1006) 0 1 3, .s0, .s0, .sl (q 1007) 0 3 1, .sl (q 1008) 0 3 1, I 1, I 2]], q 1041, nmL 1002 ct140o2, N [2001], .u [.sl (q 1041) 0 1 1224, .n0], ct140o4⟩
set_option maxRecDepth 1000000 in
theorem ct140t4 : memoT ct140v3 ct140r4 = true := by kernel_rfl
noncomputable def ct140v4 : Ov := memoOv ct140r4 ct140v3
theorem ct140g4 {ν : Nat → Int} : OvGood ν ct140v4 := memo_good ct140g3 ct140g3 ct140t4
noncomputable def ct140o5 : List (List V) := [ck151]
noncomputable def ct140r5 : Rec := ⟨90, [.g [.sl (q 1048) 0 1 1, .sl (q 1122) 0 6 4, .sl (q 1386) 0 6 6, .sl (q 1394) 0 1 4, .s (T 3 0x727269), .sl (q 1400) 0 1 3, .s0, .s0, .sl (q 1404) 0 3 1, .sl (q 1408) 0 3 1, I 1, I 2]], q 1410, rnL 1002 (N [1048, 1122, 1386, 1394, 1400, 1404, 1408, 1046, 1051, 1055, 1059, 1065, 1071, 1075, 1079, 1085, 1091, 1095, 1099, 1105, 1111, 1113, 1119, 1151, 1179, 1231, 1267, 1295, 1383, 1062, 1082, 1102, 1116]) ct140o2, N [2370], .u [.sl (q 1410) 0 1 1224, .n0], ct140o5⟩
set_option maxRecDepth 1000000 in
theorem ct140t5 : memoT ct140v4 ct140r5 = true := by kernel_rfl
noncomputable def ct140v5 : Ov := memoOv ct140r5 ct140v4
theorem ct140g5 {ν : Nat → Int} : OvGood ν ct140v5 := memo_good ct140g4 ct140g4 ct140t5
noncomputable def ct140r6 : Rec := ⟨91, [.sl (q 1041) 0 1 1224], q 1042, [(q 1041, ck151)], cn2, .u [.g [.sl (q 1042) 0 1 1, .sl (q 1043) 0 6 4, .sl (q 1044) 0 6 6, .sl (q 1045) 0 1 4, .s (T 3 0x727269), .sl (q 1046) 0 1 3, .s0, .s0, .sl (q 1047) 0 3 1, .sl (q 1048) 0 3 1, I 1, I 2], .n0], shO 1002 1042 33 ct140o2⟩
set_option maxRecDepth 1000000 in
theorem ct140t6 : memoT ct140v5 ct140r6 = true := by kernel_rfl
noncomputable def ct140v6 : Ov := memoOv ct140r6 ct140v5
theorem ct140g6 {ν : Nat → Int} : OvGood ν ct140v6 := memo_good ct140g5 ct140g5 ct140t6
noncomputable def ct140o7 : List (List V) := [ck73, ck74, [I 5, I 1, I 0], [I 0, I 0, .b false], ck75, [I 0], [.sl (q 1054) 0 1 1], ck76, ck77, [I 0, I 1, I 2, I 3], [I 0, I 0, I 0], [I 0, I 0, .b false], [I 5, I 1, I 0], [I 0, I 0, I 0], ck78, [.s (T 3 0x693e69)], [I 5], [I 0, I 1], ck61, ck79, [I 5], [I 2, I 1], ck61, ck80, [I 5], [I 3, I 1], ck61, ck81, [I 4], [.s (T 3 0x693e69)], ck82, ck66, ck67, ck68, ck69, ck70, ck150, [I 5], [I 5], [I 5], [I 0], [I 2], [I 3], [I 4]]
noncomputable def ct140r7 : Rec := ⟨21, [.g [.sl (q 1002) 0 1 1, .sl (q 1003) 0 6 4, .sl (q 1004) 0 6 6, .sl (q 1005) 0 1 4, .s (T 3 0x727269), .sl (q 1006) 0 1 3, .s0, .s0, .sl (q 1007) 0 3 1, .sl (q 1008) 0 3 1, I 1, I 2]], q 1039, nmL 1002 ct140o2, cn3, .u [.p (q 1039) 0, .n0], ct140o7⟩
set_option maxRecDepth 1000000 in
theorem ct140t7 : memoT ct140v6 ct140r7 = true := by kernel_rfl
noncomputable def ct140v7 : Ov := memoOv ct140r7 ct140v6
theorem ct140g7 {ν : Nat → Int} : OvGood ν ct140v7 := memo_good ct140g6 ct140g6 ct140t7
set_option maxRecDepth 1000000 in
theorem ct140_ev : okv (mEv ct140v7 [] [(lowZ 0 4, 1), (lowZ 1 5, 4)] 3 [.i .i64 (.var 0), .i .i64 (.var 1), .b false] start) = some (.b true) := by kernel_rfl
theorem ct140 (x y : Int) (w : World) (hA : Tp.Asc w) (h0 : zval (fun n => match n with | 0 => x | _ => y) (lowZ 0 4) = 1) (h1 : zval (fun n => match n with | 0 => x | _ => y) (lowZ 1 5) = 4) : Calls Tryz.prog 3 #[.int .i64 x, .int .i64 y, .bool false] w (fun e w' => e = .returned (.bool true) ∧ Below w.heap.size w w') :=
  tm_true (ν := (fun n => match n with | 0 => x | _ => y)) w hA ct140g7 path_nil (norm_cons h0 (norm_cons h1 norm_nil)) ct140_ev (args := [.int .i64 x, .int .i64 y, .bool false]) (by simp [VRs, VR, zval])
end Go.Proofs.YtoinghomkcjkcaaGreatDoor
/- TopCasts 141: its calls, and that it answers true. -/
namespace Go.Proofs.YtoinghomkcjkcaaGreatDoor
set_option linter.unusedSimpArgs false
set_option linter.unusedVariables false
set_option linter.constructorNameAsVariable false
open Go Go.RowKit
open Ev
noncomputable def ct141s : List Z := Ev.app cfam (T 131 0x3b2050203a2029203020595449524f495250202c2031204c41565245544e4920282054204b534154204d4152474f52505f444e45203b2046495f444e45203b2031203d3a20792045534c45203b2032203d3a2079204e454854204c4c554e203d2072204649203b2066203d3f2072203b20292062202820464552203d3a2066203b2046)
noncomputable def ct141o0 : List (List V) := [ck0, ck83, ck2, [.s (T 1 0x46)], ck3, ck4, ck5, ck6, [.s (T 1 0x46)], ck7, ck126, ck84, ck10, ck10, ck11, ck12, ck10, ck13, ck10, ck14, ck10, ck15, ck133, ck26, ck85, ck86, ck87, ck88, ck89, ck90, ck91, ck92, ck27, ck57, ck28, ck30, ck31, ck32, ck33, ck93, ck35, ck36, ck31, ck35]
noncomputable def ct141r0 : Rec := ⟨23, [.s ct141s], q 1004, [], cn4, .u [.g [.sl (q 1004) 0 11 7], .sl (q 1005) 0 1 7, .n0], ct141o0⟩
set_option maxRecDepth 1000000 in
theorem ct141t0 : memoT sOv ct141r0 = true := by kernel_rfl
noncomputable def ct141v0 : Ov := memoOv ct141r0 sOv
theorem ct141g0 {ν : Nat → Int} : OvGood ν ct141v0 := memo_good sOv_good sOv_good ct141t0
noncomputable def ct141o1 : List (List V) := [ck37, ck38, [.s (T 1 0x46)], ck3, ck39, ck40, ck41, [.s (T 1 0x46)], ck42, ck126, ck94, ck10, ck10, ck44, ck45, ck10, ck46, ck10, ck47, ck10, ck48, ck133, ck26, ck95, ck96, ck97, ck98, ck87, ck99, ck89, ck100, ck27, ck101, ck56, ck30, ck31, ck32, ck33, ck102, ck35, ck36, ck31, ck35]
noncomputable def ct141r1 : Rec := ⟨14, [.s ct141s], q 1003, [], cn5, .u [.g [.sl (q 1003) 0 11 7], .s0], ct141o1⟩
set_option maxRecDepth 1000000 in
theorem ct141t1 : memoT ct141v0 ct141r1 = true := by kernel_rfl
noncomputable def ct141v1 : Ov := memoOv ct141r1 ct141v0
theorem ct141g1 {ν : Nat → Int} : OvGood ν ct141v1 := memo_good ct141g0 ct141g0 ct141t1
noncomputable def ct141o2 : List (List V) := [[.sl (q 1009) 0 1 1], ck59, ck60, [I 0, I 1, I 2, I 3], [I 0, I 0, I 0], [I 0, I 0, .b false], [I 5, I 1, I 0], [.s (T 3 0x693e69)], [I 5], [I 0, I 1], ck61, ck62, [I 5], [I 2, I 1], ck61, ck63, [I 5], [I 3, I 1], ck61, ck64, [I 4], [.s (T 3 0x693e69)], ck65, ck66, ck67, ck68, ck69, ck70, ck152, [I 0], [I 2], [I 3], [I 4]]
noncomputable def ct141r2 : Rec := ⟨12, [.s ct141s], q 1002, [], N [4095, 5318, 5650, 5462, 4088, 5338, 5557, 4093, 4141, 4284, 4287, 4367, 4429, 4606, 4609, 4703, 4781, 4993, 4996, 5106, 5233, 5236, 5316, 5840, 5981, 6352, 6734, 6836, 7389, 4365, 4701, 5104, 5314], .u [.g [.sl (q 1002) 0 1 1, .sl (q 1003) 0 6 4, .sl (q 1004) 0 6 6, .sl (q 1005) 0 1 4, .s (T 3 0x727269), .sl (q 1006) 0 1 3, .s0, .s0, .sl (q 1007) 0 3 1, .sl (q 1008) 0 3 1, I 1, I 2], .s0], ct141o2⟩
set_option maxRecDepth 1000000 in
theorem ct141t2 : memoT ct141v1 ct141r2 = true := by kernel_rfl
noncomputable def ct141v2 : Ov := memoOv ct141r2 ct141v1
theorem ct141g2 {ν : Nat → Int} : OvGood ν ct141v2 := memo_good ct141g1 ct141g1 ct141t2
noncomputable def ct141r3 : Rec := ⟨15, [.g [.sl (q 1002) 0 1 1, .sl (q 1003) 0 6 4, .sl (q 1004) 0 6 6, .sl (q 1005) 0 1 4, .s (T 3 0x727269), .sl (q 1006) 0 1 3, .s0, .s0, .sl (q 1007) 0 3 1, .sl (q 1008) 0 3 1, I 1, I 2]], q 1041, nmL 1002 ct141o2, N [], .n0, []⟩
set_option maxRecDepth 1000000 in
theorem ct141t3 : memoT ct141v2 ct141r3 = true := by kernel_rfl
noncomputable def ct141v3 : Ov := memoOv ct141r3 ct141v2
theorem ct141g3 {ν : Nat → Int} : OvGood ν ct141v3 := memo_good ct141g2 ct141g2 ct141t3
noncomputable def ct141o4 : List (List V) := [ck153]
noncomputable def ct141r4 : Rec := ⟨90, [.g [.sl (q 1002) 0 1 1, .sl (q 1003) 0 6 4, .sl (q 1004) 0 6 6, .sl (q 1005) 0 1 4, .s (T 3 0x727269), .sl (q 1006) 0 1 3, .s0, .s0, .sl (q 1007) 0 3 1, .sl (q 1008) 0 3 1, I 1, I 2]], q 1041, nmL 1002 ct141o2, N [2001], .u [.sl (q 1041) 0 1 1224, .n0], ct141o4⟩
set_option maxRecDepth 1000000 in
theorem ct141t4 : memoT ct141v3 ct141r4 = true := by kernel_rfl
noncomputable def ct141v4 : Ov := memoOv ct141r4 ct141v3
theorem ct141g4 {ν : Nat → Int} : OvGood ν ct141v4 := memo_good ct141g3 ct141g3 ct141t4
noncomputable def ct141o5 : List (List V) := [ck153]
noncomputable def ct141r5 : Rec := ⟨90, [.g [.sl (q 1048) 0 1 1, .sl (q 1122) 0 6 4, .sl (q 1386) 0 6 6, .sl (q 1394) 0 1 4, .s (T 3 0x727269), .sl (q 1400) 0 1 3, .s0, .s0, .sl (q 1404) 0 3 1, .sl (q 1408) 0 3 1, I 1, I 2]], q 1410, rnL 1002 (N [1048, 1122, 1386, 1394, 1400, 1404, 1408, 1046, 1051, 1055, 1059, 1065, 1071, 1075, 1079, 1085, 1091, 1095, 1099, 1105, 1111, 1113, 1119, 1151, 1179, 1231, 1267, 1295, 1383, 1062, 1082, 1102, 1116]) ct141o2, N [2370], .u [.sl (q 1410) 0 1 1224, .n0], ct141o5⟩
set_option maxRecDepth 1000000 in
theorem ct141t5 : memoT ct141v4 ct141r5 = true := by kernel_rfl
noncomputable def ct141v5 : Ov := memoOv ct141r5 ct141v4
theorem ct141g5 {ν : Nat → Int} : OvGood ν ct141v5 := memo_good ct141g4 ct141g4 ct141t5
noncomputable def ct141r6 : Rec := ⟨91, [.sl (q 1041) 0 1 1224], q 1042, [(q 1041, ck153)], cn2, .u [.g [.sl (q 1042) 0 1 1, .sl (q 1043) 0 6 4, .sl (q 1044) 0 6 6, .sl (q 1045) 0 1 4, .s (T 3 0x727269), .sl (q 1046) 0 1 3, .s0, .s0, .sl (q 1047) 0 3 1, .sl (q 1048) 0 3 1, I 1, I 2], .n0], shO 1002 1042 33 ct141o2⟩
set_option maxRecDepth 1000000 in
theorem ct141t6 : memoT ct141v5 ct141r6 = true := by kernel_rfl
noncomputable def ct141v6 : Ov := memoOv ct141r6 ct141v5
theorem ct141g6 {ν : Nat → Int} : OvGood ν ct141v6 := memo_good ct141g5 ct141g5 ct141t6
noncomputable def ct141o7 : List (List V) := [ck73, ck74, [I 5, I 1, I 0], [I 0, I 0, .b false], ck75, [I 0], [.sl (q 1054) 0 1 1], ck76, ck77, [I 0, I 1, I 2, I 3], [I 0, I 0, I 0], [I 0, I 0, .b false], [I 5, I 1, I 0], [I 0, I 0, I 0], ck78, [.s (T 3 0x693e69)], [I 5], [I 0, I 1], ck61, ck79, [I 5], [I 2, I 1], ck61, ck80, [I 5], [I 3, I 1], ck61, ck81, [I 4], [.s (T 3 0x693e69)], ck82, ck66, ck67, ck68, ck69, ck70, ck152, [I 5], [I 5], [I 5], [I 0], [I 2], [I 3], [I 4]]
noncomputable def ct141r7 : Rec := ⟨21, [.g [.sl (q 1002) 0 1 1, .sl (q 1003) 0 6 4, .sl (q 1004) 0 6 6, .sl (q 1005) 0 1 4, .s (T 3 0x727269), .sl (q 1006) 0 1 3, .s0, .s0, .sl (q 1007) 0 3 1, .sl (q 1008) 0 3 1, I 1, I 2]], q 1039, nmL 1002 ct141o2, cn3, .u [.p (q 1039) 0, .n0], ct141o7⟩
set_option maxRecDepth 1000000 in
theorem ct141t7 : memoT ct141v6 ct141r7 = true := by kernel_rfl
noncomputable def ct141v7 : Ov := memoOv ct141r7 ct141v6
theorem ct141g7 {ν : Nat → Int} : OvGood ν ct141v7 := memo_good ct141g6 ct141g6 ct141t7
set_option maxRecDepth 1000000 in
theorem ct141_ev : okv (mEv ct141v7 [] [(lowZ 0 4, 1), (lowZ 1 5, 4)] 3 [.i .i64 (.var 0), .i .i64 (.var 1), .b true] start) = some (.b true) := by kernel_rfl
theorem ct141 (x y : Int) (w : World) (hA : Tp.Asc w) (h0 : zval (fun n => match n with | 0 => x | _ => y) (lowZ 0 4) = 1) (h1 : zval (fun n => match n with | 0 => x | _ => y) (lowZ 1 5) = 4) : Calls Tryz.prog 3 #[.int .i64 x, .int .i64 y, .bool true] w (fun e w' => e = .returned (.bool true) ∧ Below w.heap.size w w') :=
  tm_true (ν := (fun n => match n with | 0 => x | _ => y)) w hA ct141g7 path_nil (norm_cons h0 (norm_cons h1 norm_nil)) ct141_ev (args := [.int .i64 x, .int .i64 y, .bool true]) (by simp [VRs, VR, zval])
end Go.Proofs.YtoinghomkcjkcaaGreatDoor
