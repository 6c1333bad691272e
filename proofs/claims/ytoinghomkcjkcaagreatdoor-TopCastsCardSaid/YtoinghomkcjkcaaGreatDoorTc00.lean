/- TopCasts 000: its calls, and that it answers true. -/
import Derived.Test.YtoinghomkcjkcaaGreatDoorTcD
namespace Go.Proofs.YtoinghomkcjkcaaGreatDoor
set_option linter.unusedSimpArgs false
set_option linter.unusedVariables false
set_option linter.constructorNameAsVariable false
open Go Go.RowKit
open Ev
noncomputable def ct000s : List Z := Ev.app cfam (T 140 0x3b2050203a2029203020595449524f495250202c2031204c41565245544e4920282054204b534154204d4152474f52505f444e45203b2046495f444e45203b2031203d3a20792045534c45203b2032203d3a2079204e454854204c4c554e203d2072204649203b2029206620282041205341203d3a2072203b20292061202820464552203d3a2066203b2041)
noncomputable def ct000o0 : List (List V) := [ck0, ck1, ck2, [.s (T 1 0x46)], ck3, ck4, ck5, ck6, [.s (T 1 0x46)], ck7, ck8, ck9, ck10, ck10, ck11, ck12, ck10, ck13, ck10, ck14, ck10, ck15, ck16, ck17, ck18, ck19, ck20, ck21, ck22, ck23, ck24, ck25, ck26, ck27, ck28, ck29, ck30, ck31, ck32, ck33, ck34, ck35, ck36, ck31, ck35]
noncomputable def ct000r0 : Rec := ⟨23, [.s ct000s], q 1004, [], cn0, .u [.g [.sl (q 1004) 0 11 7], .sl (q 1005) 0 1 7, .n0], ct000o0⟩
set_option maxRecDepth 1000000 in
theorem ct000t0 : memoT sOv ct000r0 = true := by kernel_rfl
noncomputable def ct000v0 : Ov := memoOv ct000r0 sOv
theorem ct000g0 {ν : Nat → Int} : OvGood ν ct000v0 := memo_good sOv_good sOv_good ct000t0
noncomputable def ct000o1 : List (List V) := [ck37, ck38, [.s (T 1 0x46)], ck3, ck39, ck40, ck41, [.s (T 1 0x46)], ck42, ck8, ck43, ck10, ck10, ck44, ck45, ck10, ck46, ck10, ck47, ck10, ck48, ck16, ck49, ck50, ck51, ck52, ck53, ck20, ck54, ck22, ck55, ck26, ck27, ck56, ck57, ck30, ck31, ck32, ck33, ck58, ck35, ck36, ck31, ck35]
noncomputable def ct000r1 : Rec := ⟨14, [.s ct000s], q 1003, [], cn1, .u [.g [.sl (q 1003) 0 11 7], .s0], ct000o1⟩
set_option maxRecDepth 1000000 in
theorem ct000t1 : memoT ct000v0 ct000r1 = true := by kernel_rfl
noncomputable def ct000v1 : Ov := memoOv ct000r1 ct000v0
theorem ct000g1 {ν : Nat → Int} : OvGood ν ct000v1 := memo_good ct000g0 ct000g0 ct000t1
noncomputable def ct000o2 : List (List V) := [[.sl (q 1009) 0 1 1], ck59, ck60, [I 0, I 1, I 2, I 3], [I 0, I 0, I 0], [I 0, I 0, .b false], [I 5, I 1, I 0], [.s (T 3 0x693e69)], [I 5], [I 0, I 1], ck61, ck62, [I 5], [I 2, I 1], ck61, ck63, [I 5], [I 3, I 1], ck61, ck64, [I 4], [.s (T 3 0x693e69)], ck65, ck66, ck67, ck68, ck69, ck70, ck71, [I 0], [I 2], [I 3], [I 4]]
noncomputable def ct000r2 : Rec := ⟨12, [.s ct000s], q 1002, [], N [4096, 5319, 5651, 5463, 4089, 5339, 5558, 4094, 4142, 4285, 4288, 4368, 4430, 4607, 4610, 4704, 4782, 4994, 4997, 5107, 5234, 5237, 5317, 5841, 5982, 6353, 6735, 6837, 7393, 4366, 4702, 5105, 5315], .u [.g [.sl (q 1002) 0 1 1, .sl (q 1003) 0 6 4, .sl (q 1004) 0 6 6, .sl (q 1005) 0 1 4, .s (T 3 0x727269), .sl (q 1006) 0 1 3, .s0, .s0, .sl (q 1007) 0 3 1, .sl (q 1008) 0 3 1, I 1, I 2], .s0], ct000o2⟩
set_option maxRecDepth 1000000 in
theorem ct000t2 : memoT ct000v1 ct000r2 = true := by kernel_rfl
noncomputable def ct000v2 : Ov := memoOv ct000r2 ct000v1
theorem ct000g2 {ν : Nat → Int} : OvGood ν ct000v2 := memo_good ct000g1 ct000g1 ct000t2
noncomputable def ct000r3 : Rec := ⟨15, [.g [.sl (q 1002) 0 1 1, .sl (q 1003) 0 6 4, .sl (q 1004) 0 6 6, .sl (q 1005) 0 1 4, .s (T 3 0x727269), .sl (q 1006) 0 1 3, .s0, .s0, .sl (q 1007) 0 3 1, .sl (q 1008) 0 3 1, I 1, I 2]], q 1041, nmL 1002 ct000o2, N [], .n0, []⟩
set_option maxRecDepth 1000000 in
theorem ct000t3 : memoT ct000v2 ct000r3 = true := by kernel_rfl
noncomputable def ct000v3 : Ov := memoOv ct000r3 ct000v2
theorem ct000g3 {ν : Nat → Int} : OvGood ν ct000v3 := memo_good ct000g2 ct000g2 ct000t3
noncomputable def ct000o4 : List (List V) := [ck72]
noncomputable def ct000r4 : Rec := ⟨90, [.g [.sl (q 1002) 0 1 1, .sl (q 1003) 0 6 4, .sl (q 1004) 0 6 6, .sl (q 1005) 0 1 4, .s (T 3 0x727269), .sl (q 1006) 0 1 3, .s0, .s0, .sl (q 1007) 0 3 1, .sl (q 1008) 0 3 1, I 1, I 2]], q 1041, nmL 1002 ct000o2, N [2001], .u [.sl (q 1041) 0 1 1224, .n0], ct000o4⟩
set_option maxRecDepth 1000000 in
theorem ct000t4 : memoT ct000v3 ct000r4 = true := by kernel_rfl
noncomputable def ct000v4 : Ov := memoOv ct000r4 ct000v3
theorem ct000g4 {ν : Nat → Int} : OvGood ν ct000v4 := memo_good ct000g3 ct000g3 ct000t4
noncomputable def ct000o5 : List (List V) := [ck72]
noncomputable def ct000r5 : Rec := ⟨90, [.g [.sl (q 1048) 0 1 1, .sl (q 1122) 0 6 4, .sl (q 1386) 0 6 6, .sl (q 1394) 0 1 4, .s (T 3 0x727269), .sl (q 1400) 0 1 3, .s0, .s0, .sl (q 1404) 0 3 1, .sl (q 1408) 0 3 1, I 1, I 2]], q 1410, rnL 1002 (N [1048, 1122, 1386, 1394, 1400, 1404, 1408, 1046, 1051, 1055, 1059, 1065, 1071, 1075, 1079, 1085, 1091, 1095, 1099, 1105, 1111, 1113, 1119, 1151, 1179, 1231, 1267, 1295, 1383, 1062, 1082, 1102, 1116]) ct000o2, N [2370], .u [.sl (q 1410) 0 1 1224, .n0], ct000o5⟩
set_option maxRecDepth 1000000 in
theorem ct000t5 : memoT ct000v4 ct000r5 = true := by kernel_rfl
noncomputable def ct000v5 : Ov := memoOv ct000r5 ct000v4
theorem ct000g5 {ν : Nat → Int} : OvGood ν ct000v5 := memo_good ct000g4 ct000g4 ct000t5
noncomputable def ct000r6 : Rec := ⟨91, [.sl (q 1041) 0 1 1224], q 1042, [(q 1041, ck72)], cn2, .u [.g [.sl (q 1042) 0 1 1, .sl (q 1043) 0 6 4, .sl (q 1044) 0 6 6, .sl (q 1045) 0 1 4, .s (T 3 0x727269), .sl (q 1046) 0 1 3, .s0, .s0, .sl (q 1047) 0 3 1, .sl (q 1048) 0 3 1, I 1, I 2], .n0], shO 1002 1042 33 ct000o2⟩
set_option maxRecDepth 1000000 in
theorem ct000t6 : memoT ct000v5 ct000r6 = true := by kernel_rfl
noncomputable def ct000v6 : Ov := memoOv ct000r6 ct000v5
theorem ct000g6 {ν : Nat → Int} : OvGood ν ct000v6 := memo_good ct000g5 ct000g5 ct000t6
noncomputable def ct000o7 : List (List V) := [ck73, ck74, [I 5, I 1, I 0], [I 0, I 0, .b false], ck75, [I 0], [.sl (q 1054) 0 1 1], ck76, ck77, [I 0, I 1, I 2, I 3], [I 0, I 0, I 0], [I 0, I 0, .b false], [I 5, I 1, I 0], [I 0, I 0, I 0], ck78, [.s (T 3 0x693e69)], [I 5], [I 0, I 1], ck61, ck79, [I 5], [I 2, I 1], ck61, ck80, [I 5], [I 3, I 1], ck61, ck81, [I 4], [.s (T 3 0x693e69)], ck82, ck66, ck67, ck68, ck69, ck70, ck71, [I 5], [I 5], [I 5], [I 0], [I 2], [I 3], [I 4]]
noncomputable def ct000r7 : Rec := ⟨21, [.g [.sl (q 1002) 0 1 1, .sl (q 1003) 0 6 4, .sl (q 1004) 0 6 6, .sl (q 1005) 0 1 4, .s (T 3 0x727269), .sl (q 1006) 0 1 3, .s0, .s0, .sl (q 1007) 0 3 1, .sl (q 1008) 0 3 1, I 1, I 2]], q 1039, nmL 1002 ct000o2, cn3, .u [.p (q 1039) 0, .n0], ct000o7⟩
set_option maxRecDepth 1000000 in
theorem ct000t7 : memoT ct000v6 ct000r7 = true := by kernel_rfl
noncomputable def ct000v7 : Ov := memoOv ct000r7 ct000v6
theorem ct000g7 {ν : Nat → Int} : OvGood ν ct000v7 := memo_good ct000g6 ct000g6 ct000t7
set_option maxRecDepth 1000000 in
theorem ct000_ev : okv (mEv ct000v7 [] [(lowZ 0 4, 0), (lowZ 1 5, 0)] 3 [.i .i64 (.var 0), .i .i64 (.var 1), .b false] start) = some (.b true) := by kernel_rfl
theorem ct000 (x y : Int) (w : World) (hA : Tp.Asc w) (h0 : zval (fun n => match n with | 0 => x | _ => y) (lowZ 0 4) = 0) (h1 : zval (fun n => match n with | 0 => x | _ => y) (lowZ 1 5) = 0) : Calls Tryz.prog 3 #[.int .i64 x, .int .i64 y, .bool false] w (fun e w' => e = .returned (.bool true) ∧ Below w.heap.size w w') :=
  tm_true (ν := (fun n => match n with | 0 => x | _ => y)) w hA ct000g7 path_nil (norm_cons h0 (norm_cons h1 norm_nil)) ct000_ev (args := [.int .i64 x, .int .i64 y, .bool false]) (by simp [VRs, VR, zval])
end Go.Proofs.YtoinghomkcjkcaaGreatDoor
/- TopCasts 001: its calls, and that it answers true. -/
namespace Go.Proofs.YtoinghomkcjkcaaGreatDoor
set_option linter.unusedSimpArgs false
set_option linter.unusedVariables false
set_option linter.constructorNameAsVariable false
open Go Go.RowKit
open Ev
noncomputable def ct001s : List Z := Ev.app cfam (T 131 0x3b2050203a2029203020595449524f495250202c2031204c41565245544e4920282054204b534154204d4152474f52505f444e45203b2046495f444e45203b2031203d3a20792045534c45203b2032203d3a2079204e454854204c4c554e203d2072204649203b2066203d3f2072203b20292061202820464552203d3a2066203b2041)
noncomputable def ct001o0 : List (List V) := [ck0, ck83, ck2, [.s (T 1 0x46)], ck3, ck4, ck5, ck6, [.s (T 1 0x46)], ck7, ck8, ck84, ck10, ck10, ck11, ck12, ck10, ck13, ck10, ck14, ck10, ck15, ck16, ck26, ck85, ck86, ck87, ck88, ck89, ck90, ck91, ck92, ck27, ck57, ck28, ck30, ck31, ck32, ck33, ck93, ck35, ck36, ck31, ck35]
noncomputable def ct001r0 : Rec := ⟨23, [.s ct001s], q 1004, [], cn4, .u [.g [.sl (q 1004) 0 11 7], .sl (q 1005) 0 1 7, .n0], ct001o0⟩
set_option maxRecDepth 1000000 in
theorem ct001t0 : memoT sOv ct001r0 = true := by kernel_rfl
noncomputable def ct001v0 : Ov := memoOv ct001r0 sOv
theorem ct001g0 {ν : Nat → Int} : OvGood ν ct001v0 := memo_good sOv_good sOv_good ct001t0
noncomputable def ct001o1 : List (List V) := [ck37, ck38, [.s (T 1 0x46)], ck3, ck39, ck40, ck41, [.s (T 1 0x46)], ck42, ck8, ck94, ck10, ck10, ck44, ck45, ck10, ck46, ck10, ck47, ck10, ck48, ck16, ck26, ck95, ck96, ck97, ck98, ck87, ck99, ck89, ck100, ck27, ck101, ck56, ck30, ck31, ck32, ck33, ck102, ck35, ck36, ck31, ck35]
noncomputable def ct001r1 : Rec := ⟨14, [.s ct001s], q 1003, [], cn5, .u [.g [.sl (q 1003) 0 11 7], .s0], ct001o1⟩
set_option maxRecDepth 1000000 in
theorem ct001t1 : memoT ct001v0 ct001r1 = true := by kernel_rfl
noncomputable def ct001v1 : Ov := memoOv ct001r1 ct001v0
theorem ct001g1 {ν : Nat → Int} : OvGood ν ct001v1 := memo_good ct001g0 ct001g0 ct001t1
noncomputable def ct001o2 : List (List V) := [[.sl (q 1009) 0 1 1], ck59, ck60, [I 0, I 1, I 2, I 3], [I 0, I 0, I 0], [I 0, I 0, .b false], [I 5, I 1, I 0], [.s (T 3 0x693e69)], [I 5], [I 0, I 1], ck61, ck62, [I 5], [I 2, I 1], ck61, ck63, [I 5], [I 3, I 1], ck61, ck64, [I 4], [.s (T 3 0x693e69)], ck65, ck66, ck67, ck68, ck69, ck70, ck103, [I 0], [I 2], [I 3], [I 4]]
noncomputable def ct001r2 : Rec := ⟨12, [.s ct001s], q 1002, [], N [4080, 5303, 5635, 5447, 4073, 5323, 5542, 4078, 4126, 4269, 4272, 4352, 4414, 4591, 4594, 4688, 4766, 4978, 4981, 5091, 5218, 5221, 5301, 5825, 5966, 6337, 6719, 6821, 7374, 4350, 4686, 5089, 5299], .u [.g [.sl (q 1002) 0 1 1, .sl (q 1003) 0 6 4, .sl (q 1004) 0 6 6, .sl (q 1005) 0 1 4, .s (T 3 0x727269), .sl (q 1006) 0 1 3, .s0, .s0, .sl (q 1007) 0 3 1, .sl (q 1008) 0 3 1, I 1, I 2], .s0], ct001o2⟩
set_option maxRecDepth 1000000 in
theorem ct001t2 : memoT ct001v1 ct001r2 = true := by kernel_rfl
noncomputable def ct001v2 : Ov := memoOv ct001r2 ct001v1
theorem ct001g2 {ν : Nat → Int} : OvGood ν ct001v2 := memo_good ct001g1 ct001g1 ct001t2
noncomputable def ct001r3 : Rec := ⟨15, [.g [.sl (q 1002) 0 1 1, .sl (q 1003) 0 6 4, .sl (q 1004) 0 6 6, .sl (q 1005) 0 1 4, .s (T 3 0x727269), .sl (q 1006) 0 1 3, .s0, .s0, .sl (q 1007) 0 3 1, .sl (q 1008) 0 3 1, I 1, I 2]], q 1041, nmL 1002 ct001o2, N [], .n0, []⟩
set_option maxRecDepth 1000000 in
theorem ct001t3 : memoT ct001v2 ct001r3 = true := by kernel_rfl
noncomputable def ct001v3 : Ov := memoOv ct001r3 ct001v2
theorem ct001g3 {ν : Nat → Int} : OvGood ν ct001v3 := memo_good ct001g2 ct001g2 ct001t3
noncomputable def ct001o4 : List (List V) := [ck104]
noncomputable def ct001r4 : Rec := ⟨90, [.g [.sl (q 1002) 0 1 1, .sl (q 1003) 0 6 4, .sl (q 1004) 0 6 6, .sl (q 1005) 0 1 4, .s (T 3 0x727269), .sl (q 1006) 0 1 3, .s0, .s0, .sl (q 1007) 0 3 1, .sl (q 1008) 0 3 1, I 1, I 2]], q 1041, nmL 1002 ct001o2, N [2001], .u [.sl (q 1041) 0 1 1224, .n0], ct001o4⟩
set_option maxRecDepth 1000000 in
theorem ct001t4 : memoT ct001v3 ct001r4 = true := by kernel_rfl
noncomputable def ct001v4 : Ov := memoOv ct001r4 ct001v3
theorem ct001g4 {ν : Nat → Int} : OvGood ν ct001v4 := memo_good ct001g3 ct001g3 ct001t4
noncomputable def ct001o5 : List (List V) := [ck104]
noncomputable def ct001r5 : Rec := ⟨90, [.g [.sl (q 1048) 0 1 1, .sl (q 1122) 0 6 4, .sl (q 1386) 0 6 6, .sl (q 1394) 0 1 4, .s (T 3 0x727269), .sl (q 1400) 0 1 3, .s0, .s0, .sl (q 1404) 0 3 1, .sl (q 1408) 0 3 1, I 1, I 2]], q 1410, rnL 1002 (N [1048, 1122, 1386, 1394, 1400, 1404, 1408, 1046, 1051, 1055, 1059, 1065, 1071, 1075, 1079, 1085, 1091, 1095, 1099, 1105, 1111, 1113, 1119, 1151, 1179, 1231, 1267, 1295, 1383, 1062, 1082, 1102, 1116]) ct001o2, N [2370], .u [.sl (q 1410) 0 1 1224, .n0], ct001o5⟩
set_option maxRecDepth 1000000 in
theorem ct001t5 : memoT ct001v4 ct001r5 = true := by kernel_rfl
noncomputable def ct001v5 : Ov := memoOv ct001r5 ct001v4
theorem ct001g5 {ν : Nat → Int} : OvGood ν ct001v5 := memo_good ct001g4 ct001g4 ct001t5
noncomputable def ct001r6 : Rec := ⟨91, [.sl (q 1041) 0 1 1224], q 1042, [(q 1041, ck104)], cn2, .u [.g [.sl (q 1042) 0 1 1, .sl (q 1043) 0 6 4, .sl (q 1044) 0 6 6, .sl (q 1045) 0 1 4, .s (T 3 0x727269), .sl (q 1046) 0 1 3, .s0, .s0, .sl (q 1047) 0 3 1, .sl (q 1048) 0 3 1, I 1, I 2], .n0], shO 1002 1042 33 ct001o2⟩
set_option maxRecDepth 1000000 in
theorem ct001t6 : memoT ct001v5 ct001r6 = true := by kernel_rfl
noncomputable def ct001v6 : Ov := memoOv ct001r6 ct001v5
theorem ct001g6 {ν : Nat → Int} : OvGood ν ct001v6 := memo_good ct001g5 ct001g5 ct001t6
noncomputable def ct001o7 : List (List V) := [ck73, ck74, [I 5, I 1, I 0], [I 0, I 0, .b false], ck75, [I 0], [.sl (q 1054) 0 1 1], ck76, ck77, [I 0, I 1, I 2, I 3], [I 0, I 0, I 0], [I 0, I 0, .b false], [I 5, I 1, I 0], [I 0, I 0, I 0], ck78, [.s (T 3 0x693e69)], [I 5], [I 0, I 1], ck61, ck79, [I 5], [I 2, I 1], ck61, ck80, [I 5], [I 3, I 1], ck61, ck81, [I 4], [.s (T 3 0x693e69)], ck82, ck66, ck67, ck68, ck69, ck70, ck103, [I 5], [I 5], [I 5], [I 0], [I 2], [I 3], [I 4]]
noncomputable def ct001r7 : Rec := ⟨21, [.g [.sl (q 1002) 0 1 1, .sl (q 1003) 0 6 4, .sl (q 1004) 0 6 6, .sl (q 1005) 0 1 4, .s (T 3 0x727269), .sl (q 1006) 0 1 3, .s0, .s0, .sl (q 1007) 0 3 1, .sl (q 1008) 0 3 1, I 1, I 2]], q 1039, nmL 1002 ct001o2, cn3, .u [.p (q 1039) 0, .n0], ct001o7⟩
set_option maxRecDepth 1000000 in
theorem ct001t7 : memoT ct001v6 ct001r7 = true := by kernel_rfl
noncomputable def ct001v7 : Ov := memoOv ct001r7 ct001v6
theorem ct001g7 {ν : Nat → Int} : OvGood ν ct001v7 := memo_good ct001g6 ct001g6 ct001t7
set_option maxRecDepth 1000000 in
theorem ct001_ev : okv (mEv ct001v7 [] [(lowZ 0 4, 0), (lowZ 1 5, 0)] 3 [.i .i64 (.var 0), .i .i64 (.var 1), .b true] start) = some (.b true) := by kernel_rfl
theorem ct001 (x y : Int) (w : World) (hA : Tp.Asc w) (h0 : zval (fun n => match n with | 0 => x | _ => y) (lowZ 0 4) = 0) (h1 : zval (fun n => match n with | 0 => x | _ => y) (lowZ 1 5) = 0) : Calls Tryz.prog 3 #[.int .i64 x, .int .i64 y, .bool true] w (fun e w' => e = .returned (.bool true) ∧ Below w.heap.size w w') :=
  tm_true (ν := (fun n => match n with | 0 => x | _ => y)) w hA ct001g7 path_nil (norm_cons h0 (norm_cons h1 norm_nil)) ct001_ev (args := [.int .i64 x, .int .i64 y, .bool true]) (by simp [VRs, VR, zval])
end Go.Proofs.YtoinghomkcjkcaaGreatDoor
