/- TopCasts 040: its calls, and that it answers true. -/
import Derived.Test.YtoinghomkcjkcaaGreatDoorTcD
namespace Go.Proofs.YtoinghomkcjkcaaGreatDoor
set_option linter.unusedSimpArgs false
set_option linter.unusedVariables false
set_option linter.constructorNameAsVariable false
open Go Go.RowKit
open Ev
noncomputable def ct040s : List Z := Ev.app cfam (T 140 0x3b2050203a2029203020595449524f495250202c2031204c41565245544e4920282054204b534154204d4152474f52505f444e45203b2046495f444e45203b2031203d3a20792045534c45203b2032203d3a2079204e454854204c4c554e203d2072204649203b2029206620282046205341203d3a2072203b20292061202820464552203d3a2066203b2046)
noncomputable def ct040o0 : List (List V) := [ck0, ck1, ck2, [.s (T 1 0x46)], ck3, ck4, ck5, ck6, [.s (T 1 0x46)], ck7, ck126, ck9, ck10, ck10, ck11, ck12, ck10, ck13, ck10, ck14, ck10, ck15, ck16, ck127, ck18, ck19, ck20, ck21, ck22, ck23, ck24, ck25, ck26, ck27, ck28, ck29, ck30, ck31, ck32, ck33, ck34, ck35, ck36, ck31, ck35]
noncomputable def ct040r0 : Rec := ⟨23, [.s ct040s], q 1004, [], cn0, .u [.g [.sl (q 1004) 0 11 7], .sl (q 1005) 0 1 7, .n0], ct040o0⟩
set_option maxRecDepth 1000000 in
theorem ct040t0 : memoT sOv ct040r0 = true := by kernel_rfl
noncomputable def ct040v0 : Ov := memoOv ct040r0 sOv
theorem ct040g0 {ν : Nat → Int} : OvGood ν ct040v0 := memo_good sOv_good sOv_good ct040t0
noncomputable def ct040o1 : List (List V) := [ck37, ck38, [.s (T 1 0x46)], ck3, ck39, ck40, ck41, [.s (T 1 0x46)], ck42, ck126, ck43, ck10, ck10, ck44, ck45, ck10, ck46, ck10, ck47, ck10, ck48, ck16, ck128, ck50, ck51, ck52, ck53, ck20, ck54, ck22, ck55, ck26, ck27, ck56, ck57, ck30, ck31, ck32, ck33, ck58, ck35, ck36, ck31, ck35]
noncomputable def ct040r1 : Rec := ⟨14, [.s ct040s], q 1003, [], cn1, .u [.g [.sl (q 1003) 0 11 7], .s0], ct040o1⟩
set_option maxRecDepth 1000000 in
theorem ct040t1 : memoT ct040v0 ct040r1 = true := by kernel_rfl
noncomputable def ct040v1 : Ov := memoOv ct040r1 ct040v0
theorem ct040g1 {ν : Nat → Int} : OvGood ν ct040v1 := memo_good ct040g0 ct040g0 ct040t1
noncomputable def ct040o2 : List (List V) := [[.sl (q 1009) 0 1 1], ck59, ck60, [I 0, I 1, I 2, I 3], [I 0, I 0, I 0], [I 0, I 0, .b false], [I 5, I 1, I 0], [.s (T 3 0x693e69)], [I 5], [I 0, I 1], ck61, ck62, [I 5], [I 2, I 1], ck61, ck63, [I 5], [I 3, I 1], ck61, ck64, [I 4], [.s (T 3 0x693e69)], ck65, ck66, ck67, ck68, ck69, ck70, ck129, [I 0], [I 2], [I 3], [I 4]]
noncomputable def ct040r2 : Rec := ⟨12, [.s ct040s], q 1002, [], N [4094, 5317, 5649, 5461, 4087, 5337, 5556, 4092, 4140, 4283, 4286, 4366, 4428, 4605, 4608, 4702, 4780, 4992, 4995, 5105, 5232, 5235, 5315, 5839, 5980, 6351, 6733, 6835, 7389, 4364, 4700, 5103, 5313], .u [.g [.sl (q 1002) 0 1 1, .sl (q 1003) 0 6 4, .sl (q 1004) 0 6 6, .sl (q 1005) 0 1 4, .s (T 3 0x727269), .sl (q 1006) 0 1 3, .s0, .s0, .sl (q 1007) 0 3 1, .sl (q 1008) 0 3 1, I 1, I 2], .s0], ct040o2⟩
set_option maxRecDepth 1000000 in
theorem ct040t2 : memoT ct040v1 ct040r2 = true := by kernel_rfl
noncomputable def ct040v2 : Ov := memoOv ct040r2 ct040v1
theorem ct040g2 {ν : Nat → Int} : OvGood ν ct040v2 := memo_good ct040g1 ct040g1 ct040t2
noncomputable def ct040r3 : Rec := ⟨15, [.g [.sl (q 1002) 0 1 1, .sl (q 1003) 0 6 4, .sl (q 1004) 0 6 6, .sl (q 1005) 0 1 4, .s (T 3 0x727269), .sl (q 1006) 0 1 3, .s0, .s0, .sl (q 1007) 0 3 1, .sl (q 1008) 0 3 1, I 1, I 2]], q 1041, nmL 1002 ct040o2, N [], .n0, []⟩
set_option maxRecDepth 1000000 in
theorem ct040t3 : memoT ct040v2 ct040r3 = true := by kernel_rfl
noncomputable def ct040v3 : Ov := memoOv ct040r3 ct040v2
theorem ct040g3 {ν : Nat → Int} : OvGood ν ct040v3 := memo_good ct040g2 ct040g2 ct040t3
noncomputable def ct040o4 : List (List V) := [ck130]
noncomputable def ct040r4 : Rec := ⟨90, [.g [.sl (q 1002) 0 1 1, .sl (q 1003) 0 6 4, .sl (q 1004) 0 6 6, .sl (q 1005) 0 1 4, .s (T 3 0x727269), .sl (q 1006) 0 1 3, .s0, .s0, .sl (q 1007) 0 3 1, .sl (q 1008) 0 3 1, I 1, I 2]], q 1041, nmL 1002 ct040o2, N [2001], .u [.sl (q 1041) 0 1 1224, .n0], ct040o4⟩
set_option maxRecDepth 1000000 in
theorem ct040t4 : memoT ct040v3 ct040r4 = true := by kernel_rfl
noncomputable def ct040v4 : Ov := memoOv ct040r4 ct040v3
theorem ct040g4 {ν : Nat → Int} : OvGood ν ct040v4 := memo_good ct040g3 ct040g3 ct040t4
noncomputable def ct040o5 : List (List V) := [ck130]
noncomputable def ct040r5 : Rec := ⟨90, [.g [.sl (q 1048) 0 1 1, .sl (q 1122) 0 6 4, .sl (q 1386) 0 6 6, .sl (q 1394) 0 1 4, .s (T 3 0x727269), .sl (q 1400) 0 1 3, .s0, .s0, .sl (q 1404) 0 3 1, .sl (q 1408) 0 3 1, I 1, I 2]], q 1410, rnL 1002 (N [1048, 1122, 1386, 1394, 1400, 1404, 1408, 1046, 1051, 1055, 1059, 1065, 1071, 1075, 1079, 1085, 1091, 1095, 1099, 1105, 1111, 1113, 1119, 1151, 1179, 1231, 1267, 1295, 1383, 1062, 1082, 1102, 1116]) ct040o2, N [2370], .u [.sl (q 1410) 0 1 1224, .n0], ct040o5⟩
set_option maxRecDepth 1000000 in
theorem ct040t5 : memoT ct040v4 ct040r5 = true := by kernel_rfl
noncomputable def ct040v5 : Ov := memoOv ct040r5 ct040v4
theorem ct040g5 {ν : Nat → Int} : OvGood ν ct040v5 := memo_good ct040g4 ct040g4 ct040t5
noncomputable def ct040r6 : Rec := ⟨91, [.sl (q 1041) 0 1 1224], q 1042, [(q 1041, ck130)], cn2, .u [.g [.sl (q 1042) 0 1 1, .sl (q 1043) 0 6 4, .sl (q 1044) 0 6 6, .sl (q 1045) 0 1 4, .s (T 3 0x727269), .sl (q 1046) 0 1 3, .s0, .s0, .sl (q 1047) 0 3 1, .sl (q 1048) 0 3 1, I 1, I 2], .n0], shO 1002 1042 33 ct040o2⟩
set_option maxRecDepth 1000000 in
theorem ct040t6 : memoT ct040v5 ct040r6 = true := by kernel_rfl
noncomputable def ct040v6 : Ov := memoOv ct040r6 ct040v5
theorem ct040g6 {ν : Nat → Int} : OvGood ν ct040v6 := memo_good ct040g5 ct040g5 ct040t6
noncomputable def ct040o7 : List (List V) := [ck73, ck74, [I 5, I 1, I 0], [I 0, I 0, .b false], ck75, [I 0], [.sl (q 1054) 0 1 1], ck76, ck77, [I 0, I 1, I 2, I 3], [I 0, I 0, I 0], [I 0, I 0, .b false], [I 5, I 1, I 0], [I 0, I 0, I 0], ck78, [.s (T 3 0x693e69)], [I 5], [I 0, I 1], ck61, ck79, [I 5], [I 2, I 1], ck61, ck80, [I 5], [I 3, I 1], ck61, ck81, [I 4], [.s (T 3 0x693e69)], ck82, ck66, ck67, ck68, ck69, ck70, ck129, [I 5], [I 5], [I 5], [I 0], [I 2], [I 3], [I 4]]
noncomputable def ct040r7 : Rec := ⟨21, [.g [.sl (q 1002) 0 1 1, .sl (q 1003) 0 6 4, .sl (q 1004) 0 6 6, .sl (q 1005) 0 1 4, .s (T 3 0x727269), .sl (q 1006) 0 1 3, .s0, .s0, .sl (q 1007) 0 3 1, .sl (q 1008) 0 3 1, I 1, I 2]], q 1039, nmL 1002 ct040o2, cn3, .u [.p (q 1039) 0, .n0], ct040o7⟩
set_option maxRecDepth 1000000 in
theorem ct040t7 : memoT ct040v6 ct040r7 = true := by kernel_rfl
noncomputable def ct040v7 : Ov := memoOv ct040r7 ct040v6
theorem ct040g7 {ν : Nat → Int} : OvGood ν ct040v7 := memo_good ct040g6 ct040g6 ct040t7
set_option maxRecDepth 1000000 in
theorem ct040_ev : okv (mEv ct040v7 [] [(lowZ 0 4, 0), (lowZ 1 5, 4)] 3 [.i .i64 (.var 0), .i .i64 (.var 1), .b false] start) = some (.b true) := by kernel_rfl
theorem ct040 (x y : Int) (w : World) (hA : Tp.Asc w) (h0 : zval (fun n => match n with | 0 => x | _ => y) (lowZ 0 4) = 0) (h1 : zval (fun n => match n with | 0 => x | _ => y) (lowZ 1 5) = 4) : Calls Tryz.prog 3 #[.int .i64 x, .int .i64 y, .bool false] w (fun e w' => e = .returned (.bool true) ∧ Below w.heap.size w w') :=
  tm_true (ν := (fun n => match n with | 0 => x | _ => y)) w hA ct040g7 path_nil (norm_cons h0 (norm_cons h1 norm_nil)) ct040_ev (args := [.int .i64 x, .int .i64 y, .bool false]) (by simp [VRs, VR, zval])
end Go.Proofs.YtoinghomkcjkcaaGreatDoor
/- TopCasts 041: its calls, and that it answers true. -/
namespace Go.Proofs.YtoinghomkcjkcaaGreatDoor
set_option linter.unusedSimpArgs false
set_option linter.unusedVariables false
set_option linter.constructorNameAsVariable false
open Go Go.RowKit
open Ev
noncomputable def ct041s : List Z := Ev.app cfam (T 131 0x3b2050203a2029203020595449524f495250202c2031204c41565245544e4920282054204b534154204d4152474f52505f444e45203b2046495f444e45203b2031203d3a20792045534c45203b2032203d3a2079204e454854204c4c554e203d2072204649203b2066203d3f2072203b20292061202820464552203d3a2066203b2046)
noncomputable def ct041o0 : List (List V) := [ck0, ck83, ck2, [.s (T 1 0x46)], ck3, ck4, ck5, ck6, [.s (T 1 0x46)], ck7, ck126, ck84, ck10, ck10, ck11, ck12, ck10, ck13, ck10, ck14, ck10, ck15, ck16, ck26, ck85, ck86, ck87, ck88, ck89, ck90, ck91, ck92, ck27, ck57, ck28, ck30, ck31, ck32, ck33, ck93, ck35, ck36, ck31, ck35]
noncomputable def ct041r0 : Rec := ⟨23, [.s ct041s], q 1004, [], cn4, .u [.g [.sl (q 1004) 0 11 7], .sl (q 1005) 0 1 7, .n0], ct041o0⟩
set_option maxRecDepth 1000000 in
theorem ct041t0 : memoT sOv ct041r0 = true := by kernel_rfl
noncomputable def ct041v0 : Ov := memoOv ct041r0 sOv
theorem ct041g0 {ν : Nat → Int} : OvGood ν ct041v0 := memo_good sOv_good sOv_good ct041t0
noncomputable def ct041o1 : List (List V) := [ck37, ck38, [.s (T 1 0x46)], ck3, ck39, ck40, ck41, [.s (T 1 0x46)], ck42, ck126, ck94, ck10, ck10, ck44, ck45, ck10, ck46, ck10, ck47, ck10, ck48, ck16, ck26, ck95, ck96, ck97, ck98, ck87, ck99, ck89, ck100, ck27, ck101, ck56, ck30, ck31, ck32, ck33, ck102, ck35, ck36, ck31, ck35]
noncomputable def ct041r1 : Rec := ⟨14, [.s ct041s], q 1003, [], cn5, .u [.g [.sl (q 1003) 0 11 7], .s0], ct041o1⟩
set_option maxRecDepth 1000000 in
theorem ct041t1 : memoT ct041v0 ct041r1 = true := by kernel_rfl
noncomputable def ct041v1 : Ov := memoOv ct041r1 ct041v0
theorem ct041g1 {ν : Nat → Int} : OvGood ν ct041v1 := memo_good ct041g0 ct041g0 ct041t1
noncomputable def ct041o2 : List (List V) := [[.sl (q 1009) 0 1 1], ck59, ck60, [I 0, I 1, I 2, I 3], [I 0, I 0, I 0], [I 0, I 0, .b false], [I 5, I 1, I 0], [.s (T 3 0x693e69)], [I 5], [I 0, I 1], ck61, ck62, [I 5], [I 2, I 1], ck61, ck63, [I 5], [I 3, I 1], ck61, ck64, [I 4], [.s (T 3 0x693e69)], ck65, ck66, ck67, ck68, ck69, ck70, ck131, [I 0], [I 2], [I 3], [I 4]]
noncomputable def ct041r2 : Rec := ⟨12, [.s ct041s], q 1002, [], N [4079, 5302, 5634, 5446, 4072, 5322, 5541, 4077, 4125, 4268, 4271, 4351, 4413, 4590, 4593, 4687, 4765, 4977, 4980, 5090, 5217, 5220, 5300, 5824, 5965, 6336, 6718, 6820, 7371, 4349, 4685, 5088, 5298], .u [.g [.sl (q 1002) 0 1 1, .sl (q 1003) 0 6 4, .sl (q 1004) 0 6 6, .sl (q 1005) 0 1 4, .s (T 3 0x727269), .sl (q 1006) 0 1 3, .s0, .s0, .sl (q 1007) 0 3 1, .sl (q 1008) 0 3 1, I 1, I 2], .s0], ct041o2⟩
set_option maxRecDepth 1000000 in
theorem ct041t2 : memoT ct041v1 ct041r2 = true := by kernel_rfl
noncomputable def ct041v2 : Ov := memoOv ct041r2 ct041v1
theorem ct041g2 {ν : Nat → Int} : OvGood ν ct041v2 := memo_good ct041g1 ct041g1 ct041t2
noncomputable def ct041r3 : Rec := ⟨15, [.g [.sl (q 1002) 0 1 1, .sl (q 1003) 0 6 4, .sl (q 1004) 0 6 6, .sl (q 1005) 0 1 4, .s (T 3 0x727269), .sl (q 1006) 0 1 3, .s0, .s0, .sl (q 1007) 0 3 1, .sl (q 1008) 0 3 1, I 1, I 2]], q 1041, nmL 1002 ct041o2, N [], .n0, []⟩
set_option maxRecDepth 1000000 in
theorem ct041t3 : memoT ct041v2 ct041r3 = true := by kernel_rfl
noncomputable def ct041v3 : Ov := memoOv ct041r3 ct041v2
theorem ct041g3 {ν : Nat → Int} : OvGood ν ct041v3 := memo_good ct041g2 ct041g2 ct041t3
noncomputable def ct041o4 : List (List V) := [ck132]
noncomputable def ct041r4 : Rec := ⟨90, [.g [.sl (q 1002) 0 1 1, .sl (q 1003) 0 6 4, .sl (q 1004) 0 6 6, .sl (q 1005) 0 1 4, .s (T 3 0x727269), .sl (q 1006) 0 1 3, .s0, .s0, .sl (q 1007) 0 3 1, .sl (q 1008) 0 3 1, I 1, I 2]], q 1041, nmL 1002 ct041o2, N [2001], .u [.sl (q 1041) 0 1 1224, .n0], ct041o4⟩
set_option maxRecDepth 1000000 in
theorem ct041t4 : memoT ct041v3 ct041r4 = true := by kernel_rfl
noncomputable def ct041v4 : Ov := memoOv ct041r4 ct041v3
theorem ct041g4 {ν : Nat → Int} : OvGood ν ct041v4 := memo_good ct041g3 ct041g3 ct041t4
noncomputable def ct041o5 : List (List V) := [ck132]
noncomputable def ct041r5 : Rec := ⟨90, [.g [.sl (q 1048) 0 1 1, .sl (q 1122) 0 6 4, .sl (q 1386) 0 6 6, .sl (q 1394) 0 1 4, .s (T 3 0x727269), .sl (q 1400) 0 1 3, .s0, .s0, .sl (q 1404) 0 3 1, .sl (q 1408) 0 3 1, I 1, I 2]], q 1410, rnL 1002 (N [1048, 1122, 1386, 1394, 1400, 1404, 1408, 1046, 1051, 1055, 1059, 1065, 1071, 1075, 1079, 1085, 1091, 1095, 1099, 1105, 1111, 1113, 1119, 1151, 1179, 1231, 1267, 1295, 1383, 1062, 1082, 1102, 1116]) ct041o2, N [2370], .u [.sl (q 1410) 0 1 1224, .n0], ct041o5⟩
set_option maxRecDepth 1000000 in
theorem ct041t5 : memoT ct041v4 ct041r5 = true := by kernel_rfl
noncomputable def ct041v5 : Ov := memoOv ct041r5 ct041v4
theorem ct041g5 {ν : Nat → Int} : OvGood ν ct041v5 := memo_good ct041g4 ct041g4 ct041t5
noncomputable def ct041r6 : Rec := ⟨91, [.sl (q 1041) 0 1 1224], q 1042, [(q 1041, ck132)], cn2, .u [.g [.sl (q 1042) 0 1 1, .sl (q 1043) 0 6 4, .sl (q 1044) 0 6 6, .sl (q 1045) 0 1 4, .s (T 3 0x727269), .sl (q 1046) 0 1 3, .s0, .s0, .sl (q 1047) 0 3 1, .sl (q 1048) 0 3 1, I 1, I 2], .n0], shO 1002 1042 33 ct041o2⟩
set_option maxRecDepth 1000000 in
theorem ct041t6 : memoT ct041v5 ct041r6 = true := by kernel_rfl
noncomputable def ct041v6 : Ov := memoOv ct041r6 ct041v5
theorem ct041g6 {ν : Nat → Int} : OvGood ν ct041v6 := memo_good ct041g5 ct041g5 ct041t6
noncomputable def ct041o7 : List (List V) := [ck73, ck74, [I 5, I 1, I 0], [I 0, I 0, .b false], ck75, [I 0], [.sl (q 1054) 0 1 1], ck76, ck77, [I 0, I 1, I 2, I 3], [I 0, I 0, I 0], [I 0, I 0, .b false], [I 5, I 1, I 0], [I 0, I 0, I 0], ck78, [.s (T 3 0x693e69)], [I 5], [I 0, I 1], ck61, ck79, [I 5], [I 2, I 1], ck61, ck80, [I 5], [I 3, I 1], ck61, ck81, [I 4], [.s (T 3 0x693e69)], ck82, ck66, ck67, ck68, ck69, ck70, ck131, [I 5], [I 5], [I 5], [I 0], [I 2], [I 3], [I 4]]
noncomputable def ct041r7 : Rec := ⟨21, [.g [.sl (q 1002) 0 1 1, .sl (q 1003) 0 6 4, .sl (q 1004) 0 6 6, .sl (q 1005) 0 1 4, .s (T 3 0x727269), .sl (q 1006) 0 1 3, .s0, .s0, .sl (q 1007) 0 3 1, .sl (q 1008) 0 3 1, I 1, I 2]], q 1039, nmL 1002 ct041o2, cn3, .u [.p (q 1039) 0, .n0], ct041o7⟩
set_option maxRecDepth 1000000 in
theorem ct041t7 : memoT ct041v6 ct041r7 = true := by kernel_rfl
noncomputable def ct041v7 : Ov := memoOv ct041r7 ct041v6
theorem ct041g7 {ν : Nat → Int} : OvGood ν ct041v7 := memo_good ct041g6 ct041g6 ct041t7
set_option maxRecDepth 1000000 in
theorem ct041_ev : okv (mEv ct041v7 [] [(lowZ 0 4, 0), (lowZ 1 5, 4)] 3 [.i .i64 (.var 0), .i .i64 (.var 1), .b true] start) = some (.b true) := by kernel_rfl
theorem ct041 (x y : Int) (w : World) (hA : Tp.Asc w) (h0 : zval (fun n => match n with | 0 => x | _ => y) (lowZ 0 4) = 0) (h1 : zval (fun n => match n with | 0 => x | _ => y) (lowZ 1 5) = 4) : Calls Tryz.prog 3 #[.int .i64 x, .int .i64 y, .bool true] w (fun e w' => e = .returned (.bool true) ∧ Below w.heap.size w w') :=
  tm_true (ν := (fun n => match n with | 0 => x | _ => y)) w hA ct041g7 path_nil (norm_cons h0 (norm_cons h1 norm_nil)) ct041_ev (args := [.int .i64 x, .int .i64 y, .bool true]) (by simp [VRs, VR, zval])
end Go.Proofs.YtoinghomkcjkcaaGreatDoor
