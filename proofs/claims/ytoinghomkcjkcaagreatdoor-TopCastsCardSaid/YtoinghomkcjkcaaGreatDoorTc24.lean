/- TopCasts 240: its calls, and that it answers true. -/
import Derived.Test.YtoinghomkcjkcaaGreatDoorTcD
namespace Go.Proofs.YtoinghomkcjkcaaGreatDoor
set_option linter.unusedSimpArgs false
set_option linter.unusedVariables false
set_option linter.constructorNameAsVariable false
open Go Go.RowKit
open Ev
noncomputable def ct240s : List Z := Ev.app cfam (T 140 0x3b2050203a2029203020595449524f495250202c2031204c41565245544e4920282054204b534154204d4152474f52505f444e45203b2046495f444e45203b2031203d3a20792045534c45203b2032203d3a2079204e454854204c4c554e203d2072204649203b2029206620282046205341203d3a2072203b20292063202820464552203d3a2066203b2046)
noncomputable def ct240o0 : List (List V) := [ck0, ck1, ck2, [.s (T 1 0x46)], ck3, ck4, ck5, ck6, [.s (T 1 0x46)], ck7, ck126, ck9, ck10, ck10, ck11, ck12, ck10, ck13, ck10, ck14, ck10, ck15, ck154, ck127, ck18, ck19, ck20, ck21, ck22, ck23, ck24, ck25, ck26, ck27, ck28, ck29, ck30, ck31, ck32, ck33, ck34, ck35, ck36, ck31, ck35]
noncomputable def ct240r0 : Rec := ⟨23, [.s ct240s], q 1004, [], cn0, .u [.g [.sl (q 1004) 0 11 7], .sl (q 1005) 0 1 7, .n0], ct240o0⟩
set_option maxRecDepth 1000000 in
theorem ct240t0 : memoT sOv ct240r0 = true := by kernel_rfl
noncomputable def ct240v0 : Ov := memoOv ct240r0 sOv
theorem ct240g0 {ν : Nat → Int} : OvGood ν ct240v0 := memo_good sOv_good sOv_good ct240t0
noncomputable def ct240o1 : List (List V) := [ck37, ck38, [.s (T 1 0x46)], ck3, ck39, ck40, ck41, [.s (T 1 0x46)], ck42, ck126, ck43, ck10, ck10, ck44, ck45, ck10, ck46, ck10, ck47, ck10, ck48, ck154, ck128, ck50, ck51, ck52, ck53, ck20, ck54, ck22, ck55, ck26, ck27, ck56, ck57, ck30, ck31, ck32, ck33, ck58, ck35, ck36, ck31, ck35]
noncomputable def ct240r1 : Rec := ⟨14, [.s ct240s], q 1003, [], cn1, .u [.g [.sl (q 1003) 0 11 7], .s0], ct240o1⟩
set_option maxRecDepth 1000000 in
theorem ct240t1 : memoT ct240v0 ct240r1 = true := by kernel_rfl
noncomputable def ct240v1 : Ov := memoOv ct240r1 ct240v0
theorem ct240g1 {ν : Nat → Int} : OvGood ν ct240v1 := memo_good ct240g0 ct240g0 ct240t1
noncomputable def ct240o2 : List (List V) := [[.sl (q 1009) 0 1 1], ck59, ck60, [I 0, I 1, I 2, I 3], [I 0, I 0, I 0], [I 0, I 0, .b false], [I 5, I 1, I 0], [.s (T 3 0x693e69)], [I 5], [I 0, I 1], ck61, ck62, [I 5], [I 2, I 1], ck61, ck63, [I 5], [I 3, I 1], ck61, ck64, [I 4], [.s (T 3 0x693e69)], ck65, ck66, ck67, ck68, ck69, ck70, ck171, [I 0], [I 2], [I 3], [I 4]]
noncomputable def ct240r2 : Rec := ⟨12, [.s ct240s], q 1002, [], N [4128, 5351, 5683, 5495, 4121, 5371, 5590, 4126, 4174, 4317, 4320, 4400, 4462, 4639, 4642, 4736, 4814, 5026, 5029, 5139, 5266, 5269, 5349, 5873, 6014, 6385, 6767, 6869, 7427, 4398, 4734, 5137, 5347], .u [.g [.sl (q 1002) 0 1 1, .sl (q 1003) 0 6 4, .sl (q 1004) 0 6 6, .sl (q 1005) 0 1 4, .s (T 3 0x727269), .sl (q 1006) 0 1 3, .s0, .s0, .sl (q 1007) 0 3 1, .sl (q 1008) 0 3 1, I 1, I 2], .s0], ct240o2⟩
set_option maxRecDepth 1000000 in
theorem ct240t2 : memoT ct240v1 ct240r2 = true := by kernel_rfl
noncomputable def ct240v2 : Ov := memoOv ct240r2 ct240v1
theorem ct240g2 {ν : Nat → Int} : OvGood ν ct240v2 := memo_good ct240g1 ct240g1 ct240t2
noncomputable def ct240r3 : Rec := ⟨15, [.g [.sl (q 1002) 0 1 1, .sl (q 1003) 0 6 4, .sl (q 1004) 0 6 6, .sl (q 1005) 0 1 4, .s (T 3 0x727269), .sl (q 1006) 0 1 3, .s0, .s0, .sl (q 1007) 0 3 1, .sl (q 1008) 0 3 1, I 1, I 2]], q 1041, nmL 1002 ct240o2, N [], .n0, []⟩
set_option maxRecDepth 1000000 in
theorem ct240t3 : memoT ct240v2 ct240r3 = true := by kernel_rfl
noncomputable def ct240v3 : Ov := memoOv ct240r3 ct240v2
theorem ct240g3 {ν : Nat → Int} : OvGood ν ct240v3 := memo_good ct240g2 ct240g2 ct240t3
noncomputable def ct240o4 : List (List V) := [ck172]
noncomputable def ct240r4 : Rec := ⟨90, [.g [.sl (q 1002) 0 1 1, .sl (q 1003) 0 6 4, .sl (q 1004) 0 6 6, .sl (q 1005) 0 1 4, .s (T 3 0x727269), .sl (q 1006) 0 1 3, .s0, .s0, .sl (q 1007) 0 3 1, .sl (q 1008) 0 3 1, I 1, I 2]], q 1041, nmL 1002 ct240o2, N [2001], .u [.sl (q 1041) 0 1 1224, .n0], ct240o4⟩
set_option maxRecDepth 1000000 in
theorem ct240t4 : memoT ct240v3 ct240r4 = true := by kernel_rfl
noncomputable def ct240v4 : Ov := memoOv ct240r4 ct240v3
theorem ct240g4 {ν : Nat → Int} : OvGood ν ct240v4 := memo_good ct240g3 ct240g3 ct240t4
noncomputable def ct240o5 : List (List V) := [ck172]
noncomputable def ct240r5 : Rec := ⟨90, [.g [.sl (q 1048) 0 1 1, .sl (q 1122) 0 6 4, .sl (q 1386) 0 6 6, .sl (q 1394) 0 1 4, .s (T 3 0x727269), .sl (q 1400) 0 1 3, .s0, .s0, .sl (q 1404) 0 3 1, .sl (q 1408) 0 3 1, I 1, I 2]], q 1410, rnL 1002 (N [1048, 1122, 1386, 1394, 1400, 1404, 1408, 1046, 1051, 1055, 1059, 1065, 1071, 1075, 1079, 1085, 1091, 1095, 1099, 1105, 1111, 1113, 1119, 1151, 1179, 1231, 1267, 1295, 1383, 1062, 1082, 1102, 1116]) ct240o2, N [2370], .u [.sl (q 1410) 0 1 1224, .n0], ct240o5⟩
set_option maxRecDepth 1000000 in
theorem ct240t5 : memoT ct240v4 ct240r5 = true := by kernel_rfl
noncomputable def ct240v5 : Ov := memoOv ct240r5 ct240v4
theorem ct240g5 {ν : Nat → Int} : OvGood ν ct240v5 := memo_good ct240g4 ct240g4 ct240t5
noncomputable def ct240r6 : Rec := ⟨91, [.sl (q 1041) 0 1 1224], q 1042, [(q 1041, ck172)], cn2, .u [.g [.sl (q 1042) 0 1 1, .sl (q 1043) 0 6 4, .sl (q 1044) 0 6 6, .sl (q 1045) 0 1 4, .s (T 3 0x727269), .sl (q 1046) 0 1 3, .s0, .s0, .sl (q 1047) 0 3 1, .sl (q 1048) 0 3 1, I 1, I 2], .n0], shO 1002 1042 33 ct240o2⟩
set_option maxRecDepth 1000000 in
theorem ct240t6 : memoT ct240v5 ct240r6 = true := by kernel_rfl
noncomputable def ct240v6 : Ov := memoOv ct240r6 ct240v5
theorem ct240g6 {ν : Nat → Int} : OvGood ν ct240v6 := memo_good ct240g5 ct240g5 ct240t6
noncomputable def ct240o7 : List (List V) := [ck73, ck74, [I 5, I 1, I 0], [I 0, I 0, .b false], ck75, [I 0], [.sl (q 1054) 0 1 1], ck76, ck77, [I 0, I 1, I 2, I 3], [I 0, I 0, I 0], [I 0, I 0, .b false], [I 5, I 1, I 0], [I 0, I 0, I 0], ck78, [.s (T 3 0x693e69)], [I 5], [I 0, I 1], ck61, ck79, [I 5], [I 2, I 1], ck61, ck80, [I 5], [I 3, I 1], ck61, ck81, [I 4], [.s (T 3 0x693e69)], ck82, ck66, ck67, ck68, ck69, ck70, ck171, [I 5], [I 5], [I 5], [I 0], [I 2], [I 3], [I 4]]
noncomputable def ct240r7 : Rec := ⟨21, [.g [.sl (q 1002) 0 1 1, .sl (q 1003) 0 6 4, .sl (q 1004) 0 6 6, .sl (q 1005) 0 1 4, .s (T 3 0x727269), .sl (q 1006) 0 1 3, .s0, .s0, .sl (q 1007) 0 3 1, .sl (q 1008) 0 3 1, I 1, I 2]], q 1039, nmL 1002 ct240o2, cn3, .u [.p (q 1039) 0, .n0], ct240o7⟩
set_option maxRecDepth 1000000 in
theorem ct240t7 : memoT ct240v6 ct240r7 = true := by kernel_rfl
noncomputable def ct240v7 : Ov := memoOv ct240r7 ct240v6
theorem ct240g7 {ν : Nat → Int} : OvGood ν ct240v7 := memo_good ct240g6 ct240g6 ct240t7
set_option maxRecDepth 1000000 in
theorem ct240_ev : okv (mEv ct240v7 [] [(lowZ 0 4, 2), (lowZ 1 5, 4)] 3 [.i .i64 (.var 0), .i .i64 (.var 1), .b false] start) = some (.b true) := by kernel_rfl
theorem ct240 (x y : Int) (w : World) (hA : Tp.Asc w) (h0 : zval (fun n => match n with | 0 => x | _ => y) (lowZ 0 4) = 2) (h1 : zval (fun n => match n with | 0 => x | _ => y) (lowZ 1 5) = 4) : Calls Tryz.prog 3 #[.int .i64 x, .int .i64 y, .bool false] w (fun e w' => e = .returned (.bool true) ∧ Below w.heap.size w w') :=
  tm_true (ν := (fun n => match n with | 0 => x | _ => y)) w hA ct240g7 path_nil (norm_cons h0 (norm_cons h1 norm_nil)) ct240_ev (args := [.int .i64 x, .int .i64 y, .bool false]) (by simp [VRs, VR, zval])
end Go.Proofs.YtoinghomkcjkcaaGreatDoor
/- TopCasts 241: its calls, and that it answers true. -/
namespace Go.Proofs.YtoinghomkcjkcaaGreatDoor
set_option linter.unusedSimpArgs false
set_option linter.unusedVariables false
set_option linter.constructorNameAsVariable false
open Go Go.RowKit
open Ev
noncomputable def ct241s : List Z := Ev.app cfam (T 131 0x3b2050203a2029203020595449524f495250202c2031204c41565245544e4920282054204b534154204d4152474f52505f444e45203b2046495f444e45203b2031203d3a20792045534c45203b2032203d3a2079204e454854204c4c554e203d2072204649203b2066203d3f2072203b20292063202820464552203d3a2066203b2046)
noncomputable def ct241o0 : List (List V) := [ck0, ck83, ck2, [.s (T 1 0x46)], ck3, ck4, ck5, ck6, [.s (T 1 0x46)], ck7, ck126, ck84, ck10, ck10, ck11, ck12, ck10, ck13, ck10, ck14, ck10, ck15, ck154, ck26, ck85, ck86, ck87, ck88, ck89, ck90, ck91, ck92, ck27, ck57, ck28, ck30, ck31, ck32, ck33, ck93, ck35, ck36, ck31, ck35]
noncomputable def ct241r0 : Rec := ⟨23, [.s ct241s], q 1004, [], cn4, .u [.g [.sl (q 1004) 0 11 7], .sl (q 1005) 0 1 7, .n0], ct241o0⟩
set_option maxRecDepth 1000000 in
theorem ct241t0 : memoT sOv ct241r0 = true := by kernel_rfl
noncomputable def ct241v0 : Ov := memoOv ct241r0 sOv
theorem ct241g0 {ν : Nat → Int} : OvGood ν ct241v0 := memo_good sOv_good sOv_good ct241t0
noncomputable def ct241o1 : List (List V) := [ck37, ck38, [.s (T 1 0x46)], ck3, ck39, ck40, ck41, [.s (T 1 0x46)], ck42, ck126, ck94, ck10, ck10, ck44, ck45, ck10, ck46, ck10, ck47, ck10, ck48, ck154, ck26, ck95, ck96, ck97, ck98, ck87, ck99, ck89, ck100, ck27, ck101, ck56, ck30, ck31, ck32, ck33, ck102, ck35, ck36, ck31, ck35]
noncomputable def ct241r1 : Rec := ⟨14, [.s ct241s], q 1003, [], cn5, .u [.g [.sl (q 1003) 0 11 7], .s0], ct241o1⟩
set_option maxRecDepth 1000000 in
theorem ct241t1 : memoT ct241v0 ct241r1 = true := by kernel_rfl
noncomputable def ct241v1 : Ov := memoOv ct241r1 ct241v0
theorem ct241g1 {ν : Nat → Int} : OvGood ν ct241v1 := memo_good ct241g0 ct241g0 ct241t1
noncomputable def ct241o2 : List (List V) := [[.sl (q 1009) 0 1 1], ck59, ck60, [I 0, I 1, I 2, I 3], [I 0, I 0, I 0], [I 0, I 0, .b false], [I 5, I 1, I 0], [.s (T 3 0x693e69)], [I 5], [I 0, I 1], ck61, ck62, [I 5], [I 2, I 1], ck61, ck63, [I 5], [I 3, I 1], ck61, ck64, [I 4], [.s (T 3 0x693e69)], ck65, ck66, ck67, ck68, ck69, ck70, ck173, [I 0], [I 2], [I 3], [I 4]]
noncomputable def ct241r2 : Rec := ⟨12, [.s ct241s], q 1002, [], N [4113, 5336, 5668, 5480, 4106, 5356, 5575, 4111, 4159, 4302, 4305, 4385, 4447, 4624, 4627, 4721, 4799, 5011, 5014, 5124, 5251, 5254, 5334, 5858, 5999, 6370, 6752, 6854, 7409, 4383, 4719, 5122, 5332], .u [.g [.sl (q 1002) 0 1 1, .sl (q 1003) 0 6 4, .sl (q 1004) 0 6 6, .sl (q 1005) 0 1 4, .s (T 3 0x727269), .sl (q 1006) 0 1 3, .s0, .s0, .sl (q 1007) 0 3 1, .sl (q 1008) 0 3 1, I 1, I 2], .s0], ct241o2⟩
set_option maxRecDepth 1000000 in
theorem ct241t2 : memoT ct241v1 ct241r2 = true := by kernel_rfl
noncomputable def ct241v2 : Ov := memoOv ct241r2 ct241v1
theorem ct241g2 {ν : Nat → Int} : OvGood ν ct241v2 := memo_good ct241g1 ct241g1 ct241t2
noncomputable def ct241r3 : Rec := ⟨15, [.g [.sl (q 1002) 0 1 1, .sl (q 1003) 0 6 4, .sl (q 1004) 0 6 6, .sl (q 1005) 0 1 4, .s (T 3 0x727269), .sl (q 1006) 0 1 3, .s0, .s0, .sl (q 1007) 0 3 1, .sl (q 1008) 0 3 1, I 1, I 2]], q 1041, nmL 1002 ct241o2, N [], .n0, []⟩
set_option maxRecDepth 1000000 in
theorem ct241t3 : memoT ct241v2 ct241r3 = true := by kernel_rfl
noncomputable def ct241v3 : Ov := memoOv ct241r3 ct241v2
theorem ct241g3 {ν : Nat → Int} : OvGood ν ct241v3 := memo_good ct241g2 ct241g2 ct241t3
noncomputable def ct241o4 : List (List V) := [ck174]
noncomputable def ct241r4 : Rec := ⟨90, [.g [.sl (q 1002) 0 1 1, .sl (q 1003) 0 6 4, .sl (q 1004) 0 6 6, .sl (q 1005) 0 1 4, .s (T 3 0x727269), .sl (q 1006) 0 1 3, .s0, .s0, .sl (q 1007) 0 3 1, .sl (q 1008) 0 3 1, I 1, I 2]], q 1041, nmL 1002 ct241o2, N [2001], .u [.sl (q 1041) 0 1 1224, .n0], ct241o4⟩
set_option maxRecDepth 1000000 in
theorem ct241t4 : memoT ct241v3 ct241r4 = true := by kernel_rfl
noncomputable def ct241v4 : Ov := memoOv ct241r4 ct241v3
theorem ct241g4 {ν : Nat → Int} : OvGood ν ct241v4 := memo_good ct241g3 ct241g3 ct241t4
noncomputable def ct241o5 : List (List V) := [ck174]
noncomputable def ct241r5 : Rec := ⟨90, [.g [.sl (q 1048) 0 1 1, .sl (q 1122) 0 6 4, .sl (q 1386) 0 6 6, .sl (q 1394) 0 1 4, .s (T 3 0x727269), .sl (q 1400) 0 1 3, .s0, .s0, .sl (q 1404) 0 3 1, .sl (q 1408) 0 3 1, I 1, I 2]], q 1410, rnL 1002 (N [1048, 1122, 1386, 1394, 1400, 1404, 1408, 1046, 1051, 1055, 1059, 1065, 1071, 1075, 1079, 1085, 1091, 1095, 1099, 1105, 1111, 1113, 1119, 1151, 1179, 1231, 1267, 1295, 1383, 1062, 1082, 1102, 1116]) ct241o2, N [2370], .u [.sl (q 1410) 0 1 1224, .n0], ct241o5⟩
set_option maxRecDepth 1000000 in
theorem ct241t5 : memoT ct241v4 ct241r5 = true := by kernel_rfl
noncomputable def ct241v5 : Ov := memoOv ct241r5 ct241v4
theorem ct241g5 {ν : Nat → Int} : OvGood ν ct241v5 := memo_good ct241g4 ct241g4 ct241t5
noncomputable def ct241r6 : Rec := ⟨91, [.sl (q 1041) 0 1 1224], q 1042, [(q 1041, ck174)], cn2, .u [.g [.sl (q 1042) 0 1 1, .sl (q 1043) 0 6 4, .sl (q 1044) 0 6 6, .sl (q 1045) 0 1 4, .s (T 3 0x727269), .sl (q 1046) 0 1 3, .s0, .s0, .sl (q 1047) 0 3 1, .sl (q 1048) 0 3 1, I 1, I 2], .n0], shO 1002 1042 33 ct241o2⟩
set_option maxRecDepth 1000000 in
theorem ct241t6 : memoT ct241v5 ct241r6 = true := by kernel_rfl
noncomputable def ct241v6 : Ov := memoOv ct241r6 ct241v5
theorem ct241g6 {ν : Nat → Int} : OvGood ν ct241v6 := memo_good ct241g5 ct241g5 ct241t6
noncomputable def ct241o7 : List (List V) := [ck73, ck74, [I 5, I 1, I 0], [I 0, I 0, .b false], ck75, [I 0], [.sl (q 1054) 0 1 1], ck76, ck77, [I 0, I 1, I 2, I 3], [I 0, I 0, I 0], [I 0, I 0, .b false], [I 5, I 1, I 0], [I 0, I 0, I 0], ck78, [.s (T 3 0x693e69)], [I 5], [I 0, I 1], ck61, ck79, [I 5], [I 2, I 1], ck61, ck80, [I 5], [I 3, I 1], ck61, ck81, [I 4], [.s (T 3 0x693e69)], ck82, ck66, ck67, ck68, ck69, ck70, ck173, [I 5], [I 5], [I 5], [I 0], [I 2], [I 3], [I 4]]
noncomputable def ct241r7 : Rec := ⟨21, [.g [.sl (q 1002) 0 1 1, .sl (q 1003) 0 6 4, .sl (q 1004) 0 6 6, .sl (q 1005) 0 1 4, .s (T 3 0x727269), .sl (q 1006) 0 1 3, .s0, .s0, .sl (q 1007) 0 3 1, .sl (q 1008) 0 3 1, I 1, I 2]], q 1039, nmL 1002 ct241o2, cn3, .u [.p (q 1039) 0, .n0], ct241o7⟩
set_option maxRecDepth 1000000 in
theorem ct241t7 : memoT ct241v6 ct241r7 = true := by kernel_rfl
noncomputable def ct241v7 : Ov := memoOv ct241r7 ct241v6
theorem ct241g7 {ν : Nat → Int} : OvGood ν ct241v7 := memo_good ct241g6 ct241g6 ct241t7
set_option maxRecDepth 1000000 in
theorem ct241_ev : okv (mEv ct241v7 [] [(lowZ 0 4, 2), (lowZ 1 5, 4)] 3 [.i .i64 (.var 0), .i .i64 (.var 1), .b true] start) = some (.b true) := by kernel_rfl
theorem ct241 (x y : Int) (w : World) (hA : Tp.Asc w) (h0 : zval (fun n => match n with | 0 => x | _ => y) (lowZ 0 4) = 2) (h1 : zval (fun n => match n with | 0 => x | _ => y) (lowZ 1 5) = 4) : Calls Tryz.prog 3 #[.int .i64 x, .int .i64 y, .bool true] w (fun e w' => e = .returned (.bool true) ∧ Below w.heap.size w w') :=
  tm_true (ν := (fun n => match n with | 0 => x | _ => y)) w hA ct241g7 path_nil (norm_cons h0 (norm_cons h1 norm_nil)) ct241_ev (args := [.int .i64 x, .int .i64 y, .bool true]) (by simp [VRs, VR, zval])
end Go.Proofs.YtoinghomkcjkcaaGreatDoor
