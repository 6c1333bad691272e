/- TopCasts 340: its calls, and that it answers true. -/
import Derived.Test.YtoinghomkcjkcaaGreatDoorTcD
namespace Go.Proofs.YtoinghomkcjkcaaGreatDoor
set_option linter.unusedSimpArgs false
set_option linter.unusedVariables false
set_option linter.constructorNameAsVariable false
open Go Go.RowKit
open Ev
noncomputable def ct340s : List Z := Ev.app cfam (T 140 0x3b2050203a2029203020595449524f495250202c2031204c41565245544e4920282054204b534154204d4152474f52505f444e45203b2046495f444e45203b2031203d3a20792045534c45203b2032203d3a2079204e454854204c4c554e203d2072204649203b2029206620282046205341203d3a2072203b20292064202820464552203d3a2066203b2046)
noncomputable def ct340o0 : List (List V) := [ck0, ck1, ck2, [.s (T 1 0x46)], ck3, ck4, ck5, ck6, [.s (T 1 0x46)], ck7, ck126, ck9, ck10, ck10, ck11, ck12, ck10, ck13, ck10, ck14, ck10, ck15, ck175, ck127, ck18, ck19, ck20, ck21, ck22, ck23, ck24, ck25, ck26, ck27, ck28, ck29, ck30, ck31, ck32, ck33, ck34, ck35, ck36, ck31, ck35]
noncomputable def ct340r0 : Rec := ⟨23, [.s ct340s], q 1004, [], cn0, .u [.g [.sl (q 1004) 0 11 7], .sl (q 1005) 0 1 7, .n0], ct340o0⟩
set_option maxRecDepth 1000000 in
theorem ct340t0 : memoT sOv ct340r0 = true := by kernel_rfl
noncomputable def ct340v0 : Ov := memoOv ct340r0 sOv
theorem ct340g0 {ν : Nat → Int} : OvGood ν ct340v0 := memo_good sOv_good sOv_good ct340t0
noncomputable def ct340o1 : List (List V) := [ck37, ck38, [.s (T 1 0x46)], ck3, ck39, ck40, ck41, [.s (T 1 0x46)], ck42, ck126, ck43, ck10, ck10, ck44, ck45, ck10, ck46, ck10, ck47, ck10, ck48, ck175, ck128, ck50, ck51, ck52, ck53, ck20, ck54, ck22, ck55, ck26, ck27, ck56, ck57, ck30, ck31, ck32, ck33, ck58, ck35, ck36, ck31, ck35]
noncomputable def ct340r1 : Rec := ⟨14, [.s ct340s], q 1003, [], cn1, .u [.g [.sl (q 1003) 0 11 7], .s0], ct340o1⟩
set_option maxRecDepth 1000000 in
theorem ct340t1 : memoT ct340v0 ct340r1 = true := by kernel_rfl
noncomputable def ct340v1 : Ov := memoOv ct340r1 ct340v0
theorem ct340g1 {ν : Nat → Int} : OvGood ν ct340v1 := memo_good ct340g0 ct340g0 ct340t1
noncomputable def ct340o2 : List (List V) := [[.sl (q 1009) 0 1 1], ck59, ck60, [I 0, I 1, I 2, I 3], [I 0, I 0, I 0], [I 0, I 0, .b false], [I 5, I 1, I 0], [.s (T 3 0x693e69)], [I 5], [I 0, I 1], ck61, ck62, [I 5], [I 2, I 1], ck61, ck63, [I 5], [I 3, I 1], ck61, ck64, [I 4], [.s (T 3 0x693e69)], ck65, ck66, ck67, ck68, ck69, ck70, ck192, [I 0], [I 2], [I 3], [I 4]]
noncomputable def ct340r2 : Rec := ⟨12, [.s ct340s], q 1002, [], cn6, .u [.g [.sl (q 1002) 0 1 1, .sl (q 1003) 0 6 4, .sl (q 1004) 0 6 6, .sl (q 1005) 0 1 4, .s (T 3 0x727269), .sl (q 1006) 0 1 3, .s0, .s0, .sl (q 1007) 0 3 1, .sl (q 1008) 0 3 1, I 1, I 2], .s0], ct340o2⟩
set_option maxRecDepth 1000000 in
theorem ct340t2 : memoT ct340v1 ct340r2 = true := by kernel_rfl
noncomputable def ct340v2 : Ov := memoOv ct340r2 ct340v1
theorem ct340g2 {ν : Nat → Int} : OvGood ν ct340v2 := memo_good ct340g1 ct340g1 ct340t2
noncomputable def ct340r3 : Rec := ⟨15, [.g [.sl (q 1002) 0 1 1, .sl (q 1003) 0 6 4, .sl (q 1004) 0 6 6, .sl (q 1005) 0 1 4, .s (T 3 0x727269), .sl (q 1006) 0 1 3, .s0, .s0, .sl (q 1007) 0 3 1, .sl (q 1008) 0 3 1, I 1, I 2]], q 1041, nmL 1002 ct340o2, N [], .n0, []⟩
set_option maxRecDepth 1000000 in
theorem ct340t3 : memoT ct340v2 ct340r3 = true := by kernel_rfl
noncomputable def ct340v3 : Ov := memoOv ct340r3 ct340v2
theorem ct340g3 {ν : Nat → Int} : OvGood ν ct340v3 := memo_good ct340g2 ct340g2 ct340t3
noncomputable def ct340o4 : List (List V) := [ck193]
noncomputable def ct340r4 : Rec := ⟨90, [.g [.sl (q 1002) 0 1 1, .sl (q 1003) 0 6 4, .sl (q 1004) 0 6 6, .sl (q 1005) 0 1 4, .s (T 3 0x727269), .sl (q 1006) 0 1 3, .s0, .s0, .sl (q 1007) 0 3 1, .sl (q 1008) 0 3 1, I 1, I 2]], q 1041, nmL 1002 ct340o2, N [2001], .u [.sl (q 1041) 0 1 1224, .n0], ct340o4⟩
set_option maxRecDepth 1000000 in
theorem ct340t4 : memoT ct340v3 ct340r4 = true := by kernel_rfl
noncomputable def ct340v4 : Ov := memoOv ct340r4 ct340v3
theorem ct340g4 {ν : Nat → Int} : OvGood ν ct340v4 := memo_good ct340g3 ct340g3 ct340t4
noncomputable def ct340o5 : List (List V) := [ck193]
noncomputable def ct340r5 : Rec := ⟨90, [.g [.sl (q 1048) 0 1 1, .sl (q 1122) 0 6 4, .sl (q 1386) 0 6 6, .sl (q 1394) 0 1 4, .s (T 3 0x727269), .sl (q 1400) 0 1 3, .s0, .s0, .sl (q 1404) 0 3 1, .sl (q 1408) 0 3 1, I 1, I 2]], q 1410, rnL 1002 (N [1048, 1122, 1386, 1394, 1400, 1404, 1408, 1046, 1051, 1055, 1059, 1065, 1071, 1075, 1079, 1085, 1091, 1095, 1099, 1105, 1111, 1113, 1119, 1151, 1179, 1231, 1267, 1295, 1383, 1062, 1082, 1102, 1116]) ct340o2, N [2370], .u [.sl (q 1410) 0 1 1224, .n0], ct340o5⟩
set_option maxRecDepth 1000000 in
theorem ct340t5 : memoT ct340v4 ct340r5 = true := by kernel_rfl
noncomputable def ct340v5 : Ov := memoOv ct340r5 ct340v4
theorem ct340g5 {ν : Nat → Int} : OvGood ν ct340v5 := memo_good ct340g4 ct340g4 ct340t5
noncomputable def ct340r6 : Rec := ⟨91, [.sl (q 1041) 0 1 1224], q 1042, [(q 1041, ck193)], cn2, .u [.g [.sl (q 1042) 0 1 1, .sl (q 1043) 0 6 4, .sl (q 1044) 0 6 6, .sl (q 1045) 0 1 4, .s (T 3 0x727269), .sl (q 1046) 0 1 3, .s0, .s0, .sl (q 1047) 0 3 1, .sl (q 1048) 0 3 1, I 1, I 2], .n0], shO 1002 1042 33 ct340o2⟩
set_option maxRecDepth 1000000 in
theorem ct340t6 : memoT ct340v5 ct340r6 = true := by kernel_rfl
noncomputable def ct340v6 : Ov := memoOv ct340r6 ct340v5
theorem ct340g6 {ν : Nat → Int} : OvGood ν ct340v6 := memo_good ct340g5 ct340g5 ct340t6
noncomputable def ct340o7 : List (List V) := [ck73, ck74, [I 5, I 1, I 0], [I 0, I 0, .b false], ck75, [I 0], [.sl (q 1054) 0 1 1], ck76, ck77, [I 0, I 1, I 2, I 3], [I 0, I 0, I 0], [I 0, I 0, .b false], [I 5, I 1, I 0], [I 0, I 0, I 0], ck78, [.s (T 3 0x693e69)], [I 5], [I 0, I 1], ck61, ck79, [I 5], [I 2, I 1], ck61, ck80, [I 5], [I 3, I 1], ck61, ck81, [I 4], [.s (T 3 0x693e69)], ck82, ck66, ck67, ck68, ck69, ck70, ck192, [I 5], [I 5], [I 5], [I 0], [I 2], [I 3], [I 4]]
noncomputable def ct340r7 : Rec := ⟨21, [.g [.sl (q 1002) 0 1 1, .sl (q 1003) 0 6 4, .sl (q 1004) 0 6 6, .sl (q 1005) 0 1 4, .s (T 3 0x727269), .sl (q 1006) 0 1 3, .s0, .s0, .sl (q 1007) 0 3 1, .sl (q 1008) 0 3 1, I 1, I 2]], q 1039, nmL 1002 ct340o2, cn3, .u [.p (q 1039) 0, .n0], ct340o7⟩
set_option maxRecDepth 1000000 in
theorem ct340t7 : memoT ct340v6 ct340r7 = true := by kernel_rfl
noncomputable def ct340v7 : Ov := memoOv ct340r7 ct340v6
theorem ct340g7 {ν : Nat → Int} : OvGood ν ct340v7 := memo_good ct340g6 ct340g6 ct340t7
set_option maxRecDepth 1000000 in
theorem ct340_ev : okv (mEv ct340v7 [] [(lowZ 0 4, 3), (lowZ 1 5, 4)] 3 [.i .i64 (.var 0), .i .i64 (.var 1), .b false] start) = some (.b true) := by kernel_rfl
theorem ct340 (x y : Int) (w : World) (hA : Tp.Asc w) (h0 : zval (fun n => match n with | 0 => x | _ => y) (lowZ 0 4) = 3) (h1 : zval (fun n => match n with | 0 => x | _ => y) (lowZ 1 5) = 4) : Calls Tryz.prog 3 #[.int .i64 x, .int .i64 y, .bool false] w (fun e w' => e = .returned (.bool true) ∧ Below w.heap.size w w') :=
  tm_true (ν := (fun n => match n with | 0 => x | _ => y)) w hA ct340g7 path_nil (norm_cons h0 (norm_cons h1 norm_nil)) ct340_ev (args := [.int .i64 x, .int .i64 y, .bool false]) (by simp [VRs, VR, zval])
end Go.Proofs.YtoinghomkcjkcaaGreatDoor
/- TopCasts 341: its calls, and that it answers true. -/
namespace Go.Proofs.YtoinghomkcjkcaaGreatDoor
set_option linter.unusedSimpArgs false
set_option linter.unusedVariables false
set_option linter.constructorNameAsVariable false
open Go Go.RowKit
open Ev
noncomputable def ct341s : List Z := Ev.app cfam (T 131 0x3b2050203a2029203020595449524f495250202c2031204c41565245544e4920282054204b534154204d4152474f52505f444e45203b2046495f444e45203b2031203d3a20792045534c45203b2032203d3a2079204e454854204c4c554e203d2072204649203b2066203d3f2072203b20292064202820464552203d3a2066203b2046)
noncomputable def ct341o0 : List (List V) := [ck0, ck83, ck2, [.s (T 1 0x46)], ck3, ck4, ck5, ck6, [.s (T 1 0x46)], ck7, ck126, ck84, ck10, ck10, ck11, ck12, ck10, ck13, ck10, ck14, ck10, ck15, ck175, ck26, ck85, ck86, ck87, ck88, ck89, ck90, ck91, ck92, ck27, ck57, ck28, ck30, ck31, ck32, ck33, ck93, ck35, ck36, ck31, ck35]
noncomputable def ct341r0 : Rec := ⟨23, [.s ct341s], q 1004, [], cn4, .u [.g [.sl (q 1004) 0 11 7], .sl (q 1005) 0 1 7, .n0], ct341o0⟩
set_option maxRecDepth 1000000 in
theorem ct341t0 : memoT sOv ct341r0 = true := by kernel_rfl
noncomputable def ct341v0 : Ov := memoOv ct341r0 sOv
theorem ct341g0 {ν : Nat → Int} : OvGood ν ct341v0 := memo_good sOv_good sOv_good ct341t0
noncomputable def ct341o1 : List (List V) := [ck37, ck38, [.s (T 1 0x46)], ck3, ck39, ck40, ck41, [.s (T 1 0x46)], ck42, ck126, ck94, ck10, ck10, ck44, ck45, ck10, ck46, ck10, ck47, ck10, ck48, ck175, ck26, ck95, ck96, ck97, ck98, ck87, ck99, ck89, ck100, ck27, ck101, ck56, ck30, ck31, ck32, ck33, ck102, ck35, ck36, ck31, ck35]
noncomputable def ct341r1 : Rec := ⟨14, [.s ct341s], q 1003, [], cn5, .u [.g [.sl (q 1003) 0 11 7], .s0], ct341o1⟩
set_option maxRecDepth 1000000 in
theorem ct341t1 : memoT ct341v0 ct341r1 = true := by kernel_rfl
noncomputable def ct341v1 : Ov := memoOv ct341r1 ct341v0
theorem ct341g1 {ν : Nat → Int} : OvGood ν ct341v1 := memo_good ct341g0 ct341g0 ct341t1
noncomputable def ct341o2 : List (List V) := [[.sl (q 1009) 0 1 1], ck59, ck60, [I 0, I 1, I 2, I 3], [I 0, I 0, I 0], [I 0, I 0, .b false], [I 5, I 1, I 0], [.s (T 3 0x693e69)], [I 5], [I 0, I 1], ck61, ck62, [I 5], [I 2, I 1], ck61, ck63, [I 5], [I 3, I 1], ck61, ck64, [I 4], [.s (T 3 0x693e69)], ck65, ck66, ck67, ck68, ck69, ck70, ck194, [I 0], [I 2], [I 3], [I 4]]
noncomputable def ct341r2 : Rec := ⟨12, [.s ct341s], q 1002, [], N [4085, 5308, 5640, 5452, 4078, 5328, 5547, 4083, 4131, 4274, 4277, 4357, 4419, 4596, 4599, 4693, 4771, 4983, 4986, 5096, 5223, 5226, 5306, 5830, 5971, 6342, 6724, 6826, 7383, 4355, 4691, 5094, 5304], .u [.g [.sl (q 1002) 0 1 1, .sl (q 1003) 0 6 4, .sl (q 1004) 0 6 6, .sl (q 1005) 0 1 4, .s (T 3 0x727269), .sl (q 1006) 0 1 3, .s0, .s0, .sl (q 1007) 0 3 1, .sl (q 1008) 0 3 1, I 1, I 2], .s0], ct341o2⟩
set_option maxRecDepth 1000000 in
theorem ct341t2 : memoT ct341v1 ct341r2 = true := by kernel_rfl
noncomputable def ct341v2 : Ov := memoOv ct341r2 ct341v1
theorem ct341g2 {ν : Nat → Int} : OvGood ν ct341v2 := memo_good ct341g1 ct341g1 ct341t2
noncomputable def ct341r3 : Rec := ⟨15, [.g [.sl (q 1002) 0 1 1, .sl (q 1003) 0 6 4, .sl (q 1004) 0 6 6, .sl (q 1005) 0 1 4, .s (T 3 0x727269), .sl (q 1006) 0 1 3, .s0, .s0, .sl (q 1007) 0 3 1, .sl (q 1008) 0 3 1, I 1, I 2]], q 1041, nmL 1002 ct341o2, N [], .n0, []⟩
set_option maxRecDepth 1000000 in
theorem ct341t3 : memoT ct341v2 ct341r3 = true := by kernel_rfl
noncomputable def ct341v3 : Ov := memoOv ct341r3 ct341v2
theorem ct341g3 {ν : Nat → Int} : OvGood ν ct341v3 := memo_good ct341g2 ct341g2 ct341t3
noncomputable def ct341o4 : List (List V) := [ck195]
noncomputable def ct341r4 : Rec := ⟨90, [.g [.sl (q 1002) 0 1 1, .sl (q 1003) 0 6 4, .sl (q 1004) 0 6 6, .sl (q 1005) 0 1 4, .s (T 3 0x727269), .sl (q 1006) 0 1 3, .s0, .s0, .sl (q 1007) 0 3 1, .sl (q 1008) 0 3 1, I 1, I 2]], q 1041, nmL 1002 ct341o2, N [2001], .u [.sl (q 1041) 0 1 1224, .n0], ct341o4⟩
set_option maxRecDepth 1000000 in
theorem ct341t4 : memoT ct341v3 ct341r4 = true := by kernel_rfl
noncomputable def ct341v4 : Ov := memoOv ct341r4 ct341v3
theorem ct341g4 {ν : Nat → Int} : OvGood ν ct341v4 := memo_good ct341g3 ct341g3 ct341t4
noncomputable def ct341o5 : List (List V) := [ck195]
noncomputable def ct341r5 : Rec := ⟨90, [.g [.sl (q 1048) 0 1 1, .sl (q 1122) 0 6 4, .sl (q 1386) 0 6 6, .sl (q 1394) 0 1 4, .s (T 3 0x727269), .sl (q 1400) 0 1 3, .s0, .s0, .sl (q 1404) 0 3 1, .sl (q 1408) 0 3 1, I 1, I 2]], q 1410, rnL 1002 (N [1048, 1122, 1386, 1394, 1400, 1404, 1408, 1046, 1051, 1055, 1059, 1065, 1071, 1075, 1079, 1085, 1091, 1095, 1099, 1105, 1111, 1113, 1119, 1151, 1179, 1231, 1267, 1295, 1383, 1062, 1082, 1102, 1116]) ct341o2, N [2370], .u [.sl (q 1410) 0 1 1224, .n0], ct341o5⟩
set_option maxRecDepth 1000000 in
theorem ct341t5 : memoT ct341v4 ct341r5 = true := by kernel_rfl
noncomputable def ct341v5 : Ov := memoOv ct341r5 ct341v4
theorem ct341g5 {ν : Nat → Int} : OvGood ν ct341v5 := memo_good ct341g4 ct341g4 ct341t5
noncomputable def ct341r6 : Rec := ⟨91, [.sl (q 1041) 0 1 1224], q 1042, [(q 1041, ck195)], cn2, .u [.g [.sl (q 1042) 0 1 1, .sl (q 1043) 0 6 4, .sl (q 1044) 0 6 6, .sl (q 1045) 0 1 4, .s (T 3 0x727269), .sl (q 1046) 0 1 3, .s0, .s0, .sl (q 1047) 0 3 1, .sl (q 1048) 0 3 1, I 1, I 2], .n0], shO 1002 1042 33 ct341o2⟩
set_option maxRecDepth 1000000 in
theorem ct341t6 : memoT ct341v5 ct341r6 = true := by kernel_rfl
noncomputable def ct341v6 : Ov := memoOv ct341r6 ct341v5
theorem ct341g6 {ν : Nat → Int} : OvGood ν ct341v6 := memo_good ct341g5 ct341g5 ct341t6
noncomputable def ct341o7 : List (List V) := [ck73, ck74, [I 5, I 1, I 0], [I 0, I 0, .b false], ck75, [I 0], [.sl (q 1054) 0 1 1], ck76, ck77, [I 0, I 1, I 2, I 3], [I 0, I 0, I 0], [I 0, I 0, .b false], [I 5, I 1, I 0], [I 0, I 0, I 0], ck78, [.s (T 3 0x693e69)], [I 5], [I 0, I 1], ck61, ck79, [I 5], [I 2, I 1], ck61, ck80, [I 5], [I 3, I 1], ck61, ck81, [I 4], [.s (T 3 0x693e69)], ck82, ck66, ck67, ck68, ck69, ck70, ck194, [I 5], [I 5], [I 5], [I 0], [I 2], [I 3], [I 4]]
noncomputable def ct341r7 : Rec := ⟨21, [.g [.sl (q 1002) 0 1 1, .sl (q 1003) 0 6 4, .sl (q 1004) 0 6 6, .sl (q 1005) 0 1 4, .s (T 3 0x727269), .sl (q 1006) 0 1 3, .s0, .s0, .sl (q 1007) 0 3 1, .sl (q 1008) 0 3 1, I 1, I 2]], q 1039, nmL 1002 ct341o2, cn3, .u [.p (q 1039) 0, .n0], ct341o7⟩
set_option maxRecDepth 1000000 in
theorem ct341t7 : memoT ct341v6 ct341r7 = true := by kernel_rfl
noncomputable def ct341v7 : Ov := memoOv ct341r7 ct341v6
theorem ct341g7 {ν : Nat → Int} : OvGood ν ct341v7 := memo_good ct341g6 ct341g6 ct341t7
set_option maxRecDepth 1000000 in
theorem ct341_ev : okv (mEv ct341v7 [] [(lowZ 0 4, 3), (lowZ 1 5, 4)] 3 [.i .i64 (.var 0), .i .i64 (.var 1), .b true] start) = some (.b true) := by kernel_rfl
theorem ct341 (x y : Int) (w : World) (hA : Tp.Asc w) (h0 : zval (fun n => match n with | 0 => x | _ => y) (lowZ 0 4) = 3) (h1 : zval (fun n => match n with | 0 => x | _ => y) (lowZ 1 5) = 4) : Calls Tryz.prog 3 #[.int .i64 x, .int .i64 y, .bool true] w (fun e w' => e = .returned (.bool true) ∧ Below w.heap.size w w') :=
  tm_true (ν := (fun n => match n with | 0 => x | _ => y)) w hA ct341g7 path_nil (norm_cons h0 (norm_cons h1 norm_nil)) ct341_ev (args := [.int .i64 x, .int .i64 y, .bool true]) (by simp [VRs, VR, zval])
end Go.Proofs.YtoinghomkcjkcaaGreatDoor
