/- TopCasts 310: its calls, and that it answers true. -/
import Derived.Test.YtoinghomkcjkcaaGreatDoorTcD
namespace Go.Proofs.YtoinghomkcjkcaaGreatDoor
set_option linter.unusedSimpArgs false
set_option linter.unusedVariables false
set_option linter.constructorNameAsVariable false
open Go Go.RowKit
open Ev
noncomputable def ct310s : List Z := Ev.app cfam (T 140 0x3b2050203a2029203020595449524f495250202c2031204c41565245544e4920282054204b534154204d4152474f52505f444e45203b2046495f444e45203b2031203d3a20792045534c45203b2032203d3a2079204e454854204c4c554e203d2072204649203b2029206620282042205341203d3a2072203b20292064202820464552203d3a2066203b2042)
noncomputable def ct310o0 : List (List V) := [ck0, ck1, ck2, [.s (T 1 0x46)], ck3, ck4, ck5, ck6, [.s (T 1 0x46)], ck7, ck105, ck9, ck10, ck10, ck11, ck12, ck10, ck13, ck10, ck14, ck10, ck15, ck175, ck106, ck18, ck19, ck20, ck21, ck22, ck23, ck24, ck25, ck26, ck27, ck28, ck29, ck30, ck31, ck32, ck33, ck34, ck35, ck36, ck31, ck35]
noncomputable def ct310r0 : Rec := ⟨23, [.s ct310s], q 1004, [], cn0, .u [.g [.sl (q 1004) 0 11 7], .sl (q 1005) 0 1 7, .n0], ct310o0⟩
set_option maxRecDepth 1000000 in
theorem ct310t0 : memoT sOv ct310r0 = true := by kernel_rfl
noncomputable def ct310v0 : Ov := memoOv ct310r0 sOv
theorem ct310g0 {ν : Nat → Int} : OvGood ν ct310v0 := memo_good sOv_good sOv_good ct310t0
noncomputable def ct310o1 : List (List V) := [ck37, ck38, [.s (T 1 0x46)], ck3, ck39, ck40, ck41, [.s (T 1 0x46)], ck42, ck105, ck43, ck10, ck10, ck44, ck45, ck10, ck46, ck10, ck47, ck10, ck48, ck175, ck107, ck50, ck51, ck52, ck53, ck20, ck54, ck22, ck55, ck26, ck27, ck56, ck57, ck30, ck31, ck32, ck33, ck58, ck35, ck36, ck31, ck35]
noncomputable def ct310r1 : Rec := ⟨14, [.s ct310s], q 1003, [], cn1, .u [.g [.sl (q 1003) 0 11 7], .s0], ct310o1⟩
set_option maxRecDepth 1000000 in
theorem ct310t1 : memoT ct310v0 ct310r1 = true := by kernel_rfl
noncomputable def ct310v1 : Ov := memoOv ct310r1 ct310v0
theorem ct310g1 {ν : Nat → Int} : OvGood ν ct310v1 := memo_good ct310g0 ct310g0 ct310t1
noncomputable def ct310o2 : List (List V) := [[.sl (q 1009) 0 1 1], ck59, ck60, [I 0, I 1, I 2, I 3], [I 0, I 0, I 0], [I 0, I 0, .b false], [I 5, I 1, I 0], [.s (T 3 0x693e69)], [I 5], [I 0, I 1], ck61, ck62, [I 5], [I 2, I 1], ck61, ck63, [I 5], [I 3, I 1], ck61, ck64, [I 4], [.s (T 3 0x693e69)], ck65, ck66, ck67, ck68, ck69, ck70, ck180, [I 0], [I 2], [I 3], [I 4]]
noncomputable def ct310r2 : Rec := ⟨12, [.s ct310s], q 1002, [], N [4104, 5327, 5659, 5471, 4097, 5347, 5566, 4102, 4150, 4293, 4296, 4376, 4438, 4615, 4618, 4712, 4790, 5002, 5005, 5115, 5242, 5245, 5325, 5849, 5990, 6361, 6743, 6845, 7409, 4374, 4710, 5113, 5323], .u [.g [.sl (q 1002) 0 1 1, .sl (q 1003) 0 6 4, .sl (q 1004) 0 6 6, .sl (q 1005) 0 1 4, .s (T 3 0x727269), .sl (q 1006) 0 1 3, .s0, .s0, .sl (q 1007) 0 3 1, .sl (q 1008) 0 3 1, I 1, I 2], .s0], ct310o2⟩
set_option maxRecDepth 1000000 in
theorem ct310t2 : memoT ct310v1 ct310r2 = true := by kernel_rfl
noncomputable def ct310v2 : Ov := memoOv ct310r2 ct310v1
theorem ct310g2 {ν : Nat → Int} : OvGood ν ct310v2 := memo_good ct310g1 ct310g1 ct310t2
noncomputable def ct310r3 : Rec := ⟨15, [.g [.sl (q 1002) 0 1 1, .sl (q 1003) 0 6 4, .sl (q 1004) 0 6 6, .sl (q 1005) 0 1 4, .s (T 3 0x727269), .sl (q 1006) 0 1 3, .s0, .s0, .sl (q 1007) 0 3 1, .sl (q 1008) 0 3 1, I 1, I 2]], q 1041, nmL 1002 ct310o2, N [], .n0, []⟩
set_option maxRecDepth 1000000 in
theorem ct310t3 : memoT ct310v2 ct310r3 = true := by kernel_rfl
noncomputable def ct310v3 : Ov := memoOv ct310r3 ct310v2
theorem ct310g3 {ν : Nat → Int} : OvGood ν ct310v3 := memo_good ct310g2 ct310g2 ct310t3
noncomputable def ct310o4 : List (List V) := [ck181]
noncomputable def ct310r4 : Rec := ⟨90, [.g [.sl (q 1002) 0 1 1, .sl (q 1003) 0 6 4, .sl (q 1004) 0 6 6, .sl (q 1005) 0 1 4, .s (T 3 0x727269), .sl (q 1006) 0 1 3, .s0, .s0, .sl (q 1007) 0 3 1, .sl (q 1008) 0 3 1, I 1, I 2]], q 1041, nmL 1002 ct310o2, N [2001], .u [.sl (q 1041) 0 1 1224, .n0], ct310o4⟩
set_option maxRecDepth 1000000 in
theorem ct310t4 : memoT ct310v3 ct310r4 = true := by kernel_rfl
noncomputable def ct310v4 : Ov := memoOv ct310r4 ct310v3
theorem ct310g4 {ν : Nat → Int} : OvGood ν ct310v4 := memo_good ct310g3 ct310g3 ct310t4
noncomputable def ct310o5 : List (List V) := [ck181]
noncomputable def ct310r5 : Rec := ⟨90, [.g [.sl (q 1048) 0 1 1, .sl (q 1122) 0 6 4, .sl (q 1386) 0 6 6, .sl (q 1394) 0 1 4, .s (T 3 0x727269), .sl (q 1400) 0 1 3, .s0, .s0, .sl (q 1404) 0 3 1, .sl (q 1408) 0 3 1, I 1, I 2]], q 1410, rnL 1002 (N [1048, 1122, 1386, 1394, 1400, 1404, 1408, 1046, 1051, 1055, 1059, 1065, 1071, 1075, 1079, 1085, 1091, 1095, 1099, 1105, 1111, 1113, 1119, 1151, 1179, 1231, 1267, 1295, 1383, 1062, 1082, 1102, 1116]) ct310o2, N [2370], .u [.sl (q 1410) 0 1 1224, .n0], ct310o5⟩
set_option maxRecDepth 1000000 in
theorem ct310t5 : memoT ct310v4 ct310r5 = true := by kernel_rfl
noncomputable def ct310v5 : Ov := memoOv ct310r5 ct310v4
theorem ct310g5 {ν : Nat → Int} : OvGood ν ct310v5 := memo_good ct310g4 ct310g4 ct310t5
noncomputable def ct310r6 : Rec := ⟨91, [.sl (q 1041) 0 1 1224], q 1042, [(q 1041, ck181)], cn2, .u [.g [.sl (q 1042) 0 1 1, .sl (q 1043) 0 6 4, .sl (q 1044) 0 6 6, .sl (q 1045) 0 1 4, .s (T 3 0x727269), .sl (q 1046) 0 1 3, .s0, .s0, .sl (q 1047) 0 3 1, .sl (q 1048) 0 3 1, I 1, I 2], .n0], shO 1002 1042 33 ct310o2⟩
set_option maxRecDepth 1000000 in
theorem ct310t6 : memoT ct310v5 ct310r6 = true := by kernel_rfl
noncomputable def ct310v6 : Ov := memoOv ct310r6 ct310v5
theorem ct310g6 {ν : Nat → Int} : OvGood ν ct310v6 := memo_good ct310g5 ct310g5 ct310t6
noncomputable def ct310o7 : List (List V) := [ck73, ck74, [I 5, I 1, I 0], [I 0, I 0, .b false], ck75, [I 0], [.sl (q 1054) 0 1 1], ck76, ck77, [I 0, I 1, I 2, I 3], [I 0, I 0, I 0], [I 0, I 0, .b false], [I 5, I 1, I 0], [I 0, I 0, I 0], ck78, [.s (T 3 0x693e69)], [I 5], [I 0, I 1], ck61, ck79, [I 5], [I 2, I 1], ck61, ck80, [I 5], [I 3, I 1], ck61, ck81, [I 4], [.s (T 3 0x693e69)], ck82, ck66, ck67, ck68, ck69, ck70, ck180, [I 5], [I 5], [I 5], [I 0], [I 2], [I 3], [I 4]]
noncomputable def ct310r7 : Rec := ⟨21, [.g [.sl (q 1002) 0 1 1, .sl (q 1003) 0 6 4, .sl (q 1004) 0 6 6, .sl (q 1005) 0 1 4, .s (T 3 0x727269), .sl (q 1006) 0 1 3, .s0, .s0, .sl (q 1007) 0 3 1, .sl (q 1008) 0 3 1, I 1, I 2]], q 1039, nmL 1002 ct310o2, cn3, .u [.p (q 1039) 0, .n0], ct310o7⟩
set_option maxRecDepth 1000000 in
theorem ct310t7 : memoT ct310v6 ct310r7 = true := by kernel_rfl
noncomputable def ct310v7 : Ov := memoOv ct310r7 ct310v6
theorem ct310g7 {ν : Nat → Int} : OvGood ν ct310v7 := memo_good ct310g6 ct310g6 ct310t7
set_option maxRecDepth 1000000 in
theorem ct310_ev : okv (mEv ct310v7 [] [(lowZ 0 4, 3), (lowZ 1 5, 1)] 3 [.i .i64 (.var 0), .i .i64 (.var 1), .b false] start) = some (.b true) := by kernel_rfl
theorem ct310 (x y : Int) (w : World) (hA : Tp.Asc w) (h0 : zval (fun n => match n with | 0 => x | _ => y) (lowZ 0 4) = 3) (h1 : zval (fun n => match n with | 0 => x | _ => y) (lowZ 1 5) = 1) : Calls Tryz.prog 3 #[.int .i64 x, .int .i64 y, .bool false] w (fun e w' => e = .returned (.bool true) ∧ Below w.heap.size w w') :=
  tm_true (ν := (fun n => match n with | 0 => x | _ => y)) w hA ct310g7 path_nil (norm_cons h0 (norm_cons h1 norm_nil)) ct310_ev (args := [.int .i64 x, .int .i64 y, .bool false]) (by simp [VRs, VR, zval])
end Go.Proofs.YtoinghomkcjkcaaGreatDoor
/- TopCasts 311: its calls, and that it answers true. -/
namespace Go.Proofs.YtoinghomkcjkcaaGreatDoor
set_option linter.unusedSimpArgs false
set_option linter.unusedVariables false
set_option linter.constructorNameAsVariable false
open Go Go.RowKit
open Ev
noncomputable def ct311s : List Z := Ev.app cfam (T 131 0x3b2050203a2029203020595449524f495250202c2031204c41565245544e4920282054204b534154204d4152474f52505f444e45203b2046495f444e45203b2031203d3a20792045534c45203b2032203d3a2079204e454854204c4c554e203d2072204649203b2066203d3f2072203b20292064202820464552203d3a2066203b2042)
noncomputable def ct311o0 : List (List V) := [ck0, ck83, ck2, [.s (T 1 0x46)], ck3, ck4, ck5, ck6, [.s (T 1 0x46)], ck7, ck105, ck84, ck10, ck10, ck11, ck12, ck10, ck13, ck10, ck14, ck10, ck15, ck175, ck26, ck85, ck86, ck87, ck88, ck89, ck90, ck91, ck92, ck27, ck57, ck28, ck30, ck31, ck32, ck33, ck93, ck35, ck36, ck31, ck35]
noncomputable def ct311r0 : Rec := ⟨23, [.s ct311s], q 1004, [], cn4, .u [.g [.sl (q 1004) 0 11 7], .sl (q 1005) 0 1 7, .n0], ct311o0⟩
set_option maxRecDepth 1000000 in
theorem ct311t0 : memoT sOv ct311r0 = true := by kernel_rfl
noncomputable def ct311v0 : Ov := memoOv ct311r0 sOv
theorem ct311g0 {ν : Nat → Int} : OvGood ν ct311v0 := memo_good sOv_good sOv_good ct311t0
noncomputable def ct311o1 : List (List V) := [ck37, ck38, [.s (T 1 0x46)], ck3, ck39, ck40, ck41, [.s (T 1 0x46)], ck42, ck105, ck94, ck10, ck10, ck44, ck45, ck10, ck46, ck10, ck47, ck10, ck48, ck175, ck26, ck95, ck96, ck97, ck98, ck87, ck99, ck89, ck100, ck27, ck101, ck56, ck30, ck31, ck32, ck33, ck102, ck35, ck36, ck31, ck35]
noncomputable def ct311r1 : Rec := ⟨14, [.s ct311s], q 1003, [], cn5, .u [.g [.sl (q 1003) 0 11 7], .s0], ct311o1⟩
set_option maxRecDepth 1000000 in
theorem ct311t1 : memoT ct311v0 ct311r1 = true := by kernel_rfl
noncomputable def ct311v1 : Ov := memoOv ct311r1 ct311v0
theorem ct311g1 {ν : Nat → Int} : OvGood ν ct311v1 := memo_good ct311g0 ct311g0 ct311t1
noncomputable def ct311o2 : List (List V) := [[.sl (q 1009) 0 1 1], ck59, ck60, [I 0, I 1, I 2, I 3], [I 0, I 0, I 0], [I 0, I 0, .b false], [I 5, I 1, I 0], [.s (T 3 0x693e69)], [I 5], [I 0, I 1], ck61, ck62, [I 5], [I 2, I 1], ck61, ck63, [I 5], [I 3, I 1], ck61, ck64, [I 4], [.s (T 3 0x693e69)], ck65, ck66, ck67, ck68, ck69, ck70, ck182, [I 0], [I 2], [I 3], [I 4]]
noncomputable def ct311r2 : Rec := ⟨12, [.s ct311s], q 1002, [], N [4087, 5310, 5642, 5454, 4080, 5330, 5549, 4085, 4133, 4276, 4279, 4359, 4421, 4598, 4601, 4695, 4773, 4985, 4988, 5098, 5225, 5228, 5308, 5832, 5973, 6344, 6726, 6828, 7389, 4357, 4693, 5096, 5306], .u [.g [.sl (q 1002) 0 1 1, .sl (q 1003) 0 6 4, .sl (q 1004) 0 6 6, .sl (q 1005) 0 1 4, .s (T 3 0x727269), .sl (q 1006) 0 1 3, .s0, .s0, .sl (q 1007) 0 3 1, .sl (q 1008) 0 3 1, I 1, I 2], .s0], ct311o2⟩
set_option maxRecDepth 1000000 in
theorem ct311t2 : memoT ct311v1 ct311r2 = true := by kernel_rfl
noncomputable def ct311v2 : Ov := memoOv ct311r2 ct311v1
theorem ct311g2 {ν : Nat → Int} : OvGood ν ct311v2 := memo_good ct311g1 ct311g1 ct311t2
noncomputable def ct311r3 : Rec := ⟨15, [.g [.sl (q 1002) 0 1 1, .sl (q 1003) 0 6 4, .sl (q 1004) 0 6 6, .sl (q 1005) 0 1 4, .s (T 3 0x727269), .sl (q 1006) 0 1 3, .s0, .s0, .sl (q 1007) 0 3 1, .sl (q 1008) 0 3 1, I 1, I 2]], q 1041, nmL 1002 ct311o2, N [], .n0, []⟩
set_option maxRecDepth 1000000 in
theorem ct311t3 : memoT ct311v2 ct311r3 = true := by kernel_rfl
noncomputable def ct311v3 : Ov := memoOv ct311r3 ct311v2
theorem ct311g3 {ν : Nat → Int} : OvGood ν ct311v3 := memo_good ct311g2 ct311g2 ct311t3
noncomputable def ct311o4 : List (List V) := [ck183]
noncomputable def ct311r4 : Rec := ⟨90, [.g [.sl (q 1002) 0 1 1, .sl (q 1003) 0 6 4, .sl (q 1004) 0 6 6, .sl (q 1005) 0 1 4, .s (T 3 0x727269), .sl (q 1006) 0 1 3, .s0, .s0, .sl (q 1007) 0 3 1, .sl (q 1008) 0 3 1, I 1, I 2]], q 1041, nmL 1002 ct311o2, N [2001], .u [.sl (q 1041) 0 1 1224, .n0], ct311o4⟩
set_option maxRecDepth 1000000 in
theorem ct311t4 : memoT ct311v3 ct311r4 = true := by kernel_rfl
noncomputable def ct311v4 : Ov := memoOv ct311r4 ct311v3
theorem ct311g4 {ν : Nat → Int} : OvGood ν ct311v4 := memo_good ct311g3 ct311g3 ct311t4
noncomputable def ct311o5 : List (List V) := [ck183]
noncomputable def ct311r5 : Rec := ⟨90, [.g [.sl (q 1048) 0 1 1, .sl (q 1122) 0 6 4, .sl (q 1386) 0 6 6, .sl (q 1394) 0 1 4, .s (T 3 0x727269), .sl (q 1400) 0 1 3, .s0, .s0, .sl (q 1404) 0 3 1, .sl (q 1408) 0 3 1, I 1, I 2]], q 1410, rnL 1002 (N [1048, 1122, 1386, 1394, 1400, 1404, 1408, 1046, 1051, 1055, 1059, 1065, 1071, 1075, 1079, 1085, 1091, 1095, 1099, 1105, 1111, 1113, 1119, 1151, 1179, 1231, 1267, 1295, 1383, 1062, 1082, 1102, 1116]) ct311o2, N [2370], .u [.sl (q 1410) 0 1 1224, .n0], ct311o5⟩
set_option maxRecDepth 1000000 in
theorem ct311t5 : memoT ct311v4 ct311r5 = true := by kernel_rfl
noncomputable def ct311v5 : Ov := memoOv ct311r5 ct311v4
theorem ct311g5 {ν : Nat → Int} : OvGood ν ct311v5 := memo_good ct311g4 ct311g4 ct311t5
noncomputable def ct311r6 : Rec := ⟨91, [.sl (q 1041) 0 1 1224], q 1042, [(q 1041, ck183)], cn2, .u [.g [.sl (q 1042) 0 1 1, .sl (q 1043) 0 6 4, .sl (q 1044) 0 6 6, .sl (q 1045) 0 1 4, .s (T 3 0x727269), .sl (q 1046) 0 1 3, .s0, .s0, .sl (q 1047) 0 3 1, .sl (q 1048) 0 3 1, I 1, I 2], .n0], shO 1002 1042 33 ct311o2⟩
set_option maxRecDepth 1000000 in
theorem ct311t6 : memoT ct311v5 ct311r6 = true := by kernel_rfl
noncomputable def ct311v6 : Ov := memoOv ct311r6 ct311v5
theorem ct311g6 {ν : Nat → Int} : OvGood ν ct311v6 := memo_good ct311g5 ct311g5 ct311t6
noncomputable def ct311o7 : List (List V) := [ck73, ck74, [I 5, I 1, I 0], [I 0, I 0, .b false], ck75, [I 0], [.sl (q 1054) 0 1 1], ck76, ck77, [I 0, I 1, I 2, I 3], [I 0, I 0, I 0], [I 0, I 0, .b false], [I 5, I 1, I 0], [I 0, I 0, I 0], ck78, [.s (T 3 0x693e69)], [I 5], [I 0, I 1], ck61, ck79, [I 5], [I 2, I 1], ck61, ck80, [I 5], [I 3, I 1], ck61, ck81, [I 4], [.s (T 3 0x693e69)], ck82, ck66, ck67, ck68, ck69, ck70, ck182, [I 5], [I 5], [I 5], [I 0], [I 2], [I 3], [I 4]]
noncomputable def ct311r7 : Rec := ⟨21, [.g [.sl (q 1002) 0 1 1, .sl (q 1003) 0 6 4, .sl (q 1004) 0 6 6, .sl (q 1005) 0 1 4, .s (T 3 0x727269), .sl (q 1006) 0 1 3, .s0, .s0, .sl (q 1007) 0 3 1, .sl (q 1008) 0 3 1, I 1, I 2]], q 1039, nmL 1002 ct311o2, cn3, .u [.p (q 1039) 0, .n0], ct311o7⟩
set_option maxRecDepth 1000000 in
theorem ct311t7 : memoT ct311v6 ct311r7 = true := by kernel_rfl
noncomputable def ct311v7 : Ov := memoOv ct311r7 ct311v6
theorem ct311g7 {ν : Nat → Int} : OvGood ν ct311v7 := memo_good ct311g6 ct311g6 ct311t7
set_option maxRecDepth 1000000 in
theorem ct311_ev : okv (mEv ct311v7 [] [(lowZ 0 4, 3), (lowZ 1 5, 1)] 3 [.i .i64 (.var 0), .i .i64 (.var 1), .b true] start) = some (.b true) := by kernel_rfl
theorem ct311 (x y : Int) (w : World) (hA : Tp.Asc w) (h0 : zval (fun n => match n with | 0 => x | _ => y) (lowZ 0 4) = 3) (h1 : zval (fun n => match n with | 0 => x | _ => y) (lowZ 1 5) = 1) : Calls Tryz.prog 3 #[.int .i64 x, .int .i64 y, .bool true] w (fun e w' => e = .returned (.bool true) ∧ Below w.heap.size w w') :=
  tm_true (ν := (fun n => match n with | 0 => x | _ => y)) w hA ct311g7 path_nil (norm_cons h0 (norm_cons h1 norm_nil)) ct311_ev (args := [.int .i64 x, .int .i64 y, .bool true]) (by simp [VRs, VR, zval])
end Go.Proofs.YtoinghomkcjkcaaGreatDoor
