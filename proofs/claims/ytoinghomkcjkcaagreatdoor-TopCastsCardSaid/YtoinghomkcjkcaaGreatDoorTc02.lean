/- TopCasts 020: its calls, and that it answers true. -/
import Derived.Test.YtoinghomkcjkcaaGreatDoorTcD
namespace Go.Proofs.YtoinghomkcjkcaaGreatDoor
set_option linter.unusedSimpArgs false
set_option linter.unusedVariables false
set_option linter.constructorNameAsVariable false
open Go Go.RowKit
open Ev
noncomputable def ct020s : List Z := Ev.app cfam (T 140 0x3b2050203a2029203020595449524f495250202c2031204c41565245544e4920282054204b534154204d4152474f52505f444e45203b2046495f444e45203b2031203d3a20792045534c45203b2032203d3a2079204e454854204c4c554e203d2072204649203b2029206620282043205341203d3a2072203b20292061202820464552203d3a2066203b2043)
noncomputable def ct020o0 : List (List V) := [ck0, ck1, ck2, [.s (T 1 0x46)], ck3, ck4, ck5, ck6, [.s (T 1 0x46)], ck7, ck112, ck9, ck10, ck10, ck11, ck12, ck10, ck13, ck10, ck14, ck10, ck15, ck16, ck113, ck18, ck19, ck20, ck21, ck22, ck23, ck24, ck25, ck26, ck27, ck28, ck29, ck30, ck31, ck32, ck33, ck34, ck35, ck36, ck31, ck35]
noncomputable def ct020r0 : Rec := ⟨23, [.s ct020s], q 1004, [], cn0, .u [.g [.sl (q 1004) 0 11 7], .sl (q 1005) 0 1 7, .n0], ct020o0⟩
set_option maxRecDepth 1000000 in
theorem ct020t0 : memoT sOv ct020r0 = true := by kernel_rfl
noncomputable def ct020v0 : Ov := memoOv ct020r0 sOv
theorem ct020g0 {ν : Nat → Int} : OvGood ν ct020v0 := memo_good sOv_good sOv_good ct020t0
noncomputable def ct020o1 : List (List V) := [ck37, ck38, [.s (T 1 0x46)], ck3, ck39, ck40, ck41, [.s (T 1 0x46)], ck42, ck112, ck43, ck10, ck10, ck44, ck45, ck10, ck46, ck10, ck47, ck10, ck48, ck16, ck114, ck50, ck51, ck52, ck53, ck20, ck54, ck22, ck55, ck26, ck27, ck56, ck57, ck30, ck31, ck32, ck33, ck58, ck35, ck36, ck31, ck35]
noncomputable def ct020r1 : Rec := ⟨14, [.s ct020s], q 1003, [], cn1, .u [.g [.sl (q 1003) 0 11 7], .s0], ct020o1⟩
set_option maxRecDepth 1000000 in
theorem ct020t1 : memoT ct020v0 ct020r1 = true := by kernel_rfl
noncomputable def ct020v1 : Ov := memoOv ct020r1 ct020v0
theorem ct020g1 {ν : Nat → Int} : OvGood ν ct020v1 := memo_good ct020g0 ct020g0 ct020t1
noncomputable def ct020o2 : List (List V) := [[.sl (q 1009) 0 1 1], ck59, ck60, [I 0, I 1, I 2, I 3], [I 0, I 0, I 0], [I 0, I 0, .b false], [I 5, I 1, I 0], [.s (T 3 0x693e69)], [I 5], [I 0, I 1], ck61, ck62, [I 5], [I 2, I 1], ck61, ck63, [I 5], [I 3, I 1], ck61, ck64, [I 4], [.s (T 3 0x693e69)], ck65, ck66, ck67, ck68, ck69, ck70, ck115, [I 0], [I 2], [I 3], [I 4]]
noncomputable def ct020r2 : Rec := ⟨12, [.s ct020s], q 1002, [], cn6, .u [.g [.sl (q 1002) 0 1 1, .sl (q 1003) 0 6 4, .sl (q 1004) 0 6 6, .sl (q 1005) 0 1 4, .s (T 3 0x727269), .sl (q 1006) 0 1 3, .s0, .s0, .sl (q 1007) 0 3 1, .sl (q 1008) 0 3 1, I 1, I 2], .s0], ct020o2⟩
set_option maxRecDepth 1000000 in
theorem ct020t2 : memoT ct020v1 ct020r2 = true := by kernel_rfl
noncomputable def ct020v2 : Ov := memoOv ct020r2 ct020v1
theorem ct020g2 {ν : Nat → Int} : OvGood ν ct020v2 := memo_good ct020g1 ct020g1 ct020t2
noncomputable def ct020r3 : Rec := ⟨15, [.g [.sl (q 1002) 0 1 1, .sl (q 1003) 0 6 4, .sl (q 1004) 0 6 6, .sl (q 1005) 0 1 4, .s (T 3 0x727269), .sl (q 1006) 0 1 3, .s0, .s0, .sl (q 1007) 0 3 1, .sl (q 1008) 0 3 1, I 1, I 2]], q 1041, nmL 1002 ct020o2, N [], .n0, []⟩
set_option maxRecDepth 1000000 in
theorem ct020t3 : memoT ct020v2 ct020r3 = true := by kernel_rfl
noncomputable def ct020v3 : Ov := memoOv ct020r3 ct020v2
theorem ct020g3 {ν : Nat → Int} : OvGood ν ct020v3 := memo_good ct020g2 ct020g2 ct020t3
noncomputable def ct020o4 : List (List V) := [ck116]
noncomputable def ct020r4 : Rec := ⟨90, [.g [.sl (q 1002) 0 1 1, .sl (q 1003) 0 6 4, .sl (q 1004) 0 6 6, .sl (q 1005) 0 1 4, .s (T 3 0x727269), .sl (q 1006) 0 1 3, .s0, .s0, .sl (q 1007) 0 3 1, .sl (q 1008) 0 3 1, I 1, I 2]], q 1041, nmL 1002 ct020o2, N [2001], .u [.sl (q 1041) 0 1 1224, .n0], ct020o4⟩
set_option maxRecDepth 1000000 in
theorem ct020t4 : memoT ct020v3 ct020r4 = true := by kernel_rfl
noncomputable def ct020v4 : Ov := memoOv ct020r4 ct020v3
theorem ct020g4 {ν : Nat → Int} : OvGood ν ct020v4 := memo_good ct020g3 ct020g3 ct020t4
noncomputable def ct020o5 : List (List V) := [ck116]
noncomputable def ct020r5 : Rec := ⟨90, [.g [.sl (q 1048) 0 1 1, .sl (q 1122) 0 6 4, .sl (q 1386) 0 6 6, .sl (q 1394) 0 1 4, .s (T 3 0x727269), .sl (q 1400) 0 1 3, .s0, .s0, .sl (q 1404) 0 3 1, .sl (q 1408) 0 3 1, I 1, I 2]], q 1410, rnL 1002 (N [1048, 1122, 1386, 1394, 1400, 1404, 1408, 1046, 1051, 1055, 1059, 1065, 1071, 1075, 1079, 1085, 1091, 1095, 1099, 1105, 1111, 1113, 1119, 1151, 1179, 1231, 1267, 1295, 1383, 1062, 1082, 1102, 1116]) ct020o2, N [2370], .u [.sl (q 1410) 0 1 1224, .n0], ct020o5⟩
set_option maxRecDepth 1000000 in
theorem ct020t5 : memoT ct020v4 ct020r5 = true := by kernel_rfl
noncomputable def ct020v5 : Ov := memoOv ct020r5 ct020v4
theorem ct020g5 {ν : Nat → Int} : OvGood ν ct020v5 := memo_good ct020g4 ct020g4 ct020t5
noncomputable def ct020r6 : Rec := ⟨91, [.sl (q 1041) 0 1 1224], q 1042, [(q 1041, ck116)], cn2, .u [.g [.sl (q 1042) 0 1 1, .sl (q 1043) 0 6 4, .sl (q 1044) 0 6 6, .sl (q 1045) 0 1 4, .s (T 3 0x727269), .sl (q 1046) 0 1 3, .s0, .s0, .sl (q 1047) 0 3 1, .sl (q 1048) 0 3 1, I 1, I 2], .n0], shO 1002 1042 33 ct020o2⟩
set_option maxRecDepth 1000000 in
theorem ct020t6 : memoT ct020v5 ct020r6 = true := by kernel_rfl
noncomputable def ct020v6 : Ov := memoOv ct020r6 ct020v5
theorem ct020g6 {ν : Nat → Int} : OvGood ν ct020v6 := memo_good ct020g5 ct020g5 ct020t6
noncomputable def ct020o7 : List (List V) := [ck73, ck74, [I 5, I 1, I 0], [I 0, I 0, .b false], ck75, [I 0], [.sl (q 1054) 0 1 1], ck76, ck77, [I 0, I 1, I 2, I 3], [I 0, I 0, I 0], [I 0, I 0, .b false], [I 5, I 1, I 0], [I 0, I 0, I 0], ck78, [.s (T 3 0x693e69)], [I 5], [I 0, I 1], ck61, ck79, [I 5], [I 2, I 1], ck61, ck80, [I 5], [I 3, I 1], ck61, ck81, [I 4], [.s (T 3 0x693e69)], ck82, ck66, ck67, ck68, ck69, ck70, ck115, [I 5], [I 5], [I 5], [I 0], [I 2], [I 3], [I 4]]
noncomputable def ct020r7 : Rec := ⟨21, [.g [.sl (q 1002) 0 1 1, .sl (q 1003) 0 6 4, .sl (q 1004) 0 6 6, .sl (q 1005) 0 1 4, .s (T 3 0x727269), .sl (q 1006) 0 1 3, .s0, .s0, .sl (q 1007) 0 3 1, .sl (q 1008) 0 3 1, I 1, I 2]], q 1039, nmL 1002 ct020o2, cn3, .u [.p (q 1039) 0, .n0], ct020o7⟩
set_option maxRecDepth 1000000 in
theorem ct020t7 : memoT ct020v6 ct020r7 = true := by kernel_rfl
noncomputable def ct020v7 : Ov := memoOv ct020r7 ct020v6
theorem ct020g7 {ν : Nat → Int} : OvGood ν ct020v7 := memo_good ct020g6 ct020g6 ct020t7
set_option maxRecDepth 1000000 in
theorem ct020_ev : okv (mEv ct020v7 [] [(lowZ 0 4, 0), (lowZ 1 5, 2)] 3 [.i .i64 (.var 0), .i .i64 (.var 1), .b false] start) = some (.b true) := by kernel_rfl
theorem ct020 (x y : Int) (w : World) (hA : Tp.Asc w) (h0 : zval (fun n => match n with | 0 => x | _ => y) (lowZ 0 4) = 0) (h1 : zval (fun n => match n with | 0 => x | _ => y) (lowZ 1 5) = 2) : Calls Tryz.prog 3 #[.int .i64 x, .int .i64 y, .bool false] w (fun e w' => e = .returned (.bool true) ∧ Below w.heap.size w w') :=
  tm_true (ν := (fun n => match n with | 0 => x | _ => y)) w hA ct020g7 path_nil (norm_cons h0 (norm_cons h1 norm_nil)) ct020_ev (args := [.int .i64 x, .int .i64 y, .bool false]) (by simp [VRs, VR, zval])
end Go.Proofs.YtoinghomkcjkcaaGreatDoor
/- TopCasts 021: its calls, and that it answers true. -/
namespace Go.Proofs.YtoinghomkcjkcaaGreatDoor
set_option linter.unusedSimpArgs false
set_option linter.unusedVariables false
set_option linter.constructorNameAsVariable false
open Go Go.RowKit
open Ev
noncomputable def ct021s : List Z := Ev.app cfam (T 131 0x3b2050203a2029203020595449524f495250202c2031204c41565245544e4920282054204b534154204d4152474f52505f444e45203b2046495f444e45203b2031203d3a20792045534c45203b2032203d3a2079204e454854204c4c554e203d2072204649203b2066203d3f2072203b20292061202820464552203d3a2066203b2043)
noncomputable def ct021o0 : List (List V) := [ck0, ck83, ck2, [.s (T 1 0x46)], ck3, ck4, ck5, ck6, [.s (T 1 0x46)], ck7, ck112, ck84, ck10, ck10, ck11, ck12, ck10, ck13, ck10, ck14, ck10, ck15, ck16, ck26, ck85, ck86, ck87, ck88, ck89, ck90, ck91, ck92, ck27, ck57, ck28, ck30, ck31, ck32, ck33, ck93, ck35, ck36, ck31, ck35]
noncomputable def ct021r0 : Rec := ⟨23, [.s ct021s], q 1004, [], cn4, .u [.g [.sl (q 1004) 0 11 7], .sl (q 1005) 0 1 7, .n0], ct021o0⟩
set_option maxRecDepth 1000000 in
theorem ct021t0 : memoT sOv ct021r0 = true := by kernel_rfl
noncomputable def ct021v0 : Ov := memoOv ct021r0 sOv
theorem ct021g0 {ν : Nat → Int} : OvGood ν ct021v0 := memo_good sOv_good sOv_good ct021t0
noncomputable def ct021o1 : List (List V) := [ck37, ck38, [.s (T 1 0x46)], ck3, ck39, ck40, ck41, [.s (T 1 0x46)], ck42, ck112, ck94, ck10, ck10, ck44, ck45, ck10, ck46, ck10, ck47, ck10, ck48, ck16, ck26, ck95, ck96, ck97, ck98, ck87, ck99, ck89, ck100, ck27, ck101, ck56, ck30, ck31, ck32, ck33, ck102, ck35, ck36, ck31, ck35]
noncomputable def ct021r1 : Rec := ⟨14, [.s ct021s], q 1003, [], cn5, .u [.g [.sl (q 1003) 0 11 7], .s0], ct021o1⟩
set_option maxRecDepth 1000000 in
theorem ct021t1 : memoT ct021v0 ct021r1 = true := by kernel_rfl
noncomputable def ct021v1 : Ov := memoOv ct021r1 ct021v0
theorem ct021g1 {ν : Nat → Int} : OvGood ν ct021v1 := memo_good ct021g0 ct021g0 ct021t1
noncomputable def ct021o2 : List (List V) := [[.sl (q 1009) 0 1 1], ck59, ck60, [I 0, I 1, I 2, I 3], [I 0, I 0, I 0], [I 0, I 0, .b false], [I 5, I 1, I 0], [.s (T 3 0x693e69)], [I 5], [I 0, I 1], ck61, ck62, [I 5], [I 2, I 1], ck61, ck63, [I 5], [I 3, I 1], ck61, ck64, [I 4], [.s (T 3 0x693e69)], ck65, ck66, ck67, ck68, ck69, ck70, ck117, [I 0], [I 2], [I 3], [I 4]]
noncomputable def ct021r2 : Rec := ⟨12, [.s ct021s], q 1002, [], N [4082, 5305, 5637, 5449, 4075, 5325, 5544, 4080, 4128, 4271, 4274, 4354, 4416, 4593, 4596, 4690, 4768, 4980, 4983, 5093, 5220, 5223, 5303, 5827, 5968, 6339, 6721, 6823, 7380, 4352, 4688, 5091, 5301], .u [.g [.sl (q 1002) 0 1 1, .sl (q 1003) 0 6 4, .sl (q 1004) 0 6 6, .sl (q 1005) 0 1 4, .s (T 3 0x727269), .sl (q 1006) 0 1 3, .s0, .s0, .sl (q 1007) 0 3 1, .sl (q 1008) 0 3 1, I 1, I 2], .s0], ct021o2⟩
set_option maxRecDepth 1000000 in
theorem ct021t2 : memoT ct021v1 ct021r2 = true := by kernel_rfl
noncomputable def ct021v2 : Ov := memoOv ct021r2 ct021v1
theorem ct021g2 {ν : Nat → Int} : OvGood ν ct021v2 := memo_good ct021g1 ct021g1 ct021t2
noncomputable def ct021r3 : Rec := ⟨15, [.g [.sl (q 1002) 0 1 1, .sl (q 1003) 0 6 4, .sl (q 1004) 0 6 6, .sl (q 1005) 0 1 4, .s (T 3 0x727269), .sl (q 1006) 0 1 3, .s0, .s0, .sl (q 1007) 0 3 1, .sl (q 1008) 0 3 1, I 1, I 2]], q 1041, nmL 1002 ct021o2, N [], .n0, []⟩
set_option maxRecDepth 1000000 in
theorem ct021t3 : memoT ct021v2 ct021r3 = true := by kernel_rfl
noncomputable def ct021v3 : Ov := memoOv ct021r3 ct021v2
theorem ct021g3 {ν : Nat → Int} : OvGood ν ct021v3 := memo_good ct021g2 ct021g2 ct021t3
noncomputable def ct021o4 : List (List V) := [ck118]
noncomputable def ct021r4 : Rec := ⟨90, [.g [.sl (q 1002) 0 1 1, .sl (q 1003) 0 6 4, .sl (q 1004) 0 6 6, .sl (q 1005) 0 1 4, .s (T 3 0x727269), .sl (q 1006) 0 1 3, .s0, .s0, .sl (q 1007) 0 3 1, .sl (q 1008) 0 3 1, I 1, I 2]], q 1041, nmL 1002 ct021o2, N [2001], .u [.sl (q 1041) 0 1 1224, .n0], ct021o4⟩
set_option maxRecDepth 1000000 in
theorem ct021t4 : memoT ct021v3 ct021r4 = true := by kernel_rfl
noncomputable def ct021v4 : Ov := memoOv ct021r4 ct021v3
theorem ct021g4 {ν : Nat → Int} : OvGood ν ct021v4 := memo_good ct021g3 ct021g3 ct021t4
noncomputable def ct021o5 : List (List V) := [ck118]
noncomputable def ct021r5 : Rec := ⟨90, [.g [.sl (q 1048) 0 1 1, .sl (q 1122) 0 6 4, .sl (q 1386) 0 6 6, .sl (q 1394) 0 1 4, .s (T 3 0x727269), .sl (q 1400) 0 1 3, .s0, .s0, .sl (q 1404) 0 3 1, .sl (q 1408) 0 3 1, I 1, I 2]], q 1410, rnL 1002 (N [1048, 1122, 1386, 1394, 1400, 1404, 1408, 1046, 1051, 1055, 1059, 1065, 1071, 1075, 1079, 1085, 1091, 1095, 1099, 1105, 1111, 1113, 1119, 1151, 1179, 1231, 1267, 1295, 1383, 1062, 1082, 1102, 1116]) ct021o2, N [2370], .u [.sl (q 1410) 0 1 1224, .n0], ct021o5⟩
set_option maxRecDepth 1000000 in
theorem ct021t5 : memoT ct021v4 ct021r5 = true := by kernel_rfl
noncomputable def ct021v5 : Ov := memoOv ct021r5 ct021v4
theorem ct021g5 {ν : Nat → Int} : OvGood ν ct021v5 := memo_good ct021g4 ct021g4 ct021t5
noncomputable def ct021r6 : Rec := ⟨91, [.sl (q 1041) 0 1 1224], q 1042, [(q 1041, ck118)], cn2, .u [.g [.sl (q 1042) 0 1 1, .sl (q 1043) 0 6 4, .sl (q 1044) 0 6 6, .sl (q 1045) 0 1 4, .s (T 3 0x727269), .sl (q 1046) 0 1 3, .s0, .s0, .sl (q 1047) 0 3 1, .sl (q 1048) 0 3 1, I 1, I 2], .n0], shO 1002 1042 33 ct021o2⟩
set_option maxRecDepth 1000000 in
theorem ct021t6 : memoT ct021v5 ct021r6 = true := by kernel_rfl
noncomputable def ct021v6 : Ov := memoOv ct021r6 ct021v5
theorem ct021g6 {ν : Nat → Int} : OvGood ν ct021v6 := memo_good ct021g5 ct021g5 ct021t6
noncomputable def ct021o7 : List (List V) := [ck73, ck74, [I 5, I 1, I 0], [I 0, I 0, .b false], ck75, [I 0], [.sl (q 1054) 0 1 1], ck76, ck77, [I 0, I 1, I 2, I 3], [I 0, I 0, I 0], [I 0, I 0, .b false], [I 5, I 1, I 0], [I 0, I 0, I 0], ck78, [.s (T 3 0x693e69)], [I 5], [I 0, I 1], ck61, ck79, [I 5], [I 2, I 1], ck61, ck80, [I 5], [I 3, I 1], ck61, ck81, [I 4], [.s (T 3 0x693e69)], ck82, ck66, ck67, ck68, ck69, ck70, ck117, [I 5], [I 5], [I 5], [I 0], [I 2], [I 3], [I 4]]
noncomputable def ct021r7 : Rec := ⟨21, [.g [.sl (q 1002) 0 1 1, .sl (q 1003) 0 6 4, .sl (q 1004) 0 6 6, .sl (q 1005) 0 1 4, .s (T 3 0x727269), .sl (q 1006) 0 1 3, .s0, .s0, .sl (q 1007) 0 3 1, .sl (q 1008) 0 3 1, I 1, I 2]], q 1039, nmL 1002 ct021o2, cn3, .u [.p (q 1039) 0, .n0], ct021o7⟩
set_option maxRecDepth 1000000 in
theorem ct021t7 : memoT ct021v6 ct021r7 = true := by kernel_rfl
noncomputable def ct021v7 : Ov := memoOv ct021r7 ct021v6
theorem ct021g7 {ν : Nat → Int} : OvGood ν ct021v7 := memo_good ct021g6 ct021g6 ct021t7
set_option maxRecDepth 1000000 in
theorem ct021_ev : okv (mEv ct021v7 [] [(lowZ 0 4, 0), (lowZ 1 5, 2)] 3 [.i .i64 (.var 0), .i .i64 (.var 1), .b true] start) = some (.b true) := by kernel_rfl
theorem ct021 (x y : Int) (w : World) (hA : Tp.Asc w) (h0 : zval (fun n => match n with | 0 => x | _ => y) (lowZ 0 4) = 0) (h1 : zval (fun n => match n with | 0 => x | _ => y) (lowZ 1 5) = 2) : Calls Tryz.prog 3 #[.int .i64 x, .int .i64 y, .bool true] w (fun e w' => e = .returned (.bool true) ∧ Below w.heap.size w w') :=
  tm_true (ν := (fun n => match n with | 0 => x | _ => y)) w hA ct021g7 path_nil (norm_cons h0 (norm_cons h1 norm_nil)) ct021_ev (args := [.int .i64 x, .int .i64 y, .bool true]) (by simp [VRs, VR, zval])
end Go.Proofs.YtoinghomkcjkcaaGreatDoor
