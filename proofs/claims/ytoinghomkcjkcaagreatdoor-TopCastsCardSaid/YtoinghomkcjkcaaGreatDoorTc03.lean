/- TopCasts 030: its calls, and that it answers true. -/
import Derived.Test.YtoinghomkcjkcaaGreatDoorTcD
namespace Go.Proofs.YtoinghomkcjkcaaGreatDoor
set_option linter.unusedSimpArgs false
set_option linter.unusedVariables false
set_option linter.constructorNameAsVariable false
open Go Go.RowKit
open Ev
noncomputable def ct030s : List Z := Ev.app cfam (T 140 0x3b2050203a2029203020595449524f495250202c2031204c41565245544e4920282054204b534154204d4152474f52505f444e45203b2046495f444e45203b2031203d3a20792045534c45203b2032203d3a2079204e454854204c4c554e203d2072204649203b2029206620282044205341203d3a2072203b20292061202820464552203d3a2066203b2044)
noncomputable def ct030o0 : List (List V) := [ck0, ck1, ck2, [.s (T 1 0x46)], ck3, ck4, ck5, ck6, [.s (T 1 0x46)], ck7, ck119, ck9, ck10, ck10, ck11, ck12, ck10, ck13, ck10, ck14, ck10, ck15, ck16, ck120, ck18, ck19, ck20, ck21, ck22, ck23, ck24, ck25, ck26, ck27, ck28, ck29, ck30, ck31, ck32, ck33, ck34, ck35, ck36, ck31, ck35]
noncomputable def ct030r0 : Rec := ⟨23, [.s ct030s], q 1004, [], cn0, .u [.g [.sl (q 1004) 0 11 7], .sl (q 1005) 0 1 7, .n0], ct030o0⟩
set_option maxRecDepth 1000000 in
theorem ct030t0 : memoT sOv ct030r0 = true := by kernel_rfl
noncomputable def ct030v0 : Ov := memoOv ct030r0 sOv
theorem ct030g0 {ν : Nat → Int} : OvGood ν ct030v0 := memo_good sOv_good sOv_good ct030t0
noncomputable def ct030o1 : List (List V) := [ck37, ck38, [.s (T 1 0x46)], ck3, ck39, ck40, ck41, [.s (T 1 0x46)], ck42, ck119, ck43, ck10, ck10, ck44, ck45, ck10, ck46, ck10, ck47, ck10, ck48, ck16, ck121, ck50, ck51, ck52, ck53, ck20, ck54, ck22, ck55, ck26, ck27, ck56, ck57, ck30, ck31, ck32, ck33, ck58, ck35, ck36, ck31, ck35]
noncomputable def ct030r1 : Rec := ⟨14, [.s ct030s], q 1003, [], cn1, .u [.g [.sl (q 1003) 0 11 7], .s0], ct030o1⟩
set_option maxRecDepth 1000000 in
theorem ct030t1 : memoT ct030v0 ct030r1 = true := by kernel_rfl
noncomputable def ct030v1 : Ov := memoOv ct030r1 ct030v0
theorem ct030g1 {ν : Nat → Int} : OvGood ν ct030v1 := memo_good ct030g0 ct030g0 ct030t1
noncomputable def ct030o2 : List (List V) := [[.sl (q 1009) 0 1 1], ck59, ck60, [I 0, I 1, I 2, I 3], [I 0, I 0, I 0], [I 0, I 0, .b false], [I 5, I 1, I 0], [.s (T 3 0x693e69)], [I 5], [I 0, I 1], ck61, ck62, [I 5], [I 2, I 1], ck61, ck63, [I 5], [I 3, I 1], ck61, ck64, [I 4], [.s (T 3 0x693e69)], ck65, ck66, ck67, ck68, ck69, ck70, ck122, [I 0], [I 2], [I 3], [I 4]]
noncomputable def ct030r2 : Rec := ⟨12, [.s ct030s], q 1002, [], cn7, .u [.g [.sl (q 1002) 0 1 1, .sl (q 1003) 0 6 4, .sl (q 1004) 0 6 6, .sl (q 1005) 0 1 4, .s (T 3 0x727269), .sl (q 1006) 0 1 3, .s0, .s0, .sl (q 1007) 0 3 1, .sl (q 1008) 0 3 1, I 1, I 2], .s0], ct030o2⟩
set_option maxRecDepth 1000000 in
theorem ct030t2 : memoT ct030v1 ct030r2 = true := by kernel_rfl
noncomputable def ct030v2 : Ov := memoOv ct030r2 ct030v1
theorem ct030g2 {ν : Nat → Int} : OvGood ν ct030v2 := memo_good ct030g1 ct030g1 ct030t2
noncomputable def ct030r3 : Rec := ⟨15, [.g [.sl (q 1002) 0 1 1, .sl (q 1003) 0 6 4, .sl (q 1004) 0 6 6, .sl (q 1005) 0 1 4, .s (T 3 0x727269), .sl (q 1006) 0 1 3, .s0, .s0, .sl (q 1007) 0 3 1, .sl (q 1008) 0 3 1, I 1, I 2]], q 1041, nmL 1002 ct030o2, N [], .n0, []⟩
set_option maxRecDepth 1000000 in
theorem ct030t3 : memoT ct030v2 ct030r3 = true := by kernel_rfl
noncomputable def ct030v3 : Ov := memoOv ct030r3 ct030v2
theorem ct030g3 {ν : Nat → Int} : OvGood ν ct030v3 := memo_good ct030g2 ct030g2 ct030t3
noncomputable def ct030o4 : List (List V) := [ck123]
noncomputable def ct030r4 : Rec := ⟨90, [.g [.sl (q 1002) 0 1 1, .sl (q 1003) 0 6 4, .sl (q 1004) 0 6 6, .sl (q 1005) 0 1 4, .s (T 3 0x727269), .sl (q 1006) 0 1 3, .s0, .s0, .sl (q 1007) 0 3 1, .sl (q 1008) 0 3 1, I 1, I 2]], q 1041, nmL 1002 ct030o2, N [2001], .u [.sl (q 1041) 0 1 1224, .n0], ct030o4⟩
set_option maxRecDepth 1000000 in
theorem ct030t4 : memoT ct030v3 ct030r4 = true := by kernel_rfl
noncomputable def ct030v4 : Ov := memoOv ct030r4 ct030v3
theorem ct030g4 {ν : Nat → Int} : OvGood ν ct030v4 := memo_good ct030g3 ct030g3 ct030t4
noncomputable def ct030o5 : List (List V) := [ck123]
noncomputable def ct030r5 : Rec := ⟨90, [.g [.sl (q 1048) 0 1 1, .sl (q 1122) 0 6 4, .sl (q 1386) 0 6 6, .sl (q 1394) 0 1 4, .s (T 3 0x727269), .sl (q 1400) 0 1 3, .s0, .s0, .sl (q 1404) 0 3 1, .sl (q 1408) 0 3 1, I 1, I 2]], q 1410, rnL 1002 (N [1048, 1122, 1386, 1394, 1400, 1404, 1408, 1046, 1051, 1055, 1059, 1065, 1071, 1075, 1079, 1085, 1091, 1095, 1099, 1105, 1111, 1113, 1119, 1151, 1179, 1231, 1267, 1295, 1383, 1062, 1082, 1102, 1116]) ct030o2, N [2370], .u [.sl (q 1410) 0 1 1224, .n0], ct030o5⟩
set_option maxRecDepth 1000000 in
theorem ct030t5 : memoT ct030v4 ct030r5 = true := by kernel_rfl
noncomputable def ct030v5 : Ov := memoOv ct030r5 ct030v4
theorem ct030g5 {ν : Nat → Int} : OvGood ν ct030v5 := memo_good ct030g4 ct030g4 ct030t5
noncomputable def ct030r6 : Rec := ⟨91, [.sl (q 1041) 0 1 1224], q 1042, [(q 1041, ck123)], cn2, .u [.g [.sl (q 1042) 0 1 1, .sl (q 1043) 0 6 4, .sl (q 1044) 0 6 6, .sl (q 1045) 0 1 4, .s (T 3 0x727269), .sl (q 1046) 0 1 3, .s0, .s0, .sl (q 1047) 0 3 1, .sl (q 1048) 0 3 1, I 1, I 2], .n0], shO 1002 1042 33 ct030o2⟩
set_option maxRecDepth 1000000 in
theorem ct030t6 : memoT ct030v5 ct030r6 = true := by kernel_rfl
noncomputable def ct030v6 : Ov := memoOv ct030r6 ct030v5
theorem ct030g6 {ν : Nat → Int} : OvGood ν ct030v6 := memo_good ct030g5 ct030g5 ct030t6
noncomputable def ct030o7 : List (List V) := [ck73, ck74, [I 5, I 1, I 0], [I 0, I 0, .b false], ck75, [I 0], [.sl (q 1054) 0 1 1], ck76, ck77, [I 0, I 1, I 2, I 3], [I 0, I 0, I 0], [I 0, I 0, .b false], [I 5, I 1, I 0], [I 0, I 0, I 0], ck78, [.s (T 3 0x693e69)], [I 5], [I 0, I 1], ck61, ck79, [I 5], [I 2, I 1], ck61, ck80, [I 5], [I 3, I 1], ck61, ck81, [I 4], [.s (T 3 0x693e69)], ck82, ck66, ck67, ck68, ck69, ck70, ck122, [I 5], [I 5], [I 5], [I 0], [I 2], [I 3], [I 4]]
noncomputable def ct030r7 : Rec := ⟨21, [.g [.sl (q 1002) 0 1 1, .sl (q 1003) 0 6 4, .sl (q 1004) 0 6 6, .sl (q 1005) 0 1 4, .s (T 3 0x727269), .sl (q 1006) 0 1 3, .s0, .s0, .sl (q 1007) 0 3 1, .sl (q 1008) 0 3 1, I 1, I 2]], q 1039, nmL 1002 ct030o2, cn3, .u [.p (q 1039) 0, .n0], ct030o7⟩
set_option maxRecDepth 1000000 in
theorem ct030t7 : memoT ct030v6 ct030r7 = true := by kernel_rfl
noncomputable def ct030v7 : Ov := memoOv ct030r7 ct030v6
theorem ct030g7 {ν : Nat → Int} : OvGood ν ct030v7 := memo_good ct030g6 ct030g6 ct030t7
set_option maxRecDepth 1000000 in
theorem ct030_ev : okv (mEv ct030v7 [] [(lowZ 0 4, 0), (lowZ 1 5, 3)] 3 [.i .i64 (.var 0), .i .i64 (.var 1), .b false] start) = some (.b true) := by kernel_rfl
theorem ct030 (x y : Int) (w : World) (hA : Tp.Asc w) (h0 : zval (fun n => match n with | 0 => x | _ => y) (lowZ 0 4) = 0) (h1 : zval (fun n => match n with | 0 => x | _ => y) (lowZ 1 5) = 3) : Calls Tryz.prog 3 #[.int .i64 x, .int .i64 y, .bool false] w (fun e w' => e = .returned (.bool true) ∧ Below w.heap.size w w') :=
  tm_true (ν := (fun n => match n with | 0 => x | _ => y)) w hA ct030g7 path_nil (norm_cons h0 (norm_cons h1 norm_nil)) ct030_ev (args := [.int .i64 x, .int .i64 y, .bool false]) (by simp [VRs, VR, zval])
end Go.Proofs.YtoinghomkcjkcaaGreatDoor
/- TopCasts 031: its calls, and that it answers true. -/
namespace Go.Proofs.YtoinghomkcjkcaaGreatDoor
set_option linter.unusedSimpArgs false
set_option linter.unusedVariables false
set_option linter.constructorNameAsVariable false
open Go Go.RowKit
open Ev
noncomputable def ct031s : List Z := Ev.app cfam (T 131 0x3b2050203a2029203020595449524f495250202c2031204c41565245544e4920282054204b534154204d4152474f52505f444e45203b2046495f444e45203b2031203d3a20792045534c45203b2032203d3a2079204e454854204c4c554e203d2072204649203b2066203d3f2072203b20292061202820464552203d3a2066203b2044)
noncomputable def ct031o0 : List (List V) := [ck0, ck83, ck2, [.s (T 1 0x46)], ck3, ck4, ck5, ck6, [.s (T 1 0x46)], ck7, ck119, ck84, ck10, ck10, ck11, ck12, ck10, ck13, ck10, ck14, ck10, ck15, ck16, ck26, ck85, ck86, ck87, ck88, ck89, ck90, ck91, ck92, ck27, ck57, ck28, ck30, ck31, ck32, ck33, ck93, ck35, ck36, ck31, ck35]
noncomputable def ct031r0 : Rec := ⟨23, [.s ct031s], q 1004, [], cn4, .u [.g [.sl (q 1004) 0 11 7], .sl (q 1005) 0 1 7, .n0], ct031o0⟩
set_option maxRecDepth 1000000 in
theorem ct031t0 : memoT sOv ct031r0 = true := by kernel_rfl
noncomputable def ct031v0 : Ov := memoOv ct031r0 sOv
theorem ct031g0 {ν : Nat → Int} : OvGood ν ct031v0 := memo_good sOv_good sOv_good ct031t0
noncomputable def ct031o1 : List (List V) := [ck37, ck38, [.s (T 1 0x46)], ck3, ck39, ck40, ck41, [.s (T 1 0x46)], ck42, ck119, ck94, ck10, ck10, ck44, ck45, ck10, ck46, ck10, ck47, ck10, ck48, ck16, ck26, ck95, ck96, ck97, ck98, ck87, ck99, ck89, ck100, ck27, ck101, ck56, ck30, ck31, ck32, ck33, ck102, ck35, ck36, ck31, ck35]
noncomputable def ct031r1 : Rec := ⟨14, [.s ct031s], q 1003, [], cn5, .u [.g [.sl (q 1003) 0 11 7], .s0], ct031o1⟩
set_option maxRecDepth 1000000 in
theorem ct031t1 : memoT ct031v0 ct031r1 = true := by kernel_rfl
noncomputable def ct031v1 : Ov := memoOv ct031r1 ct031v0
theorem ct031g1 {ν : Nat → Int} : OvGood ν ct031v1 := memo_good ct031g0 ct031g0 ct031t1
noncomputable def ct031o2 : List (List V) := [[.sl (q 1009) 0 1 1], ck59, ck60, [I 0, I 1, I 2, I 3], [I 0, I 0, I 0], [I 0, I 0, .b false], [I 5, I 1, I 0], [.s (T 3 0x693e69)], [I 5], [I 0, I 1], ck61, ck62, [I 5], [I 2, I 1], ck61, ck63, [I 5], [I 3, I 1], ck61, ck64, [I 4], [.s (T 3 0x693e69)], ck65, ck66, ck67, ck68, ck69, ck70, ck124, [I 0], [I 2], [I 3], [I 4]]
noncomputable def ct031r2 : Rec := ⟨12, [.s ct031s], q 1002, [], N [4083, 5306, 5638, 5450, 4076, 5326, 5545, 4081, 4129, 4272, 4275, 4355, 4417, 4594, 4597, 4691, 4769, 4981, 4984, 5094, 5221, 5224, 5304, 5828, 5969, 6340, 6722, 6824, 7383, 4353, 4689, 5092, 5302], .u [.g [.sl (q 1002) 0 1 1, .sl (q 1003) 0 6 4, .sl (q 1004) 0 6 6, .sl (q 1005) 0 1 4, .s (T 3 0x727269), .sl (q 1006) 0 1 3, .s0, .s0, .sl (q 1007) 0 3 1, .sl (q 1008) 0 3 1, I 1, I 2], .s0], ct031o2⟩
set_option maxRecDepth 1000000 in
theorem ct031t2 : memoT ct031v1 ct031r2 = true := by kernel_rfl
noncomputable def ct031v2 : Ov := memoOv ct031r2 ct031v1
theorem ct031g2 {ν : Nat → Int} : OvGood ν ct031v2 := memo_good ct031g1 ct031g1 ct031t2
noncomputable def ct031r3 : Rec := ⟨15, [.g [.sl (q 1002) 0 1 1, .sl (q 1003) 0 6 4, .sl (q 1004) 0 6 6, .sl (q 1005) 0 1 4, .s (T 3 0x727269), .sl (q 1006) 0 1 3, .s0, .s0, .sl (q 1007) 0 3 1, .sl (q 1008) 0 3 1, I 1, I 2]], q 1041, nmL 1002 ct031o2, N [], .n0, []⟩
set_option maxRecDepth 1000000 in
theorem ct031t3 : memoT ct031v2 ct031r3 = true := by kernel_rfl
noncomputable def ct031v3 : Ov := memoOv ct031r3 ct031v2
theorem ct031g3 {ν : Nat → Int} : OvGood ν ct031v3 := memo_good ct031g2 ct031g2 ct031t3
noncomputable def ct031o4 : List (List V) := [ck125]
noncomputable def ct031r4 : Rec := ⟨90, [.g [.sl (q 1002) 0 1 1, .sl (q 1003) 0 6 4, .sl (q 1004) 0 6 6, .sl (q 1005) 0 1 4, .s (T 3 0x727269), .sl (q 1006) 0 1 3, .s0, .s0, .sl (q 1007) 0 3 1, .sl (q 1008) 0 3 1, I 1, I 2]], q 1041, nmL 1002 ct031o2, N [2001], .u [.sl (q 1041) 0 1 1224, .n0], ct031o4⟩
set_option maxRecDepth 1000000 in
theorem ct031t4 : memoT ct031v3 ct031r4 = true := by kernel_rfl
noncomputable def ct031v4 : Ov := memoOv ct031r4 ct031v3
theorem ct031g4 {ν : Nat → Int} : OvGood ν ct031v4 := memo_good ct031g3 ct031g3 ct031t4
noncomputable def ct031o5 : List (List V) := [ck125]
noncomputable def ct031r5 : Rec := ⟨90, [.g [.sl (q 1048) 0 1 1, .sl (q 1122) 0 6 4, .sl (q 1386) 0 6 6, .sl (q 1394) 0 1 4, .s (T 3 0x727269), .sl (q 1400) 0 1 3, .s0, .s0, .sl (q 1404) 0 3 1, .sl (q 1408) 0 3 1, I 1, I 2]], q 1410, rnL 1002 (N [1048, 1122, 1386, 1394, 1400, 1404, 1408, 1046, 1051, 1055, 1059, 1065, 1071, 1075, 1079, 1085, 1091, 1095, 1099, 1105, 1111, 1113, 1119, 1151, 1179, 1231, 1267, 1295, 1383, 1062, 1082, 1102, 1116]) ct031o2, N [2370], .u [.sl (q 1410) 0 1 1224, .n0], ct031o5⟩
set_option maxRecDepth 1000000 in
theorem ct031t5 : memoT ct031v4 ct031r5 = true := by kernel_rfl
noncomputable def ct031v5 : Ov := memoOv ct031r5 ct031v4
theorem ct031g5 {ν : Nat → Int} : OvGood ν ct031v5 := memo_good ct031g4 ct031g4 ct031t5
noncomputable def ct031r6 : Rec := ⟨91, [.sl (q 1041) 0 1 1224], q 1042, [(q 1041, ck125)], cn2, .u [.g [.sl (q 1042) 0 1 1, .sl (q 1043) 0 6 4, .sl (q 1044) 0 6 6, .sl (q 1045) 0 1 4, .s (T 3 0x727269), .sl (q 1046) 0 1 3, .s0, .s0, .sl (q 1047) 0 3 1, .sl (q 1048) 0 3 1, I 1, I 2], .n0], shO 1002 1042 33 ct031o2⟩
set_option maxRecDepth 1000000 in
theorem ct031t6 : memoT ct031v5 ct031r6 = true := by kernel_rfl
noncomputable def ct031v6 : Ov := memoOv ct031r6 ct031v5
theorem ct031g6 {ν : Nat → Int} : OvGood ν ct031v6 := memo_good ct031g5 ct031g5 ct031t6
noncomputable def ct031o7 : List (List V) := [ck73, ck74, [I 5, I 1, I 0], [I 0, I 0, .b false], ck75, [I 0], [.sl (q 1054) 0 1 1], ck76, ck77, [I 0, I 1, I 2, I 3], [I 0, I 0, I 0], [I 0, I 0, .b false], [I 5, I 1, I 0], [I 0, I 0, I 0], ck78, [.s (T 3 0x693e69)], [I 5], [I 0, I 1], ck61, ck79, [I 5], [I 2, I 1], ck61, ck80, [I 5], [I 3, I 1], ck61, ck81, [I 4], [.s (T 3 0x693e69)], ck82, ck66, ck67, ck68, ck69, ck70, ck124, [I 5], [I 5], [I 5], [I 0], [I 2], [I 3], [I 4]]
noncomputable def ct031r7 : Rec := ⟨21, [.g [.sl (q 1002) 0 1 1, .sl (q 1003) 0 6 4, .sl (q 1004) 0 6 6, .sl (q 1005) 0 1 4, .s (T 3 0x727269), .sl (q 1006) 0 1 3, .s0, .s0, .sl (q 1007) 0 3 1, .sl (q 1008) 0 3 1, I 1, I 2]], q 1039, nmL 1002 ct031o2, cn3, .u [.p (q 1039) 0, .n0], ct031o7⟩
set_option maxRecDepth 1000000 in
theorem ct031t7 : memoT ct031v6 ct031r7 = true := by kernel_rfl
noncomputable def ct031v7 : Ov := memoOv ct031r7 ct031v6
theorem ct031g7 {ν : Nat → Int} : OvGood ν ct031v7 := memo_good ct031g6 ct031g6 ct031t7
set_option maxRecDepth 1000000 in
theorem ct031_ev : okv (mEv ct031v7 [] [(lowZ 0 4, 0), (lowZ 1 5, 3)] 3 [.i .i64 (.var 0), .i .i64 (.var 1), .b true] start) = some (.b true) := by kernel_rfl
theorem ct031 (x y : Int) (w : World) (hA : Tp.Asc w) (h0 : zval (fun n => match n with | 0 => x | _ => y) (lowZ 0 4) = 0) (h1 : zval (fun n => match n with | 0 => x | _ => y) (lowZ 1 5) = 3) : Calls Tryz.prog 3 #[.int .i64 x, .int .i64 y, .bool true] w (fun e w' => e = .returned (.bool true) ∧ Below w.heap.size w w') :=
  tm_true (ν := (fun n => match n with | 0 => x | _ => y)) w hA ct031g7 path_nil (norm_cons h0 (norm_cons h1 norm_nil)) ct031_ev (args := [.int .i64 x, .int .i64 y, .bool true]) (by simp [VRs, VR, zval])
end Go.Proofs.YtoinghomkcjkcaaGreatDoor
