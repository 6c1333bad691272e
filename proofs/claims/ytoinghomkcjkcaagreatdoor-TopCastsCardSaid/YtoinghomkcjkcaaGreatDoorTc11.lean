/- TopCasts 110: its calls, and that it answers true. -/
import Derived.Test.YtoinghomkcjkcaaGreatDoorTcD
namespace Go.Proofs.YtoinghomkcjkcaaGreatDoor
set_option linter.unusedSimpArgs false
set_option linter.unusedVariables false
set_option linter.constructorNameAsVariable false
open Go Go.RowKit
open Ev
noncomputable def ct110s : List Z := Ev.app cfam (T 140 0x3b2050203a2029203020595449524f495250202c2031204c41565245544e4920282054204b534154204d4152474f52505f444e45203b2046495f444e45203b2031203d3a20792045534c45203b2032203d3a2079204e454854204c4c554e203d2072204649203b2029206620282042205341203d3a2072203b20292062202820464552203d3a2066203b2042)
noncomputable def ct110o0 : List (List V) := [ck0, ck1, ck2, [.s (T 1 0x46)], ck3, ck4, ck5, ck6, [.s (T 1 0x46)], ck7, ck105, ck9, ck10, ck10, ck11, ck12, ck10, ck13, ck10, ck14, ck10, ck15, ck133, ck106, ck18, ck19, ck20, ck21, ck22, ck23, ck24, ck25, ck26, ck27, ck28, ck29, ck30, ck31, ck32, ck33, ck34, ck35, ck36, ck31, ck35]
noncomputable def ct110r0 : Rec := ⟨23, [.s ct110s], q 1004, [], cn0, .u [.g [.sl (q 1004) 0 11 7], .sl (q 1005) 0 1 7, .n0], ct110o0⟩
set_option maxRecDepth 1000000 in
theorem ct110t0 : memoT sOv ct110r0 = true := by kernel_rfl
noncomputable def ct110v0 : Ov := memoOv ct110r0 sOv
theorem ct110g0 {ν : Nat → Int} : OvGood ν ct110v0 := memo_good sOv_good sOv_good ct110t0
noncomputable def ct110o1 : List (List V) := [ck37, ck38, [.s (T 1 0x46)], ck3, ck39, ck40, ck41, [.s (T 1 0x46)], ck42, ck105, ck43, ck10, ck10, ck44, ck45, ck10, ck46, ck10, ck47, ck10, ck48, ck133, ck107, ck50, ck51, ck52, ck53, ck20, ck54, ck22, ck55, ck26, ck27, ck56, ck57, ck30, ck31, ck32, ck33, ck58, ck35, ck36, ck31, ck35]
noncomputable def ct110r1 : Rec := ⟨14, [.s ct110s], q 1003, [], cn1, .u [.g [.sl (q 1003) 0 11 7], .s0], ct110o1⟩
set_option maxRecDepth 1000000 in
theorem ct110t1 : memoT ct110v0 ct110r1 = true := by kernel_rfl
noncomputable def ct110v1 : Ov := memoOv ct110r1 ct110v0
theorem ct110g1 {ν : Nat → Int} : OvGood ν ct110v1 := memo_good ct110g0 ct110g0 ct110t1
noncomputable def ct110o2 : List (List V) := [[.sl (q 1009) 0 1 1], ck59, ck60, [I 0, I 1, I 2, I 3], [I 0, I 0, I 0], [I 0, I 0, .b false], [I 5, I 1, I 0], [.s (T 3 0x693e69)], [I 5], [I 0, I 1], ck61, ck62, [I 5], [I 2, I 1], ck61, ck63, [I 5], [I 3, I 1], ck61, ck64, [I 4], [.s (T 3 0x693e69)], ck65, ck66, ck67, ck68, ck69, ck70, ck138, [I 0], [I 2], [I 3], [I 4]]
noncomputable def ct110r2 : Rec := ⟨12, [.s ct110s], q 1002, [], N [4114, 5337, 5669, 5481, 4107, 5357, 5576, 4112, 4160, 4303, 4306, 4386, 4448, 4625, 4628, 4722, 4800, 5012, 5015, 5125, 5252, 5255, 5335, 5859, 6000, 6371, 6753, 6855, 7415, 4384, 4720, 5123, 5333], .u [.g [.sl (q 1002) 0 1 1, .sl (q 1003) 0 6 4, .sl (q 1004) 0 6 6, .sl (q 1005) 0 1 4, .s (T 3 0x727269), .sl (q 1006) 0 1 3, .s0, .s0, .sl (q 1007) 0 3 1, .sl (q 1008) 0 3 1, I 1, I 2], .s0], ct110o2⟩
set_option maxRecDepth 1000000 in
theorem ct110t2 : memoT ct110v1 ct110r2 = true := by kernel_rfl
noncomputable def ct110v2 : Ov := memoOv ct110r2 ct110v1
theorem ct110g2 {ν : Nat → Int} : OvGood ν ct110v2 := memo_good ct110g1 ct110g1 ct110t2
noncomputable def ct110r3 : Rec := ⟨15, [.g [.sl (q 1002) 0 1 1, .sl (q 1003) 0 6 4, .sl (q 1004) 0 6 6, .sl (q 1005) 0 1 4, .s (T 3 0x727269), .sl (q 1006) 0 1 3, .s0, .s0, .sl (q 1007) 0 3 1, .sl (q 1008) 0 3 1, I 1, I 2]], q 1041, nmL 1002 ct110o2, N [], .n0, []⟩
set_option maxRecDepth 1000000 in
theorem ct110t3 : memoT ct110v2 ct110r3 = true := by kernel_rfl
noncomputable def ct110v3 : Ov := memoOv ct110r3 ct110v2
theorem ct110g3 {ν : Nat → Int} : OvGood ν ct110v3 := memo_good ct110g2 ct110g2 ct110t3
noncomputable def ct110o4 : List (List V) := [ck139]
noncomputable def ct110r4 : Rec := ⟨90, [.g [.sl (q 1002) 0 1 1, .sl (q 1003) 0 6 4, .sl (q 1004) 0 6 6, .sl (q 1005) 0 1 4, .s (T 3 0x727269), .sl (q 1006) 0 1 3, .s0, .s0, .sl (q 1007) 0 3 1, .sl (q 1008) 0 3 1, I 1, I 2]], q 1041, nmL 1002 ct110o2, N [2001], .u [.sl (q 1041) 0 1 1224, .n0], ct110o4⟩
set_option maxRecDepth 1000000 in
theorem ct110t4 : memoT ct110v3 ct110r4 = true := by kernel_rfl
noncomputable def ct110v4 : Ov := memoOv ct110r4 ct110v3
theorem ct110g4 {ν : Nat → Int} : OvGood ν ct110v4 := memo_good ct110g3 ct110g3 ct110t4
noncomputable def ct110o5 : List (List V) := [ck139]
noncomputable def ct110r5 : Rec := ⟨90, [.g [.sl (q 1048) 0 1 1, .sl (q 1122) 0 6 4, .sl (q 1386) 0 6 6, .sl (q 1394) 0 1 4, .s (T 3 0x727269), .sl (q 1400) 0 1 3, .s0, .s0, .sl (q 1404) 0 3 1, .sl (q 1408) 0 3 1, I 1, I 2]], q 1410, rnL 1002 (N [1048, 1122, 1386, 1394, 1400, 1404, 1408, 1046, 1051, 1055, 1059, 1065, 1071, 1075, 1079, 1085, 1091, 1095, 1099, 1105, 1111, 1113, 1119, 1151, 1179, 1231, 1267, 1295, 1383, 1062, 1082, 1102, 1116]) ct110o2, N [2370], .u [.sl (q 1410) 0 1 1224, .n0], ct110o5⟩
set_option maxRecDepth 1000000 in
theorem ct110t5 : memoT ct110v4 ct110r5 = true := by kernel_rfl
noncomputable def ct110v5 : Ov := memoOv ct110r5 ct110v4
theorem ct110g5 {ν : Nat → Int} : OvGood ν ct110v5 := memo_good ct110g4 ct110g4 ct110t5
noncomputable def ct110r6 : Rec := ⟨91, [.sl (q 1041) 0 1 1224], q 1042, [(q 1041, ck139)], cn2, .u [.g [.sl (q 1042) 0 1 1, .sl (q 1043) 0 6 4, .sl (q 1044) 0 6 6, .sl (q 1045) 0 1 4, .s (T 3 0x727269), .sl (q 1046) 0 1 3, .s0, .s0, .sl (q 1047) 0 3 1, .sl (q 1048) 0 3 1, I 1, I 2], .n0], shO 1002 1042 33 ct110o2⟩
set_option maxRecDepth 1000000 in
theorem ct110t6 : memoT ct110v5 ct110r6 = true := by kernel_rfl
noncomputable def ct110v6 : Ov := memoOv ct110r6 ct110v5
theorem ct110g6 {ν : Nat → Int} : OvGood ν ct110v6 := memo_good ct110g5 ct110g5 ct110t6
noncomputable def ct110o7 : List (List V) := [ck73, ck74, [I 5, I 1, I 0], [I 0, I 0, .b false], ck75, [I 0], [.sl (q 1054) 0 1 1], ck76, ck77, [I 0, I 1, I 2, I 3], [I 0, I 0, I 0], [I 0, I 0, .b false], [I 5, I 1, I 0], [I 0, I 0, I 0], ck78, [.s (T 3 0x693e69)], [I 5], [I 0, I 1], ck61, ck79, [I 5], [I 2, I 1], ck61, ck80, [I 5], [I 3, I 1], ck61, ck81, [I 4], [.s (T 3 0x693e69)], ck82, ck66, ck67, ck68, ck69, ck70, ck138, [I 5], [I 5], [I 5], [I 0], [I 2], [I 3], [I 4]]
noncomputable def ct110r7 : Rec := ⟨21, [.g [.sl (q 1002) 0 1 1, .sl (q 1003) 0 6 4, .sl (q 1004) 0 6 6, .sl (q 1005) 0 1 4, .s (T 3 0x727269), .sl (q 1006) 0 1 3, .s0, .s0, .sl (q 1007) 0 3 1, .sl (q 1008) 0 3 1, I 1, I 2]], q 1039, nmL 1002 ct110o2, cn3, .u [.p (q 1039) 0, .n0], ct110o7⟩
set_option maxRecDepth 1000000 in
theorem ct110t7 : memoT ct110v6 ct110r7 = true := by kernel_rfl
noncomputable def ct110v7 : Ov := memoOv ct110r7 ct110v6
theorem ct110g7 {ν : Nat → Int} : OvGood ν ct110v7 := memo_good ct110g6 ct110g6 ct110t7
set_option maxRecDepth 1000000 in
theorem ct110_ev : okv (mEv ct110v7 [] [(lowZ 0 4, 1), (lowZ 1 5, 1)] 3 [.i .i64 (.var 0), .i .i64 (.var 1), .b false] start) = some (.b true) := by kernel_rfl
theorem ct110 (x y : Int) (w : World) (hA : Tp.Asc w) (h0 : zval (fun n => match n with | 0 => x | _ => y) (lowZ 0 4) = 1) (h1 : zval (fun n => match n with | 0 => x | _ => y) (lowZ 1 5) = 1) : Calls Tryz.prog 3 #[.int .i64 x, .int .i64 y, .bool false] w (fun e w' => e = .returned (.bool true) ∧ Below w.heap.size w w') :=
  tm_true (ν := (fun n => match n with | 0 => x | _ => y)) w hA ct110g7 path_nil (norm_cons h0 (norm_cons h1 norm_nil)) ct110_ev (args := [.int .i64 x, .int .i64 y, .bool false]) (by simp [VRs, VR, zval])
end Go.Proofs.YtoinghomkcjkcaaGreatDoor
/- TopCasts 111: its calls, and that it answers true. -/
namespace Go.Proofs.YtoinghomkcjkcaaGreatDoor
set_option linter.unusedSimpArgs false
set_option linter.unusedVariables false
set_option linter.constructorNameAsVariable false
open Go Go.RowKit
open Ev
noncomputable def ct111s : List Z := Ev.app cfam (T 131 0x3b2050203a2029203020595449524f495250202c2031204c41565245544e4920282054204b534154204d4152474f52505f444e45203b2046495f444e45203b2031203d3a20792045534c45203b2032203d3a2079204e454854204c4c554e203d2072204649203b2066203d3f2072203b20292062202820464552203d3a2066203b2042)
noncomputable def ct111o0 : List (List V) := [ck0, ck83, ck2, [.s (T 1 0x46)], ck3, ck4, ck5, ck6, [.s (T 1 0x46)], ck7, ck105, ck84, ck10, ck10, ck11, ck12, ck10, ck13, ck10, ck14, ck10, ck15, ck133, ck26, ck85, ck86, ck87, ck88, ck89, ck90, ck91, ck92, ck27, ck57, ck28, ck30, ck31, ck32, ck33, ck93, ck35, ck36, ck31, ck35]
noncomputable def ct111r0 : Rec := ⟨23, [.s ct111s], q 1004, [], cn4, .u [.g [.sl (q 1004) 0 11 7], .sl (q 1005) 0 1 7, .n0], ct111o0⟩
set_option maxRecDepth 1000000 in
theorem ct111t0 : memoT sOv ct111r0 = true := by kernel_rfl
noncomputable def ct111v0 : Ov := memoOv ct111r0 sOv
theorem ct111g0 {ν : Nat → Int} : OvGood ν ct111v0 := memo_good sOv_good sOv_good ct111t0
noncomputable def ct111o1 : List (List V) := [ck37, ck38, [.s (T 1 0x46)], ck3, ck39, ck40, ck41, [.s (T 1 0x46)], ck42, ck105, ck94, ck10, ck10, ck44, ck45, ck10, ck46, ck10, ck47, ck10, ck48, ck133, ck26, ck95, ck96, ck97, ck98, ck87, ck99, ck89, ck100, ck27, ck101, ck56, ck30, ck31, ck32, ck33, ck102, ck35, ck36, ck31, ck35]
noncomputable def ct111r1 : Rec := ⟨14, [.s ct111s], q 1003, [], cn5, .u [.g [.sl (q 1003) 0 11 7], .s0], ct111o1⟩
set_option maxRecDepth 1000000 in
theorem ct111t1 : memoT ct111v0 ct111r1 = true := by kernel_rfl
noncomputable def ct111v1 : Ov := memoOv ct111r1 ct111v0
theorem ct111g1 {ν : Nat → Int} : OvGood ν ct111v1 := memo_good ct111g0 ct111g0 ct111t1
noncomputable def ct111o2 : List (List V) := [[.sl (q 1009) 0 1 1], ck59, ck60, [I 0, I 1, I 2, I 3], [I 0, I 0, I 0], [I 0, I 0, .b false], [I 5, I 1, I 0], [.s (T 3 0x693e69)], [I 5], [I 0, I 1], ck61, ck62, [I 5], [I 2, I 1], ck61, ck63, [I 5], [I 3, I 1], ck61, ck64, [I 4], [.s (T 3 0x693e69)], ck65, ck66, ck67, ck68, ck69, ck70, ck140, [I 0], [I 2], [I 3], [I 4]]
noncomputable def ct111r2 : Rec := ⟨12, [.s ct111s], q 1002, [], N [4097, 5320, 5652, 5464, 4090, 5340, 5559, 4095, 4143, 4286, 4289, 4369, 4431, 4608, 4611, 4705, 4783, 4995, 4998, 5108, 5235, 5238, 5318, 5842, 5983, 6354, 6736, 6838, 7395, 4367, 4703, 5106, 5316], .u [.g [.sl (q 1002) 0 1 1, .sl (q 1003) 0 6 4, .sl (q 1004) 0 6 6, .sl (q 1005) 0 1 4, .s (T 3 0x727269), .sl (q 1006) 0 1 3, .s0, .s0, .sl (q 1007) 0 3 1, .sl (q 1008) 0 3 1, I 1, I 2], .s0], ct111o2⟩
set_option maxRecDepth 1000000 in
theorem ct111t2 : memoT ct111v1 ct111r2 = true := by kernel_rfl
noncomputable def ct111v2 : Ov := memoOv ct111r2 ct111v1
theorem ct111g2 {ν : Nat → Int} : OvGood ν ct111v2 := memo_good ct111g1 ct111g1 ct111t2
noncomputable def ct111r3 : Rec := ⟨15, [.g [.sl (q 1002) 0 1 1, .sl (q 1003) 0 6 4, .sl (q 1004) 0 6 6, .sl (q 1005) 0 1 4, .s (T 3 0x727269), .sl (q 1006) 0 1 3, .s0, .s0, .sl (q 1007) 0 3 1, .sl (q 1008) 0 3 1, I 1, I 2]], q 1041, nmL 1002 ct111o2, N [], .n0, []⟩
set_option maxRecDepth 1000000 in
theorem ct111t3 : memoT ct111v2 ct111r3 = true := by kernel_rfl
noncomputable def ct111v3 : Ov := memoOv ct111r3 ct111v2
theorem ct111g3 {ν : Nat → Int} : OvGood ν ct111v3 := memo_good ct111g2 ct111g2 ct111t3
noncomputable def ct111o4 : List (List V) := [ck141]
noncomputable def ct111r4 : Rec := ⟨90, [.g [.sl (q 1002) 0 1 1, .sl (q 1003) 0 6 4, .sl (q 1004) 0 6 6, .sl (q 1005) 0 1 4, .s (T 3 0x727269), .sl (q 1006) 0 1 3, .s0, .s0, .sl (q 1007) 0 3 1, .sl (q 1008) 0 3 1, I 1, I 2]], q 1041, nmL 1002 ct111o2, N [2001], .u [.sl (q 1041) 0 1 1224, .n0], ct111o4⟩
set_option maxRecDepth 1000000 in
theorem ct111t4 : memoT ct111v3 ct111r4 = true := by kernel_rfl
noncomputable def ct111v4 : Ov := memoOv ct111r4 ct111v3
theorem ct111g4 {ν : Nat → Int} : OvGood ν ct111v4 := memo_good ct111g3 ct111g3 ct111t4
noncomputable def ct111o5 : List (List V) := [ck141]
noncomputable def ct111r5 : Rec := ⟨90, [.g [.sl (q 1048) 0 1 1, .sl (q 1122) 0 6 4, .sl (q 1386) 0 6 6, .sl (q 1394) 0 1 4, .s (T 3 0x727269), .sl (q 1400) 0 1 3, .s0, .s0, .sl (q 1404) 0 3 1, .sl (q 1408) 0 3 1, I 1, I 2]], q 1410, rnL 1002 (N [1048, 1122, 1386, 1394, 1400, 1404, 1408, 1046, 1051, 1055, 1059, 1065, 1071, 1075, 1079, 1085, 1091, 1095, 1099, 1105, 1111, 1113, 1119, 1151, 1179, 1231, 1267, 1295, 1383, 1062, 1082, 1102, 1116]) ct111o2, N [2370], .u [.sl (q 1410) 0 1 1224, .n0], ct111o5⟩
set_option maxRecDepth 1000000 in
theorem ct111t5 : memoT ct111v4 ct111r5 = true := by kernel_rfl
noncomputable def ct111v5 : Ov := memoOv ct111r5 ct111v4
theorem ct111g5 {ν : Nat → Int} : OvGood ν ct111v5 := memo_good ct111g4 ct111g4 ct111t5
noncomputable def ct111r6 : Rec := ⟨91, [.sl (q 1041) 0 1 1224], q 1042, [(q 1041, ck141)], cn2, .u [.g [.sl (q 1042) 0 1 1, .sl (q 1043) 0 6 4, .sl (q 1044) 0 6 6, .sl (q 1045) 0 1 4, .s (T 3 0x727269), .sl (q 1046) 0 1 3, .s0, .s0, .sl (q 1047) 0 3 1, .sl (q 1048) 0 3 1, I 1, I 2], .n0], shO 1002 1042 33 ct111o2⟩
set_option maxRecDepth 1000000 in
theorem ct111t6 : memoT ct111v5 ct111r6 = true := by kernel_rfl
noncomputable def ct111v6 : Ov := memoOv ct111r6 ct111v5
theorem ct111g6 {ν : Nat → Int} : OvGood ν ct111v6 := memo_good ct111g5 ct111g5 ct111t6
noncomputable def ct111o7 : List (List V) := [ck73, ck74, [I 5, I 1, I 0], [I 0, I 0, .b false], ck75, [I 0], [.sl (q 1054) 0 1 1], ck76, ck77, [I 0, I 1, I 2, I 3], [I 0, I 0, I 0], [I 0, I 0, .b false], [I 5, I 1, I 0], [I 0, I 0, I 0], ck78, [.s (T 3 0x693e69)], [I 5], [I 0, I 1], ck61, ck79, [I 5], [I 2, I 1], ck61, ck80, [I 5], [I 3, I 1], ck61, ck81, [I 4], [.s (T 3 0x693e69)], ck82, ck66, ck67, ck68, ck69, ck70, ck140, [I 5], [I 5], [I 5], [I 0], [I 2], [I 3], [I 4]]
noncomputable def ct111r7 : Rec := ⟨21, [.g [.sl (q 1002) 0 1 1, .sl (q 1003) 0 6 4, .sl (q 1004) 0 6 6, .sl (q 1005) 0 1 4, .s (T 3 0x727269), .sl (q 1006) 0 1 3, .s0, .s0, .sl (q 1007) 0 3 1, .sl (q 1008) 0 3 1, I 1, I 2]], q 1039, nmL 1002 ct111o2, cn3, .u [.p (q 1039) 0, .n0], ct111o7⟩
set_option maxRecDepth 1000000 in
theorem ct111t7 : memoT ct111v6 ct111r7 = true := by kernel_rfl
noncomputable def ct111v7 : Ov := memoOv ct111r7 ct111v6
theorem ct111g7 {ν : Nat → Int} : OvGood ν ct111v7 := memo_good ct111g6 ct111g6 ct111t7
set_option maxRecDepth 1000000 in
theorem ct111_ev : okv (mEv ct111v7 [] [(lowZ 0 4, 1), (lowZ 1 5, 1)] 3 [.i .i64 (.var 0), .i .i64 (.var 1), .b true] start) = some (.b true) := by kernel_rfl
theorem ct111 (x y : Int) (w : World) (hA : Tp.Asc w) (h0 : zval (fun n => match n with | 0 => x | _ => y) (lowZ 0 4) = 1) (h1 : zval (fun n => match n with | 0 => x | _ => y) (lowZ 1 5) = 1) : Calls Tryz.prog 3 #[.int .i64 x, .int .i64 y, .bool true] w (fun e w' => e = .returned (.bool true) ∧ Below w.heap.size w w') :=
  tm_true (ν := (fun n => match n with | 0 => x | _ => y)) w hA ct111g7 path_nil (norm_cons h0 (norm_cons h1 norm_nil)) ct111_ev (args := [.int .i64 x, .int .i64 y, .bool true]) (by simp [VRs, VR, zval])
end Go.Proofs.YtoinghomkcjkcaaGreatDoor
