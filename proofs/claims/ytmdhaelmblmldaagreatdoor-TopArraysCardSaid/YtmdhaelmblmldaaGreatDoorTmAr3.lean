/- TopArrays: call 0. -/
import Derived.Test.YtmdhaelmblmldaaGreatDoorKk
namespace Go.Proofs.YtmdhaelmblmldaaGreatDoor
set_option linter.unusedSimpArgs false
set_option linter.unusedVariables false
set_option linter.constructorNameAsVariable false
open Go Go.RowKit
open Ev
noncomputable def TmAr3r0 : Rec := ⟨44, [.s (T 195 0x3b2050203a2029203020595449524f495250202c2031204c41565245544e4920282054204b534154204d4152474f52505f444e45203b2031202b205d206a205b2061203d3a2079203b2039203d3a205d2069205b2061203b20544e4920464f205d2033205b205941525241203a206120524156203b20302054554f20544120544e49203a207920524156203b2031204e4920544120544e49203a206a20524156203b2030204e4920544120544e49203a206920524156203b2050204d4152474f525020)], q 1002, [], N [1772, 1717, 1433, 1701, 1546, 1695, 1694, 1679], .u [.g [.sl (q 1002) 0 11 2], .sl (q 1003) 0 1 2, .n0], [[I 3, .s (T 1 0x50), .s [], .s0, .b false, .b false, .sl (q 1004) 0 8 4, .s0, .sl (q 1005) 0 6 2, I 0, I 0, I 4, .s (T 1 0x54), .s (T 1 0x50), .s0, .b false, .b false, .s0, .s0, .s0, I 1, I 0], [I 1, I 155], [.s (T 1 0x69), I 1, I 0, I 0, .s [], I 0, I 1, I 0, .s (T 1 0x6a), I 1, I 0, I 0, .s [], I 0, I 1, I 1, .s (T 1 0x79), I 1, I 0, I 0, .s [], I 0, I 2, I 0, .s (T 1 0x61), I 4, I 0, I 3, .s [], I 0, I 0, I 0], [I 2, I 0, .s (T 1 0x61), .sl (q 1006) 0 5 2, .s0, .s0, I 1, I 0, .s (T 1 0x79), .sl (q 1007) 0 5 1, .s0, .s0], [I 5, I 0, .s (T 1 0x69), .s [], .s0, I 1, I 9, .s [], .s [], .s0], [I 9, I 1, .s [], .s [], .sl (q 1008) 0 5 2], [I 6, I 0, .s (T 1 0x61), .s [], .sl (q 1009) 0 5 1, I 1, I 1, .s [], .s [], .s0], [I 5, I 0, .s (T 1 0x6a), .s [], .s0]]⟩
set_option maxRecDepth 1000000 in
theorem TmAr3t0 : memoT sOv TmAr3r0 = true := by kernel_rfl
noncomputable def TmAr3o0 : Ov := memoOv TmAr3r0 sOv
theorem TmAr3g0 {ν : Nat → Int} : OvGood ν TmAr3o0 := memo_good sOv_good sOv_good TmAr3t0
end Go.Proofs.YtmdhaelmblmldaaGreatDoor
/- TopArrays: call 1. -/
namespace Go.Proofs.YtmdhaelmblmldaaGreatDoor
set_option linter.unusedSimpArgs false
set_option linter.unusedVariables false
set_option linter.constructorNameAsVariable false
open Go Go.RowKit
open Ev
noncomputable def TmAr3r1 : Rec := ⟨23, [.s (T 195 0x3b2050203a2029203020595449524f495250202c2031204c41565245544e4920282054204b534154204d4152474f52505f444e45203b2031202b205d206a205b2061203d3a2079203b2039203d3a205d2069205b2061203b20544e4920464f205d2033205b205941525241203a206120524156203b20302054554f20544120544e49203a207920524156203b2031204e4920544120544e49203a206a20524156203b2030204e4920544120544e49203a206920524156203b2050204d4152474f525020)], q 1000, [], N [1437, 1345, 1375, 1392, 1425, 1701], .u [.g [.s0, .s0, .sl (q 1000) 0 6 1, .s0, .s (T 7 0x69696969696969), .sl (q 1001) 0 1 7, .s0, .sl (q 1002) 0 3 2, .sl (q 1003) 0 3 1, .sl (q 1004) 0 3 1, I 1, I 2], .s0], [[I (-1), .s [], .s [], .b false, I 2, .sl (q 1005) 0 3 11], [I 0, I 0, I 0, I 0, I 0, I 0, I 0], [I 0, I 0, .b false, I 1, I 1, .b false], [I 2, I 0, .b false], [I 0, I 1, I 0], [I 35, I 3, I 0, I 6, I 0, I 0, I 1, I 9, I 0, I 13, I 3, I 4, I 35, I 5, I 0, I 6, I 1, I 0, I 12, I 3, I 4, I 1, I 1, I 0, I 16, I 1, I 0, I 7, I 2, I 0, I 29, I 0, I 0]]⟩
set_option maxRecDepth 1000000 in
theorem TmAr3t1 : memoT TmAr3o0 TmAr3r1 = true := by kernel_rfl
noncomputable def TmAr3o1 : Ov := memoOv TmAr3r1 TmAr3o0
theorem TmAr3g1 {ν : Nat → Int} : OvGood ν TmAr3o1 := memo_good TmAr3g0 TmAr3g0 TmAr3t1
end Go.Proofs.YtmdhaelmblmldaaGreatDoor
/- TopArrays: call 2. -/
namespace Go.Proofs.YtmdhaelmblmldaaGreatDoor
set_option linter.unusedSimpArgs false
set_option linter.unusedVariables false
set_option linter.constructorNameAsVariable false
open Go Go.RowKit
open Ev
noncomputable def TmAr3r2 : Rec := ⟨24, [.g [.s0, .s0, .sl (q 1000) 0 6 1, .s0, .s (T 7 0x69696969696969), .sl (q 1001) 0 1 7, .s0, .sl (q 1002) 0 3 2, .sl (q 1003) 0 3 1, .sl (q 1004) 0 3 1, I 1, I 2]], q 1010, [(q 1000, [I (-1), .s [], .s [], .b false, I 2, .sl (q 1005) 0 3 11]), (q 1001, [I 0, I 0, I 0, I 0, I 0, I 0, I 0]), (q 1002, [I 0, I 0, .b false, I 1, I 1, .b false]), (q 1003, [I 2, I 0, .b false]), (q 1004, [I 0, I 1, I 0]), (q 1005, [I 35, I 3, I 0, I 6, I 0, I 0, I 1, I 9, I 0, I 13, I 3, I 4, I 35, I 5, I 0, I 6, I 1, I 0, I 12, I 3, I 4, I 1, I 1, I 0, I 16, I 1, I 0, I 7, I 2, I 0, I 29, I 0, I 0])], N [1709, 1702, 1706, 1708, 1703, 1704, 1440, 1454, 1462, 1466, 1470, 1701, 1437], .u [.p (q 1010) 0, .n0], [[.p (q 1011) 0, .sl (q 1012) 0 3 1, .sl (q 1013) 0 3 1, I 0, I 0, .sl (q 1014) 0 1 8, .sl (q 1015) 0 1 1], [.s0, .s0, .sl (q 1016) 0 6 1, .s0, .s (T 7 0x69696969696969), .sl (q 1017) 0 1 7, .s0, .sl (q 1018) 0 3 2, .sl (q 1019) 0 3 1, .sl (q 1020) 0 3 1, I 1, I 2, .sl (q 1021) 0 1 7, .s0, .s0, .s0, I 0, I 0, I 0, I 0], [I 0, I 1, I 0], [I 2, I 0, .b false], [I 0, I 0, I 0, I 0, I 0, I 0, I 0, I 0], [I 0], [I (-1), .s [], .s [], .b false, I 2, .sl (q 1022) 0 3 11], [I 0, I 0, I 0, I 0, I 0, I 0, I 0], [I 0, I 0, .b false, I 1, I 1, .b false], [I 2, I 0, .b false], [I 0, I 1, I 0], [I 0, I 0, I 0, I 0, I 0, I 0, I 0], [I 35, I 3, I 0, I 6, I 0, I 0, I 1, I 9, I 0, I 13, I 3, I 4, I 35, I 5, I 0, I 6, I 1, I 0, I 12, I 3, I 4, I 1, I 1, I 0, I 16, I 1, I 0, I 7, I 2, I 0, I 29, I 0, I 0]]⟩
set_option maxRecDepth 1000000 in
theorem TmAr3t2 : memoT TmAr3o1 TmAr3r2 = true := by kernel_rfl
noncomputable def TmAr3o2 : Ov := memoOv TmAr3r2 TmAr3o1
theorem TmAr3g2 {ν : Nat → Int} : OvGood ν TmAr3o2 := memo_good TmAr3g1 TmAr3g1 TmAr3t2
end Go.Proofs.YtmdhaelmblmldaaGreatDoor
