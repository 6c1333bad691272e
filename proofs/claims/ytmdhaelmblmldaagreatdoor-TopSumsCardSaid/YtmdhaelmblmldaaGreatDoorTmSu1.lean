/- TopSums: call 0. -/
import Derived.Test.YtmdhaelmblmldaaGreatDoorKk
namespace Go.Proofs.YtmdhaelmblmldaaGreatDoor
set_option linter.unusedSimpArgs false
set_option linter.unusedVariables false
set_option linter.constructorNameAsVariable false
open Go Go.RowKit
open Ev
noncomputable def TmSu1r0 : Rec := ⟨44, [.s (T 146 0x3b2050203a2029203020595449524f495250202c2031204c41565245544e4920282054204b534154204d4152474f52505f444e45203b206a202d2069203d3a207920203b20302054554f20544120544e49203a207920524156203b2031204e4920544120544e49203a206a20524156203b2030204e4920544120544e49203a206920524156203b2050204d4152474f525020)], q 1003, [], N [1515, 1460, 1322, 1444, 1438, 1437], .u [.g [.sl (q 1003) 0 11 2], .sl (q 1004) 0 1 2, .n0], [[I 3, .s (T 1 0x50), .s [], .s0, .b false, .b false, .sl (q 1005) 0 8 3, .s0, .sl (q 1006) 0 6 1, I 0, I 0, I 4, .s (T 1 0x54), .s (T 1 0x50), .s0, .b false, .b false, .s0, .s0, .s0, I 1, I 0], [I 1, I 106], [.s (T 1 0x69), I 1, I 0, I 0, .s [], I 0, I 1, I 0, .s (T 1 0x6a), I 1, I 0, I 0, .s [], I 0, I 1, I 1, .s (T 1 0x79), I 1, I 0, I 0, .s [], I 0, I 2, I 0], [I 1, I 0, .s (T 1 0x79), .sl (q 1007) 0 5 1, .s0, .s0], [I 9, I 2, .s [], .s [], .sl (q 1008) 0 5 2], [I 5, I 0, .s (T 1 0x69), .s [], .s0, I 5, I 0, .s (T 1 0x6a), .s [], .s0]]⟩
set_option maxRecDepth 1000000 in
theorem TmSu1t0 : memoT aOv TmSu1r0 = true := by kernel_rfl
noncomputable def TmSu1o0 : Ov := memoOv TmSu1r0 aOv
theorem TmSu1g0 {ν : Nat → Int} : OvGood ν TmSu1o0 := memo_good aOv_good aOv_good TmSu1t0
end Go.Proofs.YtmdhaelmblmldaaGreatDoor
/- TopSums: call 1. -/
namespace Go.Proofs.YtmdhaelmblmldaaGreatDoor
set_option linter.unusedSimpArgs false
set_option linter.unusedVariables false
set_option linter.constructorNameAsVariable false
open Go Go.RowKit
open Ev
noncomputable def TmSu1r1 : Rec := ⟨23, [.s (T 146 0x3b2050203a2029203020595449524f495250202c2031204c41565245544e4920282054204b534154204d4152474f52505f444e45203b206a202d2069203d3a207920203b20302054554f20544120544e49203a207920524156203b2031204e4920544120544e49203a206a20524156203b2030204e4920544120544e49203a206920524156203b2050204d4152474f525020)], q 1001, [], N [1315, 1240, 1270, 1287, 1303, 1475], .u [.g [.s0, .s0, .sl (q 1001) 0 6 1, .s0, .s (T 3 0x696969), .sl (q 1002) 0 1 3, .s0, .sl (q 1003) 0 3 2, .sl (q 1004) 0 3 1, .sl (q 1005) 0 3 1, I 1, I 2], .s0], [[I (-1), .s [], .s [], .b false, I 2, .sl (q 1006) 0 3 6], [I 0, I 0, I 0], [I 0, I 0, .b false, I 1, I 1, .b false], [I 2, I 0, .b false], [I 0, I 1, I 0], [I 35, I 4, I 0, I 6, I 0, I 0, I 6, I 1, I 0, I 16, I 2, I 0, I 7, I 2, I 0, I 29, I 0, I 0]]⟩
set_option maxRecDepth 1000000 in
theorem TmSu1t1 : memoT TmSu1o0 TmSu1r1 = true := by kernel_rfl
noncomputable def TmSu1o1 : Ov := memoOv TmSu1r1 TmSu1o0
theorem TmSu1g1 {ν : Nat → Int} : OvGood ν TmSu1o1 := memo_good TmSu1g0 TmSu1g0 TmSu1t1
end Go.Proofs.YtmdhaelmblmldaaGreatDoor
/- TopSums: call 2. -/
namespace Go.Proofs.YtmdhaelmblmldaaGreatDoor
set_option linter.unusedSimpArgs false
set_option linter.unusedVariables false
set_option linter.constructorNameAsVariable false
open Go Go.RowKit
open Ev
noncomputable def TmSu1r2 : Rec := ⟨24, [.g [.s0, .s0, .sl (q 1001) 0 6 1, .s0, .s (T 3 0x696969), .sl (q 1002) 0 1 3, .s0, .sl (q 1003) 0 3 2, .sl (q 1004) 0 3 1, .sl (q 1005) 0 3 1, I 1, I 2]], q 1011, [(q 1001, [I (-1), .s [], .s [], .b false, I 2, .sl (q 1006) 0 3 6]), (q 1002, [I 0, I 0, I 0]), (q 1003, [I 0, I 0, .b false, I 1, I 1, .b false]), (q 1004, [I 2, I 0, .b false]), (q 1005, [I 0, I 1, I 0]), (q 1006, [I 35, I 4, I 0, I 6, I 0, I 0, I 6, I 1, I 0, I 16, I 2, I 0, I 7, I 2, I 0, I 29, I 0, I 0])], N [1519, 1512, 1516, 1518, 1513, 1514, 1315, 1321, 1329, 1333, 1337, 1511, 1312], .u [.p (q 1011) 0, .n0], [[.p (q 1012) 0, .sl (q 1013) 0 3 1, .sl (q 1014) 0 3 1, I 0, I 0, .sl (q 1015) 0 1 8, .sl (q 1016) 0 1 1], [.s0, .s0, .sl (q 1017) 0 6 1, .s0, .s (T 3 0x696969), .sl (q 1018) 0 1 3, .s0, .sl (q 1019) 0 3 2, .sl (q 1020) 0 3 1, .sl (q 1021) 0 3 1, I 1, I 2, .sl (q 1022) 0 1 3, .s0, .s0, .s0, I 0, I 0, I 0, I 0], [I 0, I 1, I 0], [I 2, I 0, .b false], [I 0, I 0, I 0, I 0, I 0, I 0, I 0, I 0], [I 0], [I (-1), .s [], .s [], .b false, I 2, .sl (q 1023) 0 3 6], [I 0, I 0, I 0], [I 0, I 0, .b false, I 1, I 1, .b false], [I 2, I 0, .b false], [I 0, I 1, I 0], [I 0, I 0, I 0], [I 35, I 4, I 0, I 6, I 0, I 0, I 6, I 1, I 0, I 16, I 2, I 0, I 7, I 2, I 0, I 29, I 0, I 0]]⟩
set_option maxRecDepth 1000000 in
theorem TmSu1t2 : memoT TmSu1o1 TmSu1r2 = true := by kernel_rfl
noncomputable def TmSu1o2 : Ov := memoOv TmSu1r2 TmSu1o1
theorem TmSu1g2 {ν : Nat → Int} : OvGood ν TmSu1o2 := memo_good TmSu1g1 TmSu1g1 TmSu1t2
end Go.Proofs.YtmdhaelmblmldaaGreatDoor
