/- TopCases: call 0. -/
import Derived.Test.YtmdhaelmblmldaaGreatDoorKk
namespace Go.Proofs.YtmdhaelmblmldaaGreatDoor
set_option linter.unusedSimpArgs false
set_option linter.unusedVariables false
set_option linter.constructorNameAsVariable false
open Go Go.RowKit
open Ev
noncomputable def TmCatr0 : Rec := ⟨44, [.s (T 226 0x3b2050203a2029203020595449524f495250202c2031204c41565245544e4920282054204b534154204d4152474f52505f444e45203b20455341435f444e45203b2039203d3a20792045534c45203a2035203b2033203d3a2079203a2031202d203b2032203d3a2079203a2032203b2031203d3a2079203a2033202c203120464f20692045534143203b2034203d3a207920203b20302054554f20544120544e49203a207920524156203b2031204e4920544120544e49203a206a20524156203b2030204e4920544120544e49203a206920524156203b2050204d4152474f525020)], q 1002, [], N [1949, 1894, 1403, 1878, 1445, 1526, 1797, 1872, 1562, 1638, 1712, 1788, 1616, 1692, 1766, 1862, 1610, 1686, 1760, 1856], .u [.g [.sl (q 1002) 0 11 2], .sl (q 1003) 0 1 2, .n0], [[I 3, .s (T 1 0x50), .s [], .s0, .b false, .b false, .sl (q 1004) 0 8 3, .s0, .sl (q 1005) 0 6 2, I 0, I 0, I 4, .s (T 1 0x54), .s (T 1 0x50), .s0, .b false, .b false, .s0, .s0, .s0, I 1, I 0], [I 1, I 186], [.s (T 1 0x69), I 1, I 0, I 0, .s [], I 0, I 1, I 0, .s (T 1 0x6a), I 1, I 0, I 0, .s [], I 0, I 1, I 1, .s (T 1 0x79), I 1, I 0, I 0, .s [], I 0, I 2, I 0], [I 1, I 0, .s (T 1 0x79), .sl (q 1006) 0 5 1, .s0, .s0, I 6, I 0, .s [], .sl (q 1007) 0 5 1, .sl (q 1008) 0 1 4, .sl (q 1009) 0 1 5], [I 1, I 4, .s [], .s [], .s0], [I 5, I 0, .s (T 1 0x69), .s [], .s0], [.sl (q 1010) 0 1 2, .sl (q 1011) 0 1 1, .sl (q 1012) 0 1 1, .sl (q 1013) 0 1 1], [.sl (q 1014) 0 6 1, .sl (q 1015) 0 6 1, .sl (q 1016) 0 6 1, .s0, .sl (q 1017) 0 6 1], [I 1, I 3], [I 2], [I (-1)], [I 5], [I 1, I 0, .s (T 1 0x79), .sl (q 1018) 0 5 1, .s0, .s0], [I 1, I 0, .s (T 1 0x79), .sl (q 1019) 0 5 1, .s0, .s0], [I 1, I 0, .s (T 1 0x79), .sl (q 1020) 0 5 1, .s0, .s0], [I 1, I 0, .s (T 1 0x79), .sl (q 1021) 0 5 1, .s0, .s0], [I 1, I 1, .s [], .s [], .s0], [I 1, I 2, .s [], .s [], .s0], [I 1, I 3, .s [], .s [], .s0], [I 1, I 9, .s [], .s [], .s0]]⟩
set_option maxRecDepth 1000000 in
theorem TmCatt0 : memoT aOv TmCatr0 = true := by kernel_rfl
noncomputable def TmCato0 : Ov := memoOv TmCatr0 aOv
theorem TmCatg0 {ν : Nat → Int} : OvGood ν TmCato0 := memo_good aOv_good aOv_good TmCatt0
end Go.Proofs.YtmdhaelmblmldaaGreatDoor
/- TopCases: call 1. -/
namespace Go.Proofs.YtmdhaelmblmldaaGreatDoor
set_option linter.unusedSimpArgs false
set_option linter.unusedVariables false
set_option linter.constructorNameAsVariable false
open Go Go.RowKit
open Ev
noncomputable def TmCatr1 : Rec := ⟨23, [.s (T 226 0x3b2050203a2029203020595449524f495250202c2031204c41565245544e4920282054204b534154204d4152474f52505f444e45203b20455341435f444e45203b2039203d3a20792045534c45203a2035203b2033203d3a2079203a2031202d203b2032203d3a2079203a2032203b2031203d3a2079203a2033202c203120464f20692045534143203b2034203d3a207920203b20302054554f20544120544e49203a207920524156203b2031204e4920544120544e49203a206a20524156203b2030204e4920544120544e49203a206920524156203b2050204d4152474f525020)], q 1000, [], N [1454, 1379, 1409, 1426, 1442, 1957], .u [.g [.s0, .s0, .sl (q 1000) 0 6 1, .s0, .s (T 3 0x696969), .sl (q 1001) 0 1 3, .s0, .sl (q 1002) 0 3 2, .sl (q 1003) 0 3 1, .sl (q 1004) 0 3 1, I 1, I 3], .s0], [[I (-1), .s [], .s (T 1 0x69), .b false, I 2, .sl (q 1005) 0 3 44], [I 0, I 0, I 0], [I 0, I 0, .b false, I 1, I 1, .b false], [I 2, I 0, .b false], [I 0, I 1, I 0], [I 35, I 2, I 0, I 1, I 4, I 0, I 7, I 2, I 0, I 35, I 7, I 0, I 6, I 0, I 0, I 5, I 0, I 0, I 4, I 0, I 0, I 1, I 1, I 0, I 16, I 7, I 0, I 22, I 27, I 0, I 4, I 0, I 0, I 1, I 3, I 0, I 16, I 7, I 0, I 22, I 27, I 0, I 4, I 0, I 0, I 1, I 2, I 0, I 16, I 7, I 0, I 22, I 31, I 0, I 4, I 0, I 0, I 1, I (-1), I 0, I 16, I 7, I 0, I 22, I 35, I 0, I 4, I 0, I 0, I 1, I 5, I 0, I 16, I 7, I 0, I 22, I 39, I 0, I 21, I 40, I 0, I 35, I 2, I 0, I 1, I 1, I 0, I 7, I 2, I 0, I 21, I 43, I 0, I 35, I 2, I 0, I 1, I 2, I 0, I 7, I 2, I 0, I 21, I 43, I 0, I 35, I 2, I 0, I 1, I 3, I 0, I 7, I 2, I 0, I 21, I 43, I 0, I 21, I 43, I 0, I 35, I 2, I 0, I 1, I 9, I 0, I 7, I 2, I 0, I 29, I 0, I 0]]⟩
set_option maxRecDepth 1000000 in
theorem TmCatt1 : memoT TmCato0 TmCatr1 = true := by kernel_rfl
noncomputable def TmCato1 : Ov := memoOv TmCatr1 TmCato0
theorem TmCatg1 {ν : Nat → Int} : OvGood ν TmCato1 := memo_good TmCatg0 TmCatg0 TmCatt1
end Go.Proofs.YtmdhaelmblmldaaGreatDoor
/- TopCases: call 2. -/
namespace Go.Proofs.YtmdhaelmblmldaaGreatDoor
set_option linter.unusedSimpArgs false
set_option linter.unusedVariables false
set_option linter.constructorNameAsVariable false
open Go Go.RowKit
open Ev
noncomputable def TmCatr2 : Rec := ⟨24, [.g [.s0, .s0, .sl (q 1000) 0 6 1, .s0, .s (T 3 0x696969), .sl (q 1001) 0 1 3, .s0, .sl (q 1002) 0 3 2, .sl (q 1003) 0 3 1, .sl (q 1004) 0 3 1, I 1, I 3]], q 1010, [(q 1000, [I (-1), .s [], .s (T 1 0x69), .b false, I 2, .sl (q 1005) 0 3 44]), (q 1001, [I 0, I 0, I 0]), (q 1002, [I 0, I 0, .b false, I 1, I 1, .b false]), (q 1003, [I 2, I 0, .b false]), (q 1004, [I 0, I 1, I 0]), (q 1005, [I 35, I 2, I 0, I 1, I 4, I 0, I 7, I 2, I 0, I 35, I 7, I 0, I 6, I 0, I 0, I 5, I 0, I 0, I 4, I 0, I 0, I 1, I 1, I 0, I 16, I 7, I 0, I 22, I 27, I 0, I 4, I 0, I 0, I 1, I 3, I 0, I 16, I 7, I 0, I 22, I 27, I 0, I 4, I 0, I 0, I 1, I 2, I 0, I 16, I 7, I 0, I 22, I 31, I 0, I 4, I 0, I 0, I 1, I (-1), I 0, I 16, I 7, I 0, I 22, I 35, I 0, I 4, I 0, I 0, I 1, I 5, I 0, I 16, I 7, I 0, I 22, I 39, I 0, I 21, I 40, I 0, I 35, I 2, I 0, I 1, I 1, I 0, I 7, I 2, I 0, I 21, I 43, I 0, I 35, I 2, I 0, I 1, I 2, I 0, I 7, I 2, I 0, I 21, I 43, I 0, I 35, I 2, I 0, I 1, I 3, I 0, I 7, I 2, I 0, I 21, I 43, I 0, I 21, I 43, I 0, I 35, I 2, I 0, I 1, I 9, I 0, I 7, I 2, I 0, I 29, I 0, I 0])], N [2718, 2711, 2715, 2717, 2712, 2713, 2171, 2177, 2185, 2189, 2193, 2710, 2168], .u [.p (q 1010) 0, .n0], [[.p (q 1011) 0, .sl (q 1012) 0 3 1, .sl (q 1013) 0 3 1, I 0, I 0, .sl (q 1014) 0 1 8, .sl (q 1015) 0 1 1], [.s0, .s0, .sl (q 1016) 0 6 1, .s0, .s (T 3 0x696969), .sl (q 1017) 0 1 3, .s0, .sl (q 1018) 0 3 2, .sl (q 1019) 0 3 1, .sl (q 1020) 0 3 1, I 1, I 3, .sl (q 1021) 0 1 3, .s0, .s0, .s0, I 0, I 0, I 0, I 0], [I 0, I 1, I 0], [I 2, I 0, .b false], [I 0, I 0, I 0, I 0, I 0, I 0, I 0, I 0], [I 0], [I (-1), .s [], .s (T 1 0x69), .b false, I 2, .sl (q 1022) 0 3 44], [I 0, I 0, I 0], [I 0, I 0, .b false, I 1, I 1, .b false], [I 2, I 0, .b false], [I 0, I 1, I 0], [I 0, I 0, I 0], [I 35, I 2, I 0, I 1, I 4, I 0, I 7, I 2, I 0, I 35, I 7, I 0, I 6, I 0, I 0, I 5, I 0, I 0, I 4, I 0, I 0, I 1, I 1, I 0, I 16, I 7, I 0, I 22, I 27, I 0, I 4, I 0, I 0, I 1, I 3, I 0, I 16, I 7, I 0, I 22, I 27, I 0, I 4, I 0, I 0, I 1, I 2, I 0, I 16, I 7, I 0, I 22, I 31, I 0, I 4, I 0, I 0, I 1, I (-1), I 0, I 16, I 7, I 0, I 22, I 35, I 0, I 4, I 0, I 0, I 1, I 5, I 0, I 16, I 7, I 0, I 22, I 39, I 0, I 21, I 40, I 0, I 35, I 2, I 0, I 1, I 1, I 0, I 7, I 2, I 0, I 21, I 43, I 0, I 35, I 2, I 0, I 1, I 2, I 0, I 7, I 2, I 0, I 21, I 43, I 0, I 35, I 2, I 0, I 1, I 3, I 0, I 7, I 2, I 0, I 21, I 43, I 0, I 21, I 43, I 0, I 35, I 2, I 0, I 1, I 9, I 0, I 7, I 2, I 0, I 29, I 0, I 0]]⟩
set_option maxRecDepth 1000000 in
theorem TmCatt2 : memoT TmCato1 TmCatr2 = true := by kernel_rfl
noncomputable def TmCato2 : Ov := memoOv TmCatr2 TmCato1
theorem TmCatg2 {ν : Nat → Int} : OvGood ν TmCato2 := memo_good TmCatg1 TmCatg1 TmCatt2
end Go.Proofs.YtmdhaelmblmldaaGreatDoor
