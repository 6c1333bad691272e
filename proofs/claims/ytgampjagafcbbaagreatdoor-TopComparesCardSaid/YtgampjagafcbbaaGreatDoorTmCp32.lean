/- TopCompares: call 0. -/
import Derived.Test.YtgampjagafcbbaaGreatDoorKk
namespace Go.Proofs.YtgampjagafcbbaaGreatDoor
set_option linter.unusedSimpArgs false
set_option linter.unusedVariables false
set_option linter.constructorNameAsVariable false
open Go Go.RowKit
open Ev
noncomputable def TmCp32r0 : Rec := ⟨38, [.s (T 198 0x3b2050203a2029203020595449524f495250202c2031204c41565245544e4920282054204b534154204d4152474f52505f444e45203b2046495f444e45203b2032203d3a20792045534c45203b2031203d3a2079204e45485420292030203e2069202820524f582029206a203d3c2069202820464920203b20302054554f20544120544e49203a207920524156203b2031204e4920544120544e49203a206a20524156203b2030204e4920544120544e49203a206920524156203b2050204d4152474f525020)], q 1004, [], N [1853, 1798, 1368, 1782, 1657, 1776, 1655, 1706, 1766, 1538, 1649, 1700, 1760], .u [.g [.sl (q 1004) 0 11 2], .sl (q 1005) 0 1 2, .n0], [[I 3, .s (T 1 0x50), .s [], .s0, .b false, .b false, .sl (q 1006) 0 8 3, .s0, .sl (q 1007) 0 6 1, I 0, I 0, I 4, .s (T 1 0x54), .s (T 1 0x50), .s0, .b false, .b false, .s0, .s0, .s0, I 1, I 0], [I 1, I 158], [.s (T 1 0x69), I 1, I 0, I 0, .s [], I 0, I 1, I 0, .s (T 1 0x6a), I 1, I 0, I 0, .s [], I 0, I 1, I 1, .s (T 1 0x79), I 1, I 0, I 0, .s [], I 0, I 2, I 0], [I 5, I 0, .s [], .sl (q 1008) 0 5 1, .s0, .sl (q 1009) 0 1 2], [I 9, I 14, .s [], .s [], .sl (q 1010) 0 5 2], [.sl (q 1011) 0 6 1, .sl (q 1012) 0 6 1], [I 9, I 9, .s [], .s [], .sl (q 1013) 0 5 2, I 9, I 10, .s [], .s [], .sl (q 1014) 0 5 2], [I 1, I 0, .s (T 1 0x79), .sl (q 1015) 0 5 1, .s0, .s0], [I 1, I 0, .s (T 1 0x79), .sl (q 1016) 0 5 1, .s0, .s0], [I 5, I 0, .s (T 1 0x69), .s [], .s0, I 5, I 0, .s (T 1 0x6a), .s [], .s0], [I 5, I 0, .s (T 1 0x69), .s [], .s0, I 1, I 0, .s [], .s [], .s0], [I 1, I 1, .s [], .s [], .s0], [I 1, I 2, .s [], .s [], .s0]]⟩
set_option maxRecDepth 1000000 in
theorem TmCp32t0 : memoT aOv TmCp32r0 = true := by kernel_rfl
noncomputable def TmCp32o0 : Ov := memoOv TmCp32r0 aOv
theorem TmCp32g0 {ν : Nat → Int} : OvGood ν TmCp32o0 := memo_good aOv_good aOv_good TmCp32t0
end Go.Proofs.YtgampjagafcbbaaGreatDoor
/- TopCompares: call 1. -/
namespace Go.Proofs.YtgampjagafcbbaaGreatDoor
set_option linter.unusedSimpArgs false
set_option linter.unusedVariables false
set_option linter.constructorNameAsVariable false
open Go Go.RowKit
open Ev
noncomputable def TmCp32r1 : Rec := ⟨18, [.s (T 198 0x3b2050203a2029203020595449524f495250202c2031204c41565245544e4920282054204b534154204d4152474f52505f444e45203b2046495f444e45203b2032203d3a20792045534c45203b2031203d3a2079204e45485420292030203e2069202820524f582029206a203d3c2069202820464920203b20302054554f20544120544e49203a207920524156203b2031204e4920544120544e49203a206a20524156203b2030204e4920544120544e49203a206920524156203b2050204d4152474f525020)], q 1002, [], N [1451, 1376, 1406, 1423, 1439, 1811], .u [.g [.s0, .s0, .sl (q 1002) 0 6 1, .s0, .s (T 3 0x696969), .sl (q 1003) 0 1 3, .s0, .sl (q 1004) 0 3 2, .sl (q 1005) 0 3 1, .sl (q 1006) 0 3 1, I 1, I 3], .s0], [[I (-1), .s [], .s [], .b false, I 3, .sl (q 1007) 0 3 18], [I 0, I 0, I 0], [I 0, I 0, .b false, I 1, I 1, .b false], [I 2, I 0, .b false], [I 0, I 1, I 0], [I 35, I 1, I 0, I 35, I 7, I 0, I 6, I 0, I 0, I 6, I 1, I 0, I 16, I 9, I 0, I 6, I 0, I 0, I 1, I 0, I 0, I 16, I 10, I 0, I 16, I 14, I 0, I 22, I 14, I 0, I 35, I 2, I 0, I 1, I 1, I 0, I 7, I 2, I 0, I 21, I 17, I 0, I 35, I 2, I 0, I 1, I 2, I 0, I 7, I 2, I 0, I 29, I 0, I 0]]⟩
set_option maxRecDepth 1000000 in
theorem TmCp32t1 : memoT TmCp32o0 TmCp32r1 = true := by kernel_rfl
noncomputable def TmCp32o1 : Ov := memoOv TmCp32r1 TmCp32o0
theorem TmCp32g1 {ν : Nat → Int} : OvGood ν TmCp32o1 := memo_good TmCp32g0 TmCp32g0 TmCp32t1
end Go.Proofs.YtgampjagafcbbaaGreatDoor
/- TopCompares: call 2. -/
namespace Go.Proofs.YtgampjagafcbbaaGreatDoor
set_option linter.unusedSimpArgs false
set_option linter.unusedVariables false
set_option linter.constructorNameAsVariable false
open Go Go.RowKit
open Ev
noncomputable def TmCp32r2 : Rec := ⟨20, [.g [.s0, .s0, .sl (q 1002) 0 6 1, .s0, .s (T 3 0x696969), .sl (q 1003) 0 1 3, .s0, .sl (q 1004) 0 3 2, .sl (q 1005) 0 3 1, .sl (q 1006) 0 3 1, I 1, I 3]], q 1012, [(q 1002, [I (-1), .s [], .s [], .b false, I 3, .sl (q 1007) 0 3 18]), (q 1003, [I 0, I 0, I 0]), (q 1004, [I 0, I 0, .b false, I 1, I 1, .b false]), (q 1005, [I 2, I 0, .b false]), (q 1006, [I 0, I 1, I 0]), (q 1007, [I 35, I 1, I 0, I 35, I 7, I 0, I 6, I 0, I 0, I 6, I 1, I 0, I 16, I 9, I 0, I 6, I 0, I 0, I 1, I 0, I 0, I 16, I 10, I 0, I 16, I 14, I 0, I 22, I 14, I 0, I 35, I 2, I 0, I 1, I 1, I 0, I 7, I 2, I 0, I 21, I 17, I 0, I 35, I 2, I 0, I 1, I 2, I 0, I 7, I 2, I 0, I 29, I 0, I 0])], N [1896, 1889, 1893, 1895, 1890, 1891, 1584, 1590, 1598, 1602, 1606, 1888, 1581], .u [.p (q 1012) 0, .n0], [[.p (q 1013) 0, .sl (q 1014) 0 3 1, .sl (q 1015) 0 3 1, I 0, I 0, .sl (q 1016) 0 1 8, .sl (q 1017) 0 1 1], [.s0, .s0, .sl (q 1018) 0 6 1, .s0, .s (T 3 0x696969), .sl (q 1019) 0 1 3, .s0, .sl (q 1020) 0 3 2, .sl (q 1021) 0 3 1, .sl (q 1022) 0 3 1, I 1, I 3, .sl (q 1023) 0 1 3, .s0, .s0, .s0, I 0, I 0, I 0, I 0], [I 0, I 1, I 0], [I 2, I 0, .b false], [I 0, I 0, I 0, I 0, I 0, I 0, I 0, I 0], [I 0], [I (-1), .s [], .s [], .b false, I 3, .sl (q 1024) 0 3 18], [I 0, I 0, I 0], [I 0, I 0, .b false, I 1, I 1, .b false], [I 2, I 0, .b false], [I 0, I 1, I 0], [I 0, I 0, I 0], [I 35, I 1, I 0, I 35, I 7, I 0, I 6, I 0, I 0, I 6, I 1, I 0, I 16, I 9, I 0, I 6, I 0, I 0, I 1, I 0, I 0, I 16, I 10, I 0, I 16, I 14, I 0, I 22, I 14, I 0, I 35, I 2, I 0, I 1, I 1, I 0, I 7, I 2, I 0, I 21, I 17, I 0, I 35, I 2, I 0, I 1, I 2, I 0, I 7, I 2, I 0, I 29, I 0, I 0]]⟩
set_option maxRecDepth 1000000 in
theorem TmCp32t2 : memoT TmCp32o1 TmCp32r2 = true := by kernel_rfl
noncomputable def TmCp32o2 : Ov := memoOv TmCp32r2 TmCp32o1
theorem TmCp32g2 {ν : Nat → Int} : OvGood ν TmCp32o2 := memo_good TmCp32g1 TmCp32g1 TmCp32t2
end Go.Proofs.YtgampjagafcbbaaGreatDoor
