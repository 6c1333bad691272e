/- TopArrays 7: each way. -/
import Derived.Test.YtmdhaelmblmldaaGreatDoorTpArP
import Derived.Test.YtmdhaelmblmldaaGreatDoorTmAr7
namespace Go.Proofs.YtmdhaelmblmldaaGreatDoor
set_option linter.unusedSimpArgs false
set_option linter.unusedVariables false
set_option linter.constructorNameAsVariable false
open Go Go.RowKit
open Ev
set_option maxRecDepth 1000000 in
theorem ar7_l : okv (mEv TmAr7o2 (lowP (arI 1)) [(lowZ 0 8, 7)] 8 [.i .i64 (.var 0), .i .i64 (.var 1), .i .i64 (.var 2)] start) = some (.b true) := by kernel_rfl
set_option maxRecDepth 1000000 in
theorem ar7_h : okv (mEv TmAr7o2 (highP (arI 1) 7 8) [(lowZ 0 8, 7)] 8 [.i .i64 (.var 0), .i .i64 (.var 1), .i .i64 (.var 2)] start) = some (.b true) := by kernel_rfl
set_option maxRecDepth 1000000 in
theorem ar7_0l : okv (mEv TmAr7o2 (lowP (arI 2)) [(lowZ 0 8, 7), (lowZ 1 12, 2)] 8 [.i .i64 (.var 0), .i .i64 (.var 1), .i .i64 (.var 2)] start) = some (.b true) := by kernel_rfl
set_option maxRecDepth 1000000 in
theorem ar7_0h : okv (mEv TmAr7o2 (highP (arI 2) 7 8) [(lowZ 0 8, 7), (lowZ 1 12, 2)] 8 [.i .i64 (.var 0), .i .i64 (.var 1), .i .i64 (.var 2)] start) = some (.b true) := by kernel_rfl
set_option maxRecDepth 1000000 in
theorem ar7_0_0 : okv (mEv TmAr7o2 [] [(lowZ 0 8, 7), (lowZ 1 12, 2), (lowZ 2 12, 2)] 8 [.i .i64 (.var 0), .i .i64 (.var 1), .i .i64 (.var 2)] start) = some (.b true) := by kernel_rfl
set_option maxRecDepth 1000000 in
theorem ar7_0_1 : okv (mEv TmAr7o2 [] [(lowZ 0 8, 7), (lowZ 1 12, 2), (lowZ 2 12, 3)] 8 [.i .i64 (.var 0), .i .i64 (.var 1), .i .i64 (.var 2)] start) = some (.b true) := by kernel_rfl
set_option maxRecDepth 1000000 in
theorem ar7_0_2 : okv (mEv TmAr7o2 [] [(lowZ 0 8, 7), (lowZ 1 12, 2), (lowZ 2 12, 4)] 8 [.i .i64 (.var 0), .i .i64 (.var 1), .i .i64 (.var 2)] start) = some (.b true) := by kernel_rfl
set_option maxRecDepth 1000000 in
theorem ar7_0_3 : okv (mEv TmAr7o2 [] [(lowZ 0 8, 7), (lowZ 1 12, 2), (lowZ 2 12, 5)] 8 [.i .i64 (.var 0), .i .i64 (.var 1), .i .i64 (.var 2)] start) = some (.b true) := by kernel_rfl
set_option maxRecDepth 1000000 in
theorem ar7_0_4 : okv (mEv TmAr7o2 [] [(lowZ 0 8, 7), (lowZ 1 12, 2), (lowZ 2 12, 6)] 8 [.i .i64 (.var 0), .i .i64 (.var 1), .i .i64 (.var 2)] start) = some (.b true) := by kernel_rfl
set_option maxRecDepth 1000000 in
theorem ar7_0_5 : okv (mEv TmAr7o2 [] [(lowZ 0 8, 7), (lowZ 1 12, 2), (lowZ 2 12, 7)] 8 [.i .i64 (.var 0), .i .i64 (.var 1), .i .i64 (.var 2)] start) = some (.b true) := by kernel_rfl
set_option maxRecDepth 1000000 in
theorem ar7_0_6 : okv (mEv TmAr7o2 [] [(lowZ 0 8, 7), (lowZ 1 12, 2), (lowZ 2 12, 8)] 8 [.i .i64 (.var 0), .i .i64 (.var 1), .i .i64 (.var 2)] start) = some (.b true) := by kernel_rfl
set_option maxRecDepth 1000000 in
theorem ar7_0_7 : okv (mEv TmAr7o2 [] [(lowZ 0 8, 7), (lowZ 1 12, 2), (lowZ 2 12, 9)] 8 [.i .i64 (.var 0), .i .i64 (.var 1), .i .i64 (.var 2)] start) = some (.b true) := by kernel_rfl
set_option maxRecDepth 1000000 in
theorem ar7_1l : okv (mEv TmAr7o2 (lowP (arI 2)) [(lowZ 0 8, 7), (lowZ 1 12, 3)] 8 [.i .i64 (.var 0), .i .i64 (.var 1), .i .i64 (.var 2)] start) = some (.b true) := by kernel_rfl
set_option maxRecDepth 1000000 in
theorem ar7_1h : okv (mEv TmAr7o2 (highP (arI 2) 7 8) [(lowZ 0 8, 7), (lowZ 1 12, 3)] 8 [.i .i64 (.var 0), .i .i64 (.var 1), .i .i64 (.var 2)] start) = some (.b true) := by kernel_rfl
set_option maxRecDepth 1000000 in
theorem ar7_1_0 : okv (mEv TmAr7o2 [] [(lowZ 0 8, 7), (lowZ 1 12, 3), (lowZ 2 12, 2)] 8 [.i .i64 (.var 0), .i .i64 (.var 1), .i .i64 (.var 2)] start) = some (.b true) := by kernel_rfl
set_option maxRecDepth 1000000 in
theorem ar7_1_1 : okv (mEv TmAr7o2 [] [(lowZ 0 8, 7), (lowZ 1 12, 3), (lowZ 2 12, 3)] 8 [.i .i64 (.var 0), .i .i64 (.var 1), .i .i64 (.var 2)] start) = some (.b true) := by kernel_rfl
set_option maxRecDepth 1000000 in
theorem ar7_1_2 : okv (mEv TmAr7o2 [] [(lowZ 0 8, 7), (lowZ 1 12, 3), (lowZ 2 12, 4)] 8 [.i .i64 (.var 0), .i .i64 (.var 1), .i .i64 (.var 2)] start) = some (.b true) := by kernel_rfl
set_option maxRecDepth 1000000 in
theorem ar7_1_3 : okv (mEv TmAr7o2 [] [(lowZ 0 8, 7), (lowZ 1 12, 3), (lowZ 2 12, 5)] 8 [.i .i64 (.var 0), .i .i64 (.var 1), .i .i64 (.var 2)] start) = some (.b true) := by kernel_rfl
set_option maxRecDepth 1000000 in
theorem ar7_1_4 : okv (mEv TmAr7o2 [] [(lowZ 0 8, 7), (lowZ 1 12, 3), (lowZ 2 12, 6)] 8 [.i .i64 (.var 0), .i .i64 (.var 1), .i .i64 (.var 2)] start) = some (.b true) := by kernel_rfl
set_option maxRecDepth 1000000 in
theorem ar7_1_5 : okv (mEv TmAr7o2 [] [(lowZ 0 8, 7), (lowZ 1 12, 3), (lowZ 2 12, 7)] 8 [.i .i64 (.var 0), .i .i64 (.var 1), .i .i64 (.var 2)] start) = some (.b true) := by kernel_rfl
set_option maxRecDepth 1000000 in
theorem ar7_1_6 : okv (mEv TmAr7o2 [] [(lowZ 0 8, 7), (lowZ 1 12, 3), (lowZ 2 12, 8)] 8 [.i .i64 (.var 0), .i .i64 (.var 1), .i .i64 (.var 2)] start) = some (.b true) := by kernel_rfl
set_option maxRecDepth 1000000 in
theorem ar7_1_7 : okv (mEv TmAr7o2 [] [(lowZ 0 8, 7), (lowZ 1 12, 3), (lowZ 2 12, 9)] 8 [.i .i64 (.var 0), .i .i64 (.var 1), .i .i64 (.var 2)] start) = some (.b true) := by kernel_rfl
set_option maxRecDepth 1000000 in
theorem ar7_2l : okv (mEv TmAr7o2 (lowP (arI 2)) [(lowZ 0 8, 7), (lowZ 1 12, 4)] 8 [.i .i64 (.var 0), .i .i64 (.var 1), .i .i64 (.var 2)] start) = some (.b true) := by kernel_rfl
set_option maxRecDepth 1000000 in
theorem ar7_2h : okv (mEv TmAr7o2 (highP (arI 2) 7 8) [(lowZ 0 8, 7), (lowZ 1 12, 4)] 8 [.i .i64 (.var 0), .i .i64 (.var 1), .i .i64 (.var 2)] start) = some (.b true) := by kernel_rfl
set_option maxRecDepth 1000000 in
theorem ar7_2_0 : okv (mEv TmAr7o2 [] [(lowZ 0 8, 7), (lowZ 1 12, 4), (lowZ 2 12, 2)] 8 [.i .i64 (.var 0), .i .i64 (.var 1), .i .i64 (.var 2)] start) = some (.b true) := by kernel_rfl
set_option maxRecDepth 1000000 in
theorem ar7_2_1 : okv (mEv TmAr7o2 [] [(lowZ 0 8, 7), (lowZ 1 12, 4), (lowZ 2 12, 3)] 8 [.i .i64 (.var 0), .i .i64 (.var 1), .i .i64 (.var 2)] start) = some (.b true) := by kernel_rfl
set_option maxRecDepth 1000000 in
theorem ar7_2_2 : okv (mEv TmAr7o2 [] [(lowZ 0 8, 7), (lowZ 1 12, 4), (lowZ 2 12, 4)] 8 [.i .i64 (.var 0), .i .i64 (.var 1), .i .i64 (.var 2)] start) = some (.b true) := by kernel_rfl
set_option maxRecDepth 1000000 in
theorem ar7_2_3 : okv (mEv TmAr7o2 [] [(lowZ 0 8, 7), (lowZ 1 12, 4), (lowZ 2 12, 5)] 8 [.i .i64 (.var 0), .i .i64 (.var 1), .i .i64 (.var 2)] start) = some (.b true) := by kernel_rfl
set_option maxRecDepth 1000000 in
theorem ar7_2_4 : okv (mEv TmAr7o2 [] [(lowZ 0 8, 7), (lowZ 1 12, 4), (lowZ 2 12, 6)] 8 [.i .i64 (.var 0), .i .i64 (.var 1), .i .i64 (.var 2)] start) = some (.b true) := by kernel_rfl
set_option maxRecDepth 1000000 in
theorem ar7_2_5 : okv (mEv TmAr7o2 [] [(lowZ 0 8, 7), (lowZ 1 12, 4), (lowZ 2 12, 7)] 8 [.i .i64 (.var 0), .i .i64 (.var 1), .i .i64 (.var 2)] start) = some (.b true) := by kernel_rfl
set_option maxRecDepth 1000000 in
theorem ar7_2_6 : okv (mEv TmAr7o2 [] [(lowZ 0 8, 7), (lowZ 1 12, 4), (lowZ 2 12, 8)] 8 [.i .i64 (.var 0), .i .i64 (.var 1), .i .i64 (.var 2)] start) = some (.b true) := by kernel_rfl
set_option maxRecDepth 1000000 in
theorem ar7_2_7 : okv (mEv TmAr7o2 [] [(lowZ 0 8, 7), (lowZ 1 12, 4), (lowZ 2 12, 9)] 8 [.i .i64 (.var 0), .i .i64 (.var 1), .i .i64 (.var 2)] start) = some (.b true) := by kernel_rfl
set_option maxRecDepth 1000000 in
theorem ar7_3l : okv (mEv TmAr7o2 (lowP (arI 2)) [(lowZ 0 8, 7), (lowZ 1 12, 5)] 8 [.i .i64 (.var 0), .i .i64 (.var 1), .i .i64 (.var 2)] start) = some (.b true) := by kernel_rfl
set_option maxRecDepth 1000000 in
theorem ar7_3h : okv (mEv TmAr7o2 (highP (arI 2) 7 8) [(lowZ 0 8, 7), (lowZ 1 12, 5)] 8 [.i .i64 (.var 0), .i .i64 (.var 1), .i .i64 (.var 2)] start) = some (.b true) := by kernel_rfl
set_option maxRecDepth 1000000 in
theorem ar7_3_0 : okv (mEv TmAr7o2 [] [(lowZ 0 8, 7), (lowZ 1 12, 5), (lowZ 2 12, 2)] 8 [.i .i64 (.var 0), .i .i64 (.var 1), .i .i64 (.var 2)] start) = some (.b true) := by kernel_rfl
set_option maxRecDepth 1000000 in
theorem ar7_3_1 : okv (mEv TmAr7o2 [] [(lowZ 0 8, 7), (lowZ 1 12, 5), (lowZ 2 12, 3)] 8 [.i .i64 (.var 0), .i .i64 (.var 1), .i .i64 (.var 2)] start) = some (.b true) := by kernel_rfl
set_option maxRecDepth 1000000 in
theorem ar7_3_2 : okv (mEv TmAr7o2 [] [(lowZ 0 8, 7), (lowZ 1 12, 5), (lowZ 2 12, 4)] 8 [.i .i64 (.var 0), .i .i64 (.var 1), .i .i64 (.var 2)] start) = some (.b true) := by kernel_rfl
set_option maxRecDepth 1000000 in
theorem ar7_3_3 : okv (mEv TmAr7o2 [] [(lowZ 0 8, 7), (lowZ 1 12, 5), (lowZ 2 12, 5)] 8 [.i .i64 (.var 0), .i .i64 (.var 1), .i .i64 (.var 2)] start) = some (.b true) := by kernel_rfl
set_option maxRecDepth 1000000 in
theorem ar7_3_4 : okv (mEv TmAr7o2 [] [(lowZ 0 8, 7), (lowZ 1 12, 5), (lowZ 2 12, 6)] 8 [.i .i64 (.var 0), .i .i64 (.var 1), .i .i64 (.var 2)] start) = some (.b true) := by kernel_rfl
set_option maxRecDepth 1000000 in
theorem ar7_3_5 : okv (mEv TmAr7o2 [] [(lowZ 0 8, 7), (lowZ 1 12, 5), (lowZ 2 12, 7)] 8 [.i .i64 (.var 0), .i .i64 (.var 1), .i .i64 (.var 2)] start) = some (.b true) := by kernel_rfl
set_option maxRecDepth 1000000 in
theorem ar7_3_6 : okv (mEv TmAr7o2 [] [(lowZ 0 8, 7), (lowZ 1 12, 5), (lowZ 2 12, 8)] 8 [.i .i64 (.var 0), .i .i64 (.var 1), .i .i64 (.var 2)] start) = some (.b true) := by kernel_rfl
set_option maxRecDepth 1000000 in
theorem ar7_3_7 : okv (mEv TmAr7o2 [] [(lowZ 0 8, 7), (lowZ 1 12, 5), (lowZ 2 12, 9)] 8 [.i .i64 (.var 0), .i .i64 (.var 1), .i .i64 (.var 2)] start) = some (.b true) := by kernel_rfl
set_option maxRecDepth 1000000 in
theorem ar7_4l : okv (mEv TmAr7o2 (lowP (arI 2)) [(lowZ 0 8, 7), (lowZ 1 12, 6)] 8 [.i .i64 (.var 0), .i .i64 (.var 1), .i .i64 (.var 2)] start) = some (.b true) := by kernel_rfl
set_option maxRecDepth 1000000 in
theorem ar7_4h : okv (mEv TmAr7o2 (highP (arI 2) 7 8) [(lowZ 0 8, 7), (lowZ 1 12, 6)] 8 [.i .i64 (.var 0), .i .i64 (.var 1), .i .i64 (.var 2)] start) = some (.b true) := by kernel_rfl
set_option maxRecDepth 1000000 in
theorem ar7_4_0 : okv (mEv TmAr7o2 [] [(lowZ 0 8, 7), (lowZ 1 12, 6), (lowZ 2 12, 2)] 8 [.i .i64 (.var 0), .i .i64 (.var 1), .i .i64 (.var 2)] start) = some (.b true) := by kernel_rfl
set_option maxRecDepth 1000000 in
theorem ar7_4_1 : okv (mEv TmAr7o2 [] [(lowZ 0 8, 7), (lowZ 1 12, 6), (lowZ 2 12, 3)] 8 [.i .i64 (.var 0), .i .i64 (.var 1), .i .i64 (.var 2)] start) = some (.b true) := by kernel_rfl
set_option maxRecDepth 1000000 in
theorem ar7_4_2 : okv (mEv TmAr7o2 [] [(lowZ 0 8, 7), (lowZ 1 12, 6), (lowZ 2 12, 4)] 8 [.i .i64 (.var 0), .i .i64 (.var 1), .i .i64 (.var 2)] start) = some (.b true) := by kernel_rfl
set_option maxRecDepth 1000000 in
theorem ar7_4_3 : okv (mEv TmAr7o2 [] [(lowZ 0 8, 7), (lowZ 1 12, 6), (lowZ 2 12, 5)] 8 [.i .i64 (.var 0), .i .i64 (.var 1), .i .i64 (.var 2)] start) = some (.b true) := by kernel_rfl
set_option maxRecDepth 1000000 in
theorem ar7_4_4 : okv (mEv TmAr7o2 [] [(lowZ 0 8, 7), (lowZ 1 12, 6), (lowZ 2 12, 6)] 8 [.i .i64 (.var 0), .i .i64 (.var 1), .i .i64 (.var 2)] start) = some (.b true) := by kernel_rfl
set_option maxRecDepth 1000000 in
theorem ar7_4_5 : okv (mEv TmAr7o2 [] [(lowZ 0 8, 7), (lowZ 1 12, 6), (lowZ 2 12, 7)] 8 [.i .i64 (.var 0), .i .i64 (.var 1), .i .i64 (.var 2)] start) = some (.b true) := by kernel_rfl
set_option maxRecDepth 1000000 in
theorem ar7_4_6 : okv (mEv TmAr7o2 [] [(lowZ 0 8, 7), (lowZ 1 12, 6), (lowZ 2 12, 8)] 8 [.i .i64 (.var 0), .i .i64 (.var 1), .i .i64 (.var 2)] start) = some (.b true) := by kernel_rfl
set_option maxRecDepth 1000000 in
theorem ar7_4_7 : okv (mEv TmAr7o2 [] [(lowZ 0 8, 7), (lowZ 1 12, 6), (lowZ 2 12, 9)] 8 [.i .i64 (.var 0), .i .i64 (.var 1), .i .i64 (.var 2)] start) = some (.b true) := by kernel_rfl
set_option maxRecDepth 1000000 in
theorem ar7_5l : okv (mEv TmAr7o2 (lowP (arI 2)) [(lowZ 0 8, 7), (lowZ 1 12, 7)] 8 [.i .i64 (.var 0), .i .i64 (.var 1), .i .i64 (.var 2)] start) = some (.b true) := by kernel_rfl
set_option maxRecDepth 1000000 in
theorem ar7_5h : okv (mEv TmAr7o2 (highP (arI 2) 7 8) [(lowZ 0 8, 7), (lowZ 1 12, 7)] 8 [.i .i64 (.var 0), .i .i64 (.var 1), .i .i64 (.var 2)] start) = some (.b true) := by kernel_rfl
set_option maxRecDepth 1000000 in
theorem ar7_5_0 : okv (mEv TmAr7o2 [] [(lowZ 0 8, 7), (lowZ 1 12, 7), (lowZ 2 12, 2)] 8 [.i .i64 (.var 0), .i .i64 (.var 1), .i .i64 (.var 2)] start) = some (.b true) := by kernel_rfl
set_option maxRecDepth 1000000 in
theorem ar7_5_1 : okv (mEv TmAr7o2 [] [(lowZ 0 8, 7), (lowZ 1 12, 7), (lowZ 2 12, 3)] 8 [.i .i64 (.var 0), .i .i64 (.var 1), .i .i64 (.var 2)] start) = some (.b true) := by kernel_rfl
set_option maxRecDepth 1000000 in
theorem ar7_5_2 : okv (mEv TmAr7o2 [] [(lowZ 0 8, 7), (lowZ 1 12, 7), (lowZ 2 12, 4)] 8 [.i .i64 (.var 0), .i .i64 (.var 1), .i .i64 (.var 2)] start) = some (.b true) := by kernel_rfl
set_option maxRecDepth 1000000 in
theorem ar7_5_3 : okv (mEv TmAr7o2 [] [(lowZ 0 8, 7), (lowZ 1 12, 7), (lowZ 2 12, 5)] 8 [.i .i64 (.var 0), .i .i64 (.var 1), .i .i64 (.var 2)] start) = some (.b true) := by kernel_rfl
set_option maxRecDepth 1000000 in
theorem ar7_5_4 : okv (mEv TmAr7o2 [] [(lowZ 0 8, 7), (lowZ 1 12, 7), (lowZ 2 12, 6)] 8 [.i .i64 (.var 0), .i .i64 (.var 1), .i .i64 (.var 2)] start) = some (.b true) := by kernel_rfl
set_option maxRecDepth 1000000 in
theorem ar7_5_5 : okv (mEv TmAr7o2 [] [(lowZ 0 8, 7), (lowZ 1 12, 7), (lowZ 2 12, 7)] 8 [.i .i64 (.var 0), .i .i64 (.var 1), .i .i64 (.var 2)] start) = some (.b true) := by kernel_rfl
set_option maxRecDepth 1000000 in
theorem ar7_5_6 : okv (mEv TmAr7o2 [] [(lowZ 0 8, 7), (lowZ 1 12, 7), (lowZ 2 12, 8)] 8 [.i .i64 (.var 0), .i .i64 (.var 1), .i .i64 (.var 2)] start) = some (.b true) := by kernel_rfl
set_option maxRecDepth 1000000 in
theorem ar7_5_7 : okv (mEv TmAr7o2 [] [(lowZ 0 8, 7), (lowZ 1 12, 7), (lowZ 2 12, 9)] 8 [.i .i64 (.var 0), .i .i64 (.var 1), .i .i64 (.var 2)] start) = some (.b true) := by kernel_rfl
set_option maxRecDepth 1000000 in
theorem ar7_6l : okv (mEv TmAr7o2 (lowP (arI 2)) [(lowZ 0 8, 7), (lowZ 1 12, 8)] 8 [.i .i64 (.var 0), .i .i64 (.var 1), .i .i64 (.var 2)] start) = some (.b true) := by kernel_rfl
set_option maxRecDepth 1000000 in
theorem ar7_6h : okv (mEv TmAr7o2 (highP (arI 2) 7 8) [(lowZ 0 8, 7), (lowZ 1 12, 8)] 8 [.i .i64 (.var 0), .i .i64 (.var 1), .i .i64 (.var 2)] start) = some (.b true) := by kernel_rfl
set_option maxRecDepth 1000000 in
theorem ar7_6_0 : okv (mEv TmAr7o2 [] [(lowZ 0 8, 7), (lowZ 1 12, 8), (lowZ 2 12, 2)] 8 [.i .i64 (.var 0), .i .i64 (.var 1), .i .i64 (.var 2)] start) = some (.b true) := by kernel_rfl
set_option maxRecDepth 1000000 in
theorem ar7_6_1 : okv (mEv TmAr7o2 [] [(lowZ 0 8, 7), (lowZ 1 12, 8), (lowZ 2 12, 3)] 8 [.i .i64 (.var 0), .i .i64 (.var 1), .i .i64 (.var 2)] start) = some (.b true) := by kernel_rfl
set_option maxRecDepth 1000000 in
theorem ar7_6_2 : okv (mEv TmAr7o2 [] [(lowZ 0 8, 7), (lowZ 1 12, 8), (lowZ 2 12, 4)] 8 [.i .i64 (.var 0), .i .i64 (.var 1), .i .i64 (.var 2)] start) = some (.b true) := by kernel_rfl
set_option maxRecDepth 1000000 in
theorem ar7_6_3 : okv (mEv TmAr7o2 [] [(lowZ 0 8, 7), (lowZ 1 12, 8), (lowZ 2 12, 5)] 8 [.i .i64 (.var 0), .i .i64 (.var 1), .i .i64 (.var 2)] start) = some (.b true) := by kernel_rfl
set_option maxRecDepth 1000000 in
theorem ar7_6_4 : okv (mEv TmAr7o2 [] [(lowZ 0 8, 7), (lowZ 1 12, 8), (lowZ 2 12, 6)] 8 [.i .i64 (.var 0), .i .i64 (.var 1), .i .i64 (.var 2)] start) = some (.b true) := by kernel_rfl
set_option maxRecDepth 1000000 in
theorem ar7_6_5 : okv (mEv TmAr7o2 [] [(lowZ 0 8, 7), (lowZ 1 12, 8), (lowZ 2 12, 7)] 8 [.i .i64 (.var 0), .i .i64 (.var 1), .i .i64 (.var 2)] start) = some (.b true) := by kernel_rfl
set_option maxRecDepth 1000000 in
theorem ar7_6_6 : okv (mEv TmAr7o2 [] [(lowZ 0 8, 7), (lowZ 1 12, 8), (lowZ 2 12, 8)] 8 [.i .i64 (.var 0), .i .i64 (.var 1), .i .i64 (.var 2)] start) = some (.b true) := by kernel_rfl
set_option maxRecDepth 1000000 in
theorem ar7_6_7 : okv (mEv TmAr7o2 [] [(lowZ 0 8, 7), (lowZ 1 12, 8), (lowZ 2 12, 9)] 8 [.i .i64 (.var 0), .i .i64 (.var 1), .i .i64 (.var 2)] start) = some (.b true) := by kernel_rfl
set_option maxRecDepth 1000000 in
theorem ar7_7l : okv (mEv TmAr7o2 (lowP (arI 2)) [(lowZ 0 8, 7), (lowZ 1 12, 9)] 8 [.i .i64 (.var 0), .i .i64 (.var 1), .i .i64 (.var 2)] start) = some (.b true) := by kernel_rfl
set_option maxRecDepth 1000000 in
theorem ar7_7h : okv (mEv TmAr7o2 (highP (arI 2) 7 8) [(lowZ 0 8, 7), (lowZ 1 12, 9)] 8 [.i .i64 (.var 0), .i .i64 (.var 1), .i .i64 (.var 2)] start) = some (.b true) := by kernel_rfl
set_option maxRecDepth 1000000 in
theorem ar7_7_0 : okv (mEv TmAr7o2 [] [(lowZ 0 8, 7), (lowZ 1 12, 9), (lowZ 2 12, 2)] 8 [.i .i64 (.var 0), .i .i64 (.var 1), .i .i64 (.var 2)] start) = some (.b true) := by kernel_rfl
set_option maxRecDepth 1000000 in
theorem ar7_7_1 : okv (mEv TmAr7o2 [] [(lowZ 0 8, 7), (lowZ 1 12, 9), (lowZ 2 12, 3)] 8 [.i .i64 (.var 0), .i .i64 (.var 1), .i .i64 (.var 2)] start) = some (.b true) := by kernel_rfl
set_option maxRecDepth 1000000 in
theorem ar7_7_2 : okv (mEv TmAr7o2 [] [(lowZ 0 8, 7), (lowZ 1 12, 9), (lowZ 2 12, 4)] 8 [.i .i64 (.var 0), .i .i64 (.var 1), .i .i64 (.var 2)] start) = some (.b true) := by kernel_rfl
set_option maxRecDepth 1000000 in
theorem ar7_7_3 : okv (mEv TmAr7o2 [] [(lowZ 0 8, 7), (lowZ 1 12, 9), (lowZ 2 12, 5)] 8 [.i .i64 (.var 0), .i .i64 (.var 1), .i .i64 (.var 2)] start) = some (.b true) := by kernel_rfl
set_option maxRecDepth 1000000 in
theorem ar7_7_4 : okv (mEv TmAr7o2 [] [(lowZ 0 8, 7), (lowZ 1 12, 9), (lowZ 2 12, 6)] 8 [.i .i64 (.var 0), .i .i64 (.var 1), .i .i64 (.var 2)] start) = some (.b true) := by kernel_rfl
set_option maxRecDepth 1000000 in
theorem ar7_7_5 : okv (mEv TmAr7o2 [] [(lowZ 0 8, 7), (lowZ 1 12, 9), (lowZ 2 12, 7)] 8 [.i .i64 (.var 0), .i .i64 (.var 1), .i .i64 (.var 2)] start) = some (.b true) := by kernel_rfl
set_option maxRecDepth 1000000 in
theorem ar7_7_6 : okv (mEv TmAr7o2 [] [(lowZ 0 8, 7), (lowZ 1 12, 9), (lowZ 2 12, 8)] 8 [.i .i64 (.var 0), .i .i64 (.var 1), .i .i64 (.var 2)] start) = some (.b true) := by kernel_rfl
set_option maxRecDepth 1000000 in
theorem ar7_7_7 : okv (mEv TmAr7o2 [] [(lowZ 0 8, 7), (lowZ 1 12, 9), (lowZ 2 12, 9)] 8 [.i .i64 (.var 0), .i .i64 (.var 1), .i .i64 (.var 2)] start) = some (.b true) := by kernel_rfl
theorem ar7 (ν : Nat → Int) (w : World) (hA : Tp.Asc w) (h : zval ν (lowZ 0 8) = 7) : Calls Tryz.prog 8 #[.int .i64 (ν 0), .int .i64 (ν 1), .int .i64 (ν 2)] w (fun e w' => e = .returned (.bool true) ∧ Below w.heap.size w w') := by
  obtain ⟨h1, h2⟩ := low_in (ν := ν) 1 12 (by decide) (by decide)
  obtain ⟨h3, h4⟩ := low_in (ν := ν) 2 12 (by decide) (by decide)
  have e1 := arI_val (ν := ν) 1
  have e2 := arI_val (ν := ν) 2
  have ha : VRs ν (pl0 w [4]) [.i .i64 (.var 0), .i .i64 (.var 1), .i .i64 (.var 2)] [.int .i64 (ν 0), .int .i64 (ν 1), .int .i64 (ν 2)] := by simp [VRs, VR, zval]
  by_cases a : zval ν (lowZ 1 12) < 2
  · exact tm_true w hA TmAr7g2 (lowP_ok (by omega) (by omega)) (norm_cons h norm_nil) ar7_l ha
  by_cases b : 9 < zval ν (lowZ 1 12)
  · exact tm_true w hA TmAr7g2 (highP_ok (by decide) (by decide) (by omega) (by omega)) (norm_cons h norm_nil) ar7_h ha
  by_cases c : zval ν (lowZ 2 12) < 2
  · obtain g1 | g1 | g1 | g1 | g1 | g1 | g1 | g1 : zval ν (lowZ 1 12) = 2 ∨ zval ν (lowZ 1 12) = 3 ∨ zval ν (lowZ 1 12) = 4 ∨ zval ν (lowZ 1 12) = 5 ∨ zval ν (lowZ 1 12) = 6 ∨ zval ν (lowZ 1 12) = 7 ∨ zval ν (lowZ 1 12) = 8 ∨ zval ν (lowZ 1 12) = 9 := by omega
    · exact tm_true w hA TmAr7g2 (lowP_ok (by omega) (by omega)) (norm_cons h (norm_cons g1 norm_nil)) ar7_0l ha
    · exact tm_true w hA TmAr7g2 (lowP_ok (by omega) (by omega)) (norm_cons h (norm_cons g1 norm_nil)) ar7_1l ha
    · exact tm_true w hA TmAr7g2 (lowP_ok (by omega) (by omega)) (norm_cons h (norm_cons g1 norm_nil)) ar7_2l ha
    · exact tm_true w hA TmAr7g2 (lowP_ok (by omega) (by omega)) (norm_cons h (norm_cons g1 norm_nil)) ar7_3l ha
    · exact tm_true w hA TmAr7g2 (lowP_ok (by omega) (by omega)) (norm_cons h (norm_cons g1 norm_nil)) ar7_4l ha
    · exact tm_true w hA TmAr7g2 (lowP_ok (by omega) (by omega)) (norm_cons h (norm_cons g1 norm_nil)) ar7_5l ha
    · exact tm_true w hA TmAr7g2 (lowP_ok (by omega) (by omega)) (norm_cons h (norm_cons g1 norm_nil)) ar7_6l ha
    · exact tm_true w hA TmAr7g2 (lowP_ok (by omega) (by omega)) (norm_cons h (norm_cons g1 norm_nil)) ar7_7l ha
  by_cases d : 9 < zval ν (lowZ 2 12)
  · obtain g1 | g1 | g1 | g1 | g1 | g1 | g1 | g1 : zval ν (lowZ 1 12) = 2 ∨ zval ν (lowZ 1 12) = 3 ∨ zval ν (lowZ 1 12) = 4 ∨ zval ν (lowZ 1 12) = 5 ∨ zval ν (lowZ 1 12) = 6 ∨ zval ν (lowZ 1 12) = 7 ∨ zval ν (lowZ 1 12) = 8 ∨ zval ν (lowZ 1 12) = 9 := by omega
    · exact tm_true w hA TmAr7g2 (highP_ok (by decide) (by decide) (by omega) (by omega)) (norm_cons h (norm_cons g1 norm_nil)) ar7_0h ha
    · exact tm_true w hA TmAr7g2 (highP_ok (by decide) (by decide) (by omega) (by omega)) (norm_cons h (norm_cons g1 norm_nil)) ar7_1h ha
    · exact tm_true w hA TmAr7g2 (highP_ok (by decide) (by decide) (by omega) (by omega)) (norm_cons h (norm_cons g1 norm_nil)) ar7_2h ha
    · exact tm_true w hA TmAr7g2 (highP_ok (by decide) (by decide) (by omega) (by omega)) (norm_cons h (norm_cons g1 norm_nil)) ar7_3h ha
    · exact tm_true w hA TmAr7g2 (highP_ok (by decide) (by decide) (by omega) (by omega)) (norm_cons h (norm_cons g1 norm_nil)) ar7_4h ha
    · exact tm_true w hA TmAr7g2 (highP_ok (by decide) (by decide) (by omega) (by omega)) (norm_cons h (norm_cons g1 norm_nil)) ar7_5h ha
    · exact tm_true w hA TmAr7g2 (highP_ok (by decide) (by decide) (by omega) (by omega)) (norm_cons h (norm_cons g1 norm_nil)) ar7_6h ha
    · exact tm_true w hA TmAr7g2 (highP_ok (by decide) (by decide) (by omega) (by omega)) (norm_cons h (norm_cons g1 norm_nil)) ar7_7h ha
  obtain g1 | g1 | g1 | g1 | g1 | g1 | g1 | g1 : zval ν (lowZ 1 12) = 2 ∨ zval ν (lowZ 1 12) = 3 ∨ zval ν (lowZ 1 12) = 4 ∨ zval ν (lowZ 1 12) = 5 ∨ zval ν (lowZ 1 12) = 6 ∨ zval ν (lowZ 1 12) = 7 ∨ zval ν (lowZ 1 12) = 8 ∨ zval ν (lowZ 1 12) = 9 := by omega
  · obtain g2 | g2 | g2 | g2 | g2 | g2 | g2 | g2 : zval ν (lowZ 2 12) = 2 ∨ zval ν (lowZ 2 12) = 3 ∨ zval ν (lowZ 2 12) = 4 ∨ zval ν (lowZ 2 12) = 5 ∨ zval ν (lowZ 2 12) = 6 ∨ zval ν (lowZ 2 12) = 7 ∨ zval ν (lowZ 2 12) = 8 ∨ zval ν (lowZ 2 12) = 9 := by omega
    · exact tm_true w hA TmAr7g2 path_nil (norm_cons h (norm_cons g1 (norm_cons g2 norm_nil))) ar7_0_0 ha
    · exact tm_true w hA TmAr7g2 path_nil (norm_cons h (norm_cons g1 (norm_cons g2 norm_nil))) ar7_0_1 ha
    · exact tm_true w hA TmAr7g2 path_nil (norm_cons h (norm_cons g1 (norm_cons g2 norm_nil))) ar7_0_2 ha
    · exact tm_true w hA TmAr7g2 path_nil (norm_cons h (norm_cons g1 (norm_cons g2 norm_nil))) ar7_0_3 ha
    · exact tm_true w hA TmAr7g2 path_nil (norm_cons h (norm_cons g1 (norm_cons g2 norm_nil))) ar7_0_4 ha
    · exact tm_true w hA TmAr7g2 path_nil (norm_cons h (norm_cons g1 (norm_cons g2 norm_nil))) ar7_0_5 ha
    · exact tm_true w hA TmAr7g2 path_nil (norm_cons h (norm_cons g1 (norm_cons g2 norm_nil))) ar7_0_6 ha
    · exact tm_true w hA TmAr7g2 path_nil (norm_cons h (norm_cons g1 (norm_cons g2 norm_nil))) ar7_0_7 ha
  · obtain g2 | g2 | g2 | g2 | g2 | g2 | g2 | g2 : zval ν (lowZ 2 12) = 2 ∨ zval ν (lowZ 2 12) = 3 ∨ zval ν (lowZ 2 12) = 4 ∨ zval ν (lowZ 2 12) = 5 ∨ zval ν (lowZ 2 12) = 6 ∨ zval ν (lowZ 2 12) = 7 ∨ zval ν (lowZ 2 12) = 8 ∨ zval ν (lowZ 2 12) = 9 := by omega
    · exact tm_true w hA TmAr7g2 path_nil (norm_cons h (norm_cons g1 (norm_cons g2 norm_nil))) ar7_1_0 ha
    · exact tm_true w hA TmAr7g2 path_nil (norm_cons h (norm_cons g1 (norm_cons g2 norm_nil))) ar7_1_1 ha
    · exact tm_true w hA TmAr7g2 path_nil (norm_cons h (norm_cons g1 (norm_cons g2 norm_nil))) ar7_1_2 ha
    · exact tm_true w hA TmAr7g2 path_nil (norm_cons h (norm_cons g1 (norm_cons g2 norm_nil))) ar7_1_3 ha
    · exact tm_true w hA TmAr7g2 path_nil (norm_cons h (norm_cons g1 (norm_cons g2 norm_nil))) ar7_1_4 ha
    · exact tm_true w hA TmAr7g2 path_nil (norm_cons h (norm_cons g1 (norm_cons g2 norm_nil))) ar7_1_5 ha
    · exact tm_true w hA TmAr7g2 path_nil (norm_cons h (norm_cons g1 (norm_cons g2 norm_nil))) ar7_1_6 ha
    · exact tm_true w hA TmAr7g2 path_nil (norm_cons h (norm_cons g1 (norm_cons g2 norm_nil))) ar7_1_7 ha
  · obtain g2 | g2 | g2 | g2 | g2 | g2 | g2 | g2 : zval ν (lowZ 2 12) = 2 ∨ zval ν (lowZ 2 12) = 3 ∨ zval ν (lowZ 2 12) = 4 ∨ zval ν (lowZ 2 12) = 5 ∨ zval ν (lowZ 2 12) = 6 ∨ zval ν (lowZ 2 12) = 7 ∨ zval ν (lowZ 2 12) = 8 ∨ zval ν (lowZ 2 12) = 9 := by omega
    · exact tm_true w hA TmAr7g2 path_nil (norm_cons h (norm_cons g1 (norm_cons g2 norm_nil))) ar7_2_0 ha
    · exact tm_true w hA TmAr7g2 path_nil (norm_cons h (norm_cons g1 (norm_cons g2 norm_nil))) ar7_2_1 ha
    · exact tm_true w hA TmAr7g2 path_nil (norm_cons h (norm_cons g1 (norm_cons g2 norm_nil))) ar7_2_2 ha
    · exact tm_true w hA TmAr7g2 path_nil (norm_cons h (norm_cons g1 (norm_cons g2 norm_nil))) ar7_2_3 ha
    · exact tm_true w hA TmAr7g2 path_nil (norm_cons h (norm_cons g1 (norm_cons g2 norm_nil))) ar7_2_4 ha
    · exact tm_true w hA TmAr7g2 path_nil (norm_cons h (norm_cons g1 (norm_cons g2 norm_nil))) ar7_2_5 ha
    · exact tm_true w hA TmAr7g2 path_nil (norm_cons h (norm_cons g1 (norm_cons g2 norm_nil))) ar7_2_6 ha
    · exact tm_true w hA TmAr7g2 path_nil (norm_cons h (norm_cons g1 (norm_cons g2 norm_nil))) ar7_2_7 ha
  · obtain g2 | g2 | g2 | g2 | g2 | g2 | g2 | g2 : zval ν (lowZ 2 12) = 2 ∨ zval ν (lowZ 2 12) = 3 ∨ zval ν (lowZ 2 12) = 4 ∨ zval ν (lowZ 2 12) = 5 ∨ zval ν (lowZ 2 12) = 6 ∨ zval ν (lowZ 2 12) = 7 ∨ zval ν (lowZ 2 12) = 8 ∨ zval ν (lowZ 2 12) = 9 := by omega
    · exact tm_true w hA TmAr7g2 path_nil (norm_cons h (norm_cons g1 (norm_cons g2 norm_nil))) ar7_3_0 ha
    · exact tm_true w hA TmAr7g2 path_nil (norm_cons h (norm_cons g1 (norm_cons g2 norm_nil))) ar7_3_1 ha
    · exact tm_true w hA TmAr7g2 path_nil (norm_cons h (norm_cons g1 (norm_cons g2 norm_nil))) ar7_3_2 ha
    · exact tm_true w hA TmAr7g2 path_nil (norm_cons h (norm_cons g1 (norm_cons g2 norm_nil))) ar7_3_3 ha
    · exact tm_true w hA TmAr7g2 path_nil (norm_cons h (norm_cons g1 (norm_cons g2 norm_nil))) ar7_3_4 ha
    · exact tm_true w hA TmAr7g2 path_nil (norm_cons h (norm_cons g1 (norm_cons g2 norm_nil))) ar7_3_5 ha
    · exact tm_true w hA TmAr7g2 path_nil (norm_cons h (norm_cons g1 (norm_cons g2 norm_nil))) ar7_3_6 ha
    · exact tm_true w hA TmAr7g2 path_nil (norm_cons h (norm_cons g1 (norm_cons g2 norm_nil))) ar7_3_7 ha
  · obtain g2 | g2 | g2 | g2 | g2 | g2 | g2 | g2 : zval ν (lowZ 2 12) = 2 ∨ zval ν (lowZ 2 12) = 3 ∨ zval ν (lowZ 2 12) = 4 ∨ zval ν (lowZ 2 12) = 5 ∨ zval ν (lowZ 2 12) = 6 ∨ zval ν (lowZ 2 12) = 7 ∨ zval ν (lowZ 2 12) = 8 ∨ zval ν (lowZ 2 12) = 9 := by omega
    · exact tm_true w hA TmAr7g2 path_nil (norm_cons h (norm_cons g1 (norm_cons g2 norm_nil))) ar7_4_0 ha
    · exact tm_true w hA TmAr7g2 path_nil (norm_cons h (norm_cons g1 (norm_cons g2 norm_nil))) ar7_4_1 ha
    · exact tm_true w hA TmAr7g2 path_nil (norm_cons h (norm_cons g1 (norm_cons g2 norm_nil))) ar7_4_2 ha
    · exact tm_true w hA TmAr7g2 path_nil (norm_cons h (norm_cons g1 (norm_cons g2 norm_nil))) ar7_4_3 ha
    · exact tm_true w hA TmAr7g2 path_nil (norm_cons h (norm_cons g1 (norm_cons g2 norm_nil))) ar7_4_4 ha
    · exact tm_true w hA TmAr7g2 path_nil (norm_cons h (norm_cons g1 (norm_cons g2 norm_nil))) ar7_4_5 ha
    · exact tm_true w hA TmAr7g2 path_nil (norm_cons h (norm_cons g1 (norm_cons g2 norm_nil))) ar7_4_6 ha
    · exact tm_true w hA TmAr7g2 path_nil (norm_cons h (norm_cons g1 (norm_cons g2 norm_nil))) ar7_4_7 ha
  · obtain g2 | g2 | g2 | g2 | g2 | g2 | g2 | g2 : zval ν (lowZ 2 12) = 2 ∨ zval ν (lowZ 2 12) = 3 ∨ zval ν (lowZ 2 12) = 4 ∨ zval ν (lowZ 2 12) = 5 ∨ zval ν (lowZ 2 12) = 6 ∨ zval ν (lowZ 2 12) = 7 ∨ zval ν (lowZ 2 12) = 8 ∨ zval ν (lowZ 2 12) = 9 := by omega
    · exact tm_true w hA TmAr7g2 path_nil (norm_cons h (norm_cons g1 (norm_cons g2 norm_nil))) ar7_5_0 ha
    · exact tm_true w hA TmAr7g2 path_nil (norm_cons h (norm_cons g1 (norm_cons g2 norm_nil))) ar7_5_1 ha
    · exact tm_true w hA TmAr7g2 path_nil (norm_cons h (norm_cons g1 (norm_cons g2 norm_nil))) ar7_5_2 ha
    · exact tm_true w hA TmAr7g2 path_nil (norm_cons h (norm_cons g1 (norm_cons g2 norm_nil))) ar7_5_3 ha
    · exact tm_true w hA TmAr7g2 path_nil (norm_cons h (norm_cons g1 (norm_cons g2 norm_nil))) ar7_5_4 ha
    · exact tm_true w hA TmAr7g2 path_nil (norm_cons h (norm_cons g1 (norm_cons g2 norm_nil))) ar7_5_5 ha
    · exact tm_true w hA TmAr7g2 path_nil (norm_cons h (norm_cons g1 (norm_cons g2 norm_nil))) ar7_5_6 ha
    · exact tm_true w hA TmAr7g2 path_nil (norm_cons h (norm_cons g1 (norm_cons g2 norm_nil))) ar7_5_7 ha
  · obtain g2 | g2 | g2 | g2 | g2 | g2 | g2 | g2 : zval ν (lowZ 2 12) = 2 ∨ zval ν (lowZ 2 12) = 3 ∨ zval ν (lowZ 2 12) = 4 ∨ zval ν (lowZ 2 12) = 5 ∨ zval ν (lowZ 2 12) = 6 ∨ zval ν (lowZ 2 12) = 7 ∨ zval ν (lowZ 2 12) = 8 ∨ zval ν (lowZ 2 12) = 9 := by omega
    · exact tm_true w hA TmAr7g2 path_nil (norm_cons h (norm_cons g1 (norm_cons g2 norm_nil))) ar7_6_0 ha
    · exact tm_true w hA TmAr7g2 path_nil (norm_cons h (norm_cons g1 (norm_cons g2 norm_nil))) ar7_6_1 ha
    · exact tm_true w hA TmAr7g2 path_nil (norm_cons h (norm_cons g1 (norm_cons g2 norm_nil))) ar7_6_2 ha
    · exact tm_true w hA TmAr7g2 path_nil (norm_cons h (norm_cons g1 (norm_cons g2 norm_nil))) ar7_6_3 ha
    · exact tm_true w hA TmAr7g2 path_nil (norm_cons h (norm_cons g1 (norm_cons g2 norm_nil))) ar7_6_4 ha
    · exact tm_true w hA TmAr7g2 path_nil (norm_cons h (norm_cons g1 (norm_cons g2 norm_nil))) ar7_6_5 ha
    · exact tm_true w hA TmAr7g2 path_nil (norm_cons h (norm_cons g1 (norm_cons g2 norm_nil))) ar7_6_6 ha
    · exact tm_true w hA TmAr7g2 path_nil (norm_cons h (norm_cons g1 (norm_cons g2 norm_nil))) ar7_6_7 ha
  · obtain g2 | g2 | g2 | g2 | g2 | g2 | g2 | g2 : zval ν (lowZ 2 12) = 2 ∨ zval ν (lowZ 2 12) = 3 ∨ zval ν (lowZ 2 12) = 4 ∨ zval ν (lowZ 2 12) = 5 ∨ zval ν (lowZ 2 12) = 6 ∨ zval ν (lowZ 2 12) = 7 ∨ zval ν (lowZ 2 12) = 8 ∨ zval ν (lowZ 2 12) = 9 := by omega
    · exact tm_true w hA TmAr7g2 path_nil (norm_cons h (norm_cons g1 (norm_cons g2 norm_nil))) ar7_7_0 ha
    · exact tm_true w hA TmAr7g2 path_nil (norm_cons h (norm_cons g1 (norm_cons g2 norm_nil))) ar7_7_1 ha
    · exact tm_true w hA TmAr7g2 path_nil (norm_cons h (norm_cons g1 (norm_cons g2 norm_nil))) ar7_7_2 ha
    · exact tm_true w hA TmAr7g2 path_nil (norm_cons h (norm_cons g1 (norm_cons g2 norm_nil))) ar7_7_3 ha
    · exact tm_true w hA TmAr7g2 path_nil (norm_cons h (norm_cons g1 (norm_cons g2 norm_nil))) ar7_7_4 ha
    · exact tm_true w hA TmAr7g2 path_nil (norm_cons h (norm_cons g1 (norm_cons g2 norm_nil))) ar7_7_5 ha
    · exact tm_true w hA TmAr7g2 path_nil (norm_cons h (norm_cons g1 (norm_cons g2 norm_nil))) ar7_7_6 ha
    · exact tm_true w hA TmAr7g2 path_nil (norm_cons h (norm_cons g1 (norm_cons g2 norm_nil))) ar7_7_7 ha
end Go.Proofs.YtmdhaelmblmldaaGreatDoor
