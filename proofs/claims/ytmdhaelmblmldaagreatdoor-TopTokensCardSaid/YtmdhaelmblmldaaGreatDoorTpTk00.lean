/- TopTokens 0: ten numbers of blanks. -/
import Derived.Test.YtmdhaelmblmldaaGreatDoorTpFind
namespace Go.Proofs.YtmdhaelmblmldaaGreatDoor
set_option linter.unusedSimpArgs false
set_option linter.unusedVariables false
set_option linter.constructorNameAsVariable false
open Go Go.RowKit
open Ev
set_option maxRecDepth 1000000 in
theorem tk0_0 : okv (dEv [] [(lowZ 0 6, 0), (lowZ 1 20, 0)] 13 [.i .i64 (.var 0), .i .i64 (.var 1)]) = some (.b true) := by kernel_rfl
set_option maxRecDepth 1000000 in
theorem tk0_1 : okv (dEv [] [(lowZ 0 6, 0), (lowZ 1 20, 1)] 13 [.i .i64 (.var 0), .i .i64 (.var 1)]) = some (.b true) := by kernel_rfl
set_option maxRecDepth 1000000 in
theorem tk0_2 : okv (dEv [] [(lowZ 0 6, 0), (lowZ 1 20, 2)] 13 [.i .i64 (.var 0), .i .i64 (.var 1)]) = some (.b true) := by kernel_rfl
set_option maxRecDepth 1000000 in
theorem tk0_3 : okv (dEv [] [(lowZ 0 6, 0), (lowZ 1 20, 3)] 13 [.i .i64 (.var 0), .i .i64 (.var 1)]) = some (.b true) := by kernel_rfl
set_option maxRecDepth 1000000 in
theorem tk0_4 : okv (dEv [] [(lowZ 0 6, 0), (lowZ 1 20, 4)] 13 [.i .i64 (.var 0), .i .i64 (.var 1)]) = some (.b true) := by kernel_rfl
set_option maxRecDepth 1000000 in
theorem tk0_5 : okv (dEv [] [(lowZ 0 6, 0), (lowZ 1 20, 5)] 13 [.i .i64 (.var 0), .i .i64 (.var 1)]) = some (.b true) := by kernel_rfl
set_option maxRecDepth 1000000 in
theorem tk0_6 : okv (dEv [] [(lowZ 0 6, 0), (lowZ 1 20, 6)] 13 [.i .i64 (.var 0), .i .i64 (.var 1)]) = some (.b true) := by kernel_rfl
set_option maxRecDepth 1000000 in
theorem tk0_7 : okv (dEv [] [(lowZ 0 6, 0), (lowZ 1 20, 7)] 13 [.i .i64 (.var 0), .i .i64 (.var 1)]) = some (.b true) := by kernel_rfl
set_option maxRecDepth 1000000 in
theorem tk0_8 : okv (dEv [] [(lowZ 0 6, 0), (lowZ 1 20, 8)] 13 [.i .i64 (.var 0), .i .i64 (.var 1)]) = some (.b true) := by kernel_rfl
set_option maxRecDepth 1000000 in
theorem tk0_9 : okv (dEv [] [(lowZ 0 6, 0), (lowZ 1 20, 9)] 13 [.i .i64 (.var 0), .i .i64 (.var 1)]) = some (.b true) := by kernel_rfl
end Go.Proofs.YtmdhaelmblmldaaGreatDoor
