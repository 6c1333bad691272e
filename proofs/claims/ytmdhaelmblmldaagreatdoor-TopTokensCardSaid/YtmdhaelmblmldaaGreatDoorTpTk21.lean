/- TopTokens 2: ten numbers of blanks. -/
import Derived.Test.YtmdhaelmblmldaaGreatDoorTpFind
namespace Go.Proofs.YtmdhaelmblmldaaGreatDoor
set_option linter.unusedSimpArgs false
set_option linter.unusedVariables false
set_option linter.constructorNameAsVariable false
open Go Go.RowKit
open Ev
set_option maxRecDepth 1000000 in
theorem tk2_10 : okv (dEv [] [(lowZ 0 6, 2), (lowZ 1 20, 10)] 13 [.i .i64 (.var 0), .i .i64 (.var 1)]) = some (.b true) := by kernel_rfl
set_option maxRecDepth 1000000 in
theorem tk2_11 : okv (dEv [] [(lowZ 0 6, 2), (lowZ 1 20, 11)] 13 [.i .i64 (.var 0), .i .i64 (.var 1)]) = some (.b true) := by kernel_rfl
set_option maxRecDepth 1000000 in
theorem tk2_12 : okv (dEv [] [(lowZ 0 6, 2), (lowZ 1 20, 12)] 13 [.i .i64 (.var 0), .i .i64 (.var 1)]) = some (.b true) := by kernel_rfl
set_option maxRecDepth 1000000 in
theorem tk2_13 : okv (dEv [] [(lowZ 0 6, 2), (lowZ 1 20, 13)] 13 [.i .i64 (.var 0), .i .i64 (.var 1)]) = some (.b true) := by kernel_rfl
set_option maxRecDepth 1000000 in
theorem tk2_14 : okv (dEv [] [(lowZ 0 6, 2), (lowZ 1 20, 14)] 13 [.i .i64 (.var 0), .i .i64 (.var 1)]) = some (.b true) := by kernel_rfl
set_option maxRecDepth 1000000 in
theorem tk2_15 : okv (dEv [] [(lowZ 0 6, 2), (lowZ 1 20, 15)] 13 [.i .i64 (.var 0), .i .i64 (.var 1)]) = some (.b true) := by kernel_rfl
set_option maxRecDepth 1000000 in
theorem tk2_16 : okv (dEv [] [(lowZ 0 6, 2), (lowZ 1 20, 16)] 13 [.i .i64 (.var 0), .i .i64 (.var 1)]) = some (.b true) := by kernel_rfl
set_option maxRecDepth 1000000 in
theorem tk2_17 : okv (dEv [] [(lowZ 0 6, 2), (lowZ 1 20, 17)] 13 [.i .i64 (.var 0), .i .i64 (.var 1)]) = some (.b true) := by kernel_rfl
set_option maxRecDepth 1000000 in
theorem tk2_18 : okv (dEv [] [(lowZ 0 6, 2), (lowZ 1 20, 18)] 13 [.i .i64 (.var 0), .i .i64 (.var 1)]) = some (.b true) := by kernel_rfl
set_option maxRecDepth 1000000 in
theorem tk2_19 : okv (dEv [] [(lowZ 0 6, 2), (lowZ 1 20, 19)] 13 [.i .i64 (.var 0), .i .i64 (.var 1)]) = some (.b true) := by kernel_rfl
end Go.Proofs.YtmdhaelmblmldaaGreatDoor
