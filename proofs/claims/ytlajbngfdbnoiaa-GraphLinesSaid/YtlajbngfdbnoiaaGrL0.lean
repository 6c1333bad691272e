/- GraphLines: evaluations. -/
import Derived.Test.YtlajbngfdbnoiaaGrE
namespace Go.Proofs.Ytlajbngfdbnoiaa
set_option linter.unusedSimpArgs false
set_option linter.unusedVariables false
set_option linter.constructorNameAsVariable false
open Go Go.RowKit
open Ev
theorem gl_0_0 : okv (evL 0 0) = some (.b true) := by kernel_rfl
theorem gl_0_1 : okv (evL 0 1) = some (.b true) := by kernel_rfl
theorem gl_1_0 : okv (evL 1 0) = some (.b true) := by kernel_rfl
theorem gl_1_1 : okv (evL 1 1) = some (.b true) := by kernel_rfl
theorem gl_1_2 : okv (evL 1 2) = some (.b true) := by kernel_rfl
theorem gl_2_0 : okv (evL 2 0) = some (.b true) := by kernel_rfl
theorem gl_2_1 : okv (evL 2 1) = some (.b true) := by kernel_rfl
theorem gl_2_2 : okv (evL 2 2) = some (.b true) := by kernel_rfl
theorem gl_2_3 : okv (evL 2 3) = some (.b true) := by kernel_rfl
theorem gl_3_0 : okv (evL 3 0) = some (.b true) := by kernel_rfl
end Go.Proofs.Ytlajbngfdbnoiaa
