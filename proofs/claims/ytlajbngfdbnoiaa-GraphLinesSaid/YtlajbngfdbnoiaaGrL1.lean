/- GraphLines: evaluations. -/
import Derived.Test.YtlajbngfdbnoiaaGrE
namespace Go.Proofs.Ytlajbngfdbnoiaa
set_option linter.unusedSimpArgs false
set_option linter.unusedVariables false
set_option linter.constructorNameAsVariable false
open Go Go.RowKit
open Ev
theorem gl_3_1 : okv (evL 3 1) = some (.b true) := by kernel_rfl
theorem gl_3_2 : okv (evL 3 2) = some (.b true) := by kernel_rfl
theorem gl_3_3 : okv (evL 3 3) = some (.b true) := by kernel_rfl
theorem gl_3_4 : okv (evL 3 4) = some (.b true) := by kernel_rfl
theorem gl_4_0 : okv (evL 4 0) = some (.b true) := by kernel_rfl
theorem gl_4_1 : okv (evL 4 1) = some (.b true) := by kernel_rfl
end Go.Proofs.Ytlajbngfdbnoiaa
