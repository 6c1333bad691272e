/- GraphLines: evaluations. -/
import Derived.Test.YtlajbngfdbnoiaaGrE
namespace Go.Proofs.Ytlajbngfdbnoiaa
set_option linter.unusedSimpArgs false
set_option linter.unusedVariables false
set_option linter.constructorNameAsVariable false
open Go Go.RowKit
open Ev
theorem gl_5_1 : okv (evL 5 1) = some (.b true) := by kernel_rfl
theorem gl_5_2 : okv (evL 5 2) = some (.b true) := by kernel_rfl
theorem gl_5_3 : okv (evL 5 3) = some (.b true) := by kernel_rfl
theorem gl_5_4 : okv (evL 5 4) = some (.b true) := by kernel_rfl
end Go.Proofs.Ytlajbngfdbnoiaa
