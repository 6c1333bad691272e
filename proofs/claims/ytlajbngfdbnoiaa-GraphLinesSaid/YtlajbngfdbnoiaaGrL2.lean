/- GraphLines: evaluations. -/
import Derived.Test.YtlajbngfdbnoiaaGrE
namespace Go.Proofs.Ytlajbngfdbnoiaa
set_option linter.unusedSimpArgs false
set_option linter.unusedVariables false
set_option linter.constructorNameAsVariable false
open Go Go.RowKit
open Ev
theorem gl_4_2 : okv (evL 4 2) = some (.b true) := by kernel_rfl
theorem gl_4_3 : okv (evL 4 3) = some (.b true) := by kernel_rfl
theorem gl_4_4 : okv (evL 4 4) = some (.b true) := by kernel_rfl
theorem gl_4_5 : okv (evL 4 5) = some (.b true) := by kernel_rfl
theorem gl_5_0 : okv (evL 5 0) = some (.b true) := by kernel_rfl
end Go.Proofs.Ytlajbngfdbnoiaa
