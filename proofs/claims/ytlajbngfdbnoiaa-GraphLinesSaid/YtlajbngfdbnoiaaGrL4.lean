/- GraphLines: evaluations. -/
import Derived.Test.YtlajbngfdbnoiaaGrE
namespace Go.Proofs.Ytlajbngfdbnoiaa
set_option linter.unusedSimpArgs false
set_option linter.unusedVariables false
set_option linter.constructorNameAsVariable false
open Go Go.RowKit
open Ev
theorem gl_5_5 : okv (evL 5 5) = some (.b true) := by kernel_rfl
theorem gl_5_6 : okv (evL 5 6) = some (.b true) := by kernel_rfl
end Go.Proofs.Ytlajbngfdbnoiaa
