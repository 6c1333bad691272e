/- GraphFans: evaluations. -/
import Derived.Test.YtlajbngfdbnoiaaGrE
namespace Go.Proofs.Ytlajbngfdbnoiaa
set_option linter.unusedSimpArgs false
set_option linter.unusedVariables false
set_option linter.constructorNameAsVariable false
open Go Go.RowKit
open Ev
theorem gf_5_11010 : okv (evF 5 [(1, 1), (2, 1), (3, 0), (4, 1), (5, 0)]) = some (.b true) := by kernel_rfl
theorem gf_5_11011 : okv (evF 5 [(1, 1), (2, 1), (3, 0), (4, 1), (5, 1)]) = some (.b true) := by kernel_rfl
theorem gf_5_11100 : okv (evF 5 [(1, 1), (2, 1), (3, 1), (4, 0), (5, 0)]) = some (.b true) := by kernel_rfl
theorem gf_5_11101 : okv (evF 5 [(1, 1), (2, 1), (3, 1), (4, 0), (5, 1)]) = some (.b true) := by kernel_rfl
theorem gf_5_11110 : okv (evF 5 [(1, 1), (2, 1), (3, 1), (4, 1), (5, 0)]) = some (.b true) := by kernel_rfl
end Go.Proofs.Ytlajbngfdbnoiaa
