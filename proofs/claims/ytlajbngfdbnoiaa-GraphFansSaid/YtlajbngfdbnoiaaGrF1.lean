/- GraphFans: evaluations. -/
import Derived.Test.YtlajbngfdbnoiaaGrE
namespace Go.Proofs.Ytlajbngfdbnoiaa
set_option linter.unusedSimpArgs false
set_option linter.unusedVariables false
set_option linter.constructorNameAsVariable false
open Go Go.RowKit
open Ev
theorem gf_3_011 : okv (evF 3 [(1, 0), (2, 1), (3, 1)]) = some (.b true) := by kernel_rfl
theorem gf_3_100 : okv (evF 3 [(1, 1), (2, 0), (3, 0)]) = some (.b true) := by kernel_rfl
theorem gf_3_101 : okv (evF 3 [(1, 1), (2, 0), (3, 1)]) = some (.b true) := by kernel_rfl
theorem gf_3_110 : okv (evF 3 [(1, 1), (2, 1), (3, 0)]) = some (.b true) := by kernel_rfl
theorem gf_3_111 : okv (evF 3 [(1, 1), (2, 1), (3, 1)]) = some (.b true) := by kernel_rfl
theorem gf_4_0000 : okv (evF 4 [(1, 0), (2, 0), (3, 0), (4, 0)]) = some (.b true) := by kernel_rfl
theorem gf_4_0001 : okv (evF 4 [(1, 0), (2, 0), (3, 0), (4, 1)]) = some (.b true) := by kernel_rfl
theorem gf_4_0010 : okv (evF 4 [(1, 0), (2, 0), (3, 1), (4, 0)]) = some (.b true) := by kernel_rfl
end Go.Proofs.Ytlajbngfdbnoiaa
