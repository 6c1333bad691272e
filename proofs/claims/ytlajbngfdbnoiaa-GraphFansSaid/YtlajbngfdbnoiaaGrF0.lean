/- GraphFans: evaluations. -/
import Derived.Test.YtlajbngfdbnoiaaGrE
namespace Go.Proofs.Ytlajbngfdbnoiaa
set_option linter.unusedSimpArgs false
set_option linter.unusedVariables false
set_option linter.constructorNameAsVariable false
open Go Go.RowKit
open Ev
theorem gf_0_ : okv (evF 0 []) = some (.b true) := by kernel_rfl
theorem gf_1_0 : okv (evF 1 [(1, 0)]) = some (.b true) := by kernel_rfl
theorem gf_1_1 : okv (evF 1 [(1, 1)]) = some (.b true) := by kernel_rfl
theorem gf_2_00 : okv (evF 2 [(1, 0), (2, 0)]) = some (.b true) := by kernel_rfl
theorem gf_2_01 : okv (evF 2 [(1, 0), (2, 1)]) = some (.b true) := by kernel_rfl
theorem gf_2_10 : okv (evF 2 [(1, 1), (2, 0)]) = some (.b true) := by kernel_rfl
theorem gf_2_11 : okv (evF 2 [(1, 1), (2, 1)]) = some (.b true) := by kernel_rfl
theorem gf_3_000 : okv (evF 3 [(1, 0), (2, 0), (3, 0)]) = some (.b true) := by kernel_rfl
theorem gf_3_001 : okv (evF 3 [(1, 0), (2, 0), (3, 1)]) = some (.b true) := by kernel_rfl
theorem gf_3_010 : okv (evF 3 [(1, 0), (2, 1), (3, 0)]) = some (.b true) := by kernel_rfl
end Go.Proofs.Ytlajbngfdbnoiaa
