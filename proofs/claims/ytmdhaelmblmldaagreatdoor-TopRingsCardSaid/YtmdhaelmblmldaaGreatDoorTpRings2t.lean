/- TopRings, one case. -/
import Derived.Test.YtmdhaelmblmldaaGreatDoorKk
namespace Go.Proofs.YtmdhaelmblmldaaGreatDoor
set_option linter.unusedSimpArgs false
set_option linter.unusedVariables false
set_option linter.constructorNameAsVariable false
open Go Go.RowKit
open Ev
set_option maxRecDepth 1000000 in
theorem rings2t_ev : okv (aEv [] [(lowZ 0 3, 2)] 14 [.i .i64 (.var 0), .b true]) = some (.b true) := by kernel_rfl
end Go.Proofs.YtmdhaelmblmldaaGreatDoor
