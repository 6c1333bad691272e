/- TopTimers: its loop's shape; more than 40 scans. -/
import Derived.Test.YtgampjagafcbbaaGreatDoorTpY
namespace Go.Proofs.YtgampjagafcbbaaGreatDoor
set_option linter.unusedSimpArgs false
set_option linter.unusedVariables false
set_option linter.constructorNameAsVariable false
open Go Go.RowKit
open Ev
theorem ti_fn : fnB 7 3 = true := by kernel_rfl
theorem ti_one : Nat.beq (loopsC (bodyOf 7)).length 1 = true := by kernel_rfl
theorem ti_slot : (get (bpOf 2) (slotsOf 7)).isSome = true := by kernel_rfl
set_option maxRecDepth 1000000 in
theorem ti_long_ev : okv (finX (lawX noLov sOv [((.gtr, .var 62, .lit (40)), true)] [] 7 [.i .i64 (.var 0), .i .i64 (.var 1), .sy (q 999) (.lit 0) (.var 62)] start) (resOf 7)) = some (.b true) := by kernel_rfl
end Go.Proofs.YtgampjagafcbbaaGreatDoor
