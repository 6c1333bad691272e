/- TopOnce: its loop's shape; more than 40 scans. -/
import Derived.Test.YtgampjagafcbbaaGreatDoorTpY
namespace Go.Proofs.YtgampjagafcbbaaGreatDoor
set_option linter.unusedSimpArgs false
set_option linter.unusedVariables false
set_option linter.constructorNameAsVariable false
open Go Go.RowKit
open Ev
theorem on_fn : fnB 8 2 = true := by kernel_rfl
theorem on_one : Nat.beq (loopsC (bodyOf 8)).length 1 = true := by kernel_rfl
theorem on_slot : (get (bpOf 1) (slotsOf 8)).isSome = true := by kernel_rfl
set_option maxRecDepth 1000000 in
theorem on_long_ev : okv (finX (lawX noLov sOv [((.gtr, .var 62, .lit (40)), true)] [] 8 [.i .i64 (.var 0), .sy (q 999) (.lit 0) (.var 62)] start) (resOf 8)) = some (.b true) := by kernel_rfl
end Go.Proofs.YtgampjagafcbbaaGreatDoor
