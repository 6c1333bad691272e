/- awake(), evaluated. -/
import Derived.Test.YtoinghomkcjkcaaGreatDoorKi
namespace Go.Proofs.YtoinghomkcjkcaaGreatDoor
set_option linter.unusedSimpArgs false
set_option linter.unusedVariables false
set_option linter.constructorNameAsVariable false
open Go Go.RowKit
open Ev
set_option maxRecDepth 1000000 in
theorem awake_ev : okv (tEv [] [] 9 []) = some (.b true) := by kernel_rfl
theorem awake_is (w : World) (hA : Tp.Asc w) : Calls Tryz.prog 9 #[] w (fun e w' => e = .returned (.bool true) ∧ Below w.heap.size w w') :=
  tp_true (ν := fun _ => 0) w hA (path := []) (norm := []) (by intro c hc; cases hc) (by intro c hc; cases hc) awake_ev (args := []) (by simp [VRs])
end Go.Proofs.YtoinghomkcjkcaaGreatDoor
