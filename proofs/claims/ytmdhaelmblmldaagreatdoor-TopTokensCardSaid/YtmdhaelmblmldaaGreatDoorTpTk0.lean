/- TopTokens 0: each number of blanks. -/
import Derived.Test.YtmdhaelmblmldaaGreatDoorTpTk00
import Derived.Test.YtmdhaelmblmldaaGreatDoorTpTk01
namespace Go.Proofs.YtmdhaelmblmldaaGreatDoor
set_option linter.unusedSimpArgs false
set_option linter.unusedVariables false
set_option linter.constructorNameAsVariable false
open Go Go.RowKit
open Ev
theorem tk0 (ν : Nat → Int) (w : World) (hA : Tp.Asc w) (hD : Door w) (h : zval ν (lowZ 0 6) = 0) : Calls Tryz.prog 13 #[.int .i64 (ν 0), .int .i64 (ν 1)] w (fun e w' => e = .returned (.bool true) ∧ Below w.heap.size w w') := by
  obtain ⟨h1, h2⟩ := low_in (ν := ν) 1 20 (by decide) (by decide)
  have ha : VRs ν (pl0 w [4]) [.i .i64 (.var 0), .i .i64 (.var 1)] [.int .i64 (ν 0), .int .i64 (ν 1)] := by simp [VRs, VR, zval]
  obtain g | g | g | g | g | g | g | g | g | g | g | g | g | g | g | g | g | g | g | g : zval ν (lowZ 1 20) = 0 ∨ zval ν (lowZ 1 20) = 1 ∨ zval ν (lowZ 1 20) = 2 ∨ zval ν (lowZ 1 20) = 3 ∨ zval ν (lowZ 1 20) = 4 ∨ zval ν (lowZ 1 20) = 5 ∨ zval ν (lowZ 1 20) = 6 ∨ zval ν (lowZ 1 20) = 7 ∨ zval ν (lowZ 1 20) = 8 ∨ zval ν (lowZ 1 20) = 9 ∨ zval ν (lowZ 1 20) = 10 ∨ zval ν (lowZ 1 20) = 11 ∨ zval ν (lowZ 1 20) = 12 ∨ zval ν (lowZ 1 20) = 13 ∨ zval ν (lowZ 1 20) = 14 ∨ zval ν (lowZ 1 20) = 15 ∨ zval ν (lowZ 1 20) = 16 ∨ zval ν (lowZ 1 20) = 17 ∨ zval ν (lowZ 1 20) = 18 ∨ zval ν (lowZ 1 20) = 19 := by omega
  · exact td_true w hA hD path_nil (norm_cons h (norm_cons g norm_nil)) tk0_0 ha
  · exact td_true w hA hD path_nil (norm_cons h (norm_cons g norm_nil)) tk0_1 ha
  · exact td_true w hA hD path_nil (norm_cons h (norm_cons g norm_nil)) tk0_2 ha
  · exact td_true w hA hD path_nil (norm_cons h (norm_cons g norm_nil)) tk0_3 ha
  · exact td_true w hA hD path_nil (norm_cons h (norm_cons g norm_nil)) tk0_4 ha
  · exact td_true w hA hD path_nil (norm_cons h (norm_cons g norm_nil)) tk0_5 ha
  · exact td_true w hA hD path_nil (norm_cons h (norm_cons g norm_nil)) tk0_6 ha
  · exact td_true w hA hD path_nil (norm_cons h (norm_cons g norm_nil)) tk0_7 ha
  · exact td_true w hA hD path_nil (norm_cons h (norm_cons g norm_nil)) tk0_8 ha
  · exact td_true w hA hD path_nil (norm_cons h (norm_cons g norm_nil)) tk0_9 ha
  · exact td_true w hA hD path_nil (norm_cons h (norm_cons g norm_nil)) tk0_10 ha
  · exact td_true w hA hD path_nil (norm_cons h (norm_cons g norm_nil)) tk0_11 ha
  · exact td_true w hA hD path_nil (norm_cons h (norm_cons g norm_nil)) tk0_12 ha
  · exact td_true w hA hD path_nil (norm_cons h (norm_cons g norm_nil)) tk0_13 ha
  · exact td_true w hA hD path_nil (norm_cons h (norm_cons g norm_nil)) tk0_14 ha
  · exact td_true w hA hD path_nil (norm_cons h (norm_cons g norm_nil)) tk0_15 ha
  · exact td_true w hA hD path_nil (norm_cons h (norm_cons g norm_nil)) tk0_16 ha
  · exact td_true w hA hD path_nil (norm_cons h (norm_cons g norm_nil)) tk0_17 ha
  · exact td_true w hA hD path_nil (norm_cons h (norm_cons g norm_nil)) tk0_18 ha
  · exact td_true w hA hD path_nil (norm_cons h (norm_cons g norm_nil)) tk0_19 ha
end Go.Proofs.YtmdhaelmblmldaaGreatDoor
