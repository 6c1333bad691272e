/- TopRefused 11: each number of blanks. -/
import Derived.Test.YtmdhaelmblmldaaGreatDoorKk
namespace Go.Proofs.YtmdhaelmblmldaaGreatDoor
set_option linter.unusedSimpArgs false
set_option linter.unusedVariables false
set_option linter.constructorNameAsVariable false
open Go Go.RowKit
open Ev
set_option maxRecDepth 1000000 in
theorem rf11_0 : okv (mEv aOv [] [(lowZ 0 20, 11), (lowZ 1 9, 0)] 12 [.i .i64 (.var 0), .i .i64 (.var 1)] start) = some (.b true) := by kernel_rfl
set_option maxRecDepth 1000000 in
theorem rf11_1 : okv (mEv aOv [] [(lowZ 0 20, 11), (lowZ 1 9, 1)] 12 [.i .i64 (.var 0), .i .i64 (.var 1)] start) = some (.b true) := by kernel_rfl
set_option maxRecDepth 1000000 in
theorem rf11_2 : okv (mEv aOv [] [(lowZ 0 20, 11), (lowZ 1 9, 2)] 12 [.i .i64 (.var 0), .i .i64 (.var 1)] start) = some (.b true) := by kernel_rfl
set_option maxRecDepth 1000000 in
theorem rf11_3 : okv (mEv aOv [] [(lowZ 0 20, 11), (lowZ 1 9, 3)] 12 [.i .i64 (.var 0), .i .i64 (.var 1)] start) = some (.b true) := by kernel_rfl
set_option maxRecDepth 1000000 in
theorem rf11_4 : okv (mEv aOv [] [(lowZ 0 20, 11), (lowZ 1 9, 4)] 12 [.i .i64 (.var 0), .i .i64 (.var 1)] start) = some (.b true) := by kernel_rfl
set_option maxRecDepth 1000000 in
theorem rf11_5 : okv (mEv aOv [] [(lowZ 0 20, 11), (lowZ 1 9, 5)] 12 [.i .i64 (.var 0), .i .i64 (.var 1)] start) = some (.b true) := by kernel_rfl
set_option maxRecDepth 1000000 in
theorem rf11_6 : okv (mEv aOv [] [(lowZ 0 20, 11), (lowZ 1 9, 6)] 12 [.i .i64 (.var 0), .i .i64 (.var 1)] start) = some (.b true) := by kernel_rfl
set_option maxRecDepth 1000000 in
theorem rf11_7 : okv (mEv aOv [] [(lowZ 0 20, 11), (lowZ 1 9, 7)] 12 [.i .i64 (.var 0), .i .i64 (.var 1)] start) = some (.b true) := by kernel_rfl
set_option maxRecDepth 1000000 in
theorem rf11_8 : okv (mEv aOv [] [(lowZ 0 20, 11), (lowZ 1 9, 8)] 12 [.i .i64 (.var 0), .i .i64 (.var 1)] start) = some (.b true) := by kernel_rfl
theorem rf11 (ν : Nat → Int) (w : World) (hA : Tp.Asc w) (h : zval ν (lowZ 0 20) = 11) : Calls Tryz.prog 12 #[.int .i64 (ν 0), .int .i64 (ν 1)] w (fun e w' => e = .returned (.bool true) ∧ Below w.heap.size w w') := by
  obtain ⟨h1, h2⟩ := low_in (ν := ν) 1 9 (by decide) (by decide)
  have ha : VRs ν (pl0 w [4]) [.i .i64 (.var 0), .i .i64 (.var 1)] [.int .i64 (ν 0), .int .i64 (ν 1)] := by simp [VRs, VR, zval]
  obtain g | g | g | g | g | g | g | g | g : zval ν (lowZ 1 9) = 0 ∨ zval ν (lowZ 1 9) = 1 ∨ zval ν (lowZ 1 9) = 2 ∨ zval ν (lowZ 1 9) = 3 ∨ zval ν (lowZ 1 9) = 4 ∨ zval ν (lowZ 1 9) = 5 ∨ zval ν (lowZ 1 9) = 6 ∨ zval ν (lowZ 1 9) = 7 ∨ zval ν (lowZ 1 9) = 8 := by omega
  · exact tm_true w hA aOv_good path_nil (norm_cons h (norm_cons g norm_nil)) rf11_0 ha
  · exact tm_true w hA aOv_good path_nil (norm_cons h (norm_cons g norm_nil)) rf11_1 ha
  · exact tm_true w hA aOv_good path_nil (norm_cons h (norm_cons g norm_nil)) rf11_2 ha
  · exact tm_true w hA aOv_good path_nil (norm_cons h (norm_cons g norm_nil)) rf11_3 ha
  · exact tm_true w hA aOv_good path_nil (norm_cons h (norm_cons g norm_nil)) rf11_4 ha
  · exact tm_true w hA aOv_good path_nil (norm_cons h (norm_cons g norm_nil)) rf11_5 ha
  · exact tm_true w hA aOv_good path_nil (norm_cons h (norm_cons g norm_nil)) rf11_6 ha
  · exact tm_true w hA aOv_good path_nil (norm_cons h (norm_cons g norm_nil)) rf11_7 ha
  · exact tm_true w hA aOv_good path_nil (norm_cons h (norm_cons g norm_nil)) rf11_8 ha
end Go.Proofs.YtmdhaelmblmldaaGreatDoor
