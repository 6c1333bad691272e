/- TopArrays 2: each way. -/
import Derived.Test.YtmdhaelmblmldaaGreatDoorTpArP
import Derived.Test.YtmdhaelmblmldaaGreatDoorTmAr2
namespace Go.Proofs.YtmdhaelmblmldaaGreatDoor
set_option linter.unusedSimpArgs false
set_option linter.unusedVariables false
set_option linter.constructorNameAsVariable false
open Go Go.RowKit
open Ev
set_option maxRecDepth 1000000 in
theorem ar2_l : okv (mEv TmAr2o2 (lowP (arI 1)) [(lowZ 0 8, 2)] 8 [.i .i64 (.var 0), .i .i64 (.var 1), .i .i64 (.var 2)] start) = some (.b true) := by kernel_rfl
set_option maxRecDepth 1000000 in
theorem ar2_h : okv (mEv TmAr2o2 (highP (arI 1) 2 3) [(lowZ 0 8, 2)] 8 [.i .i64 (.var 0), .i .i64 (.var 1), .i .i64 (.var 2)] start) = some (.b true) := by kernel_rfl
set_option maxRecDepth 1000000 in
theorem ar2_0l : okv (mEv TmAr2o2 (lowP (arI 2)) [(lowZ 0 8, 2), (lowZ 1 12, 2)] 8 [.i .i64 (.var 0), .i .i64 (.var 1), .i .i64 (.var 2)] start) = some (.b true) := by kernel_rfl
set_option maxRecDepth 1000000 in
theorem ar2_0h : okv (mEv TmAr2o2 (highP (arI 2) 2 3) [(lowZ 0 8, 2), (lowZ 1 12, 2)] 8 [.i .i64 (.var 0), .i .i64 (.var 1), .i .i64 (.var 2)] start) = some (.b true) := by kernel_rfl
set_option maxRecDepth 1000000 in
theorem ar2_0_0 : okv (mEv TmAr2o2 [] [(lowZ 0 8, 2), (lowZ 1 12, 2), (lowZ 2 12, 2)] 8 [.i .i64 (.var 0), .i .i64 (.var 1), .i .i64 (.var 2)] start) = some (.b true) := by kernel_rfl
set_option maxRecDepth 1000000 in
theorem ar2_0_1 : okv (mEv TmAr2o2 [] [(lowZ 0 8, 2), (lowZ 1 12, 2), (lowZ 2 12, 3)] 8 [.i .i64 (.var 0), .i .i64 (.var 1), .i .i64 (.var 2)] start) = some (.b true) := by kernel_rfl
set_option maxRecDepth 1000000 in
theorem ar2_0_2 : okv (mEv TmAr2o2 [] [(lowZ 0 8, 2), (lowZ 1 12, 2), (lowZ 2 12, 4)] 8 [.i .i64 (.var 0), .i .i64 (.var 1), .i .i64 (.var 2)] start) = some (.b true) := by kernel_rfl
set_option maxRecDepth 1000000 in
theorem ar2_1l : okv (mEv TmAr2o2 (lowP (arI 2)) [(lowZ 0 8, 2), (lowZ 1 12, 3)] 8 [.i .i64 (.var 0), .i .i64 (.var 1), .i .i64 (.var 2)] start) = some (.b true) := by kernel_rfl
set_option maxRecDepth 1000000 in
theorem ar2_1h : okv (mEv TmAr2o2 (highP (arI 2) 2 3) [(lowZ 0 8, 2), (lowZ 1 12, 3)] 8 [.i .i64 (.var 0), .i .i64 (.var 1), .i .i64 (.var 2)] start) = some (.b true) := by kernel_rfl
set_option maxRecDepth 1000000 in
theorem ar2_1_0 : okv (mEv TmAr2o2 [] [(lowZ 0 8, 2), (lowZ 1 12, 3), (lowZ 2 12, 2)] 8 [.i .i64 (.var 0), .i .i64 (.var 1), .i .i64 (.var 2)] start) = some (.b true) := by kernel_rfl
set_option maxRecDepth 1000000 in
theorem ar2_1_1 : okv (mEv TmAr2o2 [] [(lowZ 0 8, 2), (lowZ 1 12, 3), (lowZ 2 12, 3)] 8 [.i .i64 (.var 0), .i .i64 (.var 1), .i .i64 (.var 2)] start) = some (.b true) := by kernel_rfl
set_option maxRecDepth 1000000 in
theorem ar2_1_2 : okv (mEv TmAr2o2 [] [(lowZ 0 8, 2), (lowZ 1 12, 3), (lowZ 2 12, 4)] 8 [.i .i64 (.var 0), .i .i64 (.var 1), .i .i64 (.var 2)] start) = some (.b true) := by kernel_rfl
set_option maxRecDepth 1000000 in
theorem ar2_2l : okv (mEv TmAr2o2 (lowP (arI 2)) [(lowZ 0 8, 2), (lowZ 1 12, 4)] 8 [.i .i64 (.var 0), .i .i64 (.var 1), .i .i64 (.var 2)] start) = some (.b true) := by kernel_rfl
set_option maxRecDepth 1000000 in
theorem ar2_2h : okv (mEv TmAr2o2 (highP (arI 2) 2 3) [(lowZ 0 8, 2), (lowZ 1 12, 4)] 8 [.i .i64 (.var 0), .i .i64 (.var 1), .i .i64 (.var 2)] start) = some (.b true) := by kernel_rfl
set_option maxRecDepth 1000000 in
theorem ar2_2_0 : okv (mEv TmAr2o2 [] [(lowZ 0 8, 2), (lowZ 1 12, 4), (lowZ 2 12, 2)] 8 [.i .i64 (.var 0), .i .i64 (.var 1), .i .i64 (.var 2)] start) = some (.b true) := by kernel_rfl
set_option maxRecDepth 1000000 in
theorem ar2_2_1 : okv (mEv TmAr2o2 [] [(lowZ 0 8, 2), (lowZ 1 12, 4), (lowZ 2 12, 3)] 8 [.i .i64 (.var 0), .i .i64 (.var 1), .i .i64 (.var 2)] start) = some (.b true) := by kernel_rfl
set_option maxRecDepth 1000000 in
theorem ar2_2_2 : okv (mEv TmAr2o2 [] [(lowZ 0 8, 2), (lowZ 1 12, 4), (lowZ 2 12, 4)] 8 [.i .i64 (.var 0), .i .i64 (.var 1), .i .i64 (.var 2)] start) = some (.b true) := by kernel_rfl
theorem ar2 (ν : Nat → Int) (w : World) (hA : Tp.Asc w) (h : zval ν (lowZ 0 8) = 2) : Calls Tryz.prog 8 #[.int .i64 (ν 0), .int .i64 (ν 1), .int .i64 (ν 2)] w (fun e w' => e = .returned (.bool true) ∧ Below w.heap.size w w') := by
  obtain ⟨h1, h2⟩ := low_in (ν := ν) 1 12 (by decide) (by decide)
  obtain ⟨h3, h4⟩ := low_in (ν := ν) 2 12 (by decide) (by decide)
  have e1 := arI_val (ν := ν) 1
  have e2 := arI_val (ν := ν) 2
  have ha : VRs ν (pl0 w [4]) [.i .i64 (.var 0), .i .i64 (.var 1), .i .i64 (.var 2)] [.int .i64 (ν 0), .int .i64 (ν 1), .int .i64 (ν 2)] := by simp [VRs, VR, zval]
  by_cases a : zval ν (lowZ 1 12) < 2
  · exact tm_true w hA TmAr2g2 (lowP_ok (by omega) (by omega)) (norm_cons h norm_nil) ar2_l ha
  by_cases b : 4 < zval ν (lowZ 1 12)
  · exact tm_true w hA TmAr2g2 (highP_ok (by decide) (by decide) (by omega) (by omega)) (norm_cons h norm_nil) ar2_h ha
  by_cases c : zval ν (lowZ 2 12) < 2
  · obtain g1 | g1 | g1 : zval ν (lowZ 1 12) = 2 ∨ zval ν (lowZ 1 12) = 3 ∨ zval ν (lowZ 1 12) = 4 := by omega
    · exact tm_true w hA TmAr2g2 (lowP_ok (by omega) (by omega)) (norm_cons h (norm_cons g1 norm_nil)) ar2_0l ha
    · exact tm_true w hA TmAr2g2 (lowP_ok (by omega) (by omega)) (norm_cons h (norm_cons g1 norm_nil)) ar2_1l ha
    · exact tm_true w hA TmAr2g2 (lowP_ok (by omega) (by omega)) (norm_cons h (norm_cons g1 norm_nil)) ar2_2l ha
  by_cases d : 4 < zval ν (lowZ 2 12)
  · obtain g1 | g1 | g1 : zval ν (lowZ 1 12) = 2 ∨ zval ν (lowZ 1 12) = 3 ∨ zval ν (lowZ 1 12) = 4 := by omega
    · exact tm_true w hA TmAr2g2 (highP_ok (by decide) (by decide) (by omega) (by omega)) (norm_cons h (norm_cons g1 norm_nil)) ar2_0h ha
    · exact tm_true w hA TmAr2g2 (highP_ok (by decide) (by decide) (by omega) (by omega)) (norm_cons h (norm_cons g1 norm_nil)) ar2_1h ha
    · exact tm_true w hA TmAr2g2 (highP_ok (by decide) (by decide) (by omega) (by omega)) (norm_cons h (norm_cons g1 norm_nil)) ar2_2h ha
  obtain g1 | g1 | g1 : zval ν (lowZ 1 12) = 2 ∨ zval ν (lowZ 1 12) = 3 ∨ zval ν (lowZ 1 12) = 4 := by omega
  · obtain g2 | g2 | g2 : zval ν (lowZ 2 12) = 2 ∨ zval ν (lowZ 2 12) = 3 ∨ zval ν (lowZ 2 12) = 4 := by omega
    · exact tm_true w hA TmAr2g2 path_nil (norm_cons h (norm_cons g1 (norm_cons g2 norm_nil))) ar2_0_0 ha
    · exact tm_true w hA TmAr2g2 path_nil (norm_cons h (norm_cons g1 (norm_cons g2 norm_nil))) ar2_0_1 ha
    · exact tm_true w hA TmAr2g2 path_nil (norm_cons h (norm_cons g1 (norm_cons g2 norm_nil))) ar2_0_2 ha
  · obtain g2 | g2 | g2 : zval ν (lowZ 2 12) = 2 ∨ zval ν (lowZ 2 12) = 3 ∨ zval ν (lowZ 2 12) = 4 := by omega
    · exact tm_true w hA TmAr2g2 path_nil (norm_cons h (norm_cons g1 (norm_cons g2 norm_nil))) ar2_1_0 ha
    · exact tm_true w hA TmAr2g2 path_nil (norm_cons h (norm_cons g1 (norm_cons g2 norm_nil))) ar2_1_1 ha
    · exact tm_true w hA TmAr2g2 path_nil (norm_cons h (norm_cons g1 (norm_cons g2 norm_nil))) ar2_1_2 ha
  · obtain g2 | g2 | g2 : zval ν (lowZ 2 12) = 2 ∨ zval ν (lowZ 2 12) = 3 ∨ zval ν (lowZ 2 12) = 4 := by omega
    · exact tm_true w hA TmAr2g2 path_nil (norm_cons h (norm_cons g1 (norm_cons g2 norm_nil))) ar2_2_0 ha
    · exact tm_true w hA TmAr2g2 path_nil (norm_cons h (norm_cons g1 (norm_cons g2 norm_nil))) ar2_2_1 ha
    · exact tm_true w hA TmAr2g2 path_nil (norm_cons h (norm_cons g1 (norm_cons g2 norm_nil))) ar2_2_2 ha
end Go.Proofs.YtmdhaelmblmldaaGreatDoor
