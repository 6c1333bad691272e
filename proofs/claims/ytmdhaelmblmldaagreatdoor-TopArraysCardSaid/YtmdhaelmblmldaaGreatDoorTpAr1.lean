/- TopArrays 1: each way. -/
import Derived.Test.YtmdhaelmblmldaaGreatDoorTpArP
import Derived.Test.YtmdhaelmblmldaaGreatDoorTmAr1
namespace Go.Proofs.YtmdhaelmblmldaaGreatDoor
set_option linter.unusedSimpArgs false
set_option linter.unusedVariables false
set_option linter.constructorNameAsVariable false
open Go Go.RowKit
open Ev
set_option maxRecDepth 1000000 in
theorem ar1_l : okv (mEv TmAr1o2 (lowP (arI 1)) [(lowZ 0 8, 1)] 8 [.i .i64 (.var 0), .i .i64 (.var 1), .i .i64 (.var 2)] start) = some (.b true) := by kernel_rfl
set_option maxRecDepth 1000000 in
theorem ar1_h : okv (mEv TmAr1o2 (highP (arI 1) 1 2) [(lowZ 0 8, 1)] 8 [.i .i64 (.var 0), .i .i64 (.var 1), .i .i64 (.var 2)] start) = some (.b true) := by kernel_rfl
set_option maxRecDepth 1000000 in
theorem ar1_0l : okv (mEv TmAr1o2 (lowP (arI 2)) [(lowZ 0 8, 1), (lowZ 1 12, 2)] 8 [.i .i64 (.var 0), .i .i64 (.var 1), .i .i64 (.var 2)] start) = some (.b true) := by kernel_rfl
set_option maxRecDepth 1000000 in
theorem ar1_0h : okv (mEv TmAr1o2 (highP (arI 2) 1 2) [(lowZ 0 8, 1), (lowZ 1 12, 2)] 8 [.i .i64 (.var 0), .i .i64 (.var 1), .i .i64 (.var 2)] start) = some (.b true) := by kernel_rfl
set_option maxRecDepth 1000000 in
theorem ar1_0_0 : okv (mEv TmAr1o2 [] [(lowZ 0 8, 1), (lowZ 1 12, 2), (lowZ 2 12, 2)] 8 [.i .i64 (.var 0), .i .i64 (.var 1), .i .i64 (.var 2)] start) = some (.b true) := by kernel_rfl
set_option maxRecDepth 1000000 in
theorem ar1_0_1 : okv (mEv TmAr1o2 [] [(lowZ 0 8, 1), (lowZ 1 12, 2), (lowZ 2 12, 3)] 8 [.i .i64 (.var 0), .i .i64 (.var 1), .i .i64 (.var 2)] start) = some (.b true) := by kernel_rfl
set_option maxRecDepth 1000000 in
theorem ar1_1l : okv (mEv TmAr1o2 (lowP (arI 2)) [(lowZ 0 8, 1), (lowZ 1 12, 3)] 8 [.i .i64 (.var 0), .i .i64 (.var 1), .i .i64 (.var 2)] start) = some (.b true) := by kernel_rfl
set_option maxRecDepth 1000000 in
theorem ar1_1h : okv (mEv TmAr1o2 (highP (arI 2) 1 2) [(lowZ 0 8, 1), (lowZ 1 12, 3)] 8 [.i .i64 (.var 0), .i .i64 (.var 1), .i .i64 (.var 2)] start) = some (.b true) := by kernel_rfl
set_option maxRecDepth 1000000 in
theorem ar1_1_0 : okv (mEv TmAr1o2 [] [(lowZ 0 8, 1), (lowZ 1 12, 3), (lowZ 2 12, 2)] 8 [.i .i64 (.var 0), .i .i64 (.var 1), .i .i64 (.var 2)] start) = some (.b true) := by kernel_rfl
set_option maxRecDepth 1000000 in
theorem ar1_1_1 : okv (mEv TmAr1o2 [] [(lowZ 0 8, 1), (lowZ 1 12, 3), (lowZ 2 12, 3)] 8 [.i .i64 (.var 0), .i .i64 (.var 1), .i .i64 (.var 2)] start) = some (.b true) := by kernel_rfl
theorem ar1 (ν : Nat → Int) (w : World) (hA : Tp.Asc w) (h : zval ν (lowZ 0 8) = 1) : Calls Tryz.prog 8 #[.int .i64 (ν 0), .int .i64 (ν 1), .int .i64 (ν 2)] w (fun e w' => e = .returned (.bool true) ∧ Below w.heap.size w w') := by
  obtain ⟨h1, h2⟩ := low_in (ν := ν) 1 12 (by decide) (by decide)
  obtain ⟨h3, h4⟩ := low_in (ν := ν) 2 12 (by decide) (by decide)
  have e1 := arI_val (ν := ν) 1
  have e2 := arI_val (ν := ν) 2
  have ha : VRs ν (pl0 w [4]) [.i .i64 (.var 0), .i .i64 (.var 1), .i .i64 (.var 2)] [.int .i64 (ν 0), .int .i64 (ν 1), .int .i64 (ν 2)] := by simp [VRs, VR, zval]
  by_cases a : zval ν (lowZ 1 12) < 2
  · exact tm_true w hA TmAr1g2 (lowP_ok (by omega) (by omega)) (norm_cons h norm_nil) ar1_l ha
  by_cases b : 3 < zval ν (lowZ 1 12)
  · exact tm_true w hA TmAr1g2 (highP_ok (by decide) (by decide) (by omega) (by omega)) (norm_cons h norm_nil) ar1_h ha
  by_cases c : zval ν (lowZ 2 12) < 2
  · obtain g1 | g1 : zval ν (lowZ 1 12) = 2 ∨ zval ν (lowZ 1 12) = 3 := by omega
    · exact tm_true w hA TmAr1g2 (lowP_ok (by omega) (by omega)) (norm_cons h (norm_cons g1 norm_nil)) ar1_0l ha
    · exact tm_true w hA TmAr1g2 (lowP_ok (by omega) (by omega)) (norm_cons h (norm_cons g1 norm_nil)) ar1_1l ha
  by_cases d : 3 < zval ν (lowZ 2 12)
  · obtain g1 | g1 : zval ν (lowZ 1 12) = 2 ∨ zval ν (lowZ 1 12) = 3 := by omega
    · exact tm_true w hA TmAr1g2 (highP_ok (by decide) (by decide) (by omega) (by omega)) (norm_cons h (norm_cons g1 norm_nil)) ar1_0h ha
    · exact tm_true w hA TmAr1g2 (highP_ok (by decide) (by decide) (by omega) (by omega)) (norm_cons h (norm_cons g1 norm_nil)) ar1_1h ha
  obtain g1 | g1 : zval ν (lowZ 1 12) = 2 ∨ zval ν (lowZ 1 12) = 3 := by omega
  · obtain g2 | g2 : zval ν (lowZ 2 12) = 2 ∨ zval ν (lowZ 2 12) = 3 := by omega
    · exact tm_true w hA TmAr1g2 path_nil (norm_cons h (norm_cons g1 (norm_cons g2 norm_nil))) ar1_0_0 ha
    · exact tm_true w hA TmAr1g2 path_nil (norm_cons h (norm_cons g1 (norm_cons g2 norm_nil))) ar1_0_1 ha
  · obtain g2 | g2 : zval ν (lowZ 2 12) = 2 ∨ zval ν (lowZ 2 12) = 3 := by omega
    · exact tm_true w hA TmAr1g2 path_nil (norm_cons h (norm_cons g1 (norm_cons g2 norm_nil))) ar1_1_0 ha
    · exact tm_true w hA TmAr1g2 path_nil (norm_cons h (norm_cons g1 (norm_cons g2 norm_nil))) ar1_1_1 ha
end Go.Proofs.YtmdhaelmblmldaaGreatDoor
