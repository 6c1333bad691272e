/- TopArrays 4: each way. -/
import Derived.Test.YtmdhaelmblmldaaGreatDoorTpArP
import Derived.Test.YtmdhaelmblmldaaGreatDoorTmAr4
namespace Go.Proofs.YtmdhaelmblmldaaGreatDoor
set_option linter.unusedSimpArgs false
set_option linter.unusedVariables false
set_option linter.constructorNameAsVariable false
open Go Go.RowKit
open Ev
set_option maxRecDepth 1000000 in
theorem ar4_l : okv (mEv TmAr4o2 (lowP (arI 1)) [(lowZ 0 8, 4)] 8 [.i .i64 (.var 0), .i .i64 (.var 1), .i .i64 (.var 2)] start) = some (.b true) := by kernel_rfl
set_option maxRecDepth 1000000 in
theorem ar4_h : okv (mEv TmAr4o2 (highP (arI 1) 4 5) [(lowZ 0 8, 4)] 8 [.i .i64 (.var 0), .i .i64 (.var 1), .i .i64 (.var 2)] start) = some (.b true) := by kernel_rfl
set_option maxRecDepth 1000000 in
theorem ar4_0l : okv (mEv TmAr4o2 (lowP (arI 2)) [(lowZ 0 8, 4), (lowZ 1 12, 2)] 8 [.i .i64 (.var 0), .i .i64 (.var 1), .i .i64 (.var 2)] start) = some (.b true) := by kernel_rfl
set_option maxRecDepth 1000000 in
theorem ar4_0h : okv (mEv TmAr4o2 (highP (arI 2) 4 5) [(lowZ 0 8, 4), (lowZ 1 12, 2)] 8 [.i .i64 (.var 0), .i .i64 (.var 1), .i .i64 (.var 2)] start) = some (.b true) := by kernel_rfl
set_option maxRecDepth 1000000 in
theorem ar4_0_0 : okv (mEv TmAr4o2 [] [(lowZ 0 8, 4), (lowZ 1 12, 2), (lowZ 2 12, 2)] 8 [.i .i64 (.var 0), .i .i64 (.var 1), .i .i64 (.var 2)] start) = some (.b true) := by kernel_rfl
set_option maxRecDepth 1000000 in
theorem ar4_0_1 : okv (mEv TmAr4o2 [] [(lowZ 0 8, 4), (lowZ 1 12, 2), (lowZ 2 12, 3)] 8 [.i .i64 (.var 0), .i .i64 (.var 1), .i .i64 (.var 2)] start) = some (.b true) := by kernel_rfl
set_option maxRecDepth 1000000 in
theorem ar4_0_2 : okv (mEv TmAr4o2 [] [(lowZ 0 8, 4), (lowZ 1 12, 2), (lowZ 2 12, 4)] 8 [.i .i64 (.var 0), .i .i64 (.var 1), .i .i64 (.var 2)] start) = some (.b true) := by kernel_rfl
set_option maxRecDepth 1000000 in
theorem ar4_0_3 : okv (mEv TmAr4o2 [] [(lowZ 0 8, 4), (lowZ 1 12, 2), (lowZ 2 12, 5)] 8 [.i .i64 (.var 0), .i .i64 (.var 1), .i .i64 (.var 2)] start) = some (.b true) := by kernel_rfl
set_option maxRecDepth 1000000 in
theorem ar4_0_4 : okv (mEv TmAr4o2 [] [(lowZ 0 8, 4), (lowZ 1 12, 2), (lowZ 2 12, 6)] 8 [.i .i64 (.var 0), .i .i64 (.var 1), .i .i64 (.var 2)] start) = some (.b true) := by kernel_rfl
set_option maxRecDepth 1000000 in
theorem ar4_1l : okv (mEv TmAr4o2 (lowP (arI 2)) [(lowZ 0 8, 4), (lowZ 1 12, 3)] 8 [.i .i64 (.var 0), .i .i64 (.var 1), .i .i64 (.var 2)] start) = some (.b true) := by kernel_rfl
set_option maxRecDepth 1000000 in
theorem ar4_1h : okv (mEv TmAr4o2 (highP (arI 2) 4 5) [(lowZ 0 8, 4), (lowZ 1 12, 3)] 8 [.i .i64 (.var 0), .i .i64 (.var 1), .i .i64 (.var 2)] start) = some (.b true) := by kernel_rfl
set_option maxRecDepth 1000000 in
theorem ar4_1_0 : okv (mEv TmAr4o2 [] [(lowZ 0 8, 4), (lowZ 1 12, 3), (lowZ 2 12, 2)] 8 [.i .i64 (.var 0), .i .i64 (.var 1), .i .i64 (.var 2)] start) = some (.b true) := by kernel_rfl
set_option maxRecDepth 1000000 in
theorem ar4_1_1 : okv (mEv TmAr4o2 [] [(lowZ 0 8, 4), (lowZ 1 12, 3), (lowZ 2 12, 3)] 8 [.i .i64 (.var 0), .i .i64 (.var 1), .i .i64 (.var 2)] start) = some (.b true) := by kernel_rfl
set_option maxRecDepth 1000000 in
theorem ar4_1_2 : okv (mEv TmAr4o2 [] [(lowZ 0 8, 4), (lowZ 1 12, 3), (lowZ 2 12, 4)] 8 [.i .i64 (.var 0), .i .i64 (.var 1), .i .i64 (.var 2)] start) = some (.b true) := by kernel_rfl
set_option maxRecDepth 1000000 in
theorem ar4_1_3 : okv (mEv TmAr4o2 [] [(lowZ 0 8, 4), (lowZ 1 12, 3), (lowZ 2 12, 5)] 8 [.i .i64 (.var 0), .i .i64 (.var 1), .i .i64 (.var 2)] start) = some (.b true) := by kernel_rfl
set_option maxRecDepth 1000000 in
theorem ar4_1_4 : okv (mEv TmAr4o2 [] [(lowZ 0 8, 4), (lowZ 1 12, 3), (lowZ 2 12, 6)] 8 [.i .i64 (.var 0), .i .i64 (.var 1), .i .i64 (.var 2)] start) = some (.b true) := by kernel_rfl
set_option maxRecDepth 1000000 in
theorem ar4_2l : okv (mEv TmAr4o2 (lowP (arI 2)) [(lowZ 0 8, 4), (lowZ 1 12, 4)] 8 [.i .i64 (.var 0), .i .i64 (.var 1), .i .i64 (.var 2)] start) = some (.b true) := by kernel_rfl
set_option maxRecDepth 1000000 in
theorem ar4_2h : okv (mEv TmAr4o2 (highP (arI 2) 4 5) [(lowZ 0 8, 4), (lowZ 1 12, 4)] 8 [.i .i64 (.var 0), .i .i64 (.var 1), .i .i64 (.var 2)] start) = some (.b true) := by kernel_rfl
set_option maxRecDepth 1000000 in
theorem ar4_2_0 : okv (mEv TmAr4o2 [] [(lowZ 0 8, 4), (lowZ 1 12, 4), (lowZ 2 12, 2)] 8 [.i .i64 (.var 0), .i .i64 (.var 1), .i .i64 (.var 2)] start) = some (.b true) := by kernel_rfl
set_option maxRecDepth 1000000 in
theorem ar4_2_1 : okv (mEv TmAr4o2 [] [(lowZ 0 8, 4), (lowZ 1 12, 4), (lowZ 2 12, 3)] 8 [.i .i64 (.var 0), .i .i64 (.var 1), .i .i64 (.var 2)] start) = some (.b true) := by kernel_rfl
set_option maxRecDepth 1000000 in
theorem ar4_2_2 : okv (mEv TmAr4o2 [] [(lowZ 0 8, 4), (lowZ 1 12, 4), (lowZ 2 12, 4)] 8 [.i .i64 (.var 0), .i .i64 (.var 1), .i .i64 (.var 2)] start) = some (.b true) := by kernel_rfl
set_option maxRecDepth 1000000 in
theorem ar4_2_3 : okv (mEv TmAr4o2 [] [(lowZ 0 8, 4), (lowZ 1 12, 4), (lowZ 2 12, 5)] 8 [.i .i64 (.var 0), .i .i64 (.var 1), .i .i64 (.var 2)] start) = some (.b true) := by kernel_rfl
set_option maxRecDepth 1000000 in
theorem ar4_2_4 : okv (mEv TmAr4o2 [] [(lowZ 0 8, 4), (lowZ 1 12, 4), (lowZ 2 12, 6)] 8 [.i .i64 (.var 0), .i .i64 (.var 1), .i .i64 (.var 2)] start) = some (.b true) := by kernel_rfl
set_option maxRecDepth 1000000 in
theorem ar4_3l : okv (mEv TmAr4o2 (lowP (arI 2)) [(lowZ 0 8, 4), (lowZ 1 12, 5)] 8 [.i .i64 (.var 0), .i .i64 (.var 1), .i .i64 (.var 2)] start) = some (.b true) := by kernel_rfl
set_option maxRecDepth 1000000 in
theorem ar4_3h : okv (mEv TmAr4o2 (highP (arI 2) 4 5) [(lowZ 0 8, 4), (lowZ 1 12, 5)] 8 [.i .i64 (.var 0), .i .i64 (.var 1), .i .i64 (.var 2)] start) = some (.b true) := by kernel_rfl
set_option maxRecDepth 1000000 in
theorem ar4_3_0 : okv (mEv TmAr4o2 [] [(lowZ 0 8, 4), (lowZ 1 12, 5), (lowZ 2 12, 2)] 8 [.i .i64 (.var 0), .i .i64 (.var 1), .i .i64 (.var 2)] start) = some (.b true) := by kernel_rfl
set_option maxRecDepth 1000000 in
theorem ar4_3_1 : okv (mEv TmAr4o2 [] [(lowZ 0 8, 4), (lowZ 1 12, 5), (lowZ 2 12, 3)] 8 [.i .i64 (.var 0), .i .i64 (.var 1), .i .i64 (.var 2)] start) = some (.b true) := by kernel_rfl
set_option maxRecDepth 1000000 in
theorem ar4_3_2 : okv (mEv TmAr4o2 [] [(lowZ 0 8, 4), (lowZ 1 12, 5), (lowZ 2 12, 4)] 8 [.i .i64 (.var 0), .i .i64 (.var 1), .i .i64 (.var 2)] start) = some (.b true) := by kernel_rfl
set_option maxRecDepth 1000000 in
theorem ar4_3_3 : okv (mEv TmAr4o2 [] [(lowZ 0 8, 4), (lowZ 1 12, 5), (lowZ 2 12, 5)] 8 [.i .i64 (.var 0), .i .i64 (.var 1), .i .i64 (.var 2)] start) = some (.b true) := by kernel_rfl
set_option maxRecDepth 1000000 in
theorem ar4_3_4 : okv (mEv TmAr4o2 [] [(lowZ 0 8, 4), (lowZ 1 12, 5), (lowZ 2 12, 6)] 8 [.i .i64 (.var 0), .i .i64 (.var 1), .i .i64 (.var 2)] start) = some (.b true) := by kernel_rfl
set_option maxRecDepth 1000000 in
theorem ar4_4l : okv (mEv TmAr4o2 (lowP (arI 2)) [(lowZ 0 8, 4), (lowZ 1 12, 6)] 8 [.i .i64 (.var 0), .i .i64 (.var 1), .i .i64 (.var 2)] start) = some (.b true) := by kernel_rfl
set_option maxRecDepth 1000000 in
theorem ar4_4h : okv (mEv TmAr4o2 (highP (arI 2) 4 5) [(lowZ 0 8, 4), (lowZ 1 12, 6)] 8 [.i .i64 (.var 0), .i .i64 (.var 1), .i .i64 (.var 2)] start) = some (.b true) := by kernel_rfl
set_option maxRecDepth 1000000 in
theorem ar4_4_0 : okv (mEv TmAr4o2 [] [(lowZ 0 8, 4), (lowZ 1 12, 6), (lowZ 2 12, 2)] 8 [.i .i64 (.var 0), .i .i64 (.var 1), .i .i64 (.var 2)] start) = some (.b true) := by kernel_rfl
set_option maxRecDepth 1000000 in
theorem ar4_4_1 : okv (mEv TmAr4o2 [] [(lowZ 0 8, 4), (lowZ 1 12, 6), (lowZ 2 12, 3)] 8 [.i .i64 (.var 0), .i .i64 (.var 1), .i .i64 (.var 2)] start) = some (.b true) := by kernel_rfl
set_option maxRecDepth 1000000 in
theorem ar4_4_2 : okv (mEv TmAr4o2 [] [(lowZ 0 8, 4), (lowZ 1 12, 6), (lowZ 2 12, 4)] 8 [.i .i64 (.var 0), .i .i64 (.var 1), .i .i64 (.var 2)] start) = some (.b true) := by kernel_rfl
set_option maxRecDepth 1000000 in
theorem ar4_4_3 : okv (mEv TmAr4o2 [] [(lowZ 0 8, 4), (lowZ 1 12, 6), (lowZ 2 12, 5)] 8 [.i .i64 (.var 0), .i .i64 (.var 1), .i .i64 (.var 2)] start) = some (.b true) := by kernel_rfl
set_option maxRecDepth 1000000 in
theorem ar4_4_4 : okv (mEv TmAr4o2 [] [(lowZ 0 8, 4), (lowZ 1 12, 6), (lowZ 2 12, 6)] 8 [.i .i64 (.var 0), .i .i64 (.var 1), .i .i64 (.var 2)] start) = some (.b true) := by kernel_rfl
theorem ar4 (ν : Nat → Int) (w : World) (hA : Tp.Asc w) (h : zval ν (lowZ 0 8) = 4) : Calls Tryz.prog 8 #[.int .i64 (ν 0), .int .i64 (ν 1), .int .i64 (ν 2)] w (fun e w' => e = .returned (.bool true) ∧ Below w.heap.size w w') := by
  obtain ⟨h1, h2⟩ := low_in (ν := ν) 1 12 (by decide) (by decide)
  obtain ⟨h3, h4⟩ := low_in (ν := ν) 2 12 (by decide) (by decide)
  have e1 := arI_val (ν := ν) 1
  have e2 := arI_val (ν := ν) 2
  have ha : VRs ν (pl0 w [4]) [.i .i64 (.var 0), .i .i64 (.var 1), .i .i64 (.var 2)] [.int .i64 (ν 0), .int .i64 (ν 1), .int .i64 (ν 2)] := by simp [VRs, VR, zval]
  by_cases a : zval ν (lowZ 1 12) < 2
  · exact tm_true w hA TmAr4g2 (lowP_ok (by omega) (by omega)) (norm_cons h norm_nil) ar4_l ha
  by_cases b : 6 < zval ν (lowZ 1 12)
  · exact tm_true w hA TmAr4g2 (highP_ok (by decide) (by decide) (by omega) (by omega)) (norm_cons h norm_nil) ar4_h ha
  by_cases c : zval ν (lowZ 2 12) < 2
  · obtain g1 | g1 | g1 | g1 | g1 : zval ν (lowZ 1 12) = 2 ∨ zval ν (lowZ 1 12) = 3 ∨ zval ν (lowZ 1 12) = 4 ∨ zval ν (lowZ 1 12) = 5 ∨ zval ν (lowZ 1 12) = 6 := by omega
    · exact tm_true w hA TmAr4g2 (lowP_ok (by omega) (by omega)) (norm_cons h (norm_cons g1 norm_nil)) ar4_0l ha
    · exact tm_true w hA TmAr4g2 (lowP_ok (by omega) (by omega)) (norm_cons h (norm_cons g1 norm_nil)) ar4_1l ha
    · exact tm_true w hA TmAr4g2 (lowP_ok (by omega) (by omega)) (norm_cons h (norm_cons g1 norm_nil)) ar4_2l ha
    · exact tm_true w hA TmAr4g2 (lowP_ok (by omega) (by omega)) (norm_cons h (norm_cons g1 norm_nil)) ar4_3l ha
    · exact tm_true w hA TmAr4g2 (lowP_ok (by omega) (by omega)) (norm_cons h (norm_cons g1 norm_nil)) ar4_4l ha
  by_cases d : 6 < zval ν (lowZ 2 12)
  · obtain g1 | g1 | g1 | g1 | g1 : zval ν (lowZ 1 12) = 2 ∨ zval ν (lowZ 1 12) = 3 ∨ zval ν (lowZ 1 12) = 4 ∨ zval ν (lowZ 1 12) = 5 ∨ zval ν (lowZ 1 12) = 6 := by omega
    · exact tm_true w hA TmAr4g2 (highP_ok (by decide) (by decide) (by omega) (by omega)) (norm_cons h (norm_cons g1 norm_nil)) ar4_0h ha
    · exact tm_true w hA TmAr4g2 (highP_ok (by decide) (by decide) (by omega) (by omega)) (norm_cons h (norm_cons g1 norm_nil)) ar4_1h ha
    · exact tm_true w hA TmAr4g2 (highP_ok (by decide) (by decide) (by omega) (by omega)) (norm_cons h (norm_cons g1 norm_nil)) ar4_2h ha
    · exact tm_true w hA TmAr4g2 (highP_ok (by decide) (by decide) (by omega) (by omega)) (norm_cons h (norm_cons g1 norm_nil)) ar4_3h ha
    · exact tm_true w hA TmAr4g2 (highP_ok (by decide) (by decide) (by omega) (by omega)) (norm_cons h (norm_cons g1 norm_nil)) ar4_4h ha
  obtain g1 | g1 | g1 | g1 | g1 : zval ν (lowZ 1 12) = 2 ∨ zval ν (lowZ 1 12) = 3 ∨ zval ν (lowZ 1 12) = 4 ∨ zval ν (lowZ 1 12) = 5 ∨ zval ν (lowZ 1 12) = 6 := by omega
  · obtain g2 | g2 | g2 | g2 | g2 : zval ν (lowZ 2 12) = 2 ∨ zval ν (lowZ 2 12) = 3 ∨ zval ν (lowZ 2 12) = 4 ∨ zval ν (lowZ 2 12) = 5 ∨ zval ν (lowZ 2 12) = 6 := by omega
    · exact tm_true w hA TmAr4g2 path_nil (norm_cons h (norm_cons g1 (norm_cons g2 norm_nil))) ar4_0_0 ha
    · exact tm_true w hA TmAr4g2 path_nil (norm_cons h (norm_cons g1 (norm_cons g2 norm_nil))) ar4_0_1 ha
    · exact tm_true w hA TmAr4g2 path_nil (norm_cons h (norm_cons g1 (norm_cons g2 norm_nil))) ar4_0_2 ha
    · exact tm_true w hA TmAr4g2 path_nil (norm_cons h (norm_cons g1 (norm_cons g2 norm_nil))) ar4_0_3 ha
    · exact tm_true w hA TmAr4g2 path_nil (norm_cons h (norm_cons g1 (norm_cons g2 norm_nil))) ar4_0_4 ha
  · obtain g2 | g2 | g2 | g2 | g2 : zval ν (lowZ 2 12) = 2 ∨ zval ν (lowZ 2 12) = 3 ∨ zval ν (lowZ 2 12) = 4 ∨ zval ν (lowZ 2 12) = 5 ∨ zval ν (lowZ 2 12) = 6 := by omega
    · exact tm_true w hA TmAr4g2 path_nil (norm_cons h (norm_cons g1 (norm_cons g2 norm_nil))) ar4_1_0 ha
    · exact tm_true w hA TmAr4g2 path_nil (norm_cons h (norm_cons g1 (norm_cons g2 norm_nil))) ar4_1_1 ha
    · exact tm_true w hA TmAr4g2 path_nil (norm_cons h (norm_cons g1 (norm_cons g2 norm_nil))) ar4_1_2 ha
    · exact tm_true w hA TmAr4g2 path_nil (norm_cons h (norm_cons g1 (norm_cons g2 norm_nil))) ar4_1_3 ha
    · exact tm_true w hA TmAr4g2 path_nil (norm_cons h (norm_cons g1 (norm_cons g2 norm_nil))) ar4_1_4 ha
  · obtain g2 | g2 | g2 | g2 | g2 : zval ν (lowZ 2 12) = 2 ∨ zval ν (lowZ 2 12) = 3 ∨ zval ν (lowZ 2 12) = 4 ∨ zval ν (lowZ 2 12) = 5 ∨ zval ν (lowZ 2 12) = 6 := by omega
    · exact tm_true w hA TmAr4g2 path_nil (norm_cons h (norm_cons g1 (norm_cons g2 norm_nil))) ar4_2_0 ha
    · exact tm_true w hA TmAr4g2 path_nil (norm_cons h (norm_cons g1 (norm_cons g2 norm_nil))) ar4_2_1 ha
    · exact tm_true w hA TmAr4g2 path_nil (norm_cons h (norm_cons g1 (norm_cons g2 norm_nil))) ar4_2_2 ha
    · exact tm_true w hA TmAr4g2 path_nil (norm_cons h (norm_cons g1 (norm_cons g2 norm_nil))) ar4_2_3 ha
    · exact tm_true w hA TmAr4g2 path_nil (norm_cons h (norm_cons g1 (norm_cons g2 norm_nil))) ar4_2_4 ha
  · obtain g2 | g2 | g2 | g2 | g2 : zval ν (lowZ 2 12) = 2 ∨ zval ν (lowZ 2 12) = 3 ∨ zval ν (lowZ 2 12) = 4 ∨ zval ν (lowZ 2 12) = 5 ∨ zval ν (lowZ 2 12) = 6 := by omega
    · exact tm_true w hA TmAr4g2 path_nil (norm_cons h (norm_cons g1 (norm_cons g2 norm_nil))) ar4_3_0 ha
    · exact tm_true w hA TmAr4g2 path_nil (norm_cons h (norm_cons g1 (norm_cons g2 norm_nil))) ar4_3_1 ha
    · exact tm_true w hA TmAr4g2 path_nil (norm_cons h (norm_cons g1 (norm_cons g2 norm_nil))) ar4_3_2 ha
    · exact tm_true w hA TmAr4g2 path_nil (norm_cons h (norm_cons g1 (norm_cons g2 norm_nil))) ar4_3_3 ha
    · exact tm_true w hA TmAr4g2 path_nil (norm_cons h (norm_cons g1 (norm_cons g2 norm_nil))) ar4_3_4 ha
  · obtain g2 | g2 | g2 | g2 | g2 : zval ν (lowZ 2 12) = 2 ∨ zval ν (lowZ 2 12) = 3 ∨ zval ν (lowZ 2 12) = 4 ∨ zval ν (lowZ 2 12) = 5 ∨ zval ν (lowZ 2 12) = 6 := by omega
    · exact tm_true w hA TmAr4g2 path_nil (norm_cons h (norm_cons g1 (norm_cons g2 norm_nil))) ar4_4_0 ha
    · exact tm_true w hA TmAr4g2 path_nil (norm_cons h (norm_cons g1 (norm_cons g2 norm_nil))) ar4_4_1 ha
    · exact tm_true w hA TmAr4g2 path_nil (norm_cons h (norm_cons g1 (norm_cons g2 norm_nil))) ar4_4_2 ha
    · exact tm_true w hA TmAr4g2 path_nil (norm_cons h (norm_cons g1 (norm_cons g2 norm_nil))) ar4_4_3 ha
    · exact tm_true w hA TmAr4g2 path_nil (norm_cons h (norm_cons g1 (norm_cons g2 norm_nil))) ar4_4_4 ha
end Go.Proofs.YtmdhaelmblmldaaGreatDoor
