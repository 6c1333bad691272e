/- TopSums: each way. -/
import Derived.Test.YtmdhaelmblmldaaGreatDoorTpSuP
import Derived.Test.YtmdhaelmblmldaaGreatDoorTmSu0
import Derived.Test.YtmdhaelmblmldaaGreatDoorTmSu1
import Derived.Test.YtmdhaelmblmldaaGreatDoorTmSu2
import Derived.Test.YtmdhaelmblmldaaGreatDoorTmSu3
import Derived.Test.YtmdhaelmblmldaaGreatDoorTmSu4
namespace Go.Proofs.YtmdhaelmblmldaaGreatDoor
set_option linter.unusedSimpArgs false
set_option linter.unusedVariables false
set_option linter.constructorNameAsVariable false
open Go Go.RowKit
open Ev
set_option maxRecDepth 1000000 in
theorem su0 : okv (mEv TmSu0o2 [((.eql, sumY 0, sumN 0), true)] [(lowZ 0 5, 0)] 3 [.i .i64 (.var 0), .i .i64 (.var 1), .i .i64 (.var 2)] start) = some (.b true) := by kernel_rfl
set_option maxRecDepth 1000000 in
theorem su1 : okv (mEv TmSu1o2 [((.eql, sumY 1, sumN 1), true)] [(lowZ 0 5, 1)] 3 [.i .i64 (.var 0), .i .i64 (.var 1), .i .i64 (.var 2)] start) = some (.b true) := by kernel_rfl
set_option maxRecDepth 1000000 in
theorem su2 : okv (mEv TmSu2o2 [((.eql, sumY 2, sumN 2), true)] [(lowZ 0 5, 2)] 3 [.i .i64 (.var 0), .i .i64 (.var 1), .i .i64 (.var 2)] start) = some (.b true) := by kernel_rfl
set_option maxRecDepth 1000000 in
theorem su3z : okv (mEv TmSu3o2 (zeroP true) [(lowZ 0 5, 3)] 3 [.i .i64 (.var 0), .i .i64 (.var 1), .i .i64 (.var 2)] start) = some (.b true) := by kernel_rfl
set_option maxRecDepth 1000000 in
theorem su3n : okv (mEv TmSu3o2 (restP 3) [(lowZ 0 5, 3)] 3 [.i .i64 (.var 0), .i .i64 (.var 1), .i .i64 (.var 2)] start) = some (.b true) := by kernel_rfl
set_option maxRecDepth 1000000 in
theorem su4z : okv (mEv TmSu4o2 (zeroP true) [(lowZ 0 5, 4)] 3 [.i .i64 (.var 0), .i .i64 (.var 1), .i .i64 (.var 2)] start) = some (.b true) := by kernel_rfl
set_option maxRecDepth 1000000 in
theorem su4n : okv (mEv TmSu4o2 (restP 4) [(lowZ 0 5, 4)] 3 [.i .i64 (.var 0), .i .i64 (.var 1), .i .i64 (.var 2)] start) = some (.b true) := by kernel_rfl
theorem topSums_any (op i j : Int) (w : World) (hA : Tp.Asc w) : Calls Tryz.prog 3 #[.int .i64 op, .int .i64 i, .int .i64 j] w (fun e w' => e = .returned (.bool true) ∧ Below w.heap.size w w') := by
  let ν : Nat → Int := fun n => match n with | 0 => op | 1 => i | _ => j
  obtain ⟨h1, h2⟩ := low_in (ν := ν) 0 5 (by decide) (by decide)
  have ha : VRs ν (pl0 w [4]) [.i .i64 (.var 0), .i .i64 (.var 1), .i .i64 (.var 2)] [.int .i64 op, .int .i64 i, .int .i64 j] := by simp [VRs, VR, zval, ν]
  obtain h | h | h | h | h : zval ν (lowZ 0 5) = 0 ∨ zval ν (lowZ 0 5) = 1 ∨ zval ν (lowZ 0 5) = 2 ∨ zval ν (lowZ 0 5) = 3 ∨ zval ν (lowZ 0 5) = 4 := by omega
  · exact tm_true w hA TmSu0g2 (path_cons (sumEq 0) path_nil) (norm_cons h norm_nil) su0 ha
  · exact tm_true w hA TmSu1g2 (path_cons (sumEq 1) path_nil) (norm_cons h norm_nil) su1 ha
  · exact tm_true w hA TmSu2g2 (path_cons (sumEq 2) path_nil) (norm_cons h norm_nil) su2 ha
  · cases hz : eqI (zval ν (fitZ (.var 2))) 0 with
    | true => exact tm_true w hA TmSu3g2 (zeroP_ok hz) (norm_cons h norm_nil) su3z ha
    | false => exact tm_true w hA TmSu3g2 (restP_ok 3 hz) (norm_cons h norm_nil) su3n ha
  · cases hz : eqI (zval ν (fitZ (.var 2))) 0 with
    | true => exact tm_true w hA TmSu4g2 (zeroP_ok hz) (norm_cons h norm_nil) su4z ha
    | false => exact tm_true w hA TmSu4g2 (restP_ok 4 hz) (norm_cons h norm_nil) su4n ha
end Go.Proofs.YtmdhaelmblmldaaGreatDoor
