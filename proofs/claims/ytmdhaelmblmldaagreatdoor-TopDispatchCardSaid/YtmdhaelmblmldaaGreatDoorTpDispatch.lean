/- TopDispatch: each way. -/
import Derived.Test.YtmdhaelmblmldaaGreatDoorTpDiP
import Derived.Test.YtmdhaelmblmldaaGreatDoorTmDi0
import Derived.Test.YtmdhaelmblmldaaGreatDoorTmDi1
import Derived.Test.YtmdhaelmblmldaaGreatDoorTmDi2
import Derived.Test.YtmdhaelmblmldaaGreatDoorTmDi3
import Derived.Test.YtmdhaelmblmldaaGreatDoorTmDi4
import Derived.Test.YtmdhaelmblmldaaGreatDoorTmDi5
namespace Go.Proofs.YtmdhaelmblmldaaGreatDoor
set_option linter.unusedSimpArgs false
set_option linter.unusedVariables false
set_option linter.constructorNameAsVariable false
open Go Go.RowKit
open Ev
set_option maxRecDepth 1000000 in
theorem di0_ev : okv (mEv TmDi0o7 [((.eql, dY 0 (lowZ 2 1000), dW 0 (lowZ 2 1000)), true)] [(lowZ 0 3, 0)] 5 [.i .i64 (.var 0), .b false, .i .i64 (.var 2)] start) = some (.b true) := by kernel_rfl
set_option maxRecDepth 1000000 in
theorem di1_ev : okv (mEv TmDi1o7 [] [(lowZ 0 3, 0)] 5 [.i .i64 (.var 0), .b true, .i .i64 (.var 2)] start) = some (.b true) := by kernel_rfl
set_option maxRecDepth 1000000 in
theorem di2_ev : okv (mEv TmDi2o7 [((.eql, dY 1 (lowZ 2 1000), dW 1 (lowZ 2 1000)), true)] [(lowZ 0 3, 1)] 5 [.i .i64 (.var 0), .b false, .i .i64 (.var 2)] start) = some (.b true) := by kernel_rfl
set_option maxRecDepth 1000000 in
theorem di3_ev : okv (mEv TmDi3o7 [] [(lowZ 0 3, 1)] 5 [.i .i64 (.var 0), .b true, .i .i64 (.var 2)] start) = some (.b true) := by kernel_rfl
set_option maxRecDepth 1000000 in
theorem di4_ev : okv (mEv TmDi4o7 [((.eql, dY 2 (lowZ 2 1000), dW 2 (lowZ 2 1000)), true)] [(lowZ 0 3, 2)] 5 [.i .i64 (.var 0), .b false, .i .i64 (.var 2)] start) = some (.b true) := by kernel_rfl
set_option maxRecDepth 1000000 in
theorem di5_ev : okv (mEv TmDi5o7 [] [(lowZ 0 3, 2)] 5 [.i .i64 (.var 0), .b true, .i .i64 (.var 2)] start) = some (.b true) := by kernel_rfl
theorem topDispatch_any (x : Int) (b : Bool) (i : Int) (w : World) (hA : Tp.Asc w) : Calls Tryz.prog 5 #[.int .i64 x, .bool b, .int .i64 i] w (fun e w' => e = .returned (.bool true) ∧ Below w.heap.size w w') := by
  let ν : Nat → Int := fun n => match n with | 0 => x | _ => i
  obtain ⟨h1, h2⟩ := low_in (ν := ν) 0 3 (by decide) (by decide)
  obtain ⟨h3, h4⟩ := low_in (ν := ν) 2 1000 (by decide) (by decide)
  have ha : VRs ν (pl0 w [4]) [.i .i64 (.var 0), .b b, .i .i64 (.var 2)] [.int .i64 x, .bool b, .int .i64 i] := by simp [VRs, VR, zval, ν]
  obtain h | h | h : zval ν (lowZ 0 3) = 0 ∨ zval ν (lowZ 0 3) = 1 ∨ zval ν (lowZ 0 3) = 2 := by omega
  · cases b with
    | false => exact tm_true w hA TmDi0g7 (path_cons (dEq 0 _ h3 h4) path_nil) (norm_cons h norm_nil) di0_ev ha
    | true => exact tm_true w hA TmDi1g7 path_nil (norm_cons h norm_nil) di1_ev ha
  · cases b with
    | false => exact tm_true w hA TmDi2g7 (path_cons (dEq 1 _ h3 h4) path_nil) (norm_cons h norm_nil) di2_ev ha
    | true => exact tm_true w hA TmDi3g7 path_nil (norm_cons h norm_nil) di3_ev ha
  · cases b with
    | false => exact tm_true w hA TmDi4g7 (path_cons (dEq 2 _ h3 h4) path_nil) (norm_cons h norm_nil) di4_ev ha
    | true => exact tm_true w hA TmDi5g7 path_nil (norm_cons h norm_nil) di5_ev ha
end Go.Proofs.YtmdhaelmblmldaaGreatDoor
