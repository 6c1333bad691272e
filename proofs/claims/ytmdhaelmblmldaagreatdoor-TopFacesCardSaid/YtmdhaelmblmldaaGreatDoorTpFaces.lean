/- TopFaces: each way. -/
import Derived.Test.YtmdhaelmblmldaaGreatDoorTpDiP
import Derived.Test.YtmdhaelmblmldaaGreatDoorTmFa0
import Derived.Test.YtmdhaelmblmldaaGreatDoorTmFa1
import Derived.Test.YtmdhaelmblmldaaGreatDoorTmFa2
import Derived.Test.YtmdhaelmblmldaaGreatDoorTmFa3
import Derived.Test.YtmdhaelmblmldaaGreatDoorTmFa4
namespace Go.Proofs.YtmdhaelmblmldaaGreatDoor
set_option linter.unusedSimpArgs false
set_option linter.unusedVariables false
set_option linter.constructorNameAsVariable false
open Go Go.RowKit
open Ev
set_option maxRecDepth 1000000 in
theorem fa0_ev : okv (mEv TmFa0o7 [((.eql, dY 0 (lowZ 1 1000), dW 0 (lowZ 1 1000)), true)] [(lowZ 0 5, 0)] 6 [.i .i64 (.var 0), .i .i64 (.var 1)] start) = some (.b true) := by kernel_rfl
set_option maxRecDepth 1000000 in
theorem fa1_ev : okv (mEv TmFa1o7 [((.eql, dY 1 (lowZ 1 1000), dW 1 (lowZ 1 1000)), true)] [(lowZ 0 5, 1)] 6 [.i .i64 (.var 0), .i .i64 (.var 1)] start) = some (.b true) := by kernel_rfl
set_option maxRecDepth 1000000 in
theorem fa2_ev : okv (mEv TmFa2o7 [((.eql, dY 2 (lowZ 1 1000), dW 2 (lowZ 1 1000)), true)] [(lowZ 0 5, 2)] 6 [.i .i64 (.var 0), .i .i64 (.var 1)] start) = some (.b true) := by kernel_rfl
set_option maxRecDepth 1000000 in
theorem fa3_ev : okv (mEv TmFa3o7 [((.eql, dY 3 (lowZ 1 1000), dW 3 (lowZ 1 1000)), true)] [(lowZ 0 5, 3)] 6 [.i .i64 (.var 0), .i .i64 (.var 1)] start) = some (.b true) := by kernel_rfl
set_option maxRecDepth 1000000 in
theorem fa4_ev : okv (mEv TmFa4o7 [] [(lowZ 0 5, 4)] 6 [.i .i64 (.var 0), .i .i64 (.var 1)] start) = some (.b true) := by kernel_rfl
theorem topFaces_any (x i : Int) (w : World) (hA : Tp.Asc w) : Calls Tryz.prog 6 #[.int .i64 x, .int .i64 i] w (fun e w' => e = .returned (.bool true) ∧ Below w.heap.size w w') := by
  let ν : Nat → Int := fun n => match n with | 0 => x | _ => i
  obtain ⟨h1, h2⟩ := low_in (ν := ν) 0 5 (by decide) (by decide)
  obtain ⟨h3, h4⟩ := low_in (ν := ν) 1 1000 (by decide) (by decide)
  have ha : VRs ν (pl0 w [4]) [.i .i64 (.var 0), .i .i64 (.var 1)] [.int .i64 x, .int .i64 i] := by simp [VRs, VR, zval, ν]
  obtain h | h | h | h | h : zval ν (lowZ 0 5) = 0 ∨ zval ν (lowZ 0 5) = 1 ∨ zval ν (lowZ 0 5) = 2 ∨ zval ν (lowZ 0 5) = 3 ∨ zval ν (lowZ 0 5) = 4 := by omega
  · exact tm_true w hA TmFa0g7 (path_cons (dEq 0 _ h3 h4) path_nil) (norm_cons h norm_nil) fa0_ev ha
  · exact tm_true w hA TmFa1g7 (path_cons (dEq 1 _ h3 h4) path_nil) (norm_cons h norm_nil) fa1_ev ha
  · exact tm_true w hA TmFa2g7 (path_cons (dEq 2 _ h3 h4) path_nil) (norm_cons h norm_nil) fa2_ev ha
  · exact tm_true w hA TmFa3g7 (path_cons (dEq 3 _ h3 h4) path_nil) (norm_cons h norm_nil) fa3_ev ha
  · exact tm_true w hA TmFa4g7 path_nil (norm_cons h norm_nil) fa4_ev ha
end Go.Proofs.YtmdhaelmblmldaaGreatDoor
