/- TopTokens: it answers true, whatever comes in. -/
import Derived.Test.YtmdhaelmblmldaaGreatDoorTpTk0
import Derived.Test.YtmdhaelmblmldaaGreatDoorTpTk1
import Derived.Test.YtmdhaelmblmldaaGreatDoorTpTk2
import Derived.Test.YtmdhaelmblmldaaGreatDoorTpTk3
import Derived.Test.YtmdhaelmblmldaaGreatDoorTpTk4
import Derived.Test.YtmdhaelmblmldaaGreatDoorTpTk5
namespace Go.Proofs.YtmdhaelmblmldaaGreatDoor
set_option linter.unusedSimpArgs false
set_option linter.unusedVariables false
set_option linter.constructorNameAsVariable false
open Go Go.RowKit
open Ev
theorem topTokens_any (x b : Int) (w : World) (hA : Tp.Asc w) (hD : Door w) : Calls Tryz.prog 13 #[.int .i64 x, .int .i64 b] w (fun e w' => e = .returned (.bool true) ∧ Below w.heap.size w w') := by
  have H : ∀ ν : Nat → Int, Calls Tryz.prog 13 #[.int .i64 (ν 0), .int .i64 (ν 1)] w (fun e w' => e = .returned (.bool true) ∧ Below w.heap.size w w') := by
    intro ν
    obtain ⟨h1, h2⟩ := low_in (ν := ν) 0 6 (by decide) (by decide)
    obtain h | h | h | h | h | h : zval ν (lowZ 0 6) = 0 ∨ zval ν (lowZ 0 6) = 1 ∨ zval ν (lowZ 0 6) = 2 ∨ zval ν (lowZ 0 6) = 3 ∨ zval ν (lowZ 0 6) = 4 ∨ zval ν (lowZ 0 6) = 5 := by omega
    · exact tk0 ν w hA hD h
    · exact tk1 ν w hA hD h
    · exact tk2 ν w hA hD h
    · exact tk3 ν w hA hD h
    · exact tk4 ν w hA hD h
    · exact tk5 ν w hA hD h
  exact H (fun n => match n with | 0 => x | _ => b)
end Go.Proofs.YtmdhaelmblmldaaGreatDoor
