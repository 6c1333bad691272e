/- TopArrays: it answers true, whatever comes in. -/
import Derived.Test.YtmdhaelmblmldaaGreatDoorTpAr0
import Derived.Test.YtmdhaelmblmldaaGreatDoorTpAr1
import Derived.Test.YtmdhaelmblmldaaGreatDoorTpAr2
import Derived.Test.YtmdhaelmblmldaaGreatDoorTpAr3
import Derived.Test.YtmdhaelmblmldaaGreatDoorTpAr4
import Derived.Test.YtmdhaelmblmldaaGreatDoorTpAr5
import Derived.Test.YtmdhaelmblmldaaGreatDoorTpAr6
import Derived.Test.YtmdhaelmblmldaaGreatDoorTpAr7
namespace Go.Proofs.YtmdhaelmblmldaaGreatDoor
set_option linter.unusedSimpArgs false
set_option linter.unusedVariables false
set_option linter.constructorNameAsVariable false
open Go Go.RowKit
open Ev
theorem topArrays_any (hi i j : Int) (w : World) (hA : Tp.Asc w) : Calls Tryz.prog 8 #[.int .i64 hi, .int .i64 i, .int .i64 j] w (fun e w' => e = .returned (.bool true) ∧ Below w.heap.size w w') := by
  have H : ∀ ν : Nat → Int, Calls Tryz.prog 8 #[.int .i64 (ν 0), .int .i64 (ν 1), .int .i64 (ν 2)] w (fun e w' => e = .returned (.bool true) ∧ Below w.heap.size w w') := by
    intro ν
    obtain ⟨h1, h2⟩ := low_in (ν := ν) 0 8 (by decide) (by decide)
    obtain h | h | h | h | h | h | h | h : zval ν (lowZ 0 8) = 0 ∨ zval ν (lowZ 0 8) = 1 ∨ zval ν (lowZ 0 8) = 2 ∨ zval ν (lowZ 0 8) = 3 ∨ zval ν (lowZ 0 8) = 4 ∨ zval ν (lowZ 0 8) = 5 ∨ zval ν (lowZ 0 8) = 6 ∨ zval ν (lowZ 0 8) = 7 := by omega
    · exact ar0 ν w hA h
    · exact ar1 ν w hA h
    · exact ar2 ν w hA h
    · exact ar3 ν w hA h
    · exact ar4 ν w hA h
    · exact ar5 ν w hA h
    · exact ar6 ν w hA h
    · exact ar7 ν w hA h
  exact H (fun n => match n with | 0 => hi | 1 => i | _ => j)
end Go.Proofs.YtmdhaelmblmldaaGreatDoor
