/- TopRefused: it answers true, whatever comes in. -/
import Derived.Test.YtmdhaelmblmldaaGreatDoorTpRf0
import Derived.Test.YtmdhaelmblmldaaGreatDoorTpRf1
import Derived.Test.YtmdhaelmblmldaaGreatDoorTpRf2
import Derived.Test.YtmdhaelmblmldaaGreatDoorTpRf3
import Derived.Test.YtmdhaelmblmldaaGreatDoorTpRf4
import Derived.Test.YtmdhaelmblmldaaGreatDoorTpRf5
import Derived.Test.YtmdhaelmblmldaaGreatDoorTpRf6
import Derived.Test.YtmdhaelmblmldaaGreatDoorTpRf7
import Derived.Test.YtmdhaelmblmldaaGreatDoorTpRf8
import Derived.Test.YtmdhaelmblmldaaGreatDoorTpRf9
import Derived.Test.YtmdhaelmblmldaaGreatDoorTpRf10
import Derived.Test.YtmdhaelmblmldaaGreatDoorTpRf11
import Derived.Test.YtmdhaelmblmldaaGreatDoorTpRf12
import Derived.Test.YtmdhaelmblmldaaGreatDoorTpRf13
import Derived.Test.YtmdhaelmblmldaaGreatDoorTpRf14
import Derived.Test.YtmdhaelmblmldaaGreatDoorTpRf15
import Derived.Test.YtmdhaelmblmldaaGreatDoorTpRf16
import Derived.Test.YtmdhaelmblmldaaGreatDoorTpRf17
import Derived.Test.YtmdhaelmblmldaaGreatDoorTpRf18
import Derived.Test.YtmdhaelmblmldaaGreatDoorTpRf19
namespace Go.Proofs.YtmdhaelmblmldaaGreatDoor
set_option linter.unusedSimpArgs false
set_option linter.unusedVariables false
set_option linter.constructorNameAsVariable false
open Go Go.RowKit
open Ev
theorem topRefused_any (x b : Int) (w : World) (hA : Tp.Asc w) : Calls Tryz.prog 12 #[.int .i64 x, .int .i64 b] w (fun e w' => e = .returned (.bool true) ∧ Below w.heap.size w w') := by
  have H : ∀ ν : Nat → Int, Calls Tryz.prog 12 #[.int .i64 (ν 0), .int .i64 (ν 1)] w (fun e w' => e = .returned (.bool true) ∧ Below w.heap.size w w') := by
    intro ν
    obtain ⟨h1, h2⟩ := low_in (ν := ν) 0 20 (by decide) (by decide)
    obtain h | h | h | h | h | h | h | h | h | h | h | h | h | h | h | h | h | h | h | h : zval ν (lowZ 0 20) = 0 ∨ zval ν (lowZ 0 20) = 1 ∨ zval ν (lowZ 0 20) = 2 ∨ zval ν (lowZ 0 20) = 3 ∨ zval ν (lowZ 0 20) = 4 ∨ zval ν (lowZ 0 20) = 5 ∨ zval ν (lowZ 0 20) = 6 ∨ zval ν (lowZ 0 20) = 7 ∨ zval ν (lowZ 0 20) = 8 ∨ zval ν (lowZ 0 20) = 9 ∨ zval ν (lowZ 0 20) = 10 ∨ zval ν (lowZ 0 20) = 11 ∨ zval ν (lowZ 0 20) = 12 ∨ zval ν (lowZ 0 20) = 13 ∨ zval ν (lowZ 0 20) = 14 ∨ zval ν (lowZ 0 20) = 15 ∨ zval ν (lowZ 0 20) = 16 ∨ zval ν (lowZ 0 20) = 17 ∨ zval ν (lowZ 0 20) = 18 ∨ zval ν (lowZ 0 20) = 19 := by omega
    · exact rf0 ν w hA h
    · exact rf1 ν w hA h
    · exact rf2 ν w hA h
    · exact rf3 ν w hA h
    · exact rf4 ν w hA h
    · exact rf5 ν w hA h
    · exact rf6 ν w hA h
    · exact rf7 ν w hA h
    · exact rf8 ν w hA h
    · exact rf9 ν w hA h
    · exact rf10 ν w hA h
    · exact rf11 ν w hA h
    · exact rf12 ν w hA h
    · exact rf13 ν w hA h
    · exact rf14 ν w hA h
    · exact rf15 ν w hA h
    · exact rf16 ν w hA h
    · exact rf17 ν w hA h
    · exact rf18 ν w hA h
    · exact rf19 ν w hA h
  exact H (fun n => match n with | 0 => x | _ => b)
end Go.Proofs.YtmdhaelmblmldaaGreatDoor
