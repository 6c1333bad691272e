/- TopRanges: it answers true, whatever comes in. -/
import Derived.Test.YtgampjagafcbbaaGreatDoorTpRg11
import Derived.Test.YtgampjagafcbbaaGreatDoorTpRg12
import Derived.Test.YtgampjagafcbbaaGreatDoorTpRg13
import Derived.Test.YtgampjagafcbbaaGreatDoorTpRg22
import Derived.Test.YtgampjagafcbbaaGreatDoorTpRg23
namespace Go.Proofs.YtgampjagafcbbaaGreatDoor
set_option linter.unusedSimpArgs false
set_option linter.unusedVariables false
set_option linter.constructorNameAsVariable false
open Go Go.RowKit
open Ev
theorem topRanges_any (a b c : Int) (w : World) (hA : Tp.Asc w) : Calls Tryz.prog 5 #[.int .i64 a, .int .i64 b, .int .i64 c] w (fun e w' => e = .returned (.bool true) ∧ Below w.heap.size w w') := by
  have H : ∀ ν : Nat → Int, Calls Tryz.prog 5 #[.int .i64 (ν 0), .int .i64 (ν 1), .int .i64 (ν 2)] w (fun e w' => e = .returned (.bool true) ∧ Below w.heap.size w w') := by
    intro ν
    obtain ⟨b0, c0⟩ := low_in (ν := ν) 0 100 (by decide) (by decide)
    obtain ⟨b1, c1⟩ := low_in (ν := ν) 1 100 (by decide) (by decide)
    rcases Int.lt_or_le (zval ν (lowZ 0 100)) 10 with g0 | g0
    · rcases Int.lt_or_le (zval ν (lowZ 0 100) + zval ν (lowZ 1 100)) 10 with g1 | g1
      · exact rg11 ν w hA ⟨b0, g0⟩ ⟨by omega, g1⟩
      · rcases Int.lt_or_le (zval ν (lowZ 0 100) + zval ν (lowZ 1 100)) 100 with g2 | g2
        · exact rg12 ν w hA ⟨b0, g0⟩ ⟨g1, g2⟩
        · exact rg13 ν w hA ⟨b0, g0⟩ ⟨g2, by omega⟩
    · rcases Int.lt_or_le (zval ν (lowZ 0 100) + zval ν (lowZ 1 100)) 100 with g2 | g2
      · exact rg22 ν w hA ⟨g0, c0⟩ ⟨by omega, g2⟩
      · exact rg23 ν w hA ⟨g0, c0⟩ ⟨g2, by omega⟩
  exact H (fun n => match n with | 0 => a | 1 => b | _ => c)
end Go.Proofs.YtgampjagafcbbaaGreatDoor
