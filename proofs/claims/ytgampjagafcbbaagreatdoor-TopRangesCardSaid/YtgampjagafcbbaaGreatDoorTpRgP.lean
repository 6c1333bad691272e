/- TopRanges: what is known of its numbers. -/
import Derived.Test.YtgampjagafcbbaaGreatDoorTpMp
namespace Go.Proofs.YtgampjagafcbbaaGreatDoor
set_option linter.unusedSimpArgs false
set_option linter.unusedVariables false
set_option linter.constructorNameAsVariable false
open Go Go.RowKit
open Ev
/-- The numbers, named. -/
structure RgF (ν : Nat → Int) : Prop where
  h20 : ν 20 = zval ν (lowZ 0 100)
  h21 : ν 21 = ν 20 + zval ν (lowZ 1 100)
  h22 : ν 22 = zval ν (lowZ 2 400) - 100
end Go.Proofs.YtgampjagafcbbaaGreatDoor
