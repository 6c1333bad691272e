/- TopTimers: what is known of its numbers. -/
import Derived.Test.YtgampjagafcbbaaGreatDoorNMp
namespace Go.Proofs.YtgampjagafcbbaaGreatDoor
set_option linter.unusedSimpArgs false
set_option linter.unusedVariables false
set_option linter.constructorNameAsVariable false
open Go Go.RowKit
open Ev
/-- The numbers, named. -/
structure TiD (ν : Nat → Int) : Prop where
  h20 : ν 20 = 1 + zval ν (lowZ 0 5)
  h21 : ν 21 = 1 + zval ν (lowZ 1 60)
  b62 : 0 ≤ ν 62
  c62 : ν 62 ≤ 40
end Go.Proofs.YtgampjagafcbbaaGreatDoor
