/- TopInits: it answers true, whatever comes in. -/
import Derived.Test.YtgampjagafcbbaaGreatDoorTpIn10
import Derived.Test.YtgampjagafcbbaaGreatDoorTpIn11
import Derived.Test.YtgampjagafcbbaaGreatDoorTpIn12
import Derived.Test.YtgampjagafcbbaaGreatDoorTpIn13
import Derived.Test.YtgampjagafcbbaaGreatDoorTpIn14
import Derived.Test.YtgampjagafcbbaaGreatDoorTpIn15
import Derived.Test.YtgampjagafcbbaaGreatDoorTpIn20
import Derived.Test.YtgampjagafcbbaaGreatDoorTpIn21
import Derived.Test.YtgampjagafcbbaaGreatDoorTpIn22
import Derived.Test.YtgampjagafcbbaaGreatDoorTpIn23
import Derived.Test.YtgampjagafcbbaaGreatDoorTpIn24
import Derived.Test.YtgampjagafcbbaaGreatDoorTpIn25
import Derived.Test.YtgampjagafcbbaaGreatDoorTpIn30
import Derived.Test.YtgampjagafcbbaaGreatDoorTpIn31
import Derived.Test.YtgampjagafcbbaaGreatDoorTpIn32
import Derived.Test.YtgampjagafcbbaaGreatDoorTpIn33
import Derived.Test.YtgampjagafcbbaaGreatDoorTpIn34
import Derived.Test.YtgampjagafcbbaaGreatDoorTpIn35
import Derived.Test.YtgampjagafcbbaaGreatDoorTpIn40
import Derived.Test.YtgampjagafcbbaaGreatDoorTpIn41
import Derived.Test.YtgampjagafcbbaaGreatDoorTpIn42
import Derived.Test.YtgampjagafcbbaaGreatDoorTpIn43
import Derived.Test.YtgampjagafcbbaaGreatDoorTpIn44
import Derived.Test.YtgampjagafcbbaaGreatDoorTpIn45
import Derived.Test.YtgampjagafcbbaaGreatDoorTpIn50
import Derived.Test.YtgampjagafcbbaaGreatDoorTpIn51
import Derived.Test.YtgampjagafcbbaaGreatDoorTpIn52
import Derived.Test.YtgampjagafcbbaaGreatDoorTpIn53
import Derived.Test.YtgampjagafcbbaaGreatDoorTpIn54
import Derived.Test.YtgampjagafcbbaaGreatDoorTpIn55
namespace Go.Proofs.YtgampjagafcbbaaGreatDoor
set_option linter.unusedSimpArgs false
set_option linter.unusedVariables false
set_option linter.constructorNameAsVariable false
open Go Go.RowKit
open Ev
theorem topInits_any (a b : Int) (yes : Bool) (w : World) (hA : Tp.Asc w) : Calls Tryz.prog 9 #[.int .i64 a, .int .i64 b, .bool yes] w (fun e w' => e = .returned (.bool true) ∧ Below w.heap.size w w') := by
  have H : ∀ ν : Nat → Int, Calls Tryz.prog 9 #[.int .i64 (ν 0), .int .i64 (ν 1), .bool yes] w (fun e w' => e = .returned (.bool true) ∧ Below w.heap.size w w') := by
    intro ν
    obtain ⟨b0, c0⟩ := low_in (ν := ν) 0 30000 (by decide) (by decide)
    obtain ⟨b1, c1⟩ := low_in (ν := ν) 1 30000 (by decide) (by decide)
    have hb : zval ν (lowZ 1 30000) = 0 ∨ (0 < zval ν (lowZ 1 30000) ∧ zval ν (lowZ 1 30000) < 10) ∨ (10 ≤ zval ν (lowZ 1 30000) ∧ zval ν (lowZ 1 30000) < 100) ∨ (100 ≤ zval ν (lowZ 1 30000) ∧ zval ν (lowZ 1 30000) < 1000) ∨ (1000 ≤ zval ν (lowZ 1 30000) ∧ zval ν (lowZ 1 30000) < 10000) ∨ (10000 ≤ zval ν (lowZ 1 30000) ∧ zval ν (lowZ 1 30000) < 100000) := by omega
    obtain g | g | g | g | g : (0 ≤ zval ν (lowZ 0 30000) ∧ zval ν (lowZ 0 30000) < 10) ∨ (10 ≤ zval ν (lowZ 0 30000) ∧ zval ν (lowZ 0 30000) < 100) ∨ (100 ≤ zval ν (lowZ 0 30000) ∧ zval ν (lowZ 0 30000) < 1000) ∨ (1000 ≤ zval ν (lowZ 0 30000) ∧ zval ν (lowZ 0 30000) < 10000) ∨ (10000 ≤ zval ν (lowZ 0 30000) ∧ zval ν (lowZ 0 30000) < 100000) := by omega
    · obtain k | k | k | k | k | k := hb
      · exact in10 ν yes w hA g k
      · exact in11 ν yes w hA g k
      · exact in12 ν yes w hA g k
      · exact in13 ν yes w hA g k
      · exact in14 ν yes w hA g k
      · exact in15 ν yes w hA g k
    · obtain k | k | k | k | k | k := hb
      · exact in20 ν yes w hA g k
      · exact in21 ν yes w hA g k
      · exact in22 ν yes w hA g k
      · exact in23 ν yes w hA g k
      · exact in24 ν yes w hA g k
      · exact in25 ν yes w hA g k
    · obtain k | k | k | k | k | k := hb
      · exact in30 ν yes w hA g k
      · exact in31 ν yes w hA g k
      · exact in32 ν yes w hA g k
      · exact in33 ν yes w hA g k
      · exact in34 ν yes w hA g k
      · exact in35 ν yes w hA g k
    · obtain k | k | k | k | k | k := hb
      · exact in40 ν yes w hA g k
      · exact in41 ν yes w hA g k
      · exact in42 ν yes w hA g k
      · exact in43 ν yes w hA g k
      · exact in44 ν yes w hA g k
      · exact in45 ν yes w hA g k
    · obtain k | k | k | k | k | k := hb
      · exact in50 ν yes w hA g k
      · exact in51 ν yes w hA g k
      · exact in52 ν yes w hA g k
      · exact in53 ν yes w hA g k
      · exact in54 ν yes w hA g k
      · exact in55 ν yes w hA g k
  exact H (fun n => match n with | 0 => a | _ => b)
end Go.Proofs.YtgampjagafcbbaaGreatDoor
