/- RulesInits answers true, whatever the numbers. -/
import Derived.Test.YthfknhkjodgfmaaRuI0
import Derived.Test.YthfknhkjodgfmaaRuI1
import Derived.Test.YthfknhkjodgfmaaRuI2
import Derived.Test.YthfknhkjodgfmaaRuI3
import Derived.Test.YthfknhkjodgfmaaRuI4
namespace Go.Proofs.Ythfknhkjodgfmaa
set_option linter.unusedSimpArgs false
set_option linter.unusedVariables false
open Go Go.RowKit
open Ev
theorem rulesInits_nu {ν : Nat → Int} (w : World) : Calls Try.prog 4 #[.int .i64 (ν 0), .int .i64 (ν 1), .int .i64 (ν 2), .int .i64 (ν 3), .int .i64 (ν 4), .int .i64 (ν 5)] w (fun e w' => e = .returned (.bool true) ∧ Below w.heap.size w w') := by
  have h0 := low_in (ν := ν) 0 5 (by omega) (by omega)
  have h4 := low_in (ν := ν) 4 3 (by omega) (by omega)
  have hk : zval ν (lowZ 0 5) = 0 ∨ zval ν (lowZ 0 5) = 1 ∨ zval ν (lowZ 0 5) = 2 ∨ zval ν (lowZ 0 5) = 3 ∨ zval ν (lowZ 0 5) = 4 := by omega
  have hd : zval ν (lowZ 4 3) = 0 ∨ zval ν (lowZ 4 3) = 1 ∨ zval ν (lowZ 4 3) = 2 := by omega
  rcases hk with hk | hk | hk | hk | hk <;> rcases hd with hd | hd | hd
  · exact riK0_0 w hk hd
  · exact riK0_1 w hk hd
  · exact riK0_2 w hk hd
  · exact riK1_0 w hk hd
  · exact riK1_1 w hk hd
  · exact riK1_2 w hk hd
  · exact riK2_0 w hk hd
  · exact riK2_1 w hk hd
  · exact riK2_2 w hk hd
  · exact riK3_0 w hk hd
  · exact riK3_1 w hk hd
  · exact riK3_2 w hk hd
  · exact riK4_0 w hk hd
  · exact riK4_1 w hk hd
  · exact riK4_2 w hk hd
theorem rulesInits_any (a b c d e f : Int) (w : World) :
    Calls Try.prog 4 #[.int .i64 a, .int .i64 b, .int .i64 c, .int .i64 d, .int .i64 e, .int .i64 f] w (fun e w' => e = .returned (.bool true) ∧ Below w.heap.size w w') :=
  rulesInits_nu (ν := fun i => if i = 0 then a else if i = 1 then b else if i = 2 then c else if i = 3 then d else if i = 4 then e else f) w
end Go.Proofs.Ythfknhkjodgfmaa
