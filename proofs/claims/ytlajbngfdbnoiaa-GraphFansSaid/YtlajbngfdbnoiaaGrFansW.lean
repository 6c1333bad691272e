/- GraphFans answers true, whatever the numbers. -/
import Derived.Test.YtlajbngfdbnoiaaGrF0
import Derived.Test.YtlajbngfdbnoiaaGrF1
import Derived.Test.YtlajbngfdbnoiaaGrF2
import Derived.Test.YtlajbngfdbnoiaaGrF3
import Derived.Test.YtlajbngfdbnoiaaGrF4
import Derived.Test.YtlajbngfdbnoiaaGrF5
import Derived.Test.YtlajbngfdbnoiaaGrF6
import Derived.Test.YtlajbngfdbnoiaaGrF7
import Derived.Test.YtlajbngfdbnoiaaGrF8
import Derived.Test.YtlajbngfdbnoiaaGrF9
import Derived.Test.YtlajbngfdbnoiaaGrF10
namespace Go.Proofs.Ytlajbngfdbnoiaa
set_option linter.unusedSimpArgs false
set_option linter.unusedVariables false
set_option linter.constructorNameAsVariable false
open Go Go.RowKit
open Ev
theorem gf_m0 {ν : Nat → Int} (w : World) (hm : zval ν (lowZ 0 6) = 0) :
    Calls Try.prog 4 #[.int .i64 (ν 0), .int .i64 (ν 1)] w (fun e w' => e = .returned (.bool true) ∧ Below w.heap.size w w') := by
  exact gr_calls w (norm_cons hm norm_nil) gf_0_
theorem gf_m1 {ν : Nat → Int} (w : World) (hm : zval ν (lowZ 0 6) = 1) :
    Calls Try.prog 4 #[.int .i64 (ν 0), .int .i64 (ν 1)] w (fun e w' => e = .returned (.bool true) ∧ Below w.heap.size w w') := by
  rcases bit_in (ν := ν) 1 with h1 | h1
  · exact gr_calls w (norm_cons hm (norm_cons h1 norm_nil)) gf_1_0
  · exact gr_calls w (norm_cons hm (norm_cons h1 norm_nil)) gf_1_1
theorem gf_m2 {ν : Nat → Int} (w : World) (hm : zval ν (lowZ 0 6) = 2) :
    Calls Try.prog 4 #[.int .i64 (ν 0), .int .i64 (ν 1)] w (fun e w' => e = .returned (.bool true) ∧ Below w.heap.size w w') := by
  rcases bit_in (ν := ν) 1 with h1 | h1
  · rcases bit_in (ν := ν) 2 with h2 | h2
    · exact gr_calls w (norm_cons hm (norm_cons h1 (norm_cons h2 norm_nil))) gf_2_00
    · exact gr_calls w (norm_cons hm (norm_cons h1 (norm_cons h2 norm_nil))) gf_2_01
  · rcases bit_in (ν := ν) 2 with h2 | h2
    · exact gr_calls w (norm_cons hm (norm_cons h1 (norm_cons h2 norm_nil))) gf_2_10
    · exact gr_calls w (norm_cons hm (norm_cons h1 (norm_cons h2 norm_nil))) gf_2_11
theorem gf_m3 {ν : Nat → Int} (w : World) (hm : zval ν (lowZ 0 6) = 3) :
    Calls Try.prog 4 #[.int .i64 (ν 0), .int .i64 (ν 1)] w (fun e w' => e = .returned (.bool true) ∧ Below w.heap.size w w') := by
  rcases bit_in (ν := ν) 1 with h1 | h1
  · rcases bit_in (ν := ν) 2 with h2 | h2
    · rcases bit_in (ν := ν) 3 with h3 | h3
      · exact gr_calls w (norm_cons hm (norm_cons h1 (norm_cons h2 (norm_cons h3 norm_nil)))) gf_3_000
      · exact gr_calls w (norm_cons hm (norm_cons h1 (norm_cons h2 (norm_cons h3 norm_nil)))) gf_3_001
    · rcases bit_in (ν := ν) 3 with h3 | h3
      · exact gr_calls w (norm_cons hm (norm_cons h1 (norm_cons h2 (norm_cons h3 norm_nil)))) gf_3_010
      · exact gr_calls w (norm_cons hm (norm_cons h1 (norm_cons h2 (norm_cons h3 norm_nil)))) gf_3_011
  · rcases bit_in (ν := ν) 2 with h2 | h2
    · rcases bit_in (ν := ν) 3 with h3 | h3
      · exact gr_calls w (norm_cons hm (norm_cons h1 (norm_cons h2 (norm_cons h3 norm_nil)))) gf_3_100
      · exact gr_calls w (norm_cons hm (norm_cons h1 (norm_cons h2 (norm_cons h3 norm_nil)))) gf_3_101
    · rcases bit_in (ν := ν) 3 with h3 | h3
      · exact gr_calls w (norm_cons hm (norm_cons h1 (norm_cons h2 (norm_cons h3 norm_nil)))) gf_3_110
      · exact gr_calls w (norm_cons hm (norm_cons h1 (norm_cons h2 (norm_cons h3 norm_nil)))) gf_3_111
theorem gf_m4 {ν : Nat → Int} (w : World) (hm : zval ν (lowZ 0 6) = 4) :
    Calls Try.prog 4 #[.int .i64 (ν 0), .int .i64 (ν 1)] w (fun e w' => e = .returned (.bool true) ∧ Below w.heap.size w w') := by
  rcases bit_in (ν := ν) 1 with h1 | h1
  · rcases bit_in (ν := ν) 2 with h2 | h2
    · rcases bit_in (ν := ν) 3 with h3 | h3
      · rcases bit_in (ν := ν) 4 with h4 | h4
        · exact gr_calls w (norm_cons hm (norm_cons h1 (norm_cons h2 (norm_cons h3 (norm_cons h4 norm_nil))))) gf_4_0000
        · exact gr_calls w (norm_cons hm (norm_cons h1 (norm_cons h2 (norm_cons h3 (norm_cons h4 norm_nil))))) gf_4_0001
      · rcases bit_in (ν := ν) 4 with h4 | h4
        · exact gr_calls w (norm_cons hm (norm_cons h1 (norm_cons h2 (norm_cons h3 (norm_cons h4 norm_nil))))) gf_4_0010
        · exact gr_calls w (norm_cons hm (norm_cons h1 (norm_cons h2 (norm_cons h3 (norm_cons h4 norm_nil))))) gf_4_0011
    · rcases bit_in (ν := ν) 3 with h3 | h3
      · rcases bit_in (ν := ν) 4 with h4 | h4
        · exact gr_calls w (norm_cons hm (norm_cons h1 (norm_cons h2 (norm_cons h3 (norm_cons h4 norm_nil))))) gf_4_0100
        · exact gr_calls w (norm_cons hm (norm_cons h1 (norm_cons h2 (norm_cons h3 (norm_cons h4 norm_nil))))) gf_4_0101
      · rcases bit_in (ν := ν) 4 with h4 | h4
        · exact gr_calls w (norm_cons hm (norm_cons h1 (norm_cons h2 (norm_cons h3 (norm_cons h4 norm_nil))))) gf_4_0110
        · exact gr_calls w (norm_cons hm (norm_cons h1 (norm_cons h2 (norm_cons h3 (norm_cons h4 norm_nil))))) gf_4_0111
  · rcases bit_in (ν := ν) 2 with h2 | h2
    · rcases bit_in (ν := ν) 3 with h3 | h3
      · rcases bit_in (ν := ν) 4 with h4 | h4
        · exact gr_calls w (norm_cons hm (norm_cons h1 (norm_cons h2 (norm_cons h3 (norm_cons h4 norm_nil))))) gf_4_1000
        · exact gr_calls w (norm_cons hm (norm_cons h1 (norm_cons h2 (norm_cons h3 (norm_cons h4 norm_nil))))) gf_4_1001
      · rcases bit_in (ν := ν) 4 with h4 | h4
        · exact gr_calls w (norm_cons hm (norm_cons h1 (norm_cons h2 (norm_cons h3 (norm_cons h4 norm_nil))))) gf_4_1010
        · exact gr_calls w (norm_cons hm (norm_cons h1 (norm_cons h2 (norm_cons h3 (norm_cons h4 norm_nil))))) gf_4_1011
    · rcases bit_in (ν := ν) 3 with h3 | h3
      · rcases bit_in (ν := ν) 4 with h4 | h4
        · exact gr_calls w (norm_cons hm (norm_cons h1 (norm_cons h2 (norm_cons h3 (norm_cons h4 norm_nil))))) gf_4_1100
        · exact gr_calls w (norm_cons hm (norm_cons h1 (norm_cons h2 (norm_cons h3 (norm_cons h4 norm_nil))))) gf_4_1101
      · rcases bit_in (ν := ν) 4 with h4 | h4
        · exact gr_calls w (norm_cons hm (norm_cons h1 (norm_cons h2 (norm_cons h3 (norm_cons h4 norm_nil))))) gf_4_1110
        · exact gr_calls w (norm_cons hm (norm_cons h1 (norm_cons h2 (norm_cons h3 (norm_cons h4 norm_nil))))) gf_4_1111
theorem gf_m5 {ν : Nat → Int} (w : World) (hm : zval ν (lowZ 0 6) = 5) :
    Calls Try.prog 4 #[.int .i64 (ν 0), .int .i64 (ν 1)] w (fun e w' => e = .returned (.bool true) ∧ Below w.heap.size w w') := by
  rcases bit_in (ν := ν) 1 with h1 | h1
  · rcases bit_in (ν := ν) 2 with h2 | h2
    · rcases bit_in (ν := ν) 3 with h3 | h3
      · rcases bit_in (ν := ν) 4 with h4 | h4
        · rcases bit_in (ν := ν) 5 with h5 | h5
          · exact gr_calls w (norm_cons hm (norm_cons h1 (norm_cons h2 (norm_cons h3 (norm_cons h4 (norm_cons h5 norm_nil)))))) gf_5_00000
          · exact gr_calls w (norm_cons hm (norm_cons h1 (norm_cons h2 (norm_cons h3 (norm_cons h4 (norm_cons h5 norm_nil)))))) gf_5_00001
        · rcases bit_in (ν := ν) 5 with h5 | h5
          · exact gr_calls w (norm_cons hm (norm_cons h1 (norm_cons h2 (norm_cons h3 (norm_cons h4 (norm_cons h5 norm_nil)))))) gf_5_00010
          · exact gr_calls w (norm_cons hm (norm_cons h1 (norm_cons h2 (norm_cons h3 (norm_cons h4 (norm_cons h5 norm_nil)))))) gf_5_00011
      · rcases bit_in (ν := ν) 4 with h4 | h4
        · rcases bit_in (ν := ν) 5 with h5 | h5
          · exact gr_calls w (norm_cons hm (norm_cons h1 (norm_cons h2 (norm_cons h3 (norm_cons h4 (norm_cons h5 norm_nil)))))) gf_5_00100
          · exact gr_calls w (norm_cons hm (norm_cons h1 (norm_cons h2 (norm_cons h3 (norm_cons h4 (norm_cons h5 norm_nil)))))) gf_5_00101
        · rcases bit_in (ν := ν) 5 with h5 | h5
          · exact gr_calls w (norm_cons hm (norm_cons h1 (norm_cons h2 (norm_cons h3 (norm_cons h4 (norm_cons h5 norm_nil)))))) gf_5_00110
          · exact gr_calls w (norm_cons hm (norm_cons h1 (norm_cons h2 (norm_cons h3 (norm_cons h4 (norm_cons h5 norm_nil)))))) gf_5_00111
    · rcases bit_in (ν := ν) 3 with h3 | h3
      · rcases bit_in (ν := ν) 4 with h4 | h4
        · rcases bit_in (ν := ν) 5 with h5 | h5
          · exact gr_calls w (norm_cons hm (norm_cons h1 (norm_cons h2 (norm_cons h3 (norm_cons h4 (norm_cons h5 norm_nil)))))) gf_5_01000
          · exact gr_calls w (norm_cons hm (norm_cons h1 (norm_cons h2 (norm_cons h3 (norm_cons h4 (norm_cons h5 norm_nil)))))) gf_5_01001
        · rcases bit_in (ν := ν) 5 with h5 | h5
          · exact gr_calls w (norm_cons hm (norm_cons h1 (norm_cons h2 (norm_cons h3 (norm_cons h4 (norm_cons h5 norm_nil)))))) gf_5_01010
          · exact gr_calls w (norm_cons hm (norm_cons h1 (norm_cons h2 (norm_cons h3 (norm_cons h4 (norm_cons h5 norm_nil)))))) gf_5_01011
      · rcases bit_in (ν := ν) 4 with h4 | h4
        · rcases bit_in (ν := ν) 5 with h5 | h5
          · exact gr_calls w (norm_cons hm (norm_cons h1 (norm_cons h2 (norm_cons h3 (norm_cons h4 (norm_cons h5 norm_nil)))))) gf_5_01100
          · exact gr_calls w (norm_cons hm (norm_cons h1 (norm_cons h2 (norm_cons h3 (norm_cons h4 (norm_cons h5 norm_nil)))))) gf_5_01101
        · rcases bit_in (ν := ν) 5 with h5 | h5
          · exact gr_calls w (norm_cons hm (norm_cons h1 (norm_cons h2 (norm_cons h3 (norm_cons h4 (norm_cons h5 norm_nil)))))) gf_5_01110
          · exact gr_calls w (norm_cons hm (norm_cons h1 (norm_cons h2 (norm_cons h3 (norm_cons h4 (norm_cons h5 norm_nil)))))) gf_5_01111
  · rcases bit_in (ν := ν) 2 with h2 | h2
    · rcases bit_in (ν := ν) 3 with h3 | h3
      · rcases bit_in (ν := ν) 4 with h4 | h4
        · rcases bit_in (ν := ν) 5 with h5 | h5
          · exact gr_calls w (norm_cons hm (norm_cons h1 (norm_cons h2 (norm_cons h3 (norm_cons h4 (norm_cons h5 norm_nil)))))) gf_5_10000
          · exact gr_calls w (norm_cons hm (norm_cons h1 (norm_cons h2 (norm_cons h3 (norm_cons h4 (norm_cons h5 norm_nil)))))) gf_5_10001
        · rcases bit_in (ν := ν) 5 with h5 | h5
          · exact gr_calls w (norm_cons hm (norm_cons h1 (norm_cons h2 (norm_cons h3 (norm_cons h4 (norm_cons h5 norm_nil)))))) gf_5_10010
          · exact gr_calls w (norm_cons hm (norm_cons h1 (norm_cons h2 (norm_cons h3 (norm_cons h4 (norm_cons h5 norm_nil)))))) gf_5_10011
      · rcases bit_in (ν := ν) 4 with h4 | h4
        · rcases bit_in (ν := ν) 5 with h5 | h5
          · exact gr_calls w (norm_cons hm (norm_cons h1 (norm_cons h2 (norm_cons h3 (norm_cons h4 (norm_cons h5 norm_nil)))))) gf_5_10100
          · exact gr_calls w (norm_cons hm (norm_cons h1 (norm_cons h2 (norm_cons h3 (norm_cons h4 (norm_cons h5 norm_nil)))))) gf_5_10101
        · rcases bit_in (ν := ν) 5 with h5 | h5
          · exact gr_calls w (norm_cons hm (norm_cons h1 (norm_cons h2 (norm_cons h3 (norm_cons h4 (norm_cons h5 norm_nil)))))) gf_5_10110
          · exact gr_calls w (norm_cons hm (norm_cons h1 (norm_cons h2 (norm_cons h3 (norm_cons h4 (norm_cons h5 norm_nil)))))) gf_5_10111
    · rcases bit_in (ν := ν) 3 with h3 | h3
      · rcases bit_in (ν := ν) 4 with h4 | h4
        · rcases bit_in (ν := ν) 5 with h5 | h5
          · exact gr_calls w (norm_cons hm (norm_cons h1 (norm_cons h2 (norm_cons h3 (norm_cons h4 (norm_cons h5 norm_nil)))))) gf_5_11000
          · exact gr_calls w (norm_cons hm (norm_cons h1 (norm_cons h2 (norm_cons h3 (norm_cons h4 (norm_cons h5 norm_nil)))))) gf_5_11001
        · rcases bit_in (ν := ν) 5 with h5 | h5
          · exact gr_calls w (norm_cons hm (norm_cons h1 (norm_cons h2 (norm_cons h3 (norm_cons h4 (norm_cons h5 norm_nil)))))) gf_5_11010
          · exact gr_calls w (norm_cons hm (norm_cons h1 (norm_cons h2 (norm_cons h3 (norm_cons h4 (norm_cons h5 norm_nil)))))) gf_5_11011
      · rcases bit_in (ν := ν) 4 with h4 | h4
        · rcases bit_in (ν := ν) 5 with h5 | h5
          · exact gr_calls w (norm_cons hm (norm_cons h1 (norm_cons h2 (norm_cons h3 (norm_cons h4 (norm_cons h5 norm_nil)))))) gf_5_11100
          · exact gr_calls w (norm_cons hm (norm_cons h1 (norm_cons h2 (norm_cons h3 (norm_cons h4 (norm_cons h5 norm_nil)))))) gf_5_11101
        · rcases bit_in (ν := ν) 5 with h5 | h5
          · exact gr_calls w (norm_cons hm (norm_cons h1 (norm_cons h2 (norm_cons h3 (norm_cons h4 (norm_cons h5 norm_nil)))))) gf_5_11110
          · exact gr_calls w (norm_cons hm (norm_cons h1 (norm_cons h2 (norm_cons h3 (norm_cons h4 (norm_cons h5 norm_nil)))))) gf_5_11111
theorem graphFans_nu {ν : Nat → Int} (w : World) : Calls Try.prog 4 #[.int .i64 (ν 0), .int .i64 (ν 1)] w (fun e w' => e = .returned (.bool true) ∧ Below w.heap.size w w') := by
  have h0 := low_in (ν := ν) 0 6 (by omega) (by omega)
  have hm : zval ν (lowZ 0 6) = 0 ∨ zval ν (lowZ 0 6) = 1 ∨ zval ν (lowZ 0 6) = 2 ∨ zval ν (lowZ 0 6) = 3 ∨ zval ν (lowZ 0 6) = 4 ∨ zval ν (lowZ 0 6) = 5 := by omega
  rcases hm with hm | hm | hm | hm | hm | hm
  · exact gf_m0 w hm
  · exact gf_m1 w hm
  · exact gf_m2 w hm
  · exact gf_m3 w hm
  · exact gf_m4 w hm
  · exact gf_m5 w hm
theorem graphFans_any (a b : Int) (w : World) : Calls Try.prog 4 #[.int .i64 a, .int .i64 b] w (fun e w' => e = .returned (.bool true) ∧ Below w.heap.size w w') :=
  graphFans_nu (ν := fun i => if i = 0 then a else b) w
end Go.Proofs.Ytlajbngfdbnoiaa
