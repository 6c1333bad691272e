/- GraphLines answers true, whatever the numbers. -/
import Derived.Test.YtlajbngfdbnoiaaGrL0
import Derived.Test.YtlajbngfdbnoiaaGrL1
import Derived.Test.YtlajbngfdbnoiaaGrL2
import Derived.Test.YtlajbngfdbnoiaaGrL3
import Derived.Test.YtlajbngfdbnoiaaGrL4
namespace Go.Proofs.Ytlajbngfdbnoiaa
set_option linter.unusedSimpArgs false
set_option linter.unusedVariables false
set_option linter.constructorNameAsVariable false
open Go Go.RowKit
open Ev
theorem gl_m0 {ν : Nat → Int} (w : World) (hm : zval ν (lowZ 0 6) = 0) :
    Calls Try.prog 3 #[.int .i64 (ν 0), .int .i64 (ν 1)] w (fun e w' => e = .returned (.bool true) ∧ Below w.heap.size w w') := by
  have hb := low_in (ν := ν) 1 (0 + 2) (by omega) (by omega)
  have hb2 : zval ν (lowZ 1 (0 + 2)) = 0 ∨ zval ν (lowZ 1 (0 + 2)) = 1 := by omega
  rcases hb2 with hb2 | hb2
  · exact gr_calls w (norm_cons hm (norm_cons hb2 norm_nil)) gl_0_0
  · exact gr_calls w (norm_cons hm (norm_cons hb2 norm_nil)) gl_0_1
theorem gl_m1 {ν : Nat → Int} (w : World) (hm : zval ν (lowZ 0 6) = 1) :
    Calls Try.prog 3 #[.int .i64 (ν 0), .int .i64 (ν 1)] w (fun e w' => e = .returned (.bool true) ∧ Below w.heap.size w w') := by
  have hb := low_in (ν := ν) 1 (1 + 2) (by omega) (by omega)
  have hb2 : zval ν (lowZ 1 (1 + 2)) = 0 ∨ zval ν (lowZ 1 (1 + 2)) = 1 ∨ zval ν (lowZ 1 (1 + 2)) = 2 := by omega
  rcases hb2 with hb2 | hb2 | hb2
  · exact gr_calls w (norm_cons hm (norm_cons hb2 norm_nil)) gl_1_0
  · exact gr_calls w (norm_cons hm (norm_cons hb2 norm_nil)) gl_1_1
  · exact gr_calls w (norm_cons hm (norm_cons hb2 norm_nil)) gl_1_2
theorem gl_m2 {ν : Nat → Int} (w : World) (hm : zval ν (lowZ 0 6) = 2) :
    Calls Try.prog 3 #[.int .i64 (ν 0), .int .i64 (ν 1)] w (fun e w' => e = .returned (.bool true) ∧ Below w.heap.size w w') := by
  have hb := low_in (ν := ν) 1 (2 + 2) (by omega) (by omega)
  have hb2 : zval ν (lowZ 1 (2 + 2)) = 0 ∨ zval ν (lowZ 1 (2 + 2)) = 1 ∨ zval ν (lowZ 1 (2 + 2)) = 2 ∨ zval ν (lowZ 1 (2 + 2)) = 3 := by omega
  rcases hb2 with hb2 | hb2 | hb2 | hb2
  · exact gr_calls w (norm_cons hm (norm_cons hb2 norm_nil)) gl_2_0
  · exact gr_calls w (norm_cons hm (norm_cons hb2 norm_nil)) gl_2_1
  · exact gr_calls w (norm_cons hm (norm_cons hb2 norm_nil)) gl_2_2
  · exact gr_calls w (norm_cons hm (norm_cons hb2 norm_nil)) gl_2_3
theorem gl_m3 {ν : Nat → Int} (w : World) (hm : zval ν (lowZ 0 6) = 3) :
    Calls Try.prog 3 #[.int .i64 (ν 0), .int .i64 (ν 1)] w (fun e w' => e = .returned (.bool true) ∧ Below w.heap.size w w') := by
  have hb := low_in (ν := ν) 1 (3 + 2) (by omega) (by omega)
  have hb2 : zval ν (lowZ 1 (3 + 2)) = 0 ∨ zval ν (lowZ 1 (3 + 2)) = 1 ∨ zval ν (lowZ 1 (3 + 2)) = 2 ∨ zval ν (lowZ 1 (3 + 2)) = 3 ∨ zval ν (lowZ 1 (3 + 2)) = 4 := by omega
  rcases hb2 with hb2 | hb2 | hb2 | hb2 | hb2
  · exact gr_calls w (norm_cons hm (norm_cons hb2 norm_nil)) gl_3_0
  · exact gr_calls w (norm_cons hm (norm_cons hb2 norm_nil)) gl_3_1
  · exact gr_calls w (norm_cons hm (norm_cons hb2 norm_nil)) gl_3_2
  · exact gr_calls w (norm_cons hm (norm_cons hb2 norm_nil)) gl_3_3
  · exact gr_calls w (norm_cons hm (norm_cons hb2 norm_nil)) gl_3_4
theorem gl_m4 {ν : Nat → Int} (w : World) (hm : zval ν (lowZ 0 6) = 4) :
    Calls Try.prog 3 #[.int .i64 (ν 0), .int .i64 (ν 1)] w (fun e w' => e = .returned (.bool true) ∧ Below w.heap.size w w') := by
  have hb := low_in (ν := ν) 1 (4 + 2) (by omega) (by omega)
  have hb2 : zval ν (lowZ 1 (4 + 2)) = 0 ∨ zval ν (lowZ 1 (4 + 2)) = 1 ∨ zval ν (lowZ 1 (4 + 2)) = 2 ∨ zval ν (lowZ 1 (4 + 2)) = 3 ∨ zval ν (lowZ 1 (4 + 2)) = 4 ∨ zval ν (lowZ 1 (4 + 2)) = 5 := by omega
  rcases hb2 with hb2 | hb2 | hb2 | hb2 | hb2 | hb2
  · exact gr_calls w (norm_cons hm (norm_cons hb2 norm_nil)) gl_4_0
  · exact gr_calls w (norm_cons hm (norm_cons hb2 norm_nil)) gl_4_1
  · exact gr_calls w (norm_cons hm (norm_cons hb2 norm_nil)) gl_4_2
  · exact gr_calls w (norm_cons hm (norm_cons hb2 norm_nil)) gl_4_3
  · exact gr_calls w (norm_cons hm (norm_cons hb2 norm_nil)) gl_4_4
  · exact gr_calls w (norm_cons hm (norm_cons hb2 norm_nil)) gl_4_5
theorem gl_m5 {ν : Nat → Int} (w : World) (hm : zval ν (lowZ 0 6) = 5) :
    Calls Try.prog 3 #[.int .i64 (ν 0), .int .i64 (ν 1)] w (fun e w' => e = .returned (.bool true) ∧ Below w.heap.size w w') := by
  have hb := low_in (ν := ν) 1 (5 + 2) (by omega) (by omega)
  have hb2 : zval ν (lowZ 1 (5 + 2)) = 0 ∨ zval ν (lowZ 1 (5 + 2)) = 1 ∨ zval ν (lowZ 1 (5 + 2)) = 2 ∨ zval ν (lowZ 1 (5 + 2)) = 3 ∨ zval ν (lowZ 1 (5 + 2)) = 4 ∨ zval ν (lowZ 1 (5 + 2)) = 5 ∨ zval ν (lowZ 1 (5 + 2)) = 6 := by omega
  rcases hb2 with hb2 | hb2 | hb2 | hb2 | hb2 | hb2 | hb2
  · exact gr_calls w (norm_cons hm (norm_cons hb2 norm_nil)) gl_5_0
  · exact gr_calls w (norm_cons hm (norm_cons hb2 norm_nil)) gl_5_1
  · exact gr_calls w (norm_cons hm (norm_cons hb2 norm_nil)) gl_5_2
  · exact gr_calls w (norm_cons hm (norm_cons hb2 norm_nil)) gl_5_3
  · exact gr_calls w (norm_cons hm (norm_cons hb2 norm_nil)) gl_5_4
  · exact gr_calls w (norm_cons hm (norm_cons hb2 norm_nil)) gl_5_5
  · exact gr_calls w (norm_cons hm (norm_cons hb2 norm_nil)) gl_5_6
theorem graphLines_nu {ν : Nat → Int} (w : World) : Calls Try.prog 3 #[.int .i64 (ν 0), .int .i64 (ν 1)] w (fun e w' => e = .returned (.bool true) ∧ Below w.heap.size w w') := by
  have h0 := low_in (ν := ν) 0 6 (by omega) (by omega)
  have hm : zval ν (lowZ 0 6) = 0 ∨ zval ν (lowZ 0 6) = 1 ∨ zval ν (lowZ 0 6) = 2 ∨ zval ν (lowZ 0 6) = 3 ∨ zval ν (lowZ 0 6) = 4 ∨ zval ν (lowZ 0 6) = 5 := by omega
  rcases hm with hm | hm | hm | hm | hm | hm
  · exact gl_m0 w hm
  · exact gl_m1 w hm
  · exact gl_m2 w hm
  · exact gl_m3 w hm
  · exact gl_m4 w hm
  · exact gl_m5 w hm
theorem graphLines_any (a b : Int) (w : World) : Calls Try.prog 3 #[.int .i64 a, .int .i64 b] w (fun e w' => e = .returned (.bool true) ∧ Below w.heap.size w w') :=
  graphLines_nu (ν := fun i => if i = 0 then a else b) w
end Go.Proofs.Ytlajbngfdbnoiaa
