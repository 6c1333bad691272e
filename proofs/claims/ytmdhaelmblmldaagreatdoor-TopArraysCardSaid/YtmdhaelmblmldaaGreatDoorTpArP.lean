/- TopArrays: what is known of its places. -/
import Derived.Test.YtmdhaelmblmldaaGreatDoorKk
namespace Go.Proofs.YtmdhaelmblmldaaGreatDoor
set_option linter.unusedSimpArgs false
set_option linter.unusedVariables false
set_option linter.constructorNameAsVariable false
open Go Go.RowKit
open Ev
def arI (n : Nat) : Z := .bin .sub .i64 (lowZ n 12) (.lit 2)
def lowP (z : Z) : List (Cd × Bool) := [((.lss, fitZ z, .lit 0), true), ((.lss, z, .lit 0), true)]
def highP (z : Z) (hi hi1 : Int) : List (Cd × Bool) := [((.lss, fitZ z, .lit 0), false), ((.geq, fitZ z, .lit hi1), true), ((.lss, z, .lit 0), false), ((.gtr, z, .lit hi), true)]
variable {ν : Nat → Int}
theorem arI_val (n : Nat) : zval ν (arI n) = zval ν (lowZ n 12) - 2 := by
  obtain ⟨h1, h2⟩ := low_in (ν := ν) n 12 (by decide) (by decide)
  show IntKind.i64.wrap (zval ν (lowZ n 12) - 2) = _
  rw [IntKind.wrap_i64]; omega
theorem lowP_ok {z : Z} (h : -100 ≤ zval ν z) (h' : zval ν z < 0) : PathOk ν (lowP z) := by
  refine path_cons ?_ (path_cons ?_ path_nil)
  · show ltI (zval ν (fitZ z)) 0 = true
    rw [ltI_eq, decide_eq_true_eq, fit_val]; omega
  · show ltI (zval ν z) 0 = true
    rw [ltI_eq, decide_eq_true_eq]; omega
theorem highP_ok {z : Z} {hi hi1 : Int} (e : hi1 = hi + 1) (h0 : 0 ≤ hi) (h : hi < zval ν z) (h' : zval ν z < 100) : PathOk ν (highP z hi hi1) := by
  refine path_cons ?_ (path_cons ?_ (path_cons ?_ (path_cons ?_ path_nil)))
  · show ltI (zval ν (fitZ z)) 0 = false
    rw [ltI_eq, decide_eq_false_iff_not, fit_val]; omega
  · show (!ltI (zval ν (fitZ z)) hi1) = true
    rw [ltI_eq, Bool.not_eq_true', decide_eq_false_iff_not, fit_val]; omega
  · show ltI (zval ν z) 0 = false
    rw [ltI_eq, decide_eq_false_iff_not]; omega
  · show ltI hi (zval ν z) = true
    rw [ltI_eq, decide_eq_true_eq]; omega
end Go.Proofs.YtmdhaelmblmldaaGreatDoor
