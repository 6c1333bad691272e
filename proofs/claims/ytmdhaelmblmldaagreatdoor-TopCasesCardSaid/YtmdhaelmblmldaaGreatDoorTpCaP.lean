/- TopCases: what is known of its input. -/
import Derived.Test.YtmdhaelmblmldaaGreatDoorKk
namespace Go.Proofs.YtmdhaelmblmldaaGreatDoor
set_option linter.unusedSimpArgs false
set_option linter.unusedVariables false
set_option linter.constructorNameAsVariable false
open Go Go.RowKit
open Ev
def caseP (x : Z) (a b c d e : Bool) : List (Cd × Bool) := [((.neq, fitZ x, .lit 1), !a), ((.neq, fitZ x, .lit 3), !b), ((.neq, fitZ x, .lit 2), !c), ((.neq, fitZ x, .lit (-1)), !d), ((.neq, fitZ x, .lit 5), !e), ((.eql, rfitZ x, .lit 1), a), ((.eql, rfitZ x, .lit 3), b), ((.eql, rfitZ x, .lit 2), c), ((.eql, rfitZ x, .lit (-1)), d), ((.eql, rfitZ x, .lit 5), e)]
theorem caseP_ok {ν : Nat → Int} {x : Z} {n : Int} (h : zval ν (fitZ x) = n) : PathOk ν (caseP x (eqI n 1) (eqI n 3) (eqI n 2) (eqI n (-1)) (eqI n 5)) := by
  subst h
  have e := rfit_eq (ν := ν) x
  unfold caseP
  refine (path_cons ?_ (path_cons ?_ (path_cons ?_ (path_cons ?_ (path_cons ?_ (path_cons ?_ (path_cons ?_ (path_cons ?_ (path_cons ?_ (path_cons ?_ path_nil))))))))))
  all_goals first | rfl | (show eqI (zval ν (rfitZ x)) _ = eqI (zval ν (fitZ x)) _; rw [e]; rfl)
def caseI : Z := .bin .sub .i64 (lowZ 0 12) (.lit 3)
end Go.Proofs.YtmdhaelmblmldaaGreatDoor
