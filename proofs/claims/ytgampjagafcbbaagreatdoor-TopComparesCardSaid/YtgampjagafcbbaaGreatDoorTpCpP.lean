/- TopCompares: what is known of its numbers. -/
import Derived.Test.YtgampjagafcbbaaGreatDoorKk
namespace Go.Proofs.YtgampjagafcbbaaGreatDoor
set_option linter.unusedSimpArgs false
set_option linter.unusedVariables false
set_option linter.constructorNameAsVariable false
open Go Go.RowKit
open Ev
def ordP (x y : Z) (lt eq gt : Bool) : List (Cd × Bool) := [((.eql, x, y), eq), ((.neq, x, y), !eq), ((.lss, x, y), lt), ((.leq, x, y), !gt), ((.gtr, x, y), gt), ((.geq, x, y), !lt)]
variable {ν : Nat → Int}
theorem ordP_ok (x y : Z) : PathOk ν (ordP x y (ltI (zval ν x) (zval ν y)) (eqI (zval ν x) (zval ν y)) (ltI (zval ν y) (zval ν x))) := by
  unfold ordP
  refine (path_cons ?_ (path_cons ?_ (path_cons ?_ (path_cons ?_ (path_cons ?_ (path_cons ?_ path_nil))))))
  all_goals rfl
def cmpP (lt eq gt p : Bool) : List (Cd × Bool) := ordP (fitZ (.var 2)) (fitZ (.var 3)) lt eq gt ++ (ordP (fitZ (.var 3)) (fitZ (.var 2)) gt eq lt ++ (ordP (rfitZ (.var 2)) (rfitZ (.var 3)) lt eq gt ++ [((.lss, .lit 0, fitZ (.var 2)), p), ((.gtr, rfitZ (.var 2), .lit 0), p)]))
theorem cmpP_ok {lt eq gt p : Bool} (h1 : ltI (zval ν (fitZ (.var 2))) (zval ν (fitZ (.var 3))) = lt) (h2 : eqI (zval ν (fitZ (.var 2))) (zval ν (fitZ (.var 3))) = eq) (h3 : ltI (zval ν (fitZ (.var 3))) (zval ν (fitZ (.var 2))) = gt) (h4 : ltI 0 (zval ν (fitZ (.var 2))) = p) : PathOk ν (cmpP lt eq gt p) := by
  subst h1; subst h2; subst h3; subst h4
  have e2 := rfit_eq (ν := ν) (.var 2)
  have e3 := rfit_eq (ν := ν) (.var 3)
  have k := ordP_ok (ν := ν) (rfitZ (.var 2)) (rfitZ (.var 3))
  rw [e2, e3] at k
  have k2 := ordP_ok (ν := ν) (fitZ (.var 3)) (fitZ (.var 2))
  have hs : eqI (zval ν (fitZ (.var 3))) (zval ν (fitZ (.var 2))) = eqI (zval ν (fitZ (.var 2))) (zval ν (fitZ (.var 3))) := by rw [eqI_d, eqI_d]; exact decide_eq_decide.2 ⟨fun h => h.symm, fun h => h.symm⟩
  rw [hs] at k2
  refine path_app (ordP_ok _ _) (path_app k2 (path_app k (path_cons rfl (path_cons ?_ path_nil))))
  show ltI 0 (zval ν (rfitZ (.var 2))) = _
  rw [e2]
theorem ordB (a b : Int) : (ltI a b = true ∧ eqI a b = false ∧ ltI b a = false) ∨ (ltI a b = false ∧ eqI a b = true ∧ ltI b a = false) ∨ (ltI a b = false ∧ eqI a b = false ∧ ltI b a = true) := by
  simp only [ltI_eq, eqI_d, decide_eq_true_eq, decide_eq_false_iff_not]
  omega
end Go.Proofs.YtgampjagafcbbaaGreatDoor
