/- TopDispatch, TopFaces: what is known of their numbers. -/
import Derived.Test.YtmdhaelmblmldaaGreatDoorKk
namespace Go.Proofs.YtmdhaelmblmldaaGreatDoor
set_option linter.unusedSimpArgs false
set_option linter.unusedVariables false
set_option linter.constructorNameAsVariable false
open Go Go.RowKit
open Ev
def dY (k : Nat) (p : Z) : Z := match k with
  | 0 => fitZ (.bin .add .i64 (fitZ p) (.lit 5))
  | 1 => fitZ (.bin .mul .i64 (fitZ p) (.lit 2))
  | 2 => fitZ (.bin .add .i64 (fitZ (.bin .mul .i64 (fitZ p) (.lit 2))) (.lit 100))
  | _ => fitZ (.bin .sub .i64 (.lit 0) (fitZ p))
def dW (k : Nat) (p : Z) : Z := match k with
  | 0 => .bin .add .i64 p (.lit 5)
  | 1 => .bin .mul .i64 (.lit 2) p
  | 2 => .bin .add .i64 (.bin .mul .i64 (.lit 2) p) (.lit 100)
  | _ => .bin .sub .i64 (.lit 0) p
variable {ν : Nat → Int}
theorem zval_bin (op : BinOp) (k : IntKind) (a b : Z) : zval ν (.bin op k a b) = binVal op k (zval ν a) (zval ν b) := rfl
theorem zval_lit (n : Int) : zval ν (.lit n) = n := rfl
theorem dEq (k : Nat) (p : Z) (h : 0 ≤ zval ν p) (h' : zval ν p < 1000) : cmpI .eql (zval ν (dY k p)) (zval ν (dW k p)) = true := by
  show eqI _ _ = true
  rw [eqI_d, decide_eq_true_eq]
  unfold dY dW
  split <;> (simp only [fit_val, zval_bin, zval_lit]; generalize zval ν p = x at *; simp only [binVal, IntKind.wrap_i64]; omega)
end Go.Proofs.YtmdhaelmblmldaaGreatDoor
