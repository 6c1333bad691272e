/- TopSums: what is known of its numbers. -/
import Derived.Test.YtmdhaelmblmldaaGreatDoorKk
namespace Go.Proofs.YtmdhaelmblmldaaGreatDoor
set_option linter.unusedSimpArgs false
set_option linter.unusedVariables false
set_option linter.constructorNameAsVariable false
open Go Go.RowKit
open Ev
def sumY (k : Nat) : Z := match k with
  | 0 => fitZ (.bin .add .i64 (fitZ (.var 1)) (fitZ (.var 2)))
  | 1 => fitZ (.bin .add .i64 (fitZ (.var 1)) (.bin .sub .i64 (.lit 0) (fitZ (.var 2))))
  | 2 => fitZ (.bin .mul .i64 (fitZ (.var 1)) (fitZ (.var 2)))
  | 3 => fitZ (.bin .quo .i64 (fitZ (.var 1)) (fitZ (.var 2)))
  | _ => fitZ (.bin .rem .i64 (fitZ (.var 1)) (fitZ (.var 2)))
def sumN (k : Nat) : Z := match k with
  | 0 => rfitZ (.bin .add .i64 (rfitZ (.var 1)) (rfitZ (.var 2)))
  | 1 => rfitZ (.bin .sub .i64 (rfitZ (.var 1)) (rfitZ (.var 2)))
  | 2 => rfitZ (.bin .mul .i64 (rfitZ (.var 1)) (rfitZ (.var 2)))
  | 3 => rfitZ (.bin .quo .i64 (rfitZ (.var 1)) (rfitZ (.var 2)))
  | _ => rfitZ (.bin .rem .i64 (rfitZ (.var 1)) (rfitZ (.var 2)))
variable {ν : Nat → Int}
theorem sum_any (op : BinOp) (a b : Z) : zval ν (fitZ (.bin op .i64 (fitZ a) (fitZ b))) = zval ν (rfitZ (.bin op .i64 (rfitZ a) (rfitZ b))) := by
  rw [rfit_eq, fit_val, fit_val]
  show (binVal op .i64 (zval ν (fitZ a)) (zval ν (fitZ b)) + 32768) % 65536 - 32768 = (binVal op .i64 (zval ν (rfitZ a)) (zval ν (rfitZ b)) + 32768) % 65536 - 32768
  rw [rfit_eq, rfit_eq]
theorem sum_sub (a b : Z) : zval ν (fitZ (.bin .add .i64 (fitZ a) (.bin .sub .i64 (.lit 0) (fitZ b)))) = zval ν (rfitZ (.bin .sub .i64 (rfitZ a) (rfitZ b))) := by
  rw [rfit_eq, fit_val, fit_val]
  show (binVal .add .i64 (zval ν (fitZ a)) (binVal .sub .i64 0 (zval ν (fitZ b))) + 32768) % 65536 - 32768 = (binVal .sub .i64 (zval ν (rfitZ a)) (zval ν (rfitZ b)) + 32768) % 65536 - 32768
  rw [rfit_eq, rfit_eq]
  have h1 := fit_in (ν := ν) a
  have h2 := fit_in (ν := ν) b
  generalize zval ν (fitZ a) = x at *
  generalize zval ν (fitZ b) = y at *
  simp only [binVal, IntKind.wrap_i64]
  omega
theorem sumF (k : Nat) : zval ν (sumY k) = zval ν (sumN k) := by
  unfold sumY sumN
  split
  · exact sum_any .add _ _
  · exact sum_sub _ _
  · exact sum_any .mul _ _
  · exact sum_any .quo _ _
  · exact sum_any .rem _ _
theorem sumEq (k : Nat) : cmpI .eql (zval ν (sumY k)) (zval ν (sumN k)) = true := by show eqI _ _ = true; rw [sumF, eqI_d, decide_eq_true rfl]
def zeroP (b : Bool) : List (Cd × Bool) := [((.eql, fitZ (.var 2), .lit 0), b), ((.eql, rfitZ (.var 2), .lit 0), b)]
theorem zeroP_ok {b : Bool} (h : eqI (zval ν (fitZ (.var 2))) 0 = b) : PathOk ν (zeroP b) := path_cons h (path_cons (by show eqI (zval ν (rfitZ (.var 2))) 0 = b; rw [rfit_eq]; exact h) path_nil)
def restP (k : Nat) : List (Cd × Bool) := [((.eql, fitZ (.var 2), .lit 0), false), ((.eql, rfitZ (.var 2), .lit 0), false), ((.eql, sumY k, sumN k), true)]
theorem restP_ok (k : Nat) (h : eqI (zval ν (fitZ (.var 2))) 0 = false) : PathOk ν (restP k) := path_cons h (path_cons (by show eqI (zval ν (rfitZ (.var 2))) 0 = false; rw [rfit_eq]; exact h) (path_cons (sumEq k) path_nil))
end Go.Proofs.YtmdhaelmblmldaaGreatDoor
