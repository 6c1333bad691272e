/- TopOrder: it answers true, whatever comes in. -/
import Derived.Test.YtmdhaelmblmldaaGreatDoorTpOr0
import Derived.Test.YtmdhaelmblmldaaGreatDoorTpOr1
import Derived.Test.YtmdhaelmblmldaaGreatDoorTpOr2
import Derived.Test.YtmdhaelmblmldaaGreatDoorTpOr3
import Derived.Test.YtmdhaelmblmldaaGreatDoorTpOr4
import Derived.Test.YtmdhaelmblmldaaGreatDoorTpOr5
namespace Go.Proofs.YtmdhaelmblmldaaGreatDoor
set_option linter.unusedSimpArgs false
set_option linter.unusedVariables false
set_option linter.constructorNameAsVariable false
open Go Go.RowKit
open Ev
def orNu (a b k m t : Int) : Nat → Int := fun n => match n with | 0 => a | 1 => b | 2 => k | 3 => m | _ => t
def orNv (ν : Nat → Int) : Nat → Int := fun n => match n with
  | 20 => zval ν (lowZ 0 10) | 21 => zval ν (lowZ 1 10) | 22 => 1 + zval ν (lowZ 2 9) | 23 => 1 + zval ν (lowZ 3 9) | 24 => zval ν (lowZ 4 20)
  | 10 => 48 + (1 + zval ν (lowZ 2 9)) | 11 => 48 + zval ν (lowZ 0 10) | 12 => 48 + (1 + zval ν (lowZ 3 9)) | 13 => 48 + zval ν (lowZ 1 10) | n => ν n
theorem topOrder_any (a b k m t : Int) (w : World) (hA : Tp.Asc w) : Calls Tryz.prog 11 #[.int .i64 a, .int .i64 b, .int .i64 k, .int .i64 m, .int .i64 t] w (fun e w' => e = .returned (.bool true) ∧ Below w.heap.size w w') := by
  have h : OrF (orNv (orNu a b k m t)) := ⟨rfl, rfl, rfl, rfl, rfl, rfl, rfl, rfl, rfl⟩
  generalize e : orNv (orNu a b k m t) = ν at h
  obtain ⟨e0, e1, e2, e3, e4⟩ : a = ν 0 ∧ b = ν 1 ∧ k = ν 2 ∧ m = ν 3 ∧ t = ν 4 := by subst e; exact ⟨rfl, rfl, rfl, rfl, rfl⟩
  rw [e0, e1, e2, e3, e4]
  rcases Int.lt_or_le (ν 24) (ν 22) with c1 | c1 <;> rcases Int.lt_or_le (ν 24) (ν 23) with c2 | c2
  · exact or5 h w hA c1 c2
  · exact or4 h w hA c1 c2
  · exact or3 h w hA c1 c2
  · rcases Int.lt_trichotomy (ν 21) (ν 20) with c3 | c3 | c3
    · exact or0 h w hA c1 c2 c3
    · exact or2 h w hA c1 c2 c3
    · exact or1 h w hA c1 c2 c3
end Go.Proofs.YtmdhaelmblmldaaGreatDoor
