/- TopCases: it answers true, whatever comes in. -/
import Derived.Test.YtmdhaelmblmldaaGreatDoorTpCat
import Derived.Test.YtmdhaelmblmldaaGreatDoorTpCaf
namespace Go.Proofs.YtmdhaelmblmldaaGreatDoor
set_option linter.unusedSimpArgs false
set_option linter.unusedVariables false
set_option linter.constructorNameAsVariable false
open Go Go.RowKit
open Ev
theorem caseB {n : Int} : (eqI n 1 = true ∧ eqI n 3 = false ∧ eqI n 2 = false ∧ eqI n (-1) = false ∧ eqI n 5 = false) ∨ (eqI n 1 = false ∧ eqI n 3 = true ∧ eqI n 2 = false ∧ eqI n (-1) = false ∧ eqI n 5 = false) ∨ (eqI n 1 = false ∧ eqI n 3 = false ∧ eqI n 2 = true ∧ eqI n (-1) = false ∧ eqI n 5 = false) ∨
    (eqI n 1 = false ∧ eqI n 3 = false ∧ eqI n 2 = false ∧ eqI n (-1) = true ∧ eqI n 5 = false) ∨ (eqI n 1 = false ∧ eqI n 3 = false ∧ eqI n 2 = false ∧ eqI n (-1) = false ∧ eqI n 5 = true) ∨ (eqI n 1 = false ∧ eqI n 3 = false ∧ eqI n 2 = false ∧ eqI n (-1) = false ∧ eqI n 5 = false) := by
  simp only [eqI_d, decide_eq_true_eq, decide_eq_false_iff_not]
  omega
theorem topCases_any (x : Int) (b : Bool) (w : World) (hA : Tp.Asc w) : Calls Tryz.prog 9 #[.int .i64 x, .bool b] w (fun e w' => e = .returned (.bool true) ∧ Below w.heap.size w w') := by
  have key : ∀ {ov : Ov} (ho : OvGood (fun _ => x) ov) (g : Bool) (z : Z), cmpI .gtr (zval (fun _ => x) (lowZ 0 3)) (zval (fun _ => x) (.lit 0)) = g →
      okv (mEv ov (((.gtr, lowZ 0 3, .lit 0), g) :: caseP z true false false false false) [] 9 [.i .i64 (.var 0), .b b] start) = some (.b true) → okv (mEv ov (((.gtr, lowZ 0 3, .lit 0), g) :: caseP z false true false false false) [] 9 [.i .i64 (.var 0), .b b] start) = some (.b true) → okv (mEv ov (((.gtr, lowZ 0 3, .lit 0), g) :: caseP z false false true false false) [] 9 [.i .i64 (.var 0), .b b] start) = some (.b true) → okv (mEv ov (((.gtr, lowZ 0 3, .lit 0), g) :: caseP z false false false true false) [] 9 [.i .i64 (.var 0), .b b] start) = some (.b true) → okv (mEv ov (((.gtr, lowZ 0 3, .lit 0), g) :: caseP z false false false false true) [] 9 [.i .i64 (.var 0), .b b] start) = some (.b true) → okv (mEv ov (((.gtr, lowZ 0 3, .lit 0), g) :: caseP z false false false false false) [] 9 [.i .i64 (.var 0), .b b] start) = some (.b true) →
      Calls Tryz.prog 9 #[.int .i64 x, .bool b] w (fun e w' => e = .returned (.bool true) ∧ Below w.heap.size w w') := by
    intro ov ho g z hg v1 v2 v3 v4 v5 v6
    have hp := caseP_ok (ν := fun _ => x) (x := z) rfl
    have ha : VRs (fun _ => x) (pl0 w [4]) [.i .i64 (.var 0), .b b] [.int .i64 x, .bool b] := by simp [VRs, VR, zval]
    obtain ⟨h1, h2, h3, h4, h5⟩ | ⟨h1, h2, h3, h4, h5⟩ | ⟨h1, h2, h3, h4, h5⟩ | ⟨h1, h2, h3, h4, h5⟩ | ⟨h1, h2, h3, h4, h5⟩ | ⟨h1, h2, h3, h4, h5⟩ := caseB (n := zval (fun _ => x) (fitZ z))
    · rw [h1, h2, h3, h4, h5] at hp; exact tm_true (ν := fun _ => x) w hA ho (path_cons hg hp) norm_nil v1 ha
    · rw [h1, h2, h3, h4, h5] at hp; exact tm_true (ν := fun _ => x) w hA ho (path_cons hg hp) norm_nil v2 ha
    · rw [h1, h2, h3, h4, h5] at hp; exact tm_true (ν := fun _ => x) w hA ho (path_cons hg hp) norm_nil v3 ha
    · rw [h1, h2, h3, h4, h5] at hp; exact tm_true (ν := fun _ => x) w hA ho (path_cons hg hp) norm_nil v4 ha
    · rw [h1, h2, h3, h4, h5] at hp; exact tm_true (ν := fun _ => x) w hA ho (path_cons hg hp) norm_nil v5 ha
    · rw [h1, h2, h3, h4, h5] at hp; exact tm_true (ν := fun _ => x) w hA ho (path_cons hg hp) norm_nil v6 ha
  cases hg : cmpI .gtr (zval (fun _ => x) (lowZ 0 3)) (zval (fun _ => x) (.lit 0)) with
  | true =>
    cases b with
    | true => exact key TmCatg2 true caseI hg cat1a cat1b cat1c cat1d cat1e cat1n
    | false => exact key TmCafg2 true caseI hg caf1a caf1b caf1c caf1d caf1e caf1n
  | false =>
    cases b with
    | true => exact key TmCatg2 false (.var 0) hg cat0a cat0b cat0c cat0d cat0e cat0n
    | false => exact key TmCafg2 false (.var 0) hg caf0a caf0b caf0c caf0d caf0e caf0n
end Go.Proofs.YtmdhaelmblmldaaGreatDoor
