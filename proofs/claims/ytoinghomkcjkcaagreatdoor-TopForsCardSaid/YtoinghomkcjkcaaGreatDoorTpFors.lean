/- TopFors: it answers true, whatever comes in. -/
import Derived.Test.YtoinghomkcjkcaaGreatDoorTpFo0
import Derived.Test.YtoinghomkcjkcaaGreatDoorTpFo1
import Derived.Test.YtoinghomkcjkcaaGreatDoorTpFo2
namespace Go.Proofs.YtoinghomkcjkcaaGreatDoor
set_option linter.unusedSimpArgs false
set_option linter.unusedVariables false
set_option linter.constructorNameAsVariable false
open Go Go.RowKit
open Ev
def fo0Nv (ν : Nat → Int) (N K : Int) : Nat → Int := fun n => match n with
  | 20 => zval ν (lowZ 0 81) - 40 | 21 => zval ν (lowZ 1 81) - 40 | 50 => N | 51 => K | 52 => 9 + 5 * N | 10 => 48 + (1 + zval ν (lowZ 2 9))
  | 22 => 1 + zval ν (lowZ 2 9) | 23 => 0 - (1 + zval ν (lowZ 2 9)) | 24 => 32767 - (1 + zval ν (lowZ 2 9)) | 26 => (32767 - (1 + zval ν (lowZ 2 9))) % 256 | n => ν n
def fo1Nv (ν : Nat → Int) (N K : Int) : Nat → Int := fun n => match n with
  | 20 => zval ν (lowZ 0 81) - 40 | 21 => zval ν (lowZ 1 81) - 40 | 50 => N | 51 => K | 52 => 9 + 5 * N | 10 => 48 + (1 + zval ν (lowZ 2 9))
  | 22 => 1 + zval ν (lowZ 2 9) | 23 => 0 - (1 + zval ν (lowZ 2 9)) | 24 => (-32768) + (1 + zval ν (lowZ 2 9)) | 27 => (0 - (1 + zval ν (lowZ 2 9))) % 256 | n => ν n
theorem topFors_any (x y z : Int) (b : Bool) (w : World) (hA : Tp.Asc w) : Calls Tryz.prog 4 #[.int .i64 x, .int .i64 y, .int .i64 z, .bool b] w (fun e w' => e = .returned (.bool true) ∧ Below w.heap.size w w') := by
  have H : ∀ ν : Nat → Int, ν 0 = x → ν 1 = y → ν 2 = z → Calls Tryz.prog 4 #[.int .i64 x, .int .i64 y, .int .i64 z, .bool b] w (fun e w' => e = .returned (.bool true) ∧ Below w.heap.size w w') := by
    intro ν x0 x1 x2
    obtain ⟨b0, c0⟩ := low_in (ν := ν) 0 81 (by decide) (by decide)
    obtain ⟨b1, c1⟩ := low_in (ν := ν) 1 81 (by decide) (by decide)
    obtain ⟨b2, c2⟩ := low_in (ν := ν) 2 9 (by decide) (by decide)
    have hv : ∀ (ν' : Nat → Int) (b' : Bool), ν' 0 = x → ν' 1 = y → ν' 2 = z → VRs ν' (pl0 w [4]) [.i .i64 (.var 0), .i .i64 (.var 1), .i .i64 (.var 2), .b b'] [.int .i64 x, .int .i64 y, .int .i64 z, .bool b'] := by
      intro ν' b' e0 e1 e2
      simp [VRs, VR, zval, e0, e1, e2]
    cases b with
    | false =>
      by_cases c : zval ν (lowZ 0 81) - 40 ≤ zval ν (lowZ 1 81) - 40
      · obtain ⟨N, K, r⟩ := ForR.up (b := 1 + zval ν (lowZ 2 9)) (t := zval ν (lowZ 1 81) - 40) (by omega) 200 0 (zval ν (lowZ 0 81) - 40) (by omega)
        exact fo0 (ν := fo0Nv ν N K) rfl rfl rfl rfl rfl rfl rfl c w hA (hv _ false x0 x1 x2) r rfl
      · obtain ⟨N, K, r⟩ := ForR.down (b := 0 - (1 + zval ν (lowZ 2 9))) (t := zval ν (lowZ 1 81) - 40) (by omega) 200 0 (zval ν (lowZ 0 81) - 40) (by omega)
        exact fo1 (ν := fo1Nv ν N K) rfl rfl rfl rfl rfl rfl rfl (by show zval ν (lowZ 1 81) - 40 < zval ν (lowZ 0 81) - 40; omega) w hA (hv _ false x0 x1 x2) r rfl
    | true =>
      have go : ∀ ν' : Nat → Int, ν' = fo0Nv ν 0 0 → Calls Tryz.prog 4 #[.int .i64 x, .int .i64 y, .int .i64 z, .bool true] w (fun e w' => e = .returned (.bool true) ∧ Below w.heap.size w w') := by
        intro ν' e
        have k20 : ν' 20 = zval ν' (lowZ 0 81) - 40 := by subst e; rfl
        have k21 : ν' 21 = zval ν' (lowZ 1 81) - 40 := by subst e; rfl
        have k22 : ν' 22 = 1 + zval ν' (lowZ 2 9) := by subst e; rfl
        have v23 : ν' 23 = 0 - ν' 22 := by subst e; rfl
        have v24 : ν' 24 = 32767 - ν' 22 := by subst e; rfl
        have v26 : ν' 26 = ν' 24 % 256 := by subst e; rfl
        have d10 : ν' 10 = 48 + ν' 22 := by subst e; rfl
        have hh := hv ν' true (by subst e; exact x0) (by subst e; exact x1) (by subst e; exact x2)
        obtain ⟨b2, c2⟩ := low_in (ν := ν') 2 9 (by decide) (by decide)
        by_cases c : ν' 20 ≤ ν' 21
        · by_cases g : 4 ≤ ν' 22
          · exact feu4 k22 v23 v24 v26 d10 k20 k21 c g w hA hh
          · by_cases g1 : ν' 22 = 1
            · exact feu1 k22 v23 v24 v26 d10 k20 k21 c g1 w hA hh
            · exact feu2 k22 v23 v24 v26 d10 k20 k21 c (by omega) (by omega) w hA hh
        · have c' : ν' 21 < ν' 20 := by omega
          by_cases g : 4 ≤ ν' 22
          · exact fed4 k22 v23 v24 v26 d10 k20 k21 c' g w hA hh
          · by_cases g1 : ν' 22 = 1
            · exact fed1 k22 v23 v24 v26 d10 k20 k21 c' g1 w hA hh
            · exact fed2 k22 v23 v24 v26 d10 k20 k21 c' (by omega) (by omega) w hA hh
      exact go _ rfl
  exact H (fun n => match n with | 0 => x | 1 => y | _ => z) rfl rfl rfl
end Go.Proofs.YtoinghomkcjkcaaGreatDoor
