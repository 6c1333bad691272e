/- TopLoops: it answers true, whatever comes in. -/
import Derived.Test.YtoinghomkcjkcaaGreatDoorTpLp11
import Derived.Test.YtoinghomkcjkcaaGreatDoorTpLp12
import Derived.Test.YtoinghomkcjkcaaGreatDoorTpLp21
import Derived.Test.YtoinghomkcjkcaaGreatDoorTpLp22
namespace Go.Proofs.YtoinghomkcjkcaaGreatDoor
set_option linter.unusedSimpArgs false
set_option linter.unusedVariables false
set_option linter.constructorNameAsVariable false
open Go Go.RowKit
open Ev
theorem lp_mul {x y : Int} (h0 : 0 ≤ x) (h1 : x < 12) (h2 : 0 ≤ y) (h3 : y < 12) : 0 ≤ x * y ∧ x * y ≤ 121 := by
  refine ⟨Int.mul_nonneg h0 h2, ?_⟩
  have h4 : x * y ≤ 11 * y := Int.mul_le_mul_of_nonneg_right (by omega) h2
  omega
def lp11Nv (ν : Nat → Int) (Y U : Int) : Nat → Int := fun n => match n with
  | 20 => zval ν (lowZ 0 12) | 21 => zval ν (lowZ 1 12) | 22 => zval ν (lowZ 2 40) | 50 => zval ν (lowZ 0 12) * zval ν (lowZ 1 12) | 55 => zval ν (lowZ 0 12) * zval ν (lowZ 1 12) * 100 | 56 => 2 * zval ν (lowZ 2 40) | 54 => Y | 52 => U
  | 10 => 48 + (zval ν (lowZ 0 12))
  | 12 => 48 + (zval ν (lowZ 1 12))
  | n => ν n
def lp12Nv (ν : Nat → Int) (Y U : Int) : Nat → Int := fun n => match n with
  | 20 => zval ν (lowZ 0 12) | 21 => zval ν (lowZ 1 12) | 22 => zval ν (lowZ 2 40) | 50 => zval ν (lowZ 0 12) * zval ν (lowZ 1 12) | 55 => zval ν (lowZ 0 12) * zval ν (lowZ 1 12) * 100 | 56 => 2 * zval ν (lowZ 2 40) | 54 => Y | 52 => U
  | 10 => 48 + (zval ν (lowZ 0 12))
  | 12 => 48 + (zval ν (lowZ 1 12)) / 10
  | 13 => 48 + (zval ν (lowZ 1 12)) % 10
  | 16 => (zval ν (lowZ 1 12)) / 10
  | 17 => (zval ν (lowZ 1 12)) % 10
  | n => ν n
def lp21Nv (ν : Nat → Int) (Y U : Int) : Nat → Int := fun n => match n with
  | 20 => zval ν (lowZ 0 12) | 21 => zval ν (lowZ 1 12) | 22 => zval ν (lowZ 2 40) | 50 => zval ν (lowZ 0 12) * zval ν (lowZ 1 12) | 55 => zval ν (lowZ 0 12) * zval ν (lowZ 1 12) * 100 | 56 => 2 * zval ν (lowZ 2 40) | 54 => Y | 52 => U
  | 10 => 48 + (zval ν (lowZ 0 12)) / 10
  | 11 => 48 + (zval ν (lowZ 0 12)) % 10
  | 12 => 48 + (zval ν (lowZ 1 12))
  | 14 => (zval ν (lowZ 0 12)) / 10
  | 15 => (zval ν (lowZ 0 12)) % 10
  | n => ν n
def lp22Nv (ν : Nat → Int) (Y U : Int) : Nat → Int := fun n => match n with
  | 20 => zval ν (lowZ 0 12) | 21 => zval ν (lowZ 1 12) | 22 => zval ν (lowZ 2 40) | 50 => zval ν (lowZ 0 12) * zval ν (lowZ 1 12) | 55 => zval ν (lowZ 0 12) * zval ν (lowZ 1 12) * 100 | 56 => 2 * zval ν (lowZ 2 40) | 54 => Y | 52 => U
  | 10 => 48 + (zval ν (lowZ 0 12)) / 10
  | 11 => 48 + (zval ν (lowZ 0 12)) % 10
  | 12 => 48 + (zval ν (lowZ 1 12)) / 10
  | 13 => 48 + (zval ν (lowZ 1 12)) % 10
  | 14 => (zval ν (lowZ 0 12)) / 10
  | 15 => (zval ν (lowZ 0 12)) % 10
  | 16 => (zval ν (lowZ 1 12)) / 10
  | 17 => (zval ν (lowZ 1 12)) % 10
  | n => ν n
theorem topLoops_any (x y z : Int) (w : World) (hA : Tp.Asc w) : Calls Tryz.prog 5 #[.int .i64 x, .int .i64 y, .int .i64 z] w (fun e w' => e = .returned (.bool true) ∧ Below w.heap.size w w') := by
  have H : ∀ ν : Nat → Int, ν 0 = x → ν 1 = y → ν 2 = z → Calls Tryz.prog 5 #[.int .i64 x, .int .i64 y, .int .i64 z] w (fun e w' => e = .returned (.bool true) ∧ Below w.heap.size w w') := by
    intro ν x0 x1 x2
    obtain ⟨b0, c0⟩ := low_in (ν := ν) 0 12 (by decide) (by decide)
    obtain ⟨b1, c1⟩ := low_in (ν := ν) 1 12 (by decide) (by decide)
    obtain ⟨b2, c2⟩ := low_in (ν := ν) 2 40 (by decide) (by decide)
    obtain ⟨m0, m1⟩ := lp_mul b0 c0 b1 c1
    have hv : ∀ ν' : Nat → Int, ν' 0 = x → ν' 1 = y → ν' 2 = z → VRs ν' (pl0 w [4]) [.i .i64 (.var 0), .i .i64 (.var 1), .i .i64 (.var 2)] [.int .i64 x, .int .i64 y, .int .i64 z] := by
      intro ν' e0 e1 e2
      simp [VRs, VR, zval, e0, e1, e2]
    obtain g | g : (0 ≤ zval ν (lowZ 0 12) ∧ zval ν (lowZ 0 12) < 10) ∨ (10 ≤ zval ν (lowZ 0 12) ∧ zval ν (lowZ 0 12) < 100) := by omega
    · obtain k | k : (0 ≤ zval ν (lowZ 1 12) ∧ zval ν (lowZ 1 12) < 10) ∨ (10 ≤ zval ν (lowZ 1 12) ∧ zval ν (lowZ 1 12) < 100) := by omega
      · by_cases l : zval ν (lowZ 2 40) < 1
        · exact lp11a (ν := lp11Nv ν (zval ν (lowZ 0 12) * zval ν (lowZ 1 12) * 100 - 1) (311 + 11 * zval ν (lowZ 0 12) + 14 * (zval ν (lowZ 0 12) * zval ν (lowZ 1 12)))) rfl rfl g k rfl rfl rfl rfl m0 m1 rfl rfl rfl rfl l w hA (hv _ x0 x1 x2)
        · have l : 1 ≤ zval ν (lowZ 2 40) := by omega
          by_cases l2 : zval ν (lowZ 2 40) ≤ 21
          · exact lp11b (ν := lp11Nv ν (zval ν (lowZ 0 12) * zval ν (lowZ 1 12) * 100 + 2 * zval ν (lowZ 2 40)) (13 + 11 * zval ν (lowZ 0 12) + 14 * (zval ν (lowZ 0 12) * zval ν (lowZ 1 12)) + 14 * zval ν (lowZ 2 40))) rfl rfl g k rfl rfl rfl rfl m0 m1 rfl rfl rfl rfl l l2 w hA (hv _ x0 x1 x2)
          · exact lp11c (ν := lp11Nv ν (zval ν (lowZ 0 12) * zval ν (lowZ 1 12) * 100 - 1) (311 + 11 * zval ν (lowZ 0 12) + 14 * (zval ν (lowZ 0 12) * zval ν (lowZ 1 12)))) rfl rfl g k rfl rfl rfl rfl m0 m1 rfl rfl rfl rfl (by show 21 < zval ν (lowZ 2 40); omega) w hA (hv _ x0 x1 x2)
      · by_cases l : zval ν (lowZ 2 40) < 1
        · exact lp12a (ν := lp12Nv ν (zval ν (lowZ 0 12) * zval ν (lowZ 1 12) * 100 - 1) (311 + 11 * zval ν (lowZ 0 12) + 14 * (zval ν (lowZ 0 12) * zval ν (lowZ 1 12)))) rfl rfl g k rfl rfl rfl rfl rfl rfl rfl m0 m1 rfl rfl rfl rfl l w hA (hv _ x0 x1 x2)
        · have l : 1 ≤ zval ν (lowZ 2 40) := by omega
          by_cases l2 : zval ν (lowZ 2 40) ≤ 21
          · exact lp12b (ν := lp12Nv ν (zval ν (lowZ 0 12) * zval ν (lowZ 1 12) * 100 + 2 * zval ν (lowZ 2 40)) (13 + 11 * zval ν (lowZ 0 12) + 14 * (zval ν (lowZ 0 12) * zval ν (lowZ 1 12)) + 14 * zval ν (lowZ 2 40))) rfl rfl g k rfl rfl rfl rfl rfl rfl rfl m0 m1 rfl rfl rfl rfl l l2 w hA (hv _ x0 x1 x2)
          · exact lp12c (ν := lp12Nv ν (zval ν (lowZ 0 12) * zval ν (lowZ 1 12) * 100 - 1) (311 + 11 * zval ν (lowZ 0 12) + 14 * (zval ν (lowZ 0 12) * zval ν (lowZ 1 12)))) rfl rfl g k rfl rfl rfl rfl rfl rfl rfl m0 m1 rfl rfl rfl rfl (by show 21 < zval ν (lowZ 2 40); omega) w hA (hv _ x0 x1 x2)
    · obtain k | k : (0 ≤ zval ν (lowZ 1 12) ∧ zval ν (lowZ 1 12) < 10) ∨ (10 ≤ zval ν (lowZ 1 12) ∧ zval ν (lowZ 1 12) < 100) := by omega
      · by_cases l : zval ν (lowZ 2 40) < 1
        · exact lp21a (ν := lp21Nv ν (zval ν (lowZ 0 12) * zval ν (lowZ 1 12) * 100 - 1) (311 + 11 * zval ν (lowZ 0 12) + 14 * (zval ν (lowZ 0 12) * zval ν (lowZ 1 12)))) rfl rfl g k rfl rfl rfl rfl rfl rfl rfl m0 m1 rfl rfl rfl rfl l w hA (hv _ x0 x1 x2)
        · have l : 1 ≤ zval ν (lowZ 2 40) := by omega
          by_cases l2 : zval ν (lowZ 2 40) ≤ 21
          · exact lp21b (ν := lp21Nv ν (zval ν (lowZ 0 12) * zval ν (lowZ 1 12) * 100 + 2 * zval ν (lowZ 2 40)) (13 + 11 * zval ν (lowZ 0 12) + 14 * (zval ν (lowZ 0 12) * zval ν (lowZ 1 12)) + 14 * zval ν (lowZ 2 40))) rfl rfl g k rfl rfl rfl rfl rfl rfl rfl m0 m1 rfl rfl rfl rfl l l2 w hA (hv _ x0 x1 x2)
          · exact lp21c (ν := lp21Nv ν (zval ν (lowZ 0 12) * zval ν (lowZ 1 12) * 100 - 1) (311 + 11 * zval ν (lowZ 0 12) + 14 * (zval ν (lowZ 0 12) * zval ν (lowZ 1 12)))) rfl rfl g k rfl rfl rfl rfl rfl rfl rfl m0 m1 rfl rfl rfl rfl (by show 21 < zval ν (lowZ 2 40); omega) w hA (hv _ x0 x1 x2)
      · by_cases l : zval ν (lowZ 2 40) < 1
        · exact lp22a (ν := lp22Nv ν (zval ν (lowZ 0 12) * zval ν (lowZ 1 12) * 100 - 1) (311 + 11 * zval ν (lowZ 0 12) + 14 * (zval ν (lowZ 0 12) * zval ν (lowZ 1 12)))) rfl rfl g k rfl rfl rfl rfl rfl rfl rfl rfl rfl rfl m0 m1 rfl rfl rfl rfl l w hA (hv _ x0 x1 x2)
        · have l : 1 ≤ zval ν (lowZ 2 40) := by omega
          by_cases l2 : zval ν (lowZ 2 40) ≤ 21
          · exact lp22b (ν := lp22Nv ν (zval ν (lowZ 0 12) * zval ν (lowZ 1 12) * 100 + 2 * zval ν (lowZ 2 40)) (13 + 11 * zval ν (lowZ 0 12) + 14 * (zval ν (lowZ 0 12) * zval ν (lowZ 1 12)) + 14 * zval ν (lowZ 2 40))) rfl rfl g k rfl rfl rfl rfl rfl rfl rfl rfl rfl rfl m0 m1 rfl rfl rfl rfl l l2 w hA (hv _ x0 x1 x2)
          · exact lp22c (ν := lp22Nv ν (zval ν (lowZ 0 12) * zval ν (lowZ 1 12) * 100 - 1) (311 + 11 * zval ν (lowZ 0 12) + 14 * (zval ν (lowZ 0 12) * zval ν (lowZ 1 12)))) rfl rfl g k rfl rfl rfl rfl rfl rfl rfl rfl rfl rfl m0 m1 rfl rfl rfl rfl (by show 21 < zval ν (lowZ 2 40); omega) w hA (hv _ x0 x1 x2)
  exact H (fun n => match n with | 0 => x | 1 => y | _ => z) rfl rfl rfl
end Go.Proofs.YtoinghomkcjkcaaGreatDoor
