/- The program's types are laid out as they should: type by type. -/
import Derived.Test.YtoinghomkcjkcaaGreatDoorProg
import Derived.KernelRfl
import GoSem.ClaimDataLaid
namespace Go.Proofs.YtoinghomkcjkcaaGreatDoor
set_option linter.constructorNameAsVariable false
set_option linter.unusedVariables false
set_option linter.unusedSimpArgs false
open Go
theorem Tp.loAt {p : Nat → Bool} {a n t : Nat} (h : (List.range' a n).all p = true) (h1 : a ≤ t) (h2 : t < a + n) : p t = true := List.all_eq_true.1 h t (List.mem_range'_1.2 ⟨h1, h2⟩)
theorem Tp.lo0 : (List.range' 0 60).all (rowFine Tryz.prog) = true := by kernel_rfl
theorem Tp.lo60 : (List.range' 60 60).all (rowFine Tryz.prog) = true := by kernel_rfl
theorem Tp.lo120 : (List.range' 120 60).all (rowFine Tryz.prog) = true := by kernel_rfl
theorem Tp.lo180 : (List.range' 180 60).all (rowFine Tryz.prog) = true := by kernel_rfl
theorem Tp.lo240 : (List.range' 240 60).all (rowFine Tryz.prog) = true := by kernel_rfl
theorem Tp.lo300 : (List.range' 300 60).all (rowFine Tryz.prog) = true := by kernel_rfl
theorem Tp.lo360 : (List.range' 360 60).all (rowFine Tryz.prog) = true := by kernel_rfl
theorem Tp.lo420 : (List.range' 420 60).all (rowFine Tryz.prog) = true := by kernel_rfl
theorem Tp.lo480 : (List.range' 480 60).all (rowFine Tryz.prog) = true := by kernel_rfl
theorem Tp.lo540 : (List.range' 540 60).all (rowFine Tryz.prog) = true := by kernel_rfl
theorem Tp.lo600 : (List.range' 600 60).all (rowFine Tryz.prog) = true := by kernel_rfl
theorem Tp.lo660 : (List.range' 660 10).all (rowFine Tryz.prog) = true := by kernel_rfl
theorem Tp.loSize : Tryz.prog.types.size = 670 := by kernel_rfl
theorem Tp.laidOut : laidOutB Tryz.prog = true := by
  have h : (List.range Tryz.prog.types.size).all (rowFine Tryz.prog) = true := by
    rw [Tp.loSize]
    refine List.all_eq_true.2 fun t ht => ?_
    have h0 := List.mem_range.1 ht
    by_cases h0 : t < 60
    · exact Tp.loAt Tp.lo0 (by omega) (by omega)
    by_cases h60 : t < 120
    · exact Tp.loAt Tp.lo60 (by omega) (by omega)
    by_cases h120 : t < 180
    · exact Tp.loAt Tp.lo120 (by omega) (by omega)
    by_cases h180 : t < 240
    · exact Tp.loAt Tp.lo180 (by omega) (by omega)
    by_cases h240 : t < 300
    · exact Tp.loAt Tp.lo240 (by omega) (by omega)
    by_cases h300 : t < 360
    · exact Tp.loAt Tp.lo300 (by omega) (by omega)
    by_cases h360 : t < 420
    · exact Tp.loAt Tp.lo360 (by omega) (by omega)
    by_cases h420 : t < 480
    · exact Tp.loAt Tp.lo420 (by omega) (by omega)
    by_cases h480 : t < 540
    · exact Tp.loAt Tp.lo480 (by omega) (by omega)
    by_cases h540 : t < 600
    · exact Tp.loAt Tp.lo540 (by omega) (by omega)
    by_cases h600 : t < 660
    · exact Tp.loAt Tp.lo600 (by omega) (by omega)
    exact Tp.loAt Tp.lo660 (by omega) (by omega)
  have h2 : Tryz.prog.globals.all (fun g => decide (g.type < Tryz.prog.types.size)) = true := by kernel_rfl
  have h3 : Tryz.prog.funcs.all (fun f => f.params.all fun t => decide (t < Tryz.prog.types.size)) = true := by kernel_rfl
  unfold laidOutB
  rw [h, h2, h3]
  rfl
end Go.Proofs.YtoinghomkcjkcaaGreatDoor
