/- What is known of numbers: below, within, above two bounds. -/
import Derived.Test.YthfknhkjodgfmaaEvJ
namespace Go.Proofs.Ythfknhkjodgfmaa
set_option linter.unusedSimpArgs false
set_option linter.unusedVariables false
open Go Go.RowKit
namespace Ev
variable {ν : Nat → Int}
noncomputable section
def pLow (z : Z) (lo : Int) : List (Cd × Bool) := [((.geq, z, .lit lo), false), ((.lss, z, .lit lo), true)]
def pIn (z : Z) (lo hi : Int) : List (Cd × Bool) := [((.geq, z, .lit lo), true), ((.lss, z, .lit lo), false), ((.leq, z, .lit hi), true), ((.gtr, z, .lit hi), false)]
def pHigh (z : Z) (lo hi : Int) : List (Cd × Bool) := [((.geq, z, .lit lo), true), ((.lss, z, .lit lo), false), ((.leq, z, .lit hi), false), ((.gtr, z, .lit hi), true)]
end
theorem PathOk.app {l m : List (Cd × Bool)} (h : PathOk ν l) (h' : PathOk ν m) : PathOk ν (Ev.app l m) := by
  rw [app_eq]
  intro c hc
  rcases List.mem_append.1 hc with hc | hc
  · exact h c hc
  · exact h' c hc
theorem path_low {z : Z} {lo : Int} (h : zval ν z < lo) : PathOk ν (pLow z lo) := by
  intro c hc
  simp only [pLow, List.mem_cons, List.not_mem_nil, or_false] at hc
  rcases hc with rfl | rfl <;> simp [cmpI, zval, ltI_eq] <;> omega
theorem path_in {z : Z} {lo hi : Int} (h : lo ≤ zval ν z) (h' : zval ν z ≤ hi) : PathOk ν (pIn z lo hi) := by
  intro c hc
  simp only [pIn, List.mem_cons, List.not_mem_nil, or_false] at hc
  rcases hc with rfl | rfl | rfl | rfl <;> simp [cmpI, zval, ltI_eq] <;> omega
theorem path_high {z : Z} {lo hi : Int} (h : lo ≤ hi) (h' : hi < zval ν z) : PathOk ν (pHigh z lo hi) := by
  intro c hc
  simp only [pHigh, List.mem_cons, List.not_mem_nil, or_false] at hc
  rcases hc with rfl | rfl | rfl | rfl <;> simp [cmpI, zval, ltI_eq] <;> omega
end Ev
end Go.Proofs.Ythfknhkjodgfmaa
