/- Package due, in plain Lean. No program in sight. -/
import Derived.RowKit
namespace Go.Proofs.Ytimojijbjmchkaa.Du
/-- Does a multiple lie above one time, and not above another one? -/
def due (e b a : Int) : Bool := if 1 ≤ e ∧ 0 ≤ b ∧ b ≤ a then decide (b.tdiv e < a.tdiv e) else false
theorem due_1 (e b a : Int) (h : ¬ 1 ≤ e) : due e b a = false := by unfold due; rw [if_neg]; omega
theorem due_2 (e b a : Int) (h : ¬ 0 ≤ b) : due e b a = false := by unfold due; rw [if_neg]; omega
theorem due_3 (e b a : Int) (h : ¬ b ≤ a) : due e b a = false := by unfold due; rw [if_neg]; omega
theorem due_4 (e b a : Int) (h1 : 1 ≤ e) (h2 : 0 ≤ b) (h3 : b ≤ a) : due e b a = decide (b.tdiv e < a.tdiv e) := by unfold due; rw [if_pos ⟨h1, h2, h3⟩]
end Go.Proofs.Ytimojijbjmchkaa.Du
