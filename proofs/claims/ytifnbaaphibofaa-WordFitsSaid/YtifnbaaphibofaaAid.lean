/- Small laws for walks: how an ending passes through what stands behind it, and through a block. (The walk's own step rewrites all of them at once, and the kernel then takes a minute at a switch with fallthrough; one law at a time it takes none.) -/
import Derived.WalkKit
namespace Go.Proofs.Ytifnbaaphibofaa.Aid
theorem hid {p : Prop} (h : p) : Go.RowKit.Hid p := h
section
variable {K : Act → World → Prop} {Q : Exit → Act → World → Prop} {i j : Nat} {a : Act} {w : World}
theorem then_exit (h : Q (.exit j) a w) : Exit.then K Q (.exit j) a w := h
theorem then_ret (h : Q .ret a w) : Exit.then K Q .ret a w := h
theorem then_normal (h : K a w) : Exit.then K Q .normal a w := h
theorem block_hit (h : Q .normal a w) : Exit.inBlock j Q (.exit j) a w := by
  simp only [Exit.inBlock, if_true]; exact h
theorem block_miss (e : (j == i) = false) (h : Q (.exit j) a w) : Exit.inBlock i Q (.exit j) a w := by
  have : ¬ j = i := by simpa using e
  simp only [Exit.inBlock, if_neg this]; exact h
theorem block_ret (h : Q .ret a w) : Exit.inBlock j Q .ret a w := h
theorem block_normal (h : Q .normal a w) : Exit.inBlock j Q .normal a w := h
end
end Go.Proofs.Ytifnbaaphibofaa.Aid
