/- Small laws for walks: how an ending passes through what stands behind it, and through a block. (The walk's own step rewrites all of them at once, and the kernel then takes a minute at a switch with fallthrough; one law at a time it takes none.) -/
import Derived.WalkKit
set_option linter.unusedSimpArgs false
set_option linter.unusedVariables false
namespace Go.Proofs.YtejifefgmlpclaaGreat.Aid
/-- A hypothesis that no tactic looks into till it is opened. -/
def Kept (p : Prop) : Prop := p
theorem Kept.out {p : Prop} (h : Kept p) : p := h
theorem hid {p : Prop} (h : p) : Go.RowKit.Hid p := h
theorem ret_int {k : IntKind} {a b : Int} (h : a = b) : Ending.returned (.int k a) = .returned (.int k b) := by rw [h]
theorem ret_bool {a b : Bool} (h : a = b) : Ending.returned (.bool a) = .returned (.bool b) := by rw [h]
open Go.RowKit in
theorem bcell {W w1 : World} (hb : Below W.heap.size W w1) : (∀ b o, b < W.heap.size → w1.cell? ⟨b, o, none⟩ = W.cell? ⟨b, o, none⟩) ∧ (∀ b o, b < W.heap.size → w1.frozen? ⟨b, o, none⟩ = W.frozen? ⟨b, o, none⟩) :=
  ⟨fun b o h => hb.cell (p := ⟨b, o, none⟩) h, fun b o h => hb.frozen (p := ⟨b, o, none⟩) h⟩
/-! ### A block that is known whole -/
section
open Go.RowKit
/-- Block b is a row of cells of type t that hold xs; none is frozen. -/
def Has (w : World) (b : Nat) (xs : List Value) (t : TypeId) : Prop := w.heap[b]? = some (.cells xs.toArray t (0, 0))
variable {w w' : World} {b : Nat} {xs : List Value} {t : TypeId}
theorem Has.lt (h : Has w b xs t) : b < w.heap.size := (Array.getElem?_eq_some_iff.1 h).1
theorem Has.cell (h : Has w b xs t) (j : Nat) (v : Value) (hj : xs[j]? = some v) : w.cell? ⟨b, j, none⟩ = some v := by
  unfold Has at h; simp [World.cell?, h, hj]
theorem Has.frozen (h : Has w b xs t) (j : Nat) : w.frozen? ⟨b, j, none⟩ = false := by
  unfold Has at h; simp [World.frozen?, h]
theorem Has.below {B : Nat} (h : Has w b xs t) (hb : Below B w w') (hlt : b < B) : Has w' b xs t := (hb.block b hlt).trans h
theorem Has.alloc (h : Has w b xs t) (o : Obj) : Has (w.alloc o) b xs t := (Below.heap_alloc w o b h.lt).trans h
theorem Has.new (w : World) (xs : List Value) (t : TypeId) : Has (w.alloc (.cells xs.toArray t)) w.heap.size xs t := by
  unfold Has World.alloc; simp
theorem Has.set (h : Has w b xs t) (j : Nat) (v : Value) : Has (w.setCell ⟨b, j, none⟩ v) b (xs.set j v) t := by
  unfold Has at h ⊢; simp [World.setCell, Array.getElem?_modify, h]
theorem Has.other (h : Has w b xs t) (a : Addr) (v : Value) (hne : b ≠ a.block) : Has (w.setCell a v) b xs t := (Below.heap_setCell w a v b hne).trans h
theorem Has.drew (h : Has w b xs t) : Has w.drew b xs t := h
theorem wp_abs {P : Program} {c : Code} {Q : Exit → Act → World → Prop} {a : Act} {w : World} (I : World → Prop) (hI : I w) (h : ∀ w, I w → Code.wp P c Q a w) : Code.wp P c Q a w := h w hI
theorem size_setCell (w : World) (a : Addr) (v : Value) : (w.setCell a v).heap.size = w.heap.size := by simp [World.setCell]
end
section
variable {K : Act → World → Prop} {Q : Exit → Act → World → Prop} {i j : Nat} {a : Act} {w : World}
theorem then_exit (h : Q (.exit j) a w) : Exit.then K Q (.exit j) a w := h
theorem then_ret (h : Q .ret a w) : Exit.then K Q .ret a w := h
theorem then_normal (h : K a w) : Exit.then K Q .normal a w := h
theorem block_hit (h : Q .normal a w) : Exit.inBlock j Q (.exit j) a w := by
  simp only [Exit.inBlock, if_true]; exact h
theorem block_miss (e : (j == i) = false) (h : Q (.exit j) a w) : Exit.inBlock i Q (.exit j) a w := by
  have : ¬ j = i := by simpa using e
  simp only [Exit.inBlock, if_neg this]; exact h
theorem block_ret (h : Q .ret a w) : Exit.inBlock j Q .ret a w := h
theorem block_normal (h : Q .normal a w) : Exit.inBlock j Q .normal a w := h
end
end Go.Proofs.YtejifefgmlpclaaGreat.Aid
