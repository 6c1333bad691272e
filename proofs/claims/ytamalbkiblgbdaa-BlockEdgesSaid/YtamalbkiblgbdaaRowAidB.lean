/- A slice of truths that was handed in, as the walks want it. -/
import Derived.Test.YtamalbkiblgbdaaProg
import Derived.ProofKit
import Derived.Below
import Derived.Carry
import Derived.KernelRfl
import Derived.Deep.Grids
namespace Go.Proofs.Ytamalbkiblgbdaa
open Go.ChangeShapes Go.WideShapes Go.ChangeAt Go.RowKit

theorem cells_bool : Try.prog.cellsOf 4 = 1 := by kernel_rfl
theorem bools_open {H : Type} {enc : TypeId × Value → H} {W : World} {fuel : Nat} {a0 : Option Addr} {len cap : Nat} {d : DataW H} {p : List MemPlace}
    (hf : DataW.trod enc Try.prog W 0 (fun _ => true) true fuel 30 [.slice a0 len cap] = some (d, p)) (hlt : ∀ x ∈ p, x.block < W.heap.size) :
    ∃ (b off : Nat) (zs : Nat → Bool), (0 < len → a0 = some ⟨b, off, none⟩) ∧ (0 < len → b < W.heap.size) ∧ (∀ i, i < len → W.cell? ⟨b, off + i, none⟩ = some (.bool (zs i))) := by
  rcases Go.Deep.open_bools Try.underlying30 Try.underlying4 cells_bool hf with ⟨hcs, hx⟩ | ⟨a, len', cap', B, hcs, _, hl, hm, hx, hcell⟩
  · simp at hcs
    obtain ⟨rfl, rfl, rfl⟩ := hcs
    exact ⟨0, 0, fun _ => false, fun h => by omega, fun h => by omega, fun i h => by omega⟩
  · simp at hcs
    obtain ⟨rfl, rfl, rfl⟩ := hcs
    simp only [Prod.mk.injEq] at hx
    obtain ⟨rfl, rfl⟩ := hx
    by_cases hl0 : len = 0
    · exact ⟨0, 0, fun _ => false, fun h => by omega, fun h => by omega, fun i h => by omega⟩
    · obtain ⟨b, off, spot⟩ := a
      have hspot : spot = none := by simpa [Addr.add] using World.cell?_spot (hcell 0 (by omega))
      subst hspot
      refine ⟨b, off, B, fun _ => rfl, fun _ => hlt (.cell b off) (MemPlace.mem_row.2 ⟨0, by omega, by simp⟩), fun i hi => ?_⟩
      rw [← add_plain]; exact hcell i (by omega)
end Go.Proofs.Ytamalbkiblgbdaa
