/- What was handed in, as the walks want it. -/
import Derived.Test.YtgampjagafcbbaaGreatDoorProg
import Derived.ProofKit
import Derived.Below
import Derived.Carry
import Derived.KernelRfl
namespace Go.Proofs.YtgampjagafcbbaaGreatDoor
set_option linter.constructorNameAsVariable false
set_option linter.unusedVariables false
set_option linter.unusedSimpArgs false
open Go.ChangeShapes Go.WideShapes Go.ChangeAt Go.RowKit

theorem cells_int : Tryz.prog.cellsOf 3 = 1 := by kernel_rfl
/-- A slice of numbers that was handed in, as the walks want it. -/
theorem ints_open {H : Type} {enc : TypeId × Value → H} {W : World} {fuel : Nat} {a0 : Option Addr} {len cap : Nat} {d : DataW H} {p : List MemPlace}
    (hf : DataW.trod enc Tryz.prog W 0 (fun _ => true) true fuel 38 [.slice a0 len cap] = some (d, p)) (hlt : ∀ x ∈ p, x.block < W.heap.size) :
    ∃ (b off : Nat) (zs : Nat → Int), (0 < len → a0 = some ⟨b, off, none⟩) ∧ (0 < len → b < W.heap.size) ∧ (∀ i, i < len → W.cell? ⟨b, off + i, none⟩ = some (.int .i64 (zs i))) ∧ (∀ i, i < len → (Lit.int .i64 (zs i)).wf = true) := by
  rcases open_ints Tryz.underlying38 Tryz.underlying3 cells_int hf with ⟨hcs, hx⟩ | ⟨a, len', cap', zs, hcs, _, hl, hm, hz, hx, hcell, hwz⟩
  · simp at hcs
    obtain ⟨rfl, rfl, rfl⟩ := hcs
    exact ⟨0, 0, fun _ => 0, fun h => by omega, fun h => by omega, fun i h => by omega, fun i h => by omega⟩
  · simp at hcs
    obtain ⟨rfl, rfl, rfl⟩ := hcs
    simp only [Prod.mk.injEq] at hx
    obtain ⟨rfl, rfl⟩ := hx
    simp only [if_true] at hz
    by_cases hl0 : len = 0
    · exact ⟨0, 0, fun _ => 0, fun h => by omega, fun h => by omega, fun i h => by omega, fun i h => by omega⟩
    · obtain ⟨b, off, spot⟩ := a
      have hspot : spot = none := by simpa [Addr.add] using World.cell?_spot (hcell 0 (by omega))
      subst hspot
      refine ⟨b, off, fun i => zs.getD i 0, fun _ => rfl, fun _ => hlt (.cell b off) (MemPlace.mem_row.2 ⟨0, by omega, by simp⟩), fun i hi => ?_, fun i hi => ?_⟩
      · rw [← add_plain]; exact hcell i (by omega)
      · have h : i < zs.length := by omega
        simp only [List.getD_eq_getElem?_getD, List.getElem?_eq_getElem h, Option.getD_some]
        exact hwz _ (List.getElem_mem h)

end Go.Proofs.YtgampjagafcbbaaGreatDoor
