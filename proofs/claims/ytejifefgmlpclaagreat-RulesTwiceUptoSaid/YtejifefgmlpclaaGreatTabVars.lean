/- Lists of variables: SameVars of two that are the same, OverVars, as walks. -/
import Derived.Test.YtejifefgmlpclaaGreatTabA
import Derived.Test.YtejifefgmlpclaaGreatRowsK
import Derived.Test.YtejifefgmlpclaaGreatInts
import Derived.WalkSpells
import Derived.WalkLawsBesides
import Derived.LoopTactic
import Derived.Deep.QuietTactic
import Derived.BigQuiet
import Derived.OwnWalk
set_option linter.unusedSimpArgs false
set_option linter.unusedVariables false
namespace Go.Proofs.YtejifefgmlpclaaGreat
open Go.RowKit

theorem Vd.len (l : List Vd) : ∀ r ∈ l.map Vd.cells, r.length = 8 := by
  intro r hr; obtain ⟨p, _, rfl⟩ := List.mem_map.1 hr; rfl
theorem info_var : (Tryz.prog.info? 55).map (fun i => (i.zero, i.size, i.bytes)) = some (some (.agg #[.string ⟨#[]⟩, .int .i64 0, .int .i64 0, .int .i64 0, .string ⟨#[]⟩, .int .i64 0, .int .i64 0, .int .i64 0]), 8, 80) := by kernel_rfl
theorem Vd.one {l : List Vd} : ∀ x ∈ (l.map Vd.cells).flatten, x.oneCell' = true := by
  intro x hx
  obtain ⟨r, hr, hx⟩ := List.mem_flatten.1 hx
  obtain ⟨v, _, rfl⟩ := List.mem_map.1 hr
  simp [Vd.cells] at hx
  rcases hx with rfl | rfl | rfl | rfl | rfl | rfl | rfl | rfl <;> rfl
theorem Rows.var {w : World} {B : Nat} {A : Option Addr} {l : List Vd} (h : Rows w B 8 A (l.map Vd.cells)) (hn : 0 < l.length) :
    ∃ b off, A = some ⟨b, off, none⟩ ∧ b < B ∧ ∀ i v, l[i]? = some v → ∀ j x, v.cells[j]? = some x → w.cell? ⟨b, off + i * 8 + j, none⟩ = some x := by
  obtain ⟨b, off, h1, h2, h3⟩ := h (by simpa using hn)
  exact ⟨b, off, h1, h2, fun i p hp j x hx => h3 i (Vd.cells p) (by simp [hp]) j x hx⟩

end Go.Proofs.YtejifefgmlpclaaGreat
