/- Lists of numbers, as they lie in memory. -/
import Derived.Test.YtejifefgmlpclaaGreatProg
import Derived.Test.YtejifefgmlpclaaGreatAid
import Derived.Test.YtejifefgmlpclaaGreatMem
import Derived.WalkKit
import Derived.WalkSpells
import Derived.WalkLawsBesides
import Derived.Deep.QuietTactic
import Derived.BigQuiet
set_option linter.unusedSimpArgs false
set_option linter.unusedVariables false
namespace Go.Proofs.YtejifefgmlpclaaGreat
open Go.RowKit

theorem info_int : (Tryz.prog.info? 3).map (fun i => (i.zero, i.size, i.bytes)) = some (some (.int .i64 0), 1, 8) := by kernel_rfl

/-- The slice of address A reads as the list xs, and lies below block B. -/
def IntsAt (w : World) (B : Nat) (A : Option Addr) (xs : List Int) : Prop := Reads w B 1 A xs.length (xs.map (Value.int .i64))
theorem IntsAt.at_ {w : World} {B : Nat} {A : Option Addr} {xs : List Int} {k : Nat} (h : IntsAt w B A xs) (hk : k < xs.length) :
    ∃ ad, A = some ad ∧ ad.block < B ∧ ∀ j x, xs[j]? = some x → w.cell? (ad.add j) = some (.int .i64 x) := by
  obtain ⟨ad, h1, h2, h3⟩ := h.2 (by omega)
  exact ⟨ad, h1, h2, fun j x hj => h3 j _ (by simp [hj])⟩
theorem IntsAt.nil_ (w : World) (B : Nat) (A : Option Addr) : IntsAt w B A [] := ⟨by simp, fun h => absurd h (by simp)⟩
theorem drewN_more (w : World) (m n : Nat) : (w.drewN m).drewN n = w.drewN (m + n) := by simp [World.drewN, Nat.add_assoc]
theorem below_drewN' {B : Nat} {a w : World} (h : Below B a w) (n : Nat) : Below B a (w.drewN n) := ⟨h.os, h.tape, h.output, h.size, h.block⟩
theorem IntsAt.of_own {w : World} {base c : Nat} {A : Option Addr} {xs : List Int} (h : w.ownsRow base 3 1 (.slice A xs.length c) xs.length (xs.map (Value.int .i64))) : IntsAt w w.heap.size A xs := Reads.of_own h
end Go.Proofs.YtejifefgmlpclaaGreat
