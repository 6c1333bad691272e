/- The comparison that Which hands on, as a walk. -/
import Derived.Test.YtimojijbjmchkaaDueB
namespace Go.Proofs.Ytimojijbjmchkaa
open Go.RowKit

set_option maxRecDepth 100000 in
set_option maxHeartbeats 1000000 in
theorem which1_any (b off len cap : Nat) (pj : Nat) (f : Nat → Int) (i j : Nat) (w : World)
    (hp : w.cell? ⟨pj, 0, none⟩ = some (.slice (some ⟨b, off, none⟩) len cap)) (hi : i < len) (hj : j < len) (_hlen : len ≤ 20)
    (fi : w.cell? ⟨b, off + i * 3 + 2, none⟩ = some (.int .i64 (f i))) (fj : w.cell? ⟨b, off + j * 3 + 2, none⟩ = some (.int .i64 (f j))) :
    Calls Try.prog 19 #[.int .i64 i, .int .i64 j, .pointer (some ⟨pj, 0, none⟩)] w fun e w' => e = .returned (.int .i64 (Du.cmp (f i) (f j))) ∧ ∃ n, w' = w.drewN n := by
  have i0 : (0 : Int) ≤ (i : Int) := by omega
  have j0 : (0 : Int) ≤ (j : Int) := by omega
  have i1 : (i : Int) < (len : Int) := by omega
  have j1 : (j : Int) < (len : Int) := by omega
  go_enter Try.func19, Try.ntmps19
  go_wp2_with fail
  go_quiet ((go_at_call 20; exact quiet_left (compare_any _ _ _)))
  go_wp2_with fail
  go_ret
  exact ⟨rfl, _, rfl⟩
end Go.Proofs.Ytimojijbjmchkaa
