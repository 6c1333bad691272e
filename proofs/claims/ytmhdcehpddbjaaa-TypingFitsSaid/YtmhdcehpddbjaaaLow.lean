/- governorlaw0.Low, as a walk. -/
import Derived.Test.YtmhdcehpddbjaaaProg
import Derived.Test.YtmhdcehpddbjaaaAid
import Derived.WalkKit
import Derived.WalkSpells
import Derived.WalkLawsBesides
namespace Go.Proofs.Ytmhdcehpddbjaaa
open Go.RowKit

/-- A number, from 0 to below n. -/
def low (x n : Int) : Int := (x % 18446744073709551616) % n
theorem low_in (x n : Int) (h : 0 < n) : 0 ≤ low x n ∧ low x n < n := by
  unfold low; exact ⟨Int.emod_nonneg _ (by omega), Int.emod_lt_of_pos _ h⟩
theorem low_walks (x n : Int) (h : 0 < n) (h' : n ≤ 9223372036854775807) : wrap64 ((IntKind.u64.wrap x).tmod n) = low x n := by
  have e1 : IntKind.u64.wrap x = x % 18446744073709551616 := by simp [IntKind.wrap, IntKind.bits, IntKind.signed]
  rw [e1, Int.tmod_eq_emod_of_nonneg (by omega)]
  have := low_in x n h
  unfold low at *; unfold wrap64; omega

set_option maxHeartbeats 400000 in
theorem low_any (x n : Int) (w : World) (h : 0 < n) (h' : n ≤ 9223372036854775807) :
    Calls Try.prog 23 #[.int .i64 x, .int .i64 n] w fun e w' => e = .returned (.int .i64 (low x n)) ∧ w = w' := by
  go_enter Try.func23, Try.ntmps23
  go_wp2_with fail
  go_ret
  exact ⟨Aid.ret_int (low_walks x n h h'), rfl⟩
theorem low_is (x n r : Int) (h : low x n = r) (h1 : 0 < n) (h2 : n ≤ 9223372036854775807) (w : World) :
    Calls Try.prog 23 #[.int .i64 x, .int .i64 n] w fun e w' => e = .returned (.int .i64 r) ∧ w = w' := by
  rw [← h]; exact low_any x n w h1 h2
end Go.Proofs.Ytmhdcehpddbjaaa
