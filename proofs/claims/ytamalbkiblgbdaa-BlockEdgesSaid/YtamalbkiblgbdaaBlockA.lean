/- Package block: clip and New, as walks. -/
import Derived.Test.YtamalbkiblgbdaaProg
import Derived.Test.YtamalbkiblgbdaaAid
import Derived.Test.YtamalbkiblgbdaaBlockSpec
import Derived.WalkKit
import Derived.WalkSpells
import Derived.WalkLawsBesides
namespace Go.Proofs.Ytamalbkiblgbdaa
open Go.RowKit

set_option maxHeartbeats 400000 in
theorem clip_any (n m : Int) (w : World) :
    Calls Try.prog 10 #[.int .i64 n, .int .i64 m] w fun e w' => e = .returned (.int .i64 (Bk.clip n m)) ∧ w = w' := by
  go_enter Try.func10, Try.ntmps10
  go_wp2
  all_goals (go_ret; exact ⟨Aid.ret_int (by unfold Bk.clip; omega), rfl⟩)
theorem clip_is (n m r : Int) (h : Bk.clip n m = r) (w : World) :
    Calls Try.prog 10 #[.int .i64 n, .int .i64 m] w fun e w' => e = .returned (.int .i64 r) ∧ w = w' := by
  rw [← h]; exact clip_any n m w

set_option maxHeartbeats 400000 in
theorem new_any (k : Int) (w : World) :
    Calls Try.prog 9 #[.int .i64 k] w fun e w' => e = .returned (Bk.v ⟨k, false, false, false, 0⟩) ∧ Below w.heap.size w w' := by
  go_enter Try.func9, Try.ntmps9
  go_wp2
  refine bodyPost_ret (v := Bk.v ⟨k, false, false, false, 0⟩) (by simp [results, Try.results9, go_sem, Bk.v]) rfl ⟨rfl, ?_⟩
  exact (Below.refl _ _).alloc (Nat.le_refl _) _
end Go.Proofs.Ytamalbkiblgbdaa
