/- The contracts of package governorref2: Do, no operator, as walks. -/
import Derived.Test.YtifnbaaphibofaaProg
import Derived.Test.YtifnbaaphibofaaWordSpec
import Derived.Test.YtifnbaaphibofaaWordRA
import Derived.Test.YtifnbaaphibofaaAid
import Derived.WalkKit
import Derived.WalkSpells
import Derived.WalkLawsBesides
namespace Go.Proofs.Ytifnbaaphibofaa
open Go.RowKit

set_option maxHeartbeats 800000 in
theorem rdo_no (op a b : Int) (w : World) (h : op < 1 ∨ 14 < op) :
    Calls Try.prog 10 #[.int .i64 op, .int .i64 a, .int .i64 b] w fun e w' => e = .returned (.tuple #[.int .i64 (0), .bool false]) ∧ w = w' := by
  rcases h with h | h
  all_goals
    go_enter Try.func10, Try.ntmps10
    repeat' (first | with_reducible refine Aid.then_exit ?_ | with_reducible refine Aid.block_hit ?_ | with_reducible refine Aid.block_miss rfl ?_ | with_reducible refine Aid.then_ret ?_ | with_reducible refine Aid.block_ret ?_ | with_reducible refine Aid.then_normal ?_ | with_reducible refine Aid.block_normal ?_ | (go_big_may; first | (go_at_call 12; refine (rfit_any _ _).mono ?_; rintro e w' ⟨rfl, rfl⟩; dsimp only) | (go_at_call 19; refine (rone_any _ _).mono ?_; rintro e w' ⟨rfl, rfl⟩; dsimp only)) | go_values | go_skip | go_guarded | go_step | go_upon | go_back | (go_values <;> (try go_simp)) | (go_ite <;> go_prune <;> (try go_simp)) | (split <;> (first | (rename_i hx; exact (hx _ rfl).elim) | go_prune)))
    all_goals (go_ret2; exact ⟨rfl, rfl⟩)

end Go.Proofs.Ytifnbaaphibofaa
