/- The contracts of package governorref2: Fit, one, Neg, Not, as walks. -/
import Derived.Test.YtifnbaaphibofaaProg
import Derived.Test.YtifnbaaphibofaaWordSpec
import Derived.Test.YtifnbaaphibofaaAid
import Derived.WalkKit
import Derived.WalkSpells
import Derived.WalkLawsBesides
namespace Go.Proofs.Ytifnbaaphibofaa
open Go.RowKit

set_option maxHeartbeats 400000 in
theorem rfit_any (n : Int) (w : World) :
    Calls Try.prog 12 #[.int .i64 n] w fun e w' => e = .returned (.int .i64 (Wd.fit n)) ∧ w = w' := by
  go_enter Try.func12, Try.ntmps12
  go_wp2
  go_ret
  exact ⟨by simp [Wd.fit_wrap16, Wd.wrap64_fit, Wd.fit_wraps], rfl⟩

set_option maxHeartbeats 400000 in
theorem rone_any (b : Bool) (w : World) :
    Calls Try.prog 19 #[.bool b] w fun e w' => e = .returned (.int .i64 (Wd.one b)) ∧ w = w' := by
  cases b <;>
  · go_enter Try.func19, Try.ntmps19
    go_wp2
    go_ret
    exact ⟨rfl, rfl⟩

set_option maxHeartbeats 400000 in
theorem rneg_any (a : Int) (w : World) :
    Calls Try.prog 14 #[.int .i64 a] w fun e w' => e = .returned (.int .i64 (Wd.fit (-a))) ∧ w = w' := by
  go_enter Try.func14, Try.ntmps14
  go_wp2_with (go_at_call 12; refine (rfit_any _ _).mono ?_; rintro e w' ⟨rfl, rfl⟩)
  go_ret
  exact ⟨by simp [Wd.fit_wrap64], rfl⟩

set_option maxHeartbeats 400000 in
theorem rnot_any (a : Int) (w : World) :
    Calls Try.prog 16 #[.int .i64 a] w fun e w' => e = .returned (.int .i64 (Wd.one (a == 0))) ∧ w = w' := by
  go_enter Try.func16, Try.ntmps16
  go_wp2_with (go_at_call 19; refine (rone_any _ _).mono ?_; rintro e w' ⟨rfl, rfl⟩)
  go_ret
  exact ⟨rfl, rfl⟩

end Go.Proofs.Ytifnbaaphibofaa
