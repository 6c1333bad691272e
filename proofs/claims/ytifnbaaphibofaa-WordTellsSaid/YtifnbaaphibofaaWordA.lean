/- The contracts of package word: Fit, one, Neg, Not, as walks. -/
import Derived.Test.YtifnbaaphibofaaProg
import Derived.Test.YtifnbaaphibofaaWordSpec
import Derived.Test.YtifnbaaphibofaaAid
import Derived.WalkKit
import Derived.WalkSpells
import Derived.WalkLawsBesides
namespace Go.Proofs.Ytifnbaaphibofaa
open Go.RowKit

set_option maxHeartbeats 400000 in
theorem fit_any (n : Int) (w : World) :
    Calls Try.prog 11 #[.int .i64 n] w fun e w' => e = .returned (.int .i64 (Wd.fit n)) ∧ w = w' := by
  go_enter Try.func11, Try.ntmps11
  go_wp2
  go_ret
  exact ⟨by simp [Wd.fit_wrap16, Wd.wrap64_fit], rfl⟩

set_option maxHeartbeats 400000 in
theorem one_any (b : Bool) (w : World) :
    Calls Try.prog 18 #[.bool b] w fun e w' => e = .returned (.int .i64 (Wd.one b)) ∧ w = w' := by
  cases b <;>
  · go_enter Try.func18, Try.ntmps18
    go_wp2
    go_ret
    exact ⟨rfl, rfl⟩

set_option maxHeartbeats 400000 in
theorem neg_any (a : Int) (w : World) :
    Calls Try.prog 13 #[.int .i64 a] w fun e w' => e = .returned (.int .i64 (Wd.fit (-a))) ∧ w = w' := by
  go_enter Try.func13, Try.ntmps13
  go_wp2_with (go_at_call 11; refine (fit_any _ _).mono ?_; rintro e w' ⟨rfl, rfl⟩)
  go_ret
  exact ⟨by simp [Wd.fit_wrap64], rfl⟩

set_option maxHeartbeats 400000 in
theorem not_any (a : Int) (w : World) :
    Calls Try.prog 15 #[.int .i64 a] w fun e w' => e = .returned (.int .i64 (Wd.one (a == 0))) ∧ w = w' := by
  go_enter Try.func15, Try.ntmps15
  go_wp2_with (go_at_call 18; refine (one_any _ _).mono ?_; rintro e w' ⟨rfl, rfl⟩)
  go_ret
  exact ⟨rfl, rfl⟩

end Go.Proofs.Ytifnbaaphibofaa
