/- The contracts of package word once more, each with its answer named by whoever calls; and the laws' own awake. -/
import Derived.Test.YtifnbaaphibofaaWordB
import Derived.Test.YtifnbaaphibofaaWordC
import Derived.Test.YtifnbaaphibofaaWordD
namespace Go.Proofs.Ytifnbaaphibofaa
open Go.RowKit

theorem fit_is (n r : Int) (h : Wd.fit n = r) (w : World) :
    Calls Try.prog 11 #[.int .i64 n] w fun e w' => e = .returned (.int .i64 r) ∧ w = w' := by
  rw [← h]; exact fit_any n w
theorem neg_is (n r : Int) (h : Wd.fit (-n) = r) (w : World) :
    Calls Try.prog 13 #[.int .i64 n] w fun e w' => e = .returned (.int .i64 r) ∧ w = w' := by
  rw [← h]; exact neg_any n w
theorem not_is (n r : Int) (h : Wd.one (n == 0) = r) (w : World) :
    Calls Try.prog 15 #[.int .i64 n] w fun e w' => e = .returned (.int .i64 r) ∧ w = w' := by
  rw [← h]; exact not_any n w
theorem do_1is (a b r : Int) (h : Wd.fit (a + b) = r) (w : World) :
    Calls Try.prog 9 #[.int .i64 1, .int .i64 a, .int .i64 b] w fun e w' => e = .returned (.tuple #[.int .i64 r, .bool true]) ∧ w = w' := by
  rw [← h]; exact do_1 a b w
theorem do_2is (a b r : Int) (h : Wd.fit (a - b) = r) (w : World) :
    Calls Try.prog 9 #[.int .i64 2, .int .i64 a, .int .i64 b] w fun e w' => e = .returned (.tuple #[.int .i64 r, .bool true]) ∧ w = w' := by
  rw [← h]; exact do_2 a b w
theorem do_3is (a b r : Int) (h : Wd.fit (a * b) = r) (w : World) :
    Calls Try.prog 9 #[.int .i64 3, .int .i64 a, .int .i64 b] w fun e w' => e = .returned (.tuple #[.int .i64 r, .bool true]) ∧ w = w' := by
  rw [← h]; exact do_3 a b w
theorem do_4nis (a b r : Int) (hb : ¬ b = 0) (h : Wd.fit (a.tdiv b) = r) (w : World) :
    Calls Try.prog 9 #[.int .i64 4, .int .i64 a, .int .i64 b] w fun e w' => e = .returned (.tuple #[.int .i64 r, .bool true]) ∧ w = w' := by
  rw [← h]; exact do_4n a b w hb
theorem do_5nis (a b r : Int) (hb : ¬ b = 0) (h : Wd.fit (a.tmod b) = r) (w : World) :
    Calls Try.prog 9 #[.int .i64 5, .int .i64 a, .int .i64 b] w fun e w' => e = .returned (.tuple #[.int .i64 r, .bool true]) ∧ w = w' := by
  rw [← h]; exact do_5n a b w hb
theorem do_6is (a b r : Int) (h : Wd.one (a == b) = r) (w : World) :
    Calls Try.prog 9 #[.int .i64 6, .int .i64 a, .int .i64 b] w fun e w' => e = .returned (.tuple #[.int .i64 r, .bool true]) ∧ w = w' := by
  rw [← h]; exact do_6 a b w
theorem do_7is (a b r : Int) (h : Wd.one (a != b) = r) (w : World) :
    Calls Try.prog 9 #[.int .i64 7, .int .i64 a, .int .i64 b] w fun e w' => e = .returned (.tuple #[.int .i64 r, .bool true]) ∧ w = w' := by
  rw [← h]; exact do_7 a b w
theorem do_8is (a b r : Int) (h : Wd.one (decide (a < b)) = r) (w : World) :
    Calls Try.prog 9 #[.int .i64 8, .int .i64 a, .int .i64 b] w fun e w' => e = .returned (.tuple #[.int .i64 r, .bool true]) ∧ w = w' := by
  rw [← h]; exact do_8 a b w
theorem do_9is (a b r : Int) (h : Wd.one (decide (a ≤ b)) = r) (w : World) :
    Calls Try.prog 9 #[.int .i64 9, .int .i64 a, .int .i64 b] w fun e w' => e = .returned (.tuple #[.int .i64 r, .bool true]) ∧ w = w' := by
  rw [← h]; exact do_9 a b w
theorem do_10is (a b r : Int) (h : Wd.one (decide (b < a)) = r) (w : World) :
    Calls Try.prog 9 #[.int .i64 10, .int .i64 a, .int .i64 b] w fun e w' => e = .returned (.tuple #[.int .i64 r, .bool true]) ∧ w = w' := by
  rw [← h]; exact do_10 a b w
theorem do_11is (a b r : Int) (h : Wd.one (decide (b ≤ a)) = r) (w : World) :
    Calls Try.prog 9 #[.int .i64 11, .int .i64 a, .int .i64 b] w fun e w' => e = .returned (.tuple #[.int .i64 r, .bool true]) ∧ w = w' := by
  rw [← h]; exact do_11 a b w
theorem do_12is (a b r : Int) (h : Wd.one (a != 0 && b != 0) = r) (w : World) :
    Calls Try.prog 9 #[.int .i64 12, .int .i64 a, .int .i64 b] w fun e w' => e = .returned (.tuple #[.int .i64 r, .bool true]) ∧ w = w' := by
  rw [← h]
  by_cases ha : a = 0
  · subst ha; exact do_12z b w
  · exact do_12n a b w ha
theorem do_13is (a b r : Int) (h : Wd.one (a != 0 || b != 0) = r) (w : World) :
    Calls Try.prog 9 #[.int .i64 13, .int .i64 a, .int .i64 b] w fun e w' => e = .returned (.tuple #[.int .i64 r, .bool true]) ∧ w = w' := by
  rw [← h]
  by_cases ha : a = 0
  · subst ha; exact do_13z b w
  · exact do_13n a b w ha
theorem do_14is (a b r : Int) (h : Wd.one (!((a != 0) == (b != 0))) = r) (w : World) :
    Calls Try.prog 9 #[.int .i64 14, .int .i64 a, .int .i64 b] w fun e w' => e = .returned (.tuple #[.int .i64 r, .bool true]) ∧ w = w' := by
  rw [← h]; exact do_14 a b w

set_option maxHeartbeats 400000 in
theorem awake_any (w : World) :
    Calls Try.prog 17 #[] w fun e w' => e = .returned (.bool true) ∧ w = w' := by
  go_enter Try.func17, Try.ntmps17
  go_wp2_with fail
  refine (do_1is _ _ (-32768) (by decide) _).mono ?_; rintro e w' ⟨rfl, rfl⟩
  go_wp2_with fail
  refine (do_4z _ _).mono ?_; rintro e w' ⟨rfl, rfl⟩
  go_wp2_with fail
  refine (fit_is _ 1 (by decide) _).mono ?_; rintro e w' ⟨rfl, rfl⟩
  go_wp2_with fail
  refine (neg_is _ (-32768) (by decide) _).mono ?_; rintro e w' ⟨rfl, rfl⟩
  go_wp2_with fail
  refine (not_is _ 1 (by decide) _).mono ?_; rintro e w' ⟨rfl, rfl⟩
  go_wp2_with fail
  go_ret
  exact ⟨rfl, rfl⟩

end Go.Proofs.Ytifnbaaphibofaa
