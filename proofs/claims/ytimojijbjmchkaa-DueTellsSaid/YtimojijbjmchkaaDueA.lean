/- Package due, and its reference: Due, Clip, as walks. -/
import Derived.Test.YtimojijbjmchkaaProg
import Derived.Test.YtimojijbjmchkaaAid
import Derived.Test.YtimojijbjmchkaaDueSpec
import Derived.WalkKit
import Derived.WalkSpells
import Derived.WalkLawsBesides
import Derived.Deep.QuietTactic
import Derived.BigQuiet
namespace Go.Proofs.Ytimojijbjmchkaa
open Go.RowKit

theorem tdiv_wrap (a e : Int) (h0 : 0 ≤ a) (h1 : a ≤ 9223372036854775807) (he : 1 ≤ e) : wrap64 (a.tdiv e) = a.tdiv e := by
  have h2 : 0 ≤ a.tdiv e := Int.tdiv_nonneg h0 (by omega)
  have h3 : a.tdiv e ≤ a := Int.tdiv_le_self _ h0
  unfold wrap64; omega

set_option maxRecDepth 100000 in
set_option maxHeartbeats 400000 in
theorem due_walk (e b a : Int) (w : World) (ha : a ≤ 9223372036854775807) :
    Calls Try.prog 11 #[.int .i64 e, .int .i64 b, .int .i64 a] w fun x w' => x = .returned (.bool (Du.due e b a)) ∧ ∃ n, w' = w.drewN n := by
  by_cases h1 : 1 ≤ e
  · by_cases h2 : 0 ≤ b
    · by_cases h3 : b ≤ a
      · have F := Aid.hid (Du.due_4 e b a h1 h2 h3)
        have F1 := Aid.hid (tdiv_wrap a e (by omega) ha h1)
        have F2 := Aid.hid (tdiv_wrap b e (by omega) (by omega) h1)
        clear ha
        go_enter Try.func11, Try.ntmps11
        go_wp2_with fail
        go_quiet (fail)
        go_wp2_with fail
        go_ret
        exact ⟨by rw [F.out]; exact Aid.ret_bool (by rw [F1.out, F2.out]), _, rfl⟩
      · have F := Aid.hid (Du.due_3 e b a h3)
        have k : decide (b ≤ a) = false := by simpa using h3
        go_enter Try.func11, Try.ntmps11
        go_wp2_with fail
        go_quiet (fail)
        go_wp2_with fail
        go_ret
        exact ⟨by rw [F.out]; rfl, _, rfl⟩
    · have F := Aid.hid (Du.due_2 e b a h2)
      have k : decide (0 ≤ b) = false := by simpa using h2
      go_enter Try.func11, Try.ntmps11
      go_wp2_with fail
      go_quiet (fail)
      go_wp2_with fail
      go_ret
      exact ⟨by rw [F.out]; rfl, _, rfl⟩
  · have F := Aid.hid (Du.due_1 e b a h1)
    have k : decide (1 ≤ e) = false := by simpa using h1
    go_enter Try.func11, Try.ntmps11
    go_wp2_with fail
    go_quiet (fail)
    go_wp2_with fail
    go_ret
    exact ⟨by rw [F.out]; rfl, _, rfl⟩

theorem due_any (e b a : Int) (w : World) (ha : a ≤ 9223372036854775807) :
    Calls Try.prog 11 #[.int .i64 e, .int .i64 b, .int .i64 a] w fun x w' => x = .returned (.bool (Du.due e b a)) ∧ Below w.heap.size w w' :=
  (due_walk e b a w ha).mono fun _ _ ⟨h, n, hn⟩ => ⟨h, by rw [hn]; exact ⟨rfl, rfl, rfl, Nat.le_refl _, fun _ _ => rfl⟩⟩
theorem due_is (e b a : Int) (r : Bool) (h : Du.due e b a = r) (w : World) (ha : a ≤ 9223372036854775807) :
    Calls Try.prog 11 #[.int .i64 e, .int .i64 b, .int .i64 a] w fun x w' => x = .returned (.bool r) ∧ Below w.heap.size w w' := by
  rw [← h]; exact due_any e b a w ha

set_option maxRecDepth 100000 in
set_option maxHeartbeats 400000 in
theorem rdue_walk (e b a : Int) (w : World) (ha : a ≤ 9223372036854775807) :
    Calls Try.prog 12 #[.int .i64 e, .int .i64 b, .int .i64 a] w fun x w' => x = .returned (.bool (Du.due e b a)) ∧ ∃ n, w' = w.drewN n := by
  by_cases h1 : 1 ≤ e
  · by_cases h2 : 0 ≤ b
    · by_cases h3 : b ≤ a
      · have F := Aid.hid (Du.due_4 e b a h1 h2 h3)
        have F1 := Aid.hid (tdiv_wrap a e (by omega) ha h1)
        have F2 := Aid.hid (tdiv_wrap b e (by omega) (by omega) h1)
        clear ha
        go_enter Try.func12, Try.ntmps12
        go_wp2_with fail
        go_quiet (fail)
        go_wp2_with fail
        go_ret
        exact ⟨by rw [F.out]; exact Aid.ret_bool (by rw [F1.out, F2.out]), _, rfl⟩
      · have F := Aid.hid (Du.due_3 e b a h3)
        have k : decide (b ≤ a) = false := by simpa using h3
        go_enter Try.func12, Try.ntmps12
        go_wp2_with fail
        go_quiet (fail)
        go_wp2_with fail
        go_ret
        exact ⟨by rw [F.out]; rfl, _, rfl⟩
    · have F := Aid.hid (Du.due_2 e b a h2)
      have k : decide (0 ≤ b) = false := by simpa using h2
      go_enter Try.func12, Try.ntmps12
      go_wp2_with fail
      go_quiet (fail)
      go_wp2_with fail
      go_ret
      exact ⟨by rw [F.out]; rfl, _, rfl⟩
  · have F := Aid.hid (Du.due_1 e b a h1)
    have k : decide (1 ≤ e) = false := by simpa using h1
    go_enter Try.func12, Try.ntmps12
    go_wp2_with fail
    go_quiet (fail)
    go_wp2_with fail
    go_ret
    exact ⟨by rw [F.out]; rfl, _, rfl⟩

theorem rdue_any (e b a : Int) (w : World) (ha : a ≤ 9223372036854775807) :
    Calls Try.prog 12 #[.int .i64 e, .int .i64 b, .int .i64 a] w fun x w' => x = .returned (.bool (Du.due e b a)) ∧ Below w.heap.size w w' :=
  (rdue_walk e b a w ha).mono fun _ _ ⟨h, n, hn⟩ => ⟨h, by rw [hn]; exact ⟨rfl, rfl, rfl, Nat.le_refl _, fun _ _ => rfl⟩⟩
theorem rdue_is (e b a : Int) (r : Bool) (h : Du.due e b a = r) (w : World) (ha : a ≤ 9223372036854775807) :
    Calls Try.prog 12 #[.int .i64 e, .int .i64 b, .int .i64 a] w fun x w' => x = .returned (.bool r) ∧ Below w.heap.size w w' := by
  rw [← h]; exact rdue_any e b a w ha

set_option maxHeartbeats 400000 in
theorem clip_any (n : Int) (w : World) :
    Calls Try.prog 13 #[.int .i64 n] w fun e w' => e = .returned (.int .i64 (min (max n 0) 1000)) ∧ w = w' := by
  go_enter Try.func13, Try.ntmps13
  go_wp2
  all_goals (go_ret; exact ⟨Aid.ret_int (by omega), rfl⟩)

set_option maxHeartbeats 400000 in
theorem rclip_any (n : Int) (w : World) :
    Calls Try.prog 14 #[.int .i64 n] w fun e w' => e = .returned (.int .i64 (min (max n 0) 1000)) ∧ w = w' := by
  go_enter Try.func14, Try.ntmps14
  go_wp2
  all_goals (go_ret; exact ⟨Aid.ret_int (by omega), rfl⟩)

end Go.Proofs.Ytimojijbjmchkaa
