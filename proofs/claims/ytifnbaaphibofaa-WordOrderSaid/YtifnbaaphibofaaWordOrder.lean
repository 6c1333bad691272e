/- The laws over package word, walked: each callee by its contract. -/
import Derived.Test.YtifnbaaphibofaaWordIs
namespace Go.Proofs.Ytifnbaaphibofaa
open Go.RowKit

set_option maxRecDepth 100000 in
set_option maxHeartbeats 1000000 in
theorem wordOrder_lt10 (b : Int) (w : World) (h : 0 < b) (hb : ¬ b = 0) :
    Calls Try.prog 7 #[.int .i64 0, .int .i64 b] w fun e w' => e = .returned (.bool true) ∧ w = w' := by
  have F1 : Hid (Wd.one (decide ((0 : Int) < b)) = 1) := Aid.hid (by unfold Wd.one; grind)
  have F2 : Hid (Wd.one ((0 : Int) == b) = 0) := Aid.hid (by unfold Wd.one; grind)
  have F3 : Hid (Wd.one (decide (b < 0)) = 0) := Aid.hid (by unfold Wd.one; grind)
  have F4 : Hid (Wd.one (decide ((0 : Int) ≤ b)) = 1) := Aid.hid (by unfold Wd.one; grind)
  have F5 : Hid (Wd.one (decide (b ≤ 0)) = 0) := Aid.hid (by unfold Wd.one; grind)
  have F6 : Hid (Wd.one ((0 : Int) != b) = 1) := Aid.hid (by unfold Wd.one; grind)
  have F7 : Hid (Wd.one ((0 : Int) != 0 && b != 0) = 0) := Aid.hid (by unfold Wd.one; grind)
  have F8 : Hid (Wd.one ((0 : Int) != 0 || b != 0) = 1) := Aid.hid (by unfold Wd.one; grind)
  have F9 : Hid (Wd.one (!(((0 : Int) != 0) == (b != 0))) = 1) := Aid.hid (by unfold Wd.one; grind)
  have F10 : Hid (Wd.one ((0 : Int) == 0) = 1) := Aid.hid (by unfold Wd.one; grind)
  have F11 : Hid (Wd.one (b == 0) = 0) := Aid.hid (by unfold Wd.one; grind)
  have k1 : decide ((0 : Int) < b) = true := by simp; try omega
  have k2 : ((0 : Int) == b) = false := by simp; try omega
  go_enter Try.func7, Try.ntmps7
  try simp only [List.append_eq, List.cons_append, List.nil_append]
  go_wp2_with fail
  refine (do_8is _ _ 1 F1.out _).mono ?_; rintro e w' ⟨rfl, rfl⟩
  go_wp2_with fail
  refine (do_6is _ _ 0 F2.out _).mono ?_; rintro e w' ⟨rfl, rfl⟩
  go_wp2_with fail
  refine (do_10is _ _ 0 F3.out _).mono ?_; rintro e w' ⟨rfl, rfl⟩
  go_wp2_with fail
  refine (do_9is _ _ 1 F4.out _).mono ?_; rintro e w' ⟨rfl, rfl⟩
  go_wp2_with fail
  refine (do_11is _ _ 0 F5.out _).mono ?_; rintro e w' ⟨rfl, rfl⟩
  go_wp2_with fail
  refine (do_7is _ _ 1 F6.out _).mono ?_; rintro e w' ⟨rfl, rfl⟩
  go_wp2_with fail
  refine (do_12is _ _ 0 F7.out _).mono ?_; rintro e w' ⟨rfl, rfl⟩
  go_wp2_with fail
  refine (do_13is _ _ 1 F8.out _).mono ?_; rintro e w' ⟨rfl, rfl⟩
  go_wp2_with fail
  refine (do_14is _ _ 1 F9.out _).mono ?_; rintro e w' ⟨rfl, rfl⟩
  go_wp2_with fail
  refine (not_is _ 0 (by decide) _).mono ?_; rintro e w' ⟨rfl, rfl⟩
  go_wp2_with fail
  refine (not_is _ 1 F10.out _).mono ?_; rintro e w' ⟨rfl, rfl⟩
  go_wp2_with fail
  refine (not_is _ 0 (by decide) _).mono ?_; rintro e w' ⟨rfl, rfl⟩
  go_wp2_with fail
  refine (not_is _ 0 F11.out _).mono ?_; rintro e w' ⟨rfl, rfl⟩
  go_wp2_with fail
  refine (not_is _ 1 (by decide) _).mono ?_; rintro e w' ⟨rfl, rfl⟩
  go_wp2_with fail
  refine (awake_any _).mono ?_; rintro e w' ⟨rfl, rfl⟩
  go_wp2_with fail
  go_ret
  exact ⟨rfl, rfl⟩

set_option maxRecDepth 100000 in
set_option maxHeartbeats 1000000 in
theorem wordOrder_lt01 (a : Int) (w : World) (h : a < 0) (ha : ¬ a = 0) :
    Calls Try.prog 7 #[.int .i64 a, .int .i64 0] w fun e w' => e = .returned (.bool true) ∧ w = w' := by
  have F1 : Hid (Wd.one (decide (a < 0)) = 1) := Aid.hid (by unfold Wd.one; grind)
  have F2 : Hid (Wd.one (a == 0) = 0) := Aid.hid (by unfold Wd.one; grind)
  have F3 : Hid (Wd.one (decide ((0 : Int) < a)) = 0) := Aid.hid (by unfold Wd.one; grind)
  have F4 : Hid (Wd.one (decide (a ≤ 0)) = 1) := Aid.hid (by unfold Wd.one; grind)
  have F5 : Hid (Wd.one (decide ((0 : Int) ≤ a)) = 0) := Aid.hid (by unfold Wd.one; grind)
  have F6 : Hid (Wd.one (a != 0) = 1) := Aid.hid (by unfold Wd.one; grind)
  have F7 : Hid (Wd.one (a != 0 && 0 != 0) = 0) := Aid.hid (by unfold Wd.one; grind)
  have F8 : Hid (Wd.one (a != 0 || 0 != 0) = 1) := Aid.hid (by unfold Wd.one; grind)
  have F9 : Hid (Wd.one (!((a != 0) == ((0 : Int) != 0))) = 1) := Aid.hid (by unfold Wd.one; grind)
  have F10 : Hid (Wd.one (a == 0) = 0) := Aid.hid (by unfold Wd.one; grind)
  have F11 : Hid (Wd.one ((0 : Int) == 0) = 1) := Aid.hid (by unfold Wd.one; grind)
  have k1 : decide ((a : Int) < 0) = true := by simp; try omega
  have k2 : ((a : Int) == 0) = false := by simp; try omega
  go_enter Try.func7, Try.ntmps7
  try simp only [List.append_eq, List.cons_append, List.nil_append]
  go_wp2_with fail
  refine (do_8is _ _ 1 F1.out _).mono ?_; rintro e w' ⟨rfl, rfl⟩
  go_wp2_with fail
  refine (do_6is _ _ 0 F2.out _).mono ?_; rintro e w' ⟨rfl, rfl⟩
  go_wp2_with fail
  refine (do_10is _ _ 0 F3.out _).mono ?_; rintro e w' ⟨rfl, rfl⟩
  go_wp2_with fail
  refine (do_9is _ _ 1 F4.out _).mono ?_; rintro e w' ⟨rfl, rfl⟩
  go_wp2_with fail
  refine (do_11is _ _ 0 F5.out _).mono ?_; rintro e w' ⟨rfl, rfl⟩
  go_wp2_with fail
  refine (do_7is _ _ 1 F6.out _).mono ?_; rintro e w' ⟨rfl, rfl⟩
  go_wp2_with fail
  refine (do_12is _ _ 0 F7.out _).mono ?_; rintro e w' ⟨rfl, rfl⟩
  go_wp2_with fail
  refine (do_13is _ _ 1 F8.out _).mono ?_; rintro e w' ⟨rfl, rfl⟩
  go_wp2_with fail
  refine (do_14is _ _ 1 F9.out _).mono ?_; rintro e w' ⟨rfl, rfl⟩
  go_wp2_with fail
  refine (not_is _ 0 (by decide) _).mono ?_; rintro e w' ⟨rfl, rfl⟩
  go_wp2_with fail
  refine (not_is _ 0 F10.out _).mono ?_; rintro e w' ⟨rfl, rfl⟩
  go_wp2_with fail
  refine (not_is _ 1 (by decide) _).mono ?_; rintro e w' ⟨rfl, rfl⟩
  go_wp2_with fail
  refine (not_is _ 1 F11.out _).mono ?_; rintro e w' ⟨rfl, rfl⟩
  go_wp2_with fail
  refine (not_is _ 0 (by decide) _).mono ?_; rintro e w' ⟨rfl, rfl⟩
  go_wp2_with fail
  refine (awake_any _).mono ?_; rintro e w' ⟨rfl, rfl⟩
  go_wp2_with fail
  go_ret
  exact ⟨rfl, rfl⟩

set_option maxRecDepth 100000 in
set_option maxHeartbeats 1000000 in
theorem wordOrder_lt00 (a b : Int) (w : World) (h : a < b) (ha : ¬ a = 0) (hb : ¬ b = 0) :
    Calls Try.prog 7 #[.int .i64 a, .int .i64 b] w fun e w' => e = .returned (.bool true) ∧ w = w' := by
  have F1 : Hid (Wd.one (decide (a < b)) = 1) := Aid.hid (by unfold Wd.one; grind)
  have F2 : Hid (Wd.one (a == b) = 0) := Aid.hid (by unfold Wd.one; grind)
  have F3 : Hid (Wd.one (decide (b < a)) = 0) := Aid.hid (by unfold Wd.one; grind)
  have F4 : Hid (Wd.one (decide (a ≤ b)) = 1) := Aid.hid (by unfold Wd.one; grind)
  have F5 : Hid (Wd.one (decide (b ≤ a)) = 0) := Aid.hid (by unfold Wd.one; grind)
  have F6 : Hid (Wd.one (a != b) = 1) := Aid.hid (by unfold Wd.one; grind)
  have F7 : Hid (Wd.one (a != 0 && b != 0) = 1) := Aid.hid (by unfold Wd.one; grind)
  have F8 : Hid (Wd.one (a != 0 || b != 0) = 1) := Aid.hid (by unfold Wd.one; grind)
  have F9 : Hid (Wd.one (!((a != 0) == (b != 0))) = 0) := Aid.hid (by unfold Wd.one; grind)
  have F10 : Hid (Wd.one (a == 0) = 0) := Aid.hid (by unfold Wd.one; grind)
  have F11 : Hid (Wd.one (b == 0) = 0) := Aid.hid (by unfold Wd.one; grind)
  have k1 : decide ((a : Int) < b) = true := by simp; try omega
  have k2 : ((a : Int) == b) = false := by simp; try omega
  go_enter Try.func7, Try.ntmps7
  try simp only [List.append_eq, List.cons_append, List.nil_append]
  go_wp2_with fail
  refine (do_8is _ _ 1 F1.out _).mono ?_; rintro e w' ⟨rfl, rfl⟩
  go_wp2_with fail
  refine (do_6is _ _ 0 F2.out _).mono ?_; rintro e w' ⟨rfl, rfl⟩
  go_wp2_with fail
  refine (do_10is _ _ 0 F3.out _).mono ?_; rintro e w' ⟨rfl, rfl⟩
  go_wp2_with fail
  refine (do_9is _ _ 1 F4.out _).mono ?_; rintro e w' ⟨rfl, rfl⟩
  go_wp2_with fail
  refine (do_11is _ _ 0 F5.out _).mono ?_; rintro e w' ⟨rfl, rfl⟩
  go_wp2_with fail
  refine (do_7is _ _ 1 F6.out _).mono ?_; rintro e w' ⟨rfl, rfl⟩
  go_wp2_with fail
  refine (do_12is _ _ 1 F7.out _).mono ?_; rintro e w' ⟨rfl, rfl⟩
  go_wp2_with fail
  refine (do_13is _ _ 1 F8.out _).mono ?_; rintro e w' ⟨rfl, rfl⟩
  go_wp2_with fail
  refine (do_14is _ _ 0 F9.out _).mono ?_; rintro e w' ⟨rfl, rfl⟩
  go_wp2_with fail
  refine (not_is _ 0 (by decide) _).mono ?_; rintro e w' ⟨rfl, rfl⟩
  go_wp2_with fail
  refine (not_is _ 0 F10.out _).mono ?_; rintro e w' ⟨rfl, rfl⟩
  go_wp2_with fail
  refine (not_is _ 1 (by decide) _).mono ?_; rintro e w' ⟨rfl, rfl⟩
  go_wp2_with fail
  refine (not_is _ 0 F11.out _).mono ?_; rintro e w' ⟨rfl, rfl⟩
  go_wp2_with fail
  refine (not_is _ 1 (by decide) _).mono ?_; rintro e w' ⟨rfl, rfl⟩
  go_wp2_with fail
  refine (awake_any _).mono ?_; rintro e w' ⟨rfl, rfl⟩
  go_wp2_with fail
  go_ret
  exact ⟨rfl, rfl⟩

set_option maxRecDepth 100000 in
set_option maxHeartbeats 1000000 in
theorem wordOrder_eq11 (w : World)  :
    Calls Try.prog 7 #[.int .i64 0, .int .i64 0] w fun e w' => e = .returned (.bool true) ∧ w = w' := by
  have F1 : Hid (Wd.one (decide ((0 : Int) < 0)) = 0) := Aid.hid (by unfold Wd.one; grind)
  have F2 : Hid (Wd.one ((0 : Int) == 0) = 1) := Aid.hid (by unfold Wd.one; grind)
  have F3 : Hid (Wd.one (decide ((0 : Int) < 0)) = 0) := Aid.hid (by unfold Wd.one; grind)
  have F4 : Hid (Wd.one (decide ((0 : Int) ≤ 0)) = 1) := Aid.hid (by unfold Wd.one; grind)
  have F5 : Hid (Wd.one (decide ((0 : Int) ≤ 0)) = 1) := Aid.hid (by unfold Wd.one; grind)
  have F6 : Hid (Wd.one ((0 : Int) != 0) = 0) := Aid.hid (by unfold Wd.one; grind)
  have F7 : Hid (Wd.one ((0 : Int) != 0 && 0 != 0) = 0) := Aid.hid (by unfold Wd.one; grind)
  have F8 : Hid (Wd.one ((0 : Int) != 0 || 0 != 0) = 0) := Aid.hid (by unfold Wd.one; grind)
  have F9 : Hid (Wd.one (!(((0 : Int) != 0) == ((0 : Int) != 0))) = 0) := Aid.hid (by unfold Wd.one; grind)
  have F10 : Hid (Wd.one ((0 : Int) == 0) = 1) := Aid.hid (by unfold Wd.one; grind)
  have F11 : Hid (Wd.one ((0 : Int) == 0) = 1) := Aid.hid (by unfold Wd.one; grind)
  go_enter Try.func7, Try.ntmps7
  try simp only [List.append_eq, List.cons_append, List.nil_append]
  go_wp2_with fail
  refine (do_8is _ _ 0 F1.out _).mono ?_; rintro e w' ⟨rfl, rfl⟩
  go_wp2_with fail
  refine (do_6is _ _ 1 F2.out _).mono ?_; rintro e w' ⟨rfl, rfl⟩
  go_wp2_with fail
  refine (do_10is _ _ 0 F3.out _).mono ?_; rintro e w' ⟨rfl, rfl⟩
  go_wp2_with fail
  refine (do_9is _ _ 1 F4.out _).mono ?_; rintro e w' ⟨rfl, rfl⟩
  go_wp2_with fail
  refine (do_11is _ _ 1 F5.out _).mono ?_; rintro e w' ⟨rfl, rfl⟩
  go_wp2_with fail
  refine (do_7is _ _ 0 F6.out _).mono ?_; rintro e w' ⟨rfl, rfl⟩
  go_wp2_with fail
  refine (do_12is _ _ 0 F7.out _).mono ?_; rintro e w' ⟨rfl, rfl⟩
  go_wp2_with fail
  refine (do_13is _ _ 0 F8.out _).mono ?_; rintro e w' ⟨rfl, rfl⟩
  go_wp2_with fail
  refine (do_14is _ _ 0 F9.out _).mono ?_; rintro e w' ⟨rfl, rfl⟩
  go_wp2_with fail
  refine (not_is _ 1 (by decide) _).mono ?_; rintro e w' ⟨rfl, rfl⟩
  go_wp2_with fail
  refine (not_is _ 1 F10.out _).mono ?_; rintro e w' ⟨rfl, rfl⟩
  go_wp2_with fail
  refine (not_is _ 0 (by decide) _).mono ?_; rintro e w' ⟨rfl, rfl⟩
  go_wp2_with fail
  refine (not_is _ 1 F11.out _).mono ?_; rintro e w' ⟨rfl, rfl⟩
  go_wp2_with fail
  refine (not_is _ 0 (by decide) _).mono ?_; rintro e w' ⟨rfl, rfl⟩
  go_wp2_with fail
  refine (awake_any _).mono ?_; rintro e w' ⟨rfl, rfl⟩
  go_wp2_with fail
  go_ret
  exact ⟨rfl, rfl⟩

set_option maxRecDepth 100000 in
set_option maxHeartbeats 1000000 in
theorem wordOrder_eq00 (a : Int) (w : World) (ha : ¬ a = 0) :
    Calls Try.prog 7 #[.int .i64 a, .int .i64 a] w fun e w' => e = .returned (.bool true) ∧ w = w' := by
  have F1 : Hid (Wd.one (decide (a < a)) = 0) := Aid.hid (by unfold Wd.one; grind)
  have F2 : Hid (Wd.one (a == a) = 1) := Aid.hid (by unfold Wd.one; grind)
  have F3 : Hid (Wd.one (decide (a < a)) = 0) := Aid.hid (by unfold Wd.one; grind)
  have F4 : Hid (Wd.one (decide (a ≤ a)) = 1) := Aid.hid (by unfold Wd.one; grind)
  have F5 : Hid (Wd.one (decide (a ≤ a)) = 1) := Aid.hid (by unfold Wd.one; grind)
  have F6 : Hid (Wd.one (a != a) = 0) := Aid.hid (by unfold Wd.one; grind)
  have F7 : Hid (Wd.one (a != 0 && a != 0) = 1) := Aid.hid (by unfold Wd.one; grind)
  have F8 : Hid (Wd.one (a != 0 || a != 0) = 1) := Aid.hid (by unfold Wd.one; grind)
  have F9 : Hid (Wd.one (!((a != 0) == (a != 0))) = 0) := Aid.hid (by unfold Wd.one; grind)
  have F10 : Hid (Wd.one (a == 0) = 0) := Aid.hid (by unfold Wd.one; grind)
  have F11 : Hid (Wd.one (a == 0) = 0) := Aid.hid (by unfold Wd.one; grind)
  go_enter Try.func7, Try.ntmps7
  try simp only [List.append_eq, List.cons_append, List.nil_append]
  go_wp2_with fail
  refine (do_8is _ _ 0 F1.out _).mono ?_; rintro e w' ⟨rfl, rfl⟩
  go_wp2_with fail
  refine (do_6is _ _ 1 F2.out _).mono ?_; rintro e w' ⟨rfl, rfl⟩
  go_wp2_with fail
  refine (do_10is _ _ 0 F3.out _).mono ?_; rintro e w' ⟨rfl, rfl⟩
  go_wp2_with fail
  refine (do_9is _ _ 1 F4.out _).mono ?_; rintro e w' ⟨rfl, rfl⟩
  go_wp2_with fail
  refine (do_11is _ _ 1 F5.out _).mono ?_; rintro e w' ⟨rfl, rfl⟩
  go_wp2_with fail
  refine (do_7is _ _ 0 F6.out _).mono ?_; rintro e w' ⟨rfl, rfl⟩
  go_wp2_with fail
  refine (do_12is _ _ 1 F7.out _).mono ?_; rintro e w' ⟨rfl, rfl⟩
  go_wp2_with fail
  refine (do_13is _ _ 1 F8.out _).mono ?_; rintro e w' ⟨rfl, rfl⟩
  go_wp2_with fail
  refine (do_14is _ _ 0 F9.out _).mono ?_; rintro e w' ⟨rfl, rfl⟩
  go_wp2_with fail
  refine (not_is _ 0 (by decide) _).mono ?_; rintro e w' ⟨rfl, rfl⟩
  go_wp2_with fail
  refine (not_is _ 0 F10.out _).mono ?_; rintro e w' ⟨rfl, rfl⟩
  go_wp2_with fail
  refine (not_is _ 1 (by decide) _).mono ?_; rintro e w' ⟨rfl, rfl⟩
  go_wp2_with fail
  refine (not_is _ 0 F11.out _).mono ?_; rintro e w' ⟨rfl, rfl⟩
  go_wp2_with fail
  refine (not_is _ 1 (by decide) _).mono ?_; rintro e w' ⟨rfl, rfl⟩
  go_wp2_with fail
  refine (awake_any _).mono ?_; rintro e w' ⟨rfl, rfl⟩
  go_wp2_with fail
  go_ret
  exact ⟨rfl, rfl⟩

set_option maxRecDepth 100000 in
set_option maxHeartbeats 1000000 in
theorem wordOrder_gt10 (b : Int) (w : World) (h : b < 0) (hb : ¬ b = 0) :
    Calls Try.prog 7 #[.int .i64 0, .int .i64 b] w fun e w' => e = .returned (.bool true) ∧ w = w' := by
  have F1 : Hid (Wd.one (decide ((0 : Int) < b)) = 0) := Aid.hid (by unfold Wd.one; grind)
  have F2 : Hid (Wd.one ((0 : Int) == b) = 0) := Aid.hid (by unfold Wd.one; grind)
  have F3 : Hid (Wd.one (decide (b < 0)) = 1) := Aid.hid (by unfold Wd.one; grind)
  have F4 : Hid (Wd.one (decide ((0 : Int) ≤ b)) = 0) := Aid.hid (by unfold Wd.one; grind)
  have F5 : Hid (Wd.one (decide (b ≤ 0)) = 1) := Aid.hid (by unfold Wd.one; grind)
  have F6 : Hid (Wd.one ((0 : Int) != b) = 1) := Aid.hid (by unfold Wd.one; grind)
  have F7 : Hid (Wd.one ((0 : Int) != 0 && b != 0) = 0) := Aid.hid (by unfold Wd.one; grind)
  have F8 : Hid (Wd.one ((0 : Int) != 0 || b != 0) = 1) := Aid.hid (by unfold Wd.one; grind)
  have F9 : Hid (Wd.one (!(((0 : Int) != 0) == (b != 0))) = 1) := Aid.hid (by unfold Wd.one; grind)
  have F10 : Hid (Wd.one ((0 : Int) == 0) = 1) := Aid.hid (by unfold Wd.one; grind)
  have F11 : Hid (Wd.one (b == 0) = 0) := Aid.hid (by unfold Wd.one; grind)
  have k1 : decide ((0 : Int) < b) = false := by simp; try omega
  have k2 : ((0 : Int) == b) = false := by simp; try omega
  go_enter Try.func7, Try.ntmps7
  try simp only [List.append_eq, List.cons_append, List.nil_append]
  go_wp2_with fail
  refine (do_8is _ _ 0 F1.out _).mono ?_; rintro e w' ⟨rfl, rfl⟩
  go_wp2_with fail
  refine (do_6is _ _ 0 F2.out _).mono ?_; rintro e w' ⟨rfl, rfl⟩
  go_wp2_with fail
  refine (do_10is _ _ 1 F3.out _).mono ?_; rintro e w' ⟨rfl, rfl⟩
  go_wp2_with fail
  refine (do_9is _ _ 0 F4.out _).mono ?_; rintro e w' ⟨rfl, rfl⟩
  go_wp2_with fail
  refine (do_11is _ _ 1 F5.out _).mono ?_; rintro e w' ⟨rfl, rfl⟩
  go_wp2_with fail
  refine (do_7is _ _ 1 F6.out _).mono ?_; rintro e w' ⟨rfl, rfl⟩
  go_wp2_with fail
  refine (do_12is _ _ 0 F7.out _).mono ?_; rintro e w' ⟨rfl, rfl⟩
  go_wp2_with fail
  refine (do_13is _ _ 1 F8.out _).mono ?_; rintro e w' ⟨rfl, rfl⟩
  go_wp2_with fail
  refine (do_14is _ _ 1 F9.out _).mono ?_; rintro e w' ⟨rfl, rfl⟩
  go_wp2_with fail
  refine (not_is _ 0 (by decide) _).mono ?_; rintro e w' ⟨rfl, rfl⟩
  go_wp2_with fail
  refine (not_is _ 1 F10.out _).mono ?_; rintro e w' ⟨rfl, rfl⟩
  go_wp2_with fail
  refine (not_is _ 0 (by decide) _).mono ?_; rintro e w' ⟨rfl, rfl⟩
  go_wp2_with fail
  refine (not_is _ 0 F11.out _).mono ?_; rintro e w' ⟨rfl, rfl⟩
  go_wp2_with fail
  refine (not_is _ 1 (by decide) _).mono ?_; rintro e w' ⟨rfl, rfl⟩
  go_wp2_with fail
  refine (awake_any _).mono ?_; rintro e w' ⟨rfl, rfl⟩
  go_wp2_with fail
  go_ret
  exact ⟨rfl, rfl⟩

set_option maxRecDepth 100000 in
set_option maxHeartbeats 1000000 in
theorem wordOrder_gt01 (a : Int) (w : World) (h : 0 < a) (ha : ¬ a = 0) :
    Calls Try.prog 7 #[.int .i64 a, .int .i64 0] w fun e w' => e = .returned (.bool true) ∧ w = w' := by
  have F1 : Hid (Wd.one (decide (a < 0)) = 0) := Aid.hid (by unfold Wd.one; grind)
  have F2 : Hid (Wd.one (a == 0) = 0) := Aid.hid (by unfold Wd.one; grind)
  have F3 : Hid (Wd.one (decide ((0 : Int) < a)) = 1) := Aid.hid (by unfold Wd.one; grind)
  have F4 : Hid (Wd.one (decide (a ≤ 0)) = 0) := Aid.hid (by unfold Wd.one; grind)
  have F5 : Hid (Wd.one (decide ((0 : Int) ≤ a)) = 1) := Aid.hid (by unfold Wd.one; grind)
  have F6 : Hid (Wd.one (a != 0) = 1) := Aid.hid (by unfold Wd.one; grind)
  have F7 : Hid (Wd.one (a != 0 && 0 != 0) = 0) := Aid.hid (by unfold Wd.one; grind)
  have F8 : Hid (Wd.one (a != 0 || 0 != 0) = 1) := Aid.hid (by unfold Wd.one; grind)
  have F9 : Hid (Wd.one (!((a != 0) == ((0 : Int) != 0))) = 1) := Aid.hid (by unfold Wd.one; grind)
  have F10 : Hid (Wd.one (a == 0) = 0) := Aid.hid (by unfold Wd.one; grind)
  have F11 : Hid (Wd.one ((0 : Int) == 0) = 1) := Aid.hid (by unfold Wd.one; grind)
  have k1 : decide ((a : Int) < 0) = false := by simp; try omega
  have k2 : ((a : Int) == 0) = false := by simp; try omega
  go_enter Try.func7, Try.ntmps7
  try simp only [List.append_eq, List.cons_append, List.nil_append]
  go_wp2_with fail
  refine (do_8is _ _ 0 F1.out _).mono ?_; rintro e w' ⟨rfl, rfl⟩
  go_wp2_with fail
  refine (do_6is _ _ 0 F2.out _).mono ?_; rintro e w' ⟨rfl, rfl⟩
  go_wp2_with fail
  refine (do_10is _ _ 1 F3.out _).mono ?_; rintro e w' ⟨rfl, rfl⟩
  go_wp2_with fail
  refine (do_9is _ _ 0 F4.out _).mono ?_; rintro e w' ⟨rfl, rfl⟩
  go_wp2_with fail
  refine (do_11is _ _ 1 F5.out _).mono ?_; rintro e w' ⟨rfl, rfl⟩
  go_wp2_with fail
  refine (do_7is _ _ 1 F6.out _).mono ?_; rintro e w' ⟨rfl, rfl⟩
  go_wp2_with fail
  refine (do_12is _ _ 0 F7.out _).mono ?_; rintro e w' ⟨rfl, rfl⟩
  go_wp2_with fail
  refine (do_13is _ _ 1 F8.out _).mono ?_; rintro e w' ⟨rfl, rfl⟩
  go_wp2_with fail
  refine (do_14is _ _ 1 F9.out _).mono ?_; rintro e w' ⟨rfl, rfl⟩
  go_wp2_with fail
  refine (not_is _ 0 (by decide) _).mono ?_; rintro e w' ⟨rfl, rfl⟩
  go_wp2_with fail
  refine (not_is _ 0 F10.out _).mono ?_; rintro e w' ⟨rfl, rfl⟩
  go_wp2_with fail
  refine (not_is _ 1 (by decide) _).mono ?_; rintro e w' ⟨rfl, rfl⟩
  go_wp2_with fail
  refine (not_is _ 1 F11.out _).mono ?_; rintro e w' ⟨rfl, rfl⟩
  go_wp2_with fail
  refine (not_is _ 0 (by decide) _).mono ?_; rintro e w' ⟨rfl, rfl⟩
  go_wp2_with fail
  refine (awake_any _).mono ?_; rintro e w' ⟨rfl, rfl⟩
  go_wp2_with fail
  go_ret
  exact ⟨rfl, rfl⟩

set_option maxRecDepth 100000 in
set_option maxHeartbeats 1000000 in
theorem wordOrder_gt00 (a b : Int) (w : World) (h : b < a) (ha : ¬ a = 0) (hb : ¬ b = 0) :
    Calls Try.prog 7 #[.int .i64 a, .int .i64 b] w fun e w' => e = .returned (.bool true) ∧ w = w' := by
  have F1 : Hid (Wd.one (decide (a < b)) = 0) := Aid.hid (by unfold Wd.one; grind)
  have F2 : Hid (Wd.one (a == b) = 0) := Aid.hid (by unfold Wd.one; grind)
  have F3 : Hid (Wd.one (decide (b < a)) = 1) := Aid.hid (by unfold Wd.one; grind)
  have F4 : Hid (Wd.one (decide (a ≤ b)) = 0) := Aid.hid (by unfold Wd.one; grind)
  have F5 : Hid (Wd.one (decide (b ≤ a)) = 1) := Aid.hid (by unfold Wd.one; grind)
  have F6 : Hid (Wd.one (a != b) = 1) := Aid.hid (by unfold Wd.one; grind)
  have F7 : Hid (Wd.one (a != 0 && b != 0) = 1) := Aid.hid (by unfold Wd.one; grind)
  have F8 : Hid (Wd.one (a != 0 || b != 0) = 1) := Aid.hid (by unfold Wd.one; grind)
  have F9 : Hid (Wd.one (!((a != 0) == (b != 0))) = 0) := Aid.hid (by unfold Wd.one; grind)
  have F10 : Hid (Wd.one (a == 0) = 0) := Aid.hid (by unfold Wd.one; grind)
  have F11 : Hid (Wd.one (b == 0) = 0) := Aid.hid (by unfold Wd.one; grind)
  have k1 : decide ((a : Int) < b) = false := by simp; try omega
  have k2 : ((a : Int) == b) = false := by simp; try omega
  go_enter Try.func7, Try.ntmps7
  try simp only [List.append_eq, List.cons_append, List.nil_append]
  go_wp2_with fail
  refine (do_8is _ _ 0 F1.out _).mono ?_; rintro e w' ⟨rfl, rfl⟩
  go_wp2_with fail
  refine (do_6is _ _ 0 F2.out _).mono ?_; rintro e w' ⟨rfl, rfl⟩
  go_wp2_with fail
  refine (do_10is _ _ 1 F3.out _).mono ?_; rintro e w' ⟨rfl, rfl⟩
  go_wp2_with fail
  refine (do_9is _ _ 0 F4.out _).mono ?_; rintro e w' ⟨rfl, rfl⟩
  go_wp2_with fail
  refine (do_11is _ _ 1 F5.out _).mono ?_; rintro e w' ⟨rfl, rfl⟩
  go_wp2_with fail
  refine (do_7is _ _ 1 F6.out _).mono ?_; rintro e w' ⟨rfl, rfl⟩
  go_wp2_with fail
  refine (do_12is _ _ 1 F7.out _).mono ?_; rintro e w' ⟨rfl, rfl⟩
  go_wp2_with fail
  refine (do_13is _ _ 1 F8.out _).mono ?_; rintro e w' ⟨rfl, rfl⟩
  go_wp2_with fail
  refine (do_14is _ _ 0 F9.out _).mono ?_; rintro e w' ⟨rfl, rfl⟩
  go_wp2_with fail
  refine (not_is _ 0 (by decide) _).mono ?_; rintro e w' ⟨rfl, rfl⟩
  go_wp2_with fail
  refine (not_is _ 0 F10.out _).mono ?_; rintro e w' ⟨rfl, rfl⟩
  go_wp2_with fail
  refine (not_is _ 1 (by decide) _).mono ?_; rintro e w' ⟨rfl, rfl⟩
  go_wp2_with fail
  refine (not_is _ 0 F11.out _).mono ?_; rintro e w' ⟨rfl, rfl⟩
  go_wp2_with fail
  refine (not_is _ 1 (by decide) _).mono ?_; rintro e w' ⟨rfl, rfl⟩
  go_wp2_with fail
  refine (awake_any _).mono ?_; rintro e w' ⟨rfl, rfl⟩
  go_wp2_with fail
  go_ret
  exact ⟨rfl, rfl⟩

theorem wordOrder_any (a b : Int) (w : World) :
    Calls Try.prog 7 #[.int .i64 a, .int .i64 b] w fun e w' => e = .returned (.bool true) ∧ w = w' := by
  by_cases ha : a = 0
  · by_cases hb : b = 0
    · subst ha; subst hb; exact wordOrder_eq11 w
    · subst ha
      by_cases h : 0 < b
      · exact wordOrder_lt10 b w h hb
      · exact wordOrder_gt10 b w (by omega) hb
  · by_cases hb : b = 0
    · subst hb
      by_cases h : a < 0
      · exact wordOrder_lt01 a w h ha
      · exact wordOrder_gt01 a w (by omega) ha
    · by_cases h : a < b
      · exact wordOrder_lt00 a b w h ha hb
      · by_cases h' : a = b
        · subst h'; exact wordOrder_eq00 a w ha
        · exact wordOrder_gt00 a b w (by omega) ha hb

end Go.Proofs.Ytifnbaaphibofaa
