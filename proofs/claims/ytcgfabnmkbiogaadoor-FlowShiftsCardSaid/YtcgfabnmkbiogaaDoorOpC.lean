/- The contracts of May (op), as walks. -/
import Derived.Test.YtcgfabnmkbiogaaDoorProg
import Derived.Test.YtcgfabnmkbiogaaDoorOpSpec
import Derived.Test.YtcgfabnmkbiogaaDoorAid
import Derived.Test.YtcgfabnmkbiogaaDoorOpB
import Derived.WalkKit
import Derived.WalkSpells
import Derived.WalkLawsBesides
import Derived.Deep.QuietTactic
import Derived.BigQuiet
import Derived.Below
namespace Go.Proofs.YtcgfabnmkbiogaaDoor
open Go.RowKit

set_option maxRecDepth 100000 in
set_option maxHeartbeats 2000000 in
theorem may_13 (a b : Int) (w : World) :
    Calls Tryd.prog 16 #[.agg #[.int .i64 13, .int .i64 a, .int .i64 b]] w fun e w' => e = .returned (.bool (Op.win a 0 10000 && Op.win b 1 10000)) ∧ Below w.heap.size w w' := by
  have ho : Op.operands 13 = 2 := by decide
  go_enter Tryd.func16, Tryd.ntmps16
  try simp only [List.append_eq, List.cons_append, List.nil_append]
  go_wp2_with fail
  refine (operands_is _ _ ho _).mono ?_; rintro e w' ⟨rfl, rfl⟩
  clear ho
  go_wp2_with (first | (go_at_call 19; refine (operands_is _ _ rfl _).mono ?_; rintro e w' ⟨rfl, rfl⟩; dsimp only) | (go_at_call 20; refine (within_any _ _ _ _).mono ?_; rintro e w' ⟨rfl, rfl⟩; dsimp only))
  go_quiet ((go_at_call 20; exact Calls.quiet_of_same ((within_any _ _ _ _).mono fun _ _ h => ⟨h.1, h.2.symm⟩)))
  go_wp2_with (first | (go_at_call 19; refine (operands_is _ _ rfl _).mono ?_; rintro e w' ⟨rfl, rfl⟩; dsimp only) | (go_at_call 20; refine (within_any _ _ _ _).mono ?_; rintro e w' ⟨rfl, rfl⟩; dsimp only))
  all_goals (go_ret; exact ⟨Aid.ret_bool (by simp_all [show Op.win 0 0 10000 = true by decide]), by first | exact (Below.refl _ _).alloc (Nat.le_refl _) _ | exact below_drewN ((Below.refl _ _).alloc (Nat.le_refl _) _) _⟩)

set_option maxRecDepth 100000 in
set_option maxHeartbeats 2000000 in
theorem may_14 (a b : Int) (w : World) :
    Calls Tryd.prog 16 #[.agg #[.int .i64 14, .int .i64 a, .int .i64 b]] w fun e w' => e = .returned (.bool (Op.win a 0 10000 && Op.win b 1 10000)) ∧ Below w.heap.size w w' := by
  have ho : Op.operands 14 = 2 := by decide
  go_enter Tryd.func16, Tryd.ntmps16
  try simp only [List.append_eq, List.cons_append, List.nil_append]
  go_wp2_with fail
  refine (operands_is _ _ ho _).mono ?_; rintro e w' ⟨rfl, rfl⟩
  clear ho
  go_wp2_with (first | (go_at_call 19; refine (operands_is _ _ rfl _).mono ?_; rintro e w' ⟨rfl, rfl⟩; dsimp only) | (go_at_call 20; refine (within_any _ _ _ _).mono ?_; rintro e w' ⟨rfl, rfl⟩; dsimp only))
  go_quiet ((go_at_call 20; exact Calls.quiet_of_same ((within_any _ _ _ _).mono fun _ _ h => ⟨h.1, h.2.symm⟩)))
  go_wp2_with (first | (go_at_call 19; refine (operands_is _ _ rfl _).mono ?_; rintro e w' ⟨rfl, rfl⟩; dsimp only) | (go_at_call 20; refine (within_any _ _ _ _).mono ?_; rintro e w' ⟨rfl, rfl⟩; dsimp only))
  all_goals (go_ret; exact ⟨Aid.ret_bool (by simp_all [show Op.win 0 0 10000 = true by decide]), by first | exact (Below.refl _ _).alloc (Nat.le_refl _) _ | exact below_drewN ((Below.refl _ _).alloc (Nat.le_refl _) _) _⟩)

set_option maxRecDepth 100000 in
set_option maxHeartbeats 2000000 in
theorem may_15 (a b : Int) (w : World) :
    Calls Tryd.prog 16 #[.agg #[.int .i64 15, .int .i64 a, .int .i64 b]] w fun e w' => e = .returned (.bool (Op.win a 0 10000 && Op.win b 1 10000)) ∧ Below w.heap.size w w' := by
  have ho : Op.operands 15 = 2 := by decide
  go_enter Tryd.func16, Tryd.ntmps16
  try simp only [List.append_eq, List.cons_append, List.nil_append]
  go_wp2_with fail
  refine (operands_is _ _ ho _).mono ?_; rintro e w' ⟨rfl, rfl⟩
  clear ho
  go_wp2_with (first | (go_at_call 19; refine (operands_is _ _ rfl _).mono ?_; rintro e w' ⟨rfl, rfl⟩; dsimp only) | (go_at_call 20; refine (within_any _ _ _ _).mono ?_; rintro e w' ⟨rfl, rfl⟩; dsimp only))
  go_quiet ((go_at_call 20; exact Calls.quiet_of_same ((within_any _ _ _ _).mono fun _ _ h => ⟨h.1, h.2.symm⟩)))
  go_wp2_with (first | (go_at_call 19; refine (operands_is _ _ rfl _).mono ?_; rintro e w' ⟨rfl, rfl⟩; dsimp only) | (go_at_call 20; refine (within_any _ _ _ _).mono ?_; rintro e w' ⟨rfl, rfl⟩; dsimp only))
  all_goals (go_ret; exact ⟨Aid.ret_bool (by simp_all [show Op.win 0 0 10000 = true by decide]), by first | exact (Below.refl _ _).alloc (Nat.le_refl _) _ | exact below_drewN ((Below.refl _ _).alloc (Nat.le_refl _) _) _⟩)

set_option maxRecDepth 100000 in
set_option maxHeartbeats 2000000 in
theorem may_16 (a : Int) (w : World) :
    Calls Tryd.prog 16 #[.agg #[.int .i64 16, .int .i64 a, .int .i64 0]] w fun e w' => e = .returned (.bool (Op.win a 1 14)) ∧ Below w.heap.size w w' := by
  have ho : Op.operands 16 = 1 := by decide
  go_enter Tryd.func16, Tryd.ntmps16
  try simp only [List.append_eq, List.cons_append, List.nil_append]
  go_wp2_with fail
  refine (operands_is _ _ ho _).mono ?_; rintro e w' ⟨rfl, rfl⟩
  clear ho
  go_wp2_with (first | (go_at_call 19; refine (operands_is _ _ rfl _).mono ?_; rintro e w' ⟨rfl, rfl⟩; dsimp only) | (go_at_call 20; refine (within_any _ _ _ _).mono ?_; rintro e w' ⟨rfl, rfl⟩; dsimp only))
  go_quiet ((go_at_call 20; exact Calls.quiet_of_same ((within_any _ _ _ _).mono fun _ _ h => ⟨h.1, h.2.symm⟩)))
  go_wp2_with (first | (go_at_call 19; refine (operands_is _ _ rfl _).mono ?_; rintro e w' ⟨rfl, rfl⟩; dsimp only) | (go_at_call 20; refine (within_any _ _ _ _).mono ?_; rintro e w' ⟨rfl, rfl⟩; dsimp only))
  all_goals (go_ret; exact ⟨Aid.ret_bool (by simp_all [show Op.win 0 0 10000 = true by decide]), by first | exact (Below.refl _ _).alloc (Nat.le_refl _) _ | exact below_drewN ((Below.refl _ _).alloc (Nat.le_refl _) _) _⟩)

set_option maxRecDepth 100000 in
set_option maxHeartbeats 2000000 in
theorem may_16n (a b : Int) (w : World) (hb : ¬ b = 0) :
    Calls Tryd.prog 16 #[.agg #[.int .i64 16, .int .i64 a, .int .i64 b]] w fun e w' => e = .returned (.bool (false)) ∧ Below w.heap.size w w' := by
  have ho : Op.operands 16 = 1 := by decide
  go_enter Tryd.func16, Tryd.ntmps16
  try simp only [List.append_eq, List.cons_append, List.nil_append]
  go_wp2_with fail
  refine (operands_is _ _ ho _).mono ?_; rintro e w' ⟨rfl, rfl⟩
  clear ho
  go_wp2_with (first | (go_at_call 19; refine (operands_is _ _ rfl _).mono ?_; rintro e w' ⟨rfl, rfl⟩; dsimp only) | (go_at_call 20; refine (within_any _ _ _ _).mono ?_; rintro e w' ⟨rfl, rfl⟩; dsimp only))
  all_goals (go_ret; exact ⟨Aid.ret_bool (by simp_all [show Op.win 0 0 10000 = true by decide]), by first | exact (Below.refl _ _).alloc (Nat.le_refl _) _ | exact below_drewN ((Below.refl _ _).alloc (Nat.le_refl _) _) _⟩)

set_option maxRecDepth 100000 in
set_option maxHeartbeats 2000000 in
theorem may_17 (w : World) :
    Calls Tryd.prog 16 #[.agg #[.int .i64 17, .int .i64 0, .int .i64 0]] w fun e w' => e = .returned (.bool (true)) ∧ Below w.heap.size w w' := by
  have ho : Op.operands 17 = 0 := by decide
  go_enter Tryd.func16, Tryd.ntmps16
  try simp only [List.append_eq, List.cons_append, List.nil_append]
  go_wp2_with fail
  refine (operands_is _ _ ho _).mono ?_; rintro e w' ⟨rfl, rfl⟩
  clear ho
  go_wp2_with (first | (go_at_call 19; refine (operands_is _ _ rfl _).mono ?_; rintro e w' ⟨rfl, rfl⟩; dsimp only) | (go_at_call 20; refine (within_any _ _ _ _).mono ?_; rintro e w' ⟨rfl, rfl⟩; dsimp only))
  go_quiet ((go_at_call 20; exact Calls.quiet_of_same ((within_any _ _ _ _).mono fun _ _ h => ⟨h.1, h.2.symm⟩)))
  go_wp2_with (first | (go_at_call 19; refine (operands_is _ _ rfl _).mono ?_; rintro e w' ⟨rfl, rfl⟩; dsimp only) | (go_at_call 20; refine (within_any _ _ _ _).mono ?_; rintro e w' ⟨rfl, rfl⟩; dsimp only))
  all_goals (go_ret; exact ⟨Aid.ret_bool (by simp_all [show Op.win 0 0 10000 = true by decide]), by first | exact (Below.refl _ _).alloc (Nat.le_refl _) _ | exact below_drewN ((Below.refl _ _).alloc (Nat.le_refl _) _) _⟩)

set_option maxRecDepth 100000 in
set_option maxHeartbeats 2000000 in
theorem may_17n (a b : Int) (w : World) (ha : ¬ a = 0) :
    Calls Tryd.prog 16 #[.agg #[.int .i64 17, .int .i64 a, .int .i64 b]] w fun e w' => e = .returned (.bool (false)) ∧ Below w.heap.size w w' := by
  have ho : Op.operands 17 = 0 := by decide
  go_enter Tryd.func16, Tryd.ntmps16
  try simp only [List.append_eq, List.cons_append, List.nil_append]
  go_wp2_with fail
  refine (operands_is _ _ ho _).mono ?_; rintro e w' ⟨rfl, rfl⟩
  clear ho
  go_wp2_with (first | (go_at_call 19; refine (operands_is _ _ rfl _).mono ?_; rintro e w' ⟨rfl, rfl⟩; dsimp only) | (go_at_call 20; refine (within_any _ _ _ _).mono ?_; rintro e w' ⟨rfl, rfl⟩; dsimp only))
  all_goals (go_ret; exact ⟨Aid.ret_bool (by simp_all [show Op.win 0 0 10000 = true by decide]), by first | exact (Below.refl _ _).alloc (Nat.le_refl _) _ | exact below_drewN ((Below.refl _ _).alloc (Nat.le_refl _) _) _⟩)

set_option maxRecDepth 100000 in
set_option maxHeartbeats 2000000 in
theorem may_17m (b : Int) (w : World) (hb : ¬ b = 0) :
    Calls Tryd.prog 16 #[.agg #[.int .i64 17, .int .i64 0, .int .i64 b]] w fun e w' => e = .returned (.bool (false)) ∧ Below w.heap.size w w' := by
  have ho : Op.operands 17 = 0 := by decide
  go_enter Tryd.func16, Tryd.ntmps16
  try simp only [List.append_eq, List.cons_append, List.nil_append]
  go_wp2_with fail
  refine (operands_is _ _ ho _).mono ?_; rintro e w' ⟨rfl, rfl⟩
  clear ho
  go_wp2_with (first | (go_at_call 19; refine (operands_is _ _ rfl _).mono ?_; rintro e w' ⟨rfl, rfl⟩; dsimp only) | (go_at_call 20; refine (within_any _ _ _ _).mono ?_; rintro e w' ⟨rfl, rfl⟩; dsimp only))
  all_goals (go_ret; exact ⟨Aid.ret_bool (by simp_all [show Op.win 0 0 10000 = true by decide]), by first | exact (Below.refl _ _).alloc (Nat.le_refl _) _ | exact below_drewN ((Below.refl _ _).alloc (Nat.le_refl _) _) _⟩)

set_option maxRecDepth 100000 in
set_option maxHeartbeats 2000000 in
theorem may_18 (w : World) :
    Calls Tryd.prog 16 #[.agg #[.int .i64 18, .int .i64 0, .int .i64 0]] w fun e w' => e = .returned (.bool (true)) ∧ Below w.heap.size w w' := by
  have ho : Op.operands 18 = 0 := by decide
  go_enter Tryd.func16, Tryd.ntmps16
  try simp only [List.append_eq, List.cons_append, List.nil_append]
  go_wp2_with fail
  refine (operands_is _ _ ho _).mono ?_; rintro e w' ⟨rfl, rfl⟩
  clear ho
  go_wp2_with (first | (go_at_call 19; refine (operands_is _ _ rfl _).mono ?_; rintro e w' ⟨rfl, rfl⟩; dsimp only) | (go_at_call 20; refine (within_any _ _ _ _).mono ?_; rintro e w' ⟨rfl, rfl⟩; dsimp only))
  go_quiet ((go_at_call 20; exact Calls.quiet_of_same ((within_any _ _ _ _).mono fun _ _ h => ⟨h.1, h.2.symm⟩)))
  go_wp2_with (first | (go_at_call 19; refine (operands_is _ _ rfl _).mono ?_; rintro e w' ⟨rfl, rfl⟩; dsimp only) | (go_at_call 20; refine (within_any _ _ _ _).mono ?_; rintro e w' ⟨rfl, rfl⟩; dsimp only))
  all_goals (go_ret; exact ⟨Aid.ret_bool (by simp_all [show Op.win 0 0 10000 = true by decide]), by first | exact (Below.refl _ _).alloc (Nat.le_refl _) _ | exact below_drewN ((Below.refl _ _).alloc (Nat.le_refl _) _) _⟩)

set_option maxRecDepth 100000 in
set_option maxHeartbeats 2000000 in
theorem may_18n (a b : Int) (w : World) (ha : ¬ a = 0) :
    Calls Tryd.prog 16 #[.agg #[.int .i64 18, .int .i64 a, .int .i64 b]] w fun e w' => e = .returned (.bool (false)) ∧ Below w.heap.size w w' := by
  have ho : Op.operands 18 = 0 := by decide
  go_enter Tryd.func16, Tryd.ntmps16
  try simp only [List.append_eq, List.cons_append, List.nil_append]
  go_wp2_with fail
  refine (operands_is _ _ ho _).mono ?_; rintro e w' ⟨rfl, rfl⟩
  clear ho
  go_wp2_with (first | (go_at_call 19; refine (operands_is _ _ rfl _).mono ?_; rintro e w' ⟨rfl, rfl⟩; dsimp only) | (go_at_call 20; refine (within_any _ _ _ _).mono ?_; rintro e w' ⟨rfl, rfl⟩; dsimp only))
  all_goals (go_ret; exact ⟨Aid.ret_bool (by simp_all [show Op.win 0 0 10000 = true by decide]), by first | exact (Below.refl _ _).alloc (Nat.le_refl _) _ | exact below_drewN ((Below.refl _ _).alloc (Nat.le_refl _) _) _⟩)

set_option maxRecDepth 100000 in
set_option maxHeartbeats 2000000 in
theorem may_18m (b : Int) (w : World) (hb : ¬ b = 0) :
    Calls Tryd.prog 16 #[.agg #[.int .i64 18, .int .i64 0, .int .i64 b]] w fun e w' => e = .returned (.bool (false)) ∧ Below w.heap.size w w' := by
  have ho : Op.operands 18 = 0 := by decide
  go_enter Tryd.func16, Tryd.ntmps16
  try simp only [List.append_eq, List.cons_append, List.nil_append]
  go_wp2_with fail
  refine (operands_is _ _ ho _).mono ?_; rintro e w' ⟨rfl, rfl⟩
  clear ho
  go_wp2_with (first | (go_at_call 19; refine (operands_is _ _ rfl _).mono ?_; rintro e w' ⟨rfl, rfl⟩; dsimp only) | (go_at_call 20; refine (within_any _ _ _ _).mono ?_; rintro e w' ⟨rfl, rfl⟩; dsimp only))
  all_goals (go_ret; exact ⟨Aid.ret_bool (by simp_all [show Op.win 0 0 10000 = true by decide]), by first | exact (Below.refl _ _).alloc (Nat.le_refl _) _ | exact below_drewN ((Below.refl _ _).alloc (Nat.le_refl _) _) _⟩)

set_option maxRecDepth 100000 in
set_option maxHeartbeats 2000000 in
theorem may_19 (a : Int) (w : World) :
    Calls Tryd.prog 16 #[.agg #[.int .i64 19, .int .i64 a, .int .i64 0]] w fun e w' => e = .returned (.bool (Op.win a 0 1)) ∧ Below w.heap.size w w' := by
  have ho : Op.operands 19 = 1 := by decide
  go_enter Tryd.func16, Tryd.ntmps16
  try simp only [List.append_eq, List.cons_append, List.nil_append]
  go_wp2_with fail
  refine (operands_is _ _ ho _).mono ?_; rintro e w' ⟨rfl, rfl⟩
  clear ho
  go_wp2_with (first | (go_at_call 19; refine (operands_is _ _ rfl _).mono ?_; rintro e w' ⟨rfl, rfl⟩; dsimp only) | (go_at_call 20; refine (within_any _ _ _ _).mono ?_; rintro e w' ⟨rfl, rfl⟩; dsimp only))
  go_quiet ((go_at_call 20; exact Calls.quiet_of_same ((within_any _ _ _ _).mono fun _ _ h => ⟨h.1, h.2.symm⟩)))
  go_wp2_with (first | (go_at_call 19; refine (operands_is _ _ rfl _).mono ?_; rintro e w' ⟨rfl, rfl⟩; dsimp only) | (go_at_call 20; refine (within_any _ _ _ _).mono ?_; rintro e w' ⟨rfl, rfl⟩; dsimp only))
  all_goals (go_ret; exact ⟨Aid.ret_bool (by simp_all [show Op.win 0 0 10000 = true by decide]), by first | exact (Below.refl _ _).alloc (Nat.le_refl _) _ | exact below_drewN ((Below.refl _ _).alloc (Nat.le_refl _) _) _⟩)

set_option maxRecDepth 100000 in
set_option maxHeartbeats 2000000 in
theorem may_19n (a b : Int) (w : World) (hb : ¬ b = 0) :
    Calls Tryd.prog 16 #[.agg #[.int .i64 19, .int .i64 a, .int .i64 b]] w fun e w' => e = .returned (.bool (false)) ∧ Below w.heap.size w w' := by
  have ho : Op.operands 19 = 1 := by decide
  go_enter Tryd.func16, Tryd.ntmps16
  try simp only [List.append_eq, List.cons_append, List.nil_append]
  go_wp2_with fail
  refine (operands_is _ _ ho _).mono ?_; rintro e w' ⟨rfl, rfl⟩
  clear ho
  go_wp2_with (first | (go_at_call 19; refine (operands_is _ _ rfl _).mono ?_; rintro e w' ⟨rfl, rfl⟩; dsimp only) | (go_at_call 20; refine (within_any _ _ _ _).mono ?_; rintro e w' ⟨rfl, rfl⟩; dsimp only))
  all_goals (go_ret; exact ⟨Aid.ret_bool (by simp_all [show Op.win 0 0 10000 = true by decide]), by first | exact (Below.refl _ _).alloc (Nat.le_refl _) _ | exact below_drewN ((Below.refl _ _).alloc (Nat.le_refl _) _) _⟩)

set_option maxRecDepth 100000 in
set_option maxHeartbeats 2000000 in
theorem may_20 (a b : Int) (w : World) :
    Calls Tryd.prog 16 #[.agg #[.int .i64 20, .int .i64 a, .int .i64 b]] w fun e w' => e = .returned (.bool (Op.win a (-32768) 32767 && (Op.win b (-32768) 32767 && decide (a ≤ b)))) ∧ Below w.heap.size w w' := by
  have ho : Op.operands 20 = 2 := by decide
  go_enter Tryd.func16, Tryd.ntmps16
  try simp only [List.append_eq, List.cons_append, List.nil_append]
  go_wp2_with fail
  refine (operands_is _ _ ho _).mono ?_; rintro e w' ⟨rfl, rfl⟩
  clear ho
  go_wp2_with (first | (go_at_call 19; refine (operands_is _ _ rfl _).mono ?_; rintro e w' ⟨rfl, rfl⟩; dsimp only) | (go_at_call 20; refine (within_any _ _ _ _).mono ?_; rintro e w' ⟨rfl, rfl⟩; dsimp only))
  go_quiet ((go_at_call 20; exact Calls.quiet_of_same ((within_any _ _ _ _).mono fun _ _ h => ⟨h.1, h.2.symm⟩)))
  go_wp2_with (first | (go_at_call 19; refine (operands_is _ _ rfl _).mono ?_; rintro e w' ⟨rfl, rfl⟩; dsimp only) | (go_at_call 20; refine (within_any _ _ _ _).mono ?_; rintro e w' ⟨rfl, rfl⟩; dsimp only))
  all_goals (go_ret; exact ⟨Aid.ret_bool (by simp_all [show Op.win 0 0 10000 = true by decide]), by first | exact (Below.refl _ _).alloc (Nat.le_refl _) _ | exact below_drewN ((Below.refl _ _).alloc (Nat.le_refl _) _) _⟩)

set_option maxRecDepth 100000 in
set_option maxHeartbeats 2000000 in
theorem may_21 (a : Int) (w : World) :
    Calls Tryd.prog 16 #[.agg #[.int .i64 21, .int .i64 a, .int .i64 0]] w fun e w' => e = .returned (.bool (Op.win a 0 10000)) ∧ Below w.heap.size w w' := by
  have ho : Op.operands 21 = 1 := by decide
  go_enter Tryd.func16, Tryd.ntmps16
  try simp only [List.append_eq, List.cons_append, List.nil_append]
  go_wp2_with fail
  refine (operands_is _ _ ho _).mono ?_; rintro e w' ⟨rfl, rfl⟩
  clear ho
  go_wp2_with (first | (go_at_call 19; refine (operands_is _ _ rfl _).mono ?_; rintro e w' ⟨rfl, rfl⟩; dsimp only) | (go_at_call 20; refine (within_any _ _ _ _).mono ?_; rintro e w' ⟨rfl, rfl⟩; dsimp only))
  go_quiet ((go_at_call 20; exact Calls.quiet_of_same ((within_any _ _ _ _).mono fun _ _ h => ⟨h.1, h.2.symm⟩)))
  go_wp2_with (first | (go_at_call 19; refine (operands_is _ _ rfl _).mono ?_; rintro e w' ⟨rfl, rfl⟩; dsimp only) | (go_at_call 20; refine (within_any _ _ _ _).mono ?_; rintro e w' ⟨rfl, rfl⟩; dsimp only))
  all_goals (go_ret; exact ⟨Aid.ret_bool (by simp_all [show Op.win 0 0 10000 = true by decide]), by first | exact (Below.refl _ _).alloc (Nat.le_refl _) _ | exact below_drewN ((Below.refl _ _).alloc (Nat.le_refl _) _) _⟩)

set_option maxRecDepth 100000 in
set_option maxHeartbeats 2000000 in
theorem may_21n (a b : Int) (w : World) (hb : ¬ b = 0) :
    Calls Tryd.prog 16 #[.agg #[.int .i64 21, .int .i64 a, .int .i64 b]] w fun e w' => e = .returned (.bool (false)) ∧ Below w.heap.size w w' := by
  have ho : Op.operands 21 = 1 := by decide
  go_enter Tryd.func16, Tryd.ntmps16
  try simp only [List.append_eq, List.cons_append, List.nil_append]
  go_wp2_with fail
  refine (operands_is _ _ ho _).mono ?_; rintro e w' ⟨rfl, rfl⟩
  clear ho
  go_wp2_with (first | (go_at_call 19; refine (operands_is _ _ rfl _).mono ?_; rintro e w' ⟨rfl, rfl⟩; dsimp only) | (go_at_call 20; refine (within_any _ _ _ _).mono ?_; rintro e w' ⟨rfl, rfl⟩; dsimp only))
  all_goals (go_ret; exact ⟨Aid.ret_bool (by simp_all [show Op.win 0 0 10000 = true by decide]), by first | exact (Below.refl _ _).alloc (Nat.le_refl _) _ | exact below_drewN ((Below.refl _ _).alloc (Nat.le_refl _) _) _⟩)

set_option maxRecDepth 100000 in
set_option maxHeartbeats 2000000 in
theorem may_22 (a : Int) (w : World) :
    Calls Tryd.prog 16 #[.agg #[.int .i64 22, .int .i64 a, .int .i64 0]] w fun e w' => e = .returned (.bool (Op.win a 0 10000)) ∧ Below w.heap.size w w' := by
  have ho : Op.operands 22 = 1 := by decide
  go_enter Tryd.func16, Tryd.ntmps16
  try simp only [List.append_eq, List.cons_append, List.nil_append]
  go_wp2_with fail
  refine (operands_is _ _ ho _).mono ?_; rintro e w' ⟨rfl, rfl⟩
  clear ho
  go_wp2_with (first | (go_at_call 19; refine (operands_is _ _ rfl _).mono ?_; rintro e w' ⟨rfl, rfl⟩; dsimp only) | (go_at_call 20; refine (within_any _ _ _ _).mono ?_; rintro e w' ⟨rfl, rfl⟩; dsimp only))
  go_quiet ((go_at_call 20; exact Calls.quiet_of_same ((within_any _ _ _ _).mono fun _ _ h => ⟨h.1, h.2.symm⟩)))
  go_wp2_with (first | (go_at_call 19; refine (operands_is _ _ rfl _).mono ?_; rintro e w' ⟨rfl, rfl⟩; dsimp only) | (go_at_call 20; refine (within_any _ _ _ _).mono ?_; rintro e w' ⟨rfl, rfl⟩; dsimp only))
  all_goals (go_ret; exact ⟨Aid.ret_bool (by simp_all [show Op.win 0 0 10000 = true by decide]), by first | exact (Below.refl _ _).alloc (Nat.le_refl _) _ | exact below_drewN ((Below.refl _ _).alloc (Nat.le_refl _) _) _⟩)

set_option maxRecDepth 100000 in
set_option maxHeartbeats 2000000 in
theorem may_22n (a b : Int) (w : World) (hb : ¬ b = 0) :
    Calls Tryd.prog 16 #[.agg #[.int .i64 22, .int .i64 a, .int .i64 b]] w fun e w' => e = .returned (.bool (false)) ∧ Below w.heap.size w w' := by
  have ho : Op.operands 22 = 1 := by decide
  go_enter Tryd.func16, Tryd.ntmps16
  try simp only [List.append_eq, List.cons_append, List.nil_append]
  go_wp2_with fail
  refine (operands_is _ _ ho _).mono ?_; rintro e w' ⟨rfl, rfl⟩
  clear ho
  go_wp2_with (first | (go_at_call 19; refine (operands_is _ _ rfl _).mono ?_; rintro e w' ⟨rfl, rfl⟩; dsimp only) | (go_at_call 20; refine (within_any _ _ _ _).mono ?_; rintro e w' ⟨rfl, rfl⟩; dsimp only))
  all_goals (go_ret; exact ⟨Aid.ret_bool (by simp_all [show Op.win 0 0 10000 = true by decide]), by first | exact (Below.refl _ _).alloc (Nat.le_refl _) _ | exact below_drewN ((Below.refl _ _).alloc (Nat.le_refl _) _) _⟩)

set_option maxRecDepth 100000 in
set_option maxHeartbeats 2000000 in
theorem may_23 (a : Int) (w : World) :
    Calls Tryd.prog 16 #[.agg #[.int .i64 23, .int .i64 a, .int .i64 0]] w fun e w' => e = .returned (.bool (Op.win a 0 10000)) ∧ Below w.heap.size w w' := by
  have ho : Op.operands 23 = 1 := by decide
  go_enter Tryd.func16, Tryd.ntmps16
  try simp only [List.append_eq, List.cons_append, List.nil_append]
  go_wp2_with fail
  refine (operands_is _ _ ho _).mono ?_; rintro e w' ⟨rfl, rfl⟩
  clear ho
  go_wp2_with (first | (go_at_call 19; refine (operands_is _ _ rfl _).mono ?_; rintro e w' ⟨rfl, rfl⟩; dsimp only) | (go_at_call 20; refine (within_any _ _ _ _).mono ?_; rintro e w' ⟨rfl, rfl⟩; dsimp only))
  go_quiet ((go_at_call 20; exact Calls.quiet_of_same ((within_any _ _ _ _).mono fun _ _ h => ⟨h.1, h.2.symm⟩)))
  go_wp2_with (first | (go_at_call 19; refine (operands_is _ _ rfl _).mono ?_; rintro e w' ⟨rfl, rfl⟩; dsimp only) | (go_at_call 20; refine (within_any _ _ _ _).mono ?_; rintro e w' ⟨rfl, rfl⟩; dsimp only))
  all_goals (go_ret; exact ⟨Aid.ret_bool (by simp_all [show Op.win 0 0 10000 = true by decide]), by first | exact (Below.refl _ _).alloc (Nat.le_refl _) _ | exact below_drewN ((Below.refl _ _).alloc (Nat.le_refl _) _) _⟩)

set_option maxRecDepth 100000 in
set_option maxHeartbeats 2000000 in
theorem may_23n (a b : Int) (w : World) (hb : ¬ b = 0) :
    Calls Tryd.prog 16 #[.agg #[.int .i64 23, .int .i64 a, .int .i64 b]] w fun e w' => e = .returned (.bool (false)) ∧ Below w.heap.size w w' := by
  have ho : Op.operands 23 = 1 := by decide
  go_enter Tryd.func16, Tryd.ntmps16
  try simp only [List.append_eq, List.cons_append, List.nil_append]
  go_wp2_with fail
  refine (operands_is _ _ ho _).mono ?_; rintro e w' ⟨rfl, rfl⟩
  clear ho
  go_wp2_with (first | (go_at_call 19; refine (operands_is _ _ rfl _).mono ?_; rintro e w' ⟨rfl, rfl⟩; dsimp only) | (go_at_call 20; refine (within_any _ _ _ _).mono ?_; rintro e w' ⟨rfl, rfl⟩; dsimp only))
  all_goals (go_ret; exact ⟨Aid.ret_bool (by simp_all [show Op.win 0 0 10000 = true by decide]), by first | exact (Below.refl _ _).alloc (Nat.le_refl _) _ | exact below_drewN ((Below.refl _ _).alloc (Nat.le_refl _) _) _⟩)

set_option maxRecDepth 100000 in
set_option maxHeartbeats 2000000 in
theorem may_24 (a : Int) (w : World) :
    Calls Tryd.prog 16 #[.agg #[.int .i64 24, .int .i64 a, .int .i64 0]] w fun e w' => e = .returned (.bool (Op.win a 0 10000)) ∧ Below w.heap.size w w' := by
  have ho : Op.operands 24 = 1 := by decide
  go_enter Tryd.func16, Tryd.ntmps16
  try simp only [List.append_eq, List.cons_append, List.nil_append]
  go_wp2_with fail
  refine (operands_is _ _ ho _).mono ?_; rintro e w' ⟨rfl, rfl⟩
  clear ho
  go_wp2_with (first | (go_at_call 19; refine (operands_is _ _ rfl _).mono ?_; rintro e w' ⟨rfl, rfl⟩; dsimp only) | (go_at_call 20; refine (within_any _ _ _ _).mono ?_; rintro e w' ⟨rfl, rfl⟩; dsimp only))
  go_quiet ((go_at_call 20; exact Calls.quiet_of_same ((within_any _ _ _ _).mono fun _ _ h => ⟨h.1, h.2.symm⟩)))
  go_wp2_with (first | (go_at_call 19; refine (operands_is _ _ rfl _).mono ?_; rintro e w' ⟨rfl, rfl⟩; dsimp only) | (go_at_call 20; refine (within_any _ _ _ _).mono ?_; rintro e w' ⟨rfl, rfl⟩; dsimp only))
  all_goals (go_ret; exact ⟨Aid.ret_bool (by simp_all [show Op.win 0 0 10000 = true by decide]), by first | exact (Below.refl _ _).alloc (Nat.le_refl _) _ | exact below_drewN ((Below.refl _ _).alloc (Nat.le_refl _) _) _⟩)

set_option maxRecDepth 100000 in
set_option maxHeartbeats 2000000 in
theorem may_24n (a b : Int) (w : World) (hb : ¬ b = 0) :
    Calls Tryd.prog 16 #[.agg #[.int .i64 24, .int .i64 a, .int .i64 b]] w fun e w' => e = .returned (.bool (false)) ∧ Below w.heap.size w w' := by
  have ho : Op.operands 24 = 1 := by decide
  go_enter Tryd.func16, Tryd.ntmps16
  try simp only [List.append_eq, List.cons_append, List.nil_append]
  go_wp2_with fail
  refine (operands_is _ _ ho _).mono ?_; rintro e w' ⟨rfl, rfl⟩
  clear ho
  go_wp2_with (first | (go_at_call 19; refine (operands_is _ _ rfl _).mono ?_; rintro e w' ⟨rfl, rfl⟩; dsimp only) | (go_at_call 20; refine (within_any _ _ _ _).mono ?_; rintro e w' ⟨rfl, rfl⟩; dsimp only))
  all_goals (go_ret; exact ⟨Aid.ret_bool (by simp_all [show Op.win 0 0 10000 = true by decide]), by first | exact (Below.refl _ _).alloc (Nat.le_refl _) _ | exact below_drewN ((Below.refl _ _).alloc (Nat.le_refl _) _) _⟩)

set_option maxRecDepth 100000 in
set_option maxHeartbeats 2000000 in
theorem may_25 (a b : Int) (w : World) :
    Calls Tryd.prog 16 #[.agg #[.int .i64 25, .int .i64 a, .int .i64 b]] w fun e w' => e = .returned (.bool (Op.win a 0 10000 && Op.win b 0 10000)) ∧ Below w.heap.size w w' := by
  have ho : Op.operands 25 = 2 := by decide
  go_enter Tryd.func16, Tryd.ntmps16
  try simp only [List.append_eq, List.cons_append, List.nil_append]
  go_wp2_with fail
  refine (operands_is _ _ ho _).mono ?_; rintro e w' ⟨rfl, rfl⟩
  clear ho
  go_wp2_with (first | (go_at_call 19; refine (operands_is _ _ rfl _).mono ?_; rintro e w' ⟨rfl, rfl⟩; dsimp only) | (go_at_call 20; refine (within_any _ _ _ _).mono ?_; rintro e w' ⟨rfl, rfl⟩; dsimp only))
  go_quiet ((go_at_call 20; exact Calls.quiet_of_same ((within_any _ _ _ _).mono fun _ _ h => ⟨h.1, h.2.symm⟩)))
  go_wp2_with (first | (go_at_call 19; refine (operands_is _ _ rfl _).mono ?_; rintro e w' ⟨rfl, rfl⟩; dsimp only) | (go_at_call 20; refine (within_any _ _ _ _).mono ?_; rintro e w' ⟨rfl, rfl⟩; dsimp only))
  all_goals (go_ret; exact ⟨Aid.ret_bool (by simp_all [show Op.win 0 0 10000 = true by decide]), by first | exact (Below.refl _ _).alloc (Nat.le_refl _) _ | exact below_drewN ((Below.refl _ _).alloc (Nat.le_refl _) _) _⟩)

set_option maxRecDepth 100000 in
set_option maxHeartbeats 2000000 in
theorem may_26 (a b : Int) (w : World) :
    Calls Tryd.prog 16 #[.agg #[.int .i64 26, .int .i64 a, .int .i64 b]] w fun e w' => e = .returned (.bool (Op.win a 0 10000 && Op.win b 0 10000)) ∧ Below w.heap.size w w' := by
  have ho : Op.operands 26 = 2 := by decide
  go_enter Tryd.func16, Tryd.ntmps16
  try simp only [List.append_eq, List.cons_append, List.nil_append]
  go_wp2_with fail
  refine (operands_is _ _ ho _).mono ?_; rintro e w' ⟨rfl, rfl⟩
  clear ho
  go_wp2_with (first | (go_at_call 19; refine (operands_is _ _ rfl _).mono ?_; rintro e w' ⟨rfl, rfl⟩; dsimp only) | (go_at_call 20; refine (within_any _ _ _ _).mono ?_; rintro e w' ⟨rfl, rfl⟩; dsimp only))
  go_quiet ((go_at_call 20; exact Calls.quiet_of_same ((within_any _ _ _ _).mono fun _ _ h => ⟨h.1, h.2.symm⟩)))
  go_wp2_with (first | (go_at_call 19; refine (operands_is _ _ rfl _).mono ?_; rintro e w' ⟨rfl, rfl⟩; dsimp only) | (go_at_call 20; refine (within_any _ _ _ _).mono ?_; rintro e w' ⟨rfl, rfl⟩; dsimp only))
  all_goals (go_ret; exact ⟨Aid.ret_bool (by simp_all [show Op.win 0 0 10000 = true by decide]), by first | exact (Below.refl _ _).alloc (Nat.le_refl _) _ | exact below_drewN ((Below.refl _ _).alloc (Nat.le_refl _) _) _⟩)

set_option maxRecDepth 100000 in
set_option maxHeartbeats 2000000 in
theorem may_27 (a b : Int) (w : World) :
    Calls Tryd.prog 16 #[.agg #[.int .i64 27, .int .i64 a, .int .i64 b]] w fun e w' => e = .returned (.bool (Op.win a 0 1 && Op.win b 0 10000)) ∧ Below w.heap.size w w' := by
  have ho : Op.operands 27 = 2 := by decide
  go_enter Tryd.func16, Tryd.ntmps16
  try simp only [List.append_eq, List.cons_append, List.nil_append]
  go_wp2_with fail
  refine (operands_is _ _ ho _).mono ?_; rintro e w' ⟨rfl, rfl⟩
  clear ho
  go_wp2_with (first | (go_at_call 19; refine (operands_is _ _ rfl _).mono ?_; rintro e w' ⟨rfl, rfl⟩; dsimp only) | (go_at_call 20; refine (within_any _ _ _ _).mono ?_; rintro e w' ⟨rfl, rfl⟩; dsimp only))
  go_quiet ((go_at_call 20; exact Calls.quiet_of_same ((within_any _ _ _ _).mono fun _ _ h => ⟨h.1, h.2.symm⟩)))
  go_wp2_with (first | (go_at_call 19; refine (operands_is _ _ rfl _).mono ?_; rintro e w' ⟨rfl, rfl⟩; dsimp only) | (go_at_call 20; refine (within_any _ _ _ _).mono ?_; rintro e w' ⟨rfl, rfl⟩; dsimp only))
  all_goals (go_ret; exact ⟨Aid.ret_bool (by simp_all [show Op.win 0 0 10000 = true by decide]), by first | exact (Below.refl _ _).alloc (Nat.le_refl _) _ | exact below_drewN ((Below.refl _ _).alloc (Nat.le_refl _) _) _⟩)

set_option maxRecDepth 100000 in
set_option maxHeartbeats 2000000 in
theorem may_28 (a b : Int) (w : World) :
    Calls Tryd.prog 16 #[.agg #[.int .i64 28, .int .i64 a, .int .i64 b]] w fun e w' => e = .returned (.bool (Op.win a 0 1 && Op.win b 0 10000)) ∧ Below w.heap.size w w' := by
  have ho : Op.operands 28 = 2 := by decide
  go_enter Tryd.func16, Tryd.ntmps16
  try simp only [List.append_eq, List.cons_append, List.nil_append]
  go_wp2_with fail
  refine (operands_is _ _ ho _).mono ?_; rintro e w' ⟨rfl, rfl⟩
  clear ho
  go_wp2_with (first | (go_at_call 19; refine (operands_is _ _ rfl _).mono ?_; rintro e w' ⟨rfl, rfl⟩; dsimp only) | (go_at_call 20; refine (within_any _ _ _ _).mono ?_; rintro e w' ⟨rfl, rfl⟩; dsimp only))
  go_quiet ((go_at_call 20; exact Calls.quiet_of_same ((within_any _ _ _ _).mono fun _ _ h => ⟨h.1, h.2.symm⟩)))
  go_wp2_with (first | (go_at_call 19; refine (operands_is _ _ rfl _).mono ?_; rintro e w' ⟨rfl, rfl⟩; dsimp only) | (go_at_call 20; refine (within_any _ _ _ _).mono ?_; rintro e w' ⟨rfl, rfl⟩; dsimp only))
  all_goals (go_ret; exact ⟨Aid.ret_bool (by simp_all [show Op.win 0 0 10000 = true by decide]), by first | exact (Below.refl _ _).alloc (Nat.le_refl _) _ | exact below_drewN ((Below.refl _ _).alloc (Nat.le_refl _) _) _⟩)

set_option maxRecDepth 100000 in
set_option maxHeartbeats 2000000 in
theorem may_29 (w : World) :
    Calls Tryd.prog 16 #[.agg #[.int .i64 29, .int .i64 0, .int .i64 0]] w fun e w' => e = .returned (.bool (true)) ∧ Below w.heap.size w w' := by
  have ho : Op.operands 29 = 0 := by decide
  go_enter Tryd.func16, Tryd.ntmps16
  try simp only [List.append_eq, List.cons_append, List.nil_append]
  go_wp2_with fail
  refine (operands_is _ _ ho _).mono ?_; rintro e w' ⟨rfl, rfl⟩
  clear ho
  go_wp2_with (first | (go_at_call 19; refine (operands_is _ _ rfl _).mono ?_; rintro e w' ⟨rfl, rfl⟩; dsimp only) | (go_at_call 20; refine (within_any _ _ _ _).mono ?_; rintro e w' ⟨rfl, rfl⟩; dsimp only))
  go_quiet ((go_at_call 20; exact Calls.quiet_of_same ((within_any _ _ _ _).mono fun _ _ h => ⟨h.1, h.2.symm⟩)))
  go_wp2_with (first | (go_at_call 19; refine (operands_is _ _ rfl _).mono ?_; rintro e w' ⟨rfl, rfl⟩; dsimp only) | (go_at_call 20; refine (within_any _ _ _ _).mono ?_; rintro e w' ⟨rfl, rfl⟩; dsimp only))
  all_goals (go_ret; exact ⟨Aid.ret_bool (by simp_all [show Op.win 0 0 10000 = true by decide]), by first | exact (Below.refl _ _).alloc (Nat.le_refl _) _ | exact below_drewN ((Below.refl _ _).alloc (Nat.le_refl _) _) _⟩)

set_option maxRecDepth 100000 in
set_option maxHeartbeats 2000000 in
theorem may_29n (a b : Int) (w : World) (ha : ¬ a = 0) :
    Calls Tryd.prog 16 #[.agg #[.int .i64 29, .int .i64 a, .int .i64 b]] w fun e w' => e = .returned (.bool (false)) ∧ Below w.heap.size w w' := by
  have ho : Op.operands 29 = 0 := by decide
  go_enter Tryd.func16, Tryd.ntmps16
  try simp only [List.append_eq, List.cons_append, List.nil_append]
  go_wp2_with fail
  refine (operands_is _ _ ho _).mono ?_; rintro e w' ⟨rfl, rfl⟩
  clear ho
  go_wp2_with (first | (go_at_call 19; refine (operands_is _ _ rfl _).mono ?_; rintro e w' ⟨rfl, rfl⟩; dsimp only) | (go_at_call 20; refine (within_any _ _ _ _).mono ?_; rintro e w' ⟨rfl, rfl⟩; dsimp only))
  all_goals (go_ret; exact ⟨Aid.ret_bool (by simp_all [show Op.win 0 0 10000 = true by decide]), by first | exact (Below.refl _ _).alloc (Nat.le_refl _) _ | exact below_drewN ((Below.refl _ _).alloc (Nat.le_refl _) _) _⟩)

set_option maxRecDepth 100000 in
set_option maxHeartbeats 2000000 in
theorem may_29m (b : Int) (w : World) (hb : ¬ b = 0) :
    Calls Tryd.prog 16 #[.agg #[.int .i64 29, .int .i64 0, .int .i64 b]] w fun e w' => e = .returned (.bool (false)) ∧ Below w.heap.size w w' := by
  have ho : Op.operands 29 = 0 := by decide
  go_enter Tryd.func16, Tryd.ntmps16
  try simp only [List.append_eq, List.cons_append, List.nil_append]
  go_wp2_with fail
  refine (operands_is _ _ ho _).mono ?_; rintro e w' ⟨rfl, rfl⟩
  clear ho
  go_wp2_with (first | (go_at_call 19; refine (operands_is _ _ rfl _).mono ?_; rintro e w' ⟨rfl, rfl⟩; dsimp only) | (go_at_call 20; refine (within_any _ _ _ _).mono ?_; rintro e w' ⟨rfl, rfl⟩; dsimp only))
  all_goals (go_ret; exact ⟨Aid.ret_bool (by simp_all [show Op.win 0 0 10000 = true by decide]), by first | exact (Below.refl _ _).alloc (Nat.le_refl _) _ | exact below_drewN ((Below.refl _ _).alloc (Nat.le_refl _) _) _⟩)

set_option maxRecDepth 100000 in
set_option maxHeartbeats 2000000 in
theorem may_30 (w : World) :
    Calls Tryd.prog 16 #[.agg #[.int .i64 30, .int .i64 0, .int .i64 0]] w fun e w' => e = .returned (.bool (true)) ∧ Below w.heap.size w w' := by
  have ho : Op.operands 30 = 0 := by decide
  go_enter Tryd.func16, Tryd.ntmps16
  try simp only [List.append_eq, List.cons_append, List.nil_append]
  go_wp2_with fail
  refine (operands_is _ _ ho _).mono ?_; rintro e w' ⟨rfl, rfl⟩
  clear ho
  go_wp2_with (first | (go_at_call 19; refine (operands_is _ _ rfl _).mono ?_; rintro e w' ⟨rfl, rfl⟩; dsimp only) | (go_at_call 20; refine (within_any _ _ _ _).mono ?_; rintro e w' ⟨rfl, rfl⟩; dsimp only))
  go_quiet ((go_at_call 20; exact Calls.quiet_of_same ((within_any _ _ _ _).mono fun _ _ h => ⟨h.1, h.2.symm⟩)))
  go_wp2_with (first | (go_at_call 19; refine (operands_is _ _ rfl _).mono ?_; rintro e w' ⟨rfl, rfl⟩; dsimp only) | (go_at_call 20; refine (within_any _ _ _ _).mono ?_; rintro e w' ⟨rfl, rfl⟩; dsimp only))
  all_goals (go_ret; exact ⟨Aid.ret_bool (by simp_all [show Op.win 0 0 10000 = true by decide]), by first | exact (Below.refl _ _).alloc (Nat.le_refl _) _ | exact below_drewN ((Below.refl _ _).alloc (Nat.le_refl _) _) _⟩)

set_option maxRecDepth 100000 in
set_option maxHeartbeats 2000000 in
theorem may_30n (a b : Int) (w : World) (ha : ¬ a = 0) :
    Calls Tryd.prog 16 #[.agg #[.int .i64 30, .int .i64 a, .int .i64 b]] w fun e w' => e = .returned (.bool (false)) ∧ Below w.heap.size w w' := by
  have ho : Op.operands 30 = 0 := by decide
  go_enter Tryd.func16, Tryd.ntmps16
  try simp only [List.append_eq, List.cons_append, List.nil_append]
  go_wp2_with fail
  refine (operands_is _ _ ho _).mono ?_; rintro e w' ⟨rfl, rfl⟩
  clear ho
  go_wp2_with (first | (go_at_call 19; refine (operands_is _ _ rfl _).mono ?_; rintro e w' ⟨rfl, rfl⟩; dsimp only) | (go_at_call 20; refine (within_any _ _ _ _).mono ?_; rintro e w' ⟨rfl, rfl⟩; dsimp only))
  all_goals (go_ret; exact ⟨Aid.ret_bool (by simp_all [show Op.win 0 0 10000 = true by decide]), by first | exact (Below.refl _ _).alloc (Nat.le_refl _) _ | exact below_drewN ((Below.refl _ _).alloc (Nat.le_refl _) _) _⟩)

set_option maxRecDepth 100000 in
set_option maxHeartbeats 2000000 in
theorem may_30m (b : Int) (w : World) (hb : ¬ b = 0) :
    Calls Tryd.prog 16 #[.agg #[.int .i64 30, .int .i64 0, .int .i64 b]] w fun e w' => e = .returned (.bool (false)) ∧ Below w.heap.size w w' := by
  have ho : Op.operands 30 = 0 := by decide
  go_enter Tryd.func16, Tryd.ntmps16
  try simp only [List.append_eq, List.cons_append, List.nil_append]
  go_wp2_with fail
  refine (operands_is _ _ ho _).mono ?_; rintro e w' ⟨rfl, rfl⟩
  clear ho
  go_wp2_with (first | (go_at_call 19; refine (operands_is _ _ rfl _).mono ?_; rintro e w' ⟨rfl, rfl⟩; dsimp only) | (go_at_call 20; refine (within_any _ _ _ _).mono ?_; rintro e w' ⟨rfl, rfl⟩; dsimp only))
  all_goals (go_ret; exact ⟨Aid.ret_bool (by simp_all [show Op.win 0 0 10000 = true by decide]), by first | exact (Below.refl _ _).alloc (Nat.le_refl _) _ | exact below_drewN ((Below.refl _ _).alloc (Nat.le_refl _) _) _⟩)

set_option maxRecDepth 100000 in
set_option maxHeartbeats 2000000 in
theorem may_31 (a : Int) (w : World) :
    Calls Tryd.prog 16 #[.agg #[.int .i64 31, .int .i64 a, .int .i64 0]] w fun e w' => e = .returned (.bool (Op.win a 0 10000)) ∧ Below w.heap.size w w' := by
  have ho : Op.operands 31 = 1 := by decide
  go_enter Tryd.func16, Tryd.ntmps16
  try simp only [List.append_eq, List.cons_append, List.nil_append]
  go_wp2_with fail
  refine (operands_is _ _ ho _).mono ?_; rintro e w' ⟨rfl, rfl⟩
  clear ho
  go_wp2_with (first | (go_at_call 19; refine (operands_is _ _ rfl _).mono ?_; rintro e w' ⟨rfl, rfl⟩; dsimp only) | (go_at_call 20; refine (within_any _ _ _ _).mono ?_; rintro e w' ⟨rfl, rfl⟩; dsimp only))
  go_quiet ((go_at_call 20; exact Calls.quiet_of_same ((within_any _ _ _ _).mono fun _ _ h => ⟨h.1, h.2.symm⟩)))
  go_wp2_with (first | (go_at_call 19; refine (operands_is _ _ rfl _).mono ?_; rintro e w' ⟨rfl, rfl⟩; dsimp only) | (go_at_call 20; refine (within_any _ _ _ _).mono ?_; rintro e w' ⟨rfl, rfl⟩; dsimp only))
  all_goals (go_ret; exact ⟨Aid.ret_bool (by simp_all [show Op.win 0 0 10000 = true by decide]), by first | exact (Below.refl _ _).alloc (Nat.le_refl _) _ | exact below_drewN ((Below.refl _ _).alloc (Nat.le_refl _) _) _⟩)

set_option maxRecDepth 100000 in
set_option maxHeartbeats 2000000 in
theorem may_31n (a b : Int) (w : World) (hb : ¬ b = 0) :
    Calls Tryd.prog 16 #[.agg #[.int .i64 31, .int .i64 a, .int .i64 b]] w fun e w' => e = .returned (.bool (false)) ∧ Below w.heap.size w w' := by
  have ho : Op.operands 31 = 1 := by decide
  go_enter Tryd.func16, Tryd.ntmps16
  try simp only [List.append_eq, List.cons_append, List.nil_append]
  go_wp2_with fail
  refine (operands_is _ _ ho _).mono ?_; rintro e w' ⟨rfl, rfl⟩
  clear ho
  go_wp2_with (first | (go_at_call 19; refine (operands_is _ _ rfl _).mono ?_; rintro e w' ⟨rfl, rfl⟩; dsimp only) | (go_at_call 20; refine (within_any _ _ _ _).mono ?_; rintro e w' ⟨rfl, rfl⟩; dsimp only))
  all_goals (go_ret; exact ⟨Aid.ret_bool (by simp_all [show Op.win 0 0 10000 = true by decide]), by first | exact (Below.refl _ _).alloc (Nat.le_refl _) _ | exact below_drewN ((Below.refl _ _).alloc (Nat.le_refl _) _) _⟩)

set_option maxRecDepth 100000 in
set_option maxHeartbeats 2000000 in
theorem may_32 (a : Int) (w : World) :
    Calls Tryd.prog 16 #[.agg #[.int .i64 32, .int .i64 a, .int .i64 0]] w fun e w' => e = .returned (.bool (Op.win a 0 10000)) ∧ Below w.heap.size w w' := by
  have ho : Op.operands 32 = 1 := by decide
  go_enter Tryd.func16, Tryd.ntmps16
  try simp only [List.append_eq, List.cons_append, List.nil_append]
  go_wp2_with fail
  refine (operands_is _ _ ho _).mono ?_; rintro e w' ⟨rfl, rfl⟩
  clear ho
  go_wp2_with (first | (go_at_call 19; refine (operands_is _ _ rfl _).mono ?_; rintro e w' ⟨rfl, rfl⟩; dsimp only) | (go_at_call 20; refine (within_any _ _ _ _).mono ?_; rintro e w' ⟨rfl, rfl⟩; dsimp only))
  go_quiet ((go_at_call 20; exact Calls.quiet_of_same ((within_any _ _ _ _).mono fun _ _ h => ⟨h.1, h.2.symm⟩)))
  go_wp2_with (first | (go_at_call 19; refine (operands_is _ _ rfl _).mono ?_; rintro e w' ⟨rfl, rfl⟩; dsimp only) | (go_at_call 20; refine (within_any _ _ _ _).mono ?_; rintro e w' ⟨rfl, rfl⟩; dsimp only))
  all_goals (go_ret; exact ⟨Aid.ret_bool (by simp_all [show Op.win 0 0 10000 = true by decide]), by first | exact (Below.refl _ _).alloc (Nat.le_refl _) _ | exact below_drewN ((Below.refl _ _).alloc (Nat.le_refl _) _) _⟩)

set_option maxRecDepth 100000 in
set_option maxHeartbeats 2000000 in
theorem may_32n (a b : Int) (w : World) (hb : ¬ b = 0) :
    Calls Tryd.prog 16 #[.agg #[.int .i64 32, .int .i64 a, .int .i64 b]] w fun e w' => e = .returned (.bool (false)) ∧ Below w.heap.size w w' := by
  have ho : Op.operands 32 = 1 := by decide
  go_enter Tryd.func16, Tryd.ntmps16
  try simp only [List.append_eq, List.cons_append, List.nil_append]
  go_wp2_with fail
  refine (operands_is _ _ ho _).mono ?_; rintro e w' ⟨rfl, rfl⟩
  clear ho
  go_wp2_with (first | (go_at_call 19; refine (operands_is _ _ rfl _).mono ?_; rintro e w' ⟨rfl, rfl⟩; dsimp only) | (go_at_call 20; refine (within_any _ _ _ _).mono ?_; rintro e w' ⟨rfl, rfl⟩; dsimp only))
  all_goals (go_ret; exact ⟨Aid.ret_bool (by simp_all [show Op.win 0 0 10000 = true by decide]), by first | exact (Below.refl _ _).alloc (Nat.le_refl _) _ | exact below_drewN ((Below.refl _ _).alloc (Nat.le_refl _) _) _⟩)

set_option maxRecDepth 100000 in
set_option maxHeartbeats 2000000 in
theorem may_33 (a : Int) (w : World) :
    Calls Tryd.prog 16 #[.agg #[.int .i64 33, .int .i64 a, .int .i64 0]] w fun e w' => e = .returned (.bool (Op.win a 0 10000)) ∧ Below w.heap.size w w' := by
  have ho : Op.operands 33 = 1 := by decide
  go_enter Tryd.func16, Tryd.ntmps16
  try simp only [List.append_eq, List.cons_append, List.nil_append]
  go_wp2_with fail
  refine (operands_is _ _ ho _).mono ?_; rintro e w' ⟨rfl, rfl⟩
  clear ho
  go_wp2_with (first | (go_at_call 19; refine (operands_is _ _ rfl _).mono ?_; rintro e w' ⟨rfl, rfl⟩; dsimp only) | (go_at_call 20; refine (within_any _ _ _ _).mono ?_; rintro e w' ⟨rfl, rfl⟩; dsimp only))
  go_quiet ((go_at_call 20; exact Calls.quiet_of_same ((within_any _ _ _ _).mono fun _ _ h => ⟨h.1, h.2.symm⟩)))
  go_wp2_with (first | (go_at_call 19; refine (operands_is _ _ rfl _).mono ?_; rintro e w' ⟨rfl, rfl⟩; dsimp only) | (go_at_call 20; refine (within_any _ _ _ _).mono ?_; rintro e w' ⟨rfl, rfl⟩; dsimp only))
  all_goals (go_ret; exact ⟨Aid.ret_bool (by simp_all [show Op.win 0 0 10000 = true by decide]), by first | exact (Below.refl _ _).alloc (Nat.le_refl _) _ | exact below_drewN ((Below.refl _ _).alloc (Nat.le_refl _) _) _⟩)

set_option maxRecDepth 100000 in
set_option maxHeartbeats 2000000 in
theorem may_33n (a b : Int) (w : World) (hb : ¬ b = 0) :
    Calls Tryd.prog 16 #[.agg #[.int .i64 33, .int .i64 a, .int .i64 b]] w fun e w' => e = .returned (.bool (false)) ∧ Below w.heap.size w w' := by
  have ho : Op.operands 33 = 1 := by decide
  go_enter Tryd.func16, Tryd.ntmps16
  try simp only [List.append_eq, List.cons_append, List.nil_append]
  go_wp2_with fail
  refine (operands_is _ _ ho _).mono ?_; rintro e w' ⟨rfl, rfl⟩
  clear ho
  go_wp2_with (first | (go_at_call 19; refine (operands_is _ _ rfl _).mono ?_; rintro e w' ⟨rfl, rfl⟩; dsimp only) | (go_at_call 20; refine (within_any _ _ _ _).mono ?_; rintro e w' ⟨rfl, rfl⟩; dsimp only))
  all_goals (go_ret; exact ⟨Aid.ret_bool (by simp_all [show Op.win 0 0 10000 = true by decide]), by first | exact (Below.refl _ _).alloc (Nat.le_refl _) _ | exact below_drewN ((Below.refl _ _).alloc (Nat.le_refl _) _) _⟩)

set_option maxRecDepth 100000 in
set_option maxHeartbeats 2000000 in
theorem may_34 (w : World) :
    Calls Tryd.prog 16 #[.agg #[.int .i64 34, .int .i64 0, .int .i64 0]] w fun e w' => e = .returned (.bool (true)) ∧ Below w.heap.size w w' := by
  have ho : Op.operands 34 = 0 := by decide
  go_enter Tryd.func16, Tryd.ntmps16
  try simp only [List.append_eq, List.cons_append, List.nil_append]
  go_wp2_with fail
  refine (operands_is _ _ ho _).mono ?_; rintro e w' ⟨rfl, rfl⟩
  clear ho
  go_wp2_with (first | (go_at_call 19; refine (operands_is _ _ rfl _).mono ?_; rintro e w' ⟨rfl, rfl⟩; dsimp only) | (go_at_call 20; refine (within_any _ _ _ _).mono ?_; rintro e w' ⟨rfl, rfl⟩; dsimp only))
  go_quiet ((go_at_call 20; exact Calls.quiet_of_same ((within_any _ _ _ _).mono fun _ _ h => ⟨h.1, h.2.symm⟩)))
  go_wp2_with (first | (go_at_call 19; refine (operands_is _ _ rfl _).mono ?_; rintro e w' ⟨rfl, rfl⟩; dsimp only) | (go_at_call 20; refine (within_any _ _ _ _).mono ?_; rintro e w' ⟨rfl, rfl⟩; dsimp only))
  all_goals (go_ret; exact ⟨Aid.ret_bool (by simp_all [show Op.win 0 0 10000 = true by decide]), by first | exact (Below.refl _ _).alloc (Nat.le_refl _) _ | exact below_drewN ((Below.refl _ _).alloc (Nat.le_refl _) _) _⟩)

set_option maxRecDepth 100000 in
set_option maxHeartbeats 2000000 in
theorem may_34n (a b : Int) (w : World) (ha : ¬ a = 0) :
    Calls Tryd.prog 16 #[.agg #[.int .i64 34, .int .i64 a, .int .i64 b]] w fun e w' => e = .returned (.bool (false)) ∧ Below w.heap.size w w' := by
  have ho : Op.operands 34 = 0 := by decide
  go_enter Tryd.func16, Tryd.ntmps16
  try simp only [List.append_eq, List.cons_append, List.nil_append]
  go_wp2_with fail
  refine (operands_is _ _ ho _).mono ?_; rintro e w' ⟨rfl, rfl⟩
  clear ho
  go_wp2_with (first | (go_at_call 19; refine (operands_is _ _ rfl _).mono ?_; rintro e w' ⟨rfl, rfl⟩; dsimp only) | (go_at_call 20; refine (within_any _ _ _ _).mono ?_; rintro e w' ⟨rfl, rfl⟩; dsimp only))
  all_goals (go_ret; exact ⟨Aid.ret_bool (by simp_all [show Op.win 0 0 10000 = true by decide]), by first | exact (Below.refl _ _).alloc (Nat.le_refl _) _ | exact below_drewN ((Below.refl _ _).alloc (Nat.le_refl _) _) _⟩)

set_option maxRecDepth 100000 in
set_option maxHeartbeats 2000000 in
theorem may_34m (b : Int) (w : World) (hb : ¬ b = 0) :
    Calls Tryd.prog 16 #[.agg #[.int .i64 34, .int .i64 0, .int .i64 b]] w fun e w' => e = .returned (.bool (false)) ∧ Below w.heap.size w w' := by
  have ho : Op.operands 34 = 0 := by decide
  go_enter Tryd.func16, Tryd.ntmps16
  try simp only [List.append_eq, List.cons_append, List.nil_append]
  go_wp2_with fail
  refine (operands_is _ _ ho _).mono ?_; rintro e w' ⟨rfl, rfl⟩
  clear ho
  go_wp2_with (first | (go_at_call 19; refine (operands_is _ _ rfl _).mono ?_; rintro e w' ⟨rfl, rfl⟩; dsimp only) | (go_at_call 20; refine (within_any _ _ _ _).mono ?_; rintro e w' ⟨rfl, rfl⟩; dsimp only))
  all_goals (go_ret; exact ⟨Aid.ret_bool (by simp_all [show Op.win 0 0 10000 = true by decide]), by first | exact (Below.refl _ _).alloc (Nat.le_refl _) _ | exact below_drewN ((Below.refl _ _).alloc (Nat.le_refl _) _) _⟩)

set_option maxRecDepth 100000 in
set_option maxHeartbeats 2000000 in
theorem may_35 (a : Int) (w : World) :
    Calls Tryd.prog 16 #[.agg #[.int .i64 35, .int .i64 a, .int .i64 0]] w fun e w' => e = .returned (.bool (Op.win a 1 10000)) ∧ Below w.heap.size w w' := by
  have ho : Op.operands 35 = 1 := by decide
  go_enter Tryd.func16, Tryd.ntmps16
  try simp only [List.append_eq, List.cons_append, List.nil_append]
  go_wp2_with fail
  refine (operands_is _ _ ho _).mono ?_; rintro e w' ⟨rfl, rfl⟩
  clear ho
  go_wp2_with (first | (go_at_call 19; refine (operands_is _ _ rfl _).mono ?_; rintro e w' ⟨rfl, rfl⟩; dsimp only) | (go_at_call 20; refine (within_any _ _ _ _).mono ?_; rintro e w' ⟨rfl, rfl⟩; dsimp only))
  go_quiet ((go_at_call 20; exact Calls.quiet_of_same ((within_any _ _ _ _).mono fun _ _ h => ⟨h.1, h.2.symm⟩)))
  go_wp2_with (first | (go_at_call 19; refine (operands_is _ _ rfl _).mono ?_; rintro e w' ⟨rfl, rfl⟩; dsimp only) | (go_at_call 20; refine (within_any _ _ _ _).mono ?_; rintro e w' ⟨rfl, rfl⟩; dsimp only))
  all_goals (go_ret; exact ⟨Aid.ret_bool (by simp_all [show Op.win 0 0 10000 = true by decide]), by first | exact (Below.refl _ _).alloc (Nat.le_refl _) _ | exact below_drewN ((Below.refl _ _).alloc (Nat.le_refl _) _) _⟩)

set_option maxRecDepth 100000 in
set_option maxHeartbeats 2000000 in
theorem may_35n (a b : Int) (w : World) (hb : ¬ b = 0) :
    Calls Tryd.prog 16 #[.agg #[.int .i64 35, .int .i64 a, .int .i64 b]] w fun e w' => e = .returned (.bool (false)) ∧ Below w.heap.size w w' := by
  have ho : Op.operands 35 = 1 := by decide
  go_enter Tryd.func16, Tryd.ntmps16
  try simp only [List.append_eq, List.cons_append, List.nil_append]
  go_wp2_with fail
  refine (operands_is _ _ ho _).mono ?_; rintro e w' ⟨rfl, rfl⟩
  clear ho
  go_wp2_with (first | (go_at_call 19; refine (operands_is _ _ rfl _).mono ?_; rintro e w' ⟨rfl, rfl⟩; dsimp only) | (go_at_call 20; refine (within_any _ _ _ _).mono ?_; rintro e w' ⟨rfl, rfl⟩; dsimp only))
  all_goals (go_ret; exact ⟨Aid.ret_bool (by simp_all [show Op.win 0 0 10000 = true by decide]), by first | exact (Below.refl _ _).alloc (Nat.le_refl _) _ | exact below_drewN ((Below.refl _ _).alloc (Nat.le_refl _) _) _⟩)

end Go.Proofs.YtcgfabnmkbiogaaDoor
