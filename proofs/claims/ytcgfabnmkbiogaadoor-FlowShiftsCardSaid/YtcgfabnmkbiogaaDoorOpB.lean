/- The contracts of May (op), as walks. -/
import Derived.Test.YtcgfabnmkbiogaaDoorProg
import Derived.Test.YtcgfabnmkbiogaaDoorOpSpec
import Derived.Test.YtcgfabnmkbiogaaDoorAid
import Derived.Test.YtcgfabnmkbiogaaDoorOpA
import Derived.WalkKit
import Derived.WalkSpells
import Derived.WalkLawsBesides
import Derived.Deep.QuietTactic
import Derived.BigQuiet
import Derived.Below
namespace Go.Proofs.YtcgfabnmkbiogaaDoor
open Go.RowKit

theorem below_drewN {B : Nat} {a w : World} (h : Below B a w) (n : Nat) : Below B a (w.drewN n) := ⟨h.os, h.tape, h.output, h.size, h.block⟩

set_option maxRecDepth 100000 in
set_option maxHeartbeats 2000000 in
theorem may_1 (a : Int) (w : World) :
    Calls Tryd.prog 16 #[.agg #[.int .i64 1, .int .i64 a, .int .i64 0]] w fun e w' => e = .returned (.bool (Op.win a (-32768) 32767)) ∧ Below w.heap.size w w' := by
  have ho : Op.operands 1 = 1 := by decide
  go_enter Tryd.func16, Tryd.ntmps16
  try simp only [List.append_eq, List.cons_append, List.nil_append]
  go_wp2_with fail
  refine (operands_is _ _ ho _).mono ?_; rintro e w' ⟨rfl, rfl⟩
  clear ho
  go_wp2_with (first | (go_at_call 19; refine (operands_is _ _ rfl _).mono ?_; rintro e w' ⟨rfl, rfl⟩; dsimp only) | (go_at_call 20; refine (within_any _ _ _ _).mono ?_; rintro e w' ⟨rfl, rfl⟩; dsimp only))
  go_quiet ((go_at_call 20; exact Calls.quiet_of_same ((within_any _ _ _ _).mono fun _ _ h => ⟨h.1, h.2.symm⟩)))
  go_wp2_with (first | (go_at_call 19; refine (operands_is _ _ rfl _).mono ?_; rintro e w' ⟨rfl, rfl⟩; dsimp only) | (go_at_call 20; refine (within_any _ _ _ _).mono ?_; rintro e w' ⟨rfl, rfl⟩; dsimp only))
  all_goals (go_ret; exact ⟨Aid.ret_bool (by simp_all [show Op.win 0 0 10000 = true by decide]), by first | exact (Below.refl _ _).alloc (Nat.le_refl _) _ | exact below_drewN ((Below.refl _ _).alloc (Nat.le_refl _) _) _⟩)

set_option maxRecDepth 100000 in
set_option maxHeartbeats 2000000 in
theorem may_1n (a b : Int) (w : World) (hb : ¬ b = 0) :
    Calls Tryd.prog 16 #[.agg #[.int .i64 1, .int .i64 a, .int .i64 b]] w fun e w' => e = .returned (.bool (false)) ∧ Below w.heap.size w w' := by
  have ho : Op.operands 1 = 1 := by decide
  go_enter Tryd.func16, Tryd.ntmps16
  try simp only [List.append_eq, List.cons_append, List.nil_append]
  go_wp2_with fail
  refine (operands_is _ _ ho _).mono ?_; rintro e w' ⟨rfl, rfl⟩
  clear ho
  go_wp2_with (first | (go_at_call 19; refine (operands_is _ _ rfl _).mono ?_; rintro e w' ⟨rfl, rfl⟩; dsimp only) | (go_at_call 20; refine (within_any _ _ _ _).mono ?_; rintro e w' ⟨rfl, rfl⟩; dsimp only))
  all_goals (go_ret; exact ⟨Aid.ret_bool (by simp_all [show Op.win 0 0 10000 = true by decide]), by first | exact (Below.refl _ _).alloc (Nat.le_refl _) _ | exact below_drewN ((Below.refl _ _).alloc (Nat.le_refl _) _) _⟩)

set_option maxRecDepth 100000 in
set_option maxHeartbeats 2000000 in
theorem may_2 (w : World) :
    Calls Tryd.prog 16 #[.agg #[.int .i64 2, .int .i64 0, .int .i64 0]] w fun e w' => e = .returned (.bool (true)) ∧ Below w.heap.size w w' := by
  have ho : Op.operands 2 = 0 := by decide
  go_enter Tryd.func16, Tryd.ntmps16
  try simp only [List.append_eq, List.cons_append, List.nil_append]
  go_wp2_with fail
  refine (operands_is _ _ ho _).mono ?_; rintro e w' ⟨rfl, rfl⟩
  clear ho
  go_wp2_with (first | (go_at_call 19; refine (operands_is _ _ rfl _).mono ?_; rintro e w' ⟨rfl, rfl⟩; dsimp only) | (go_at_call 20; refine (within_any _ _ _ _).mono ?_; rintro e w' ⟨rfl, rfl⟩; dsimp only))
  go_quiet ((go_at_call 20; exact Calls.quiet_of_same ((within_any _ _ _ _).mono fun _ _ h => ⟨h.1, h.2.symm⟩)))
  go_wp2_with (first | (go_at_call 19; refine (operands_is _ _ rfl _).mono ?_; rintro e w' ⟨rfl, rfl⟩; dsimp only) | (go_at_call 20; refine (within_any _ _ _ _).mono ?_; rintro e w' ⟨rfl, rfl⟩; dsimp only))
  all_goals (go_ret; exact ⟨Aid.ret_bool (by simp_all [show Op.win 0 0 10000 = true by decide]), by first | exact (Below.refl _ _).alloc (Nat.le_refl _) _ | exact below_drewN ((Below.refl _ _).alloc (Nat.le_refl _) _) _⟩)

set_option maxRecDepth 100000 in
set_option maxHeartbeats 2000000 in
theorem may_2n (a b : Int) (w : World) (ha : ¬ a = 0) :
    Calls Tryd.prog 16 #[.agg #[.int .i64 2, .int .i64 a, .int .i64 b]] w fun e w' => e = .returned (.bool (false)) ∧ Below w.heap.size w w' := by
  have ho : Op.operands 2 = 0 := by decide
  go_enter Tryd.func16, Tryd.ntmps16
  try simp only [List.append_eq, List.cons_append, List.nil_append]
  go_wp2_with fail
  refine (operands_is _ _ ho _).mono ?_; rintro e w' ⟨rfl, rfl⟩
  clear ho
  go_wp2_with (first | (go_at_call 19; refine (operands_is _ _ rfl _).mono ?_; rintro e w' ⟨rfl, rfl⟩; dsimp only) | (go_at_call 20; refine (within_any _ _ _ _).mono ?_; rintro e w' ⟨rfl, rfl⟩; dsimp only))
  all_goals (go_ret; exact ⟨Aid.ret_bool (by simp_all [show Op.win 0 0 10000 = true by decide]), by first | exact (Below.refl _ _).alloc (Nat.le_refl _) _ | exact below_drewN ((Below.refl _ _).alloc (Nat.le_refl _) _) _⟩)

set_option maxRecDepth 100000 in
set_option maxHeartbeats 2000000 in
theorem may_2m (b : Int) (w : World) (hb : ¬ b = 0) :
    Calls Tryd.prog 16 #[.agg #[.int .i64 2, .int .i64 0, .int .i64 b]] w fun e w' => e = .returned (.bool (false)) ∧ Below w.heap.size w w' := by
  have ho : Op.operands 2 = 0 := by decide
  go_enter Tryd.func16, Tryd.ntmps16
  try simp only [List.append_eq, List.cons_append, List.nil_append]
  go_wp2_with fail
  refine (operands_is _ _ ho _).mono ?_; rintro e w' ⟨rfl, rfl⟩
  clear ho
  go_wp2_with (first | (go_at_call 19; refine (operands_is _ _ rfl _).mono ?_; rintro e w' ⟨rfl, rfl⟩; dsimp only) | (go_at_call 20; refine (within_any _ _ _ _).mono ?_; rintro e w' ⟨rfl, rfl⟩; dsimp only))
  all_goals (go_ret; exact ⟨Aid.ret_bool (by simp_all [show Op.win 0 0 10000 = true by decide]), by first | exact (Below.refl _ _).alloc (Nat.le_refl _) _ | exact below_drewN ((Below.refl _ _).alloc (Nat.le_refl _) _) _⟩)

set_option maxRecDepth 100000 in
set_option maxHeartbeats 2000000 in
theorem may_3 (a : Int) (w : World) :
    Calls Tryd.prog 16 #[.agg #[.int .i64 3, .int .i64 a, .int .i64 0]] w fun e w' => e = .returned (.bool (Op.win a 0 10000)) ∧ Below w.heap.size w w' := by
  have ho : Op.operands 3 = 1 := by decide
  go_enter Tryd.func16, Tryd.ntmps16
  try simp only [List.append_eq, List.cons_append, List.nil_append]
  go_wp2_with fail
  refine (operands_is _ _ ho _).mono ?_; rintro e w' ⟨rfl, rfl⟩
  clear ho
  go_wp2_with (first | (go_at_call 19; refine (operands_is _ _ rfl _).mono ?_; rintro e w' ⟨rfl, rfl⟩; dsimp only) | (go_at_call 20; refine (within_any _ _ _ _).mono ?_; rintro e w' ⟨rfl, rfl⟩; dsimp only))
  go_quiet ((go_at_call 20; exact Calls.quiet_of_same ((within_any _ _ _ _).mono fun _ _ h => ⟨h.1, h.2.symm⟩)))
  go_wp2_with (first | (go_at_call 19; refine (operands_is _ _ rfl _).mono ?_; rintro e w' ⟨rfl, rfl⟩; dsimp only) | (go_at_call 20; refine (within_any _ _ _ _).mono ?_; rintro e w' ⟨rfl, rfl⟩; dsimp only))
  all_goals (go_ret; exact ⟨Aid.ret_bool (by simp_all [show Op.win 0 0 10000 = true by decide]), by first | exact (Below.refl _ _).alloc (Nat.le_refl _) _ | exact below_drewN ((Below.refl _ _).alloc (Nat.le_refl _) _) _⟩)

set_option maxRecDepth 100000 in
set_option maxHeartbeats 2000000 in
theorem may_3n (a b : Int) (w : World) (hb : ¬ b = 0) :
    Calls Tryd.prog 16 #[.agg #[.int .i64 3, .int .i64 a, .int .i64 b]] w fun e w' => e = .returned (.bool (false)) ∧ Below w.heap.size w w' := by
  have ho : Op.operands 3 = 1 := by decide
  go_enter Tryd.func16, Tryd.ntmps16
  try simp only [List.append_eq, List.cons_append, List.nil_append]
  go_wp2_with fail
  refine (operands_is _ _ ho _).mono ?_; rintro e w' ⟨rfl, rfl⟩
  clear ho
  go_wp2_with (first | (go_at_call 19; refine (operands_is _ _ rfl _).mono ?_; rintro e w' ⟨rfl, rfl⟩; dsimp only) | (go_at_call 20; refine (within_any _ _ _ _).mono ?_; rintro e w' ⟨rfl, rfl⟩; dsimp only))
  all_goals (go_ret; exact ⟨Aid.ret_bool (by simp_all [show Op.win 0 0 10000 = true by decide]), by first | exact (Below.refl _ _).alloc (Nat.le_refl _) _ | exact below_drewN ((Below.refl _ _).alloc (Nat.le_refl _) _) _⟩)

set_option maxRecDepth 100000 in
set_option maxHeartbeats 2000000 in
theorem may_4 (a : Int) (w : World) :
    Calls Tryd.prog 16 #[.agg #[.int .i64 4, .int .i64 a, .int .i64 0]] w fun e w' => e = .returned (.bool (Op.win a 0 10000)) ∧ Below w.heap.size w w' := by
  have ho : Op.operands 4 = 1 := by decide
  go_enter Tryd.func16, Tryd.ntmps16
  try simp only [List.append_eq, List.cons_append, List.nil_append]
  go_wp2_with fail
  refine (operands_is _ _ ho _).mono ?_; rintro e w' ⟨rfl, rfl⟩
  clear ho
  go_wp2_with (first | (go_at_call 19; refine (operands_is _ _ rfl _).mono ?_; rintro e w' ⟨rfl, rfl⟩; dsimp only) | (go_at_call 20; refine (within_any _ _ _ _).mono ?_; rintro e w' ⟨rfl, rfl⟩; dsimp only))
  go_quiet ((go_at_call 20; exact Calls.quiet_of_same ((within_any _ _ _ _).mono fun _ _ h => ⟨h.1, h.2.symm⟩)))
  go_wp2_with (first | (go_at_call 19; refine (operands_is _ _ rfl _).mono ?_; rintro e w' ⟨rfl, rfl⟩; dsimp only) | (go_at_call 20; refine (within_any _ _ _ _).mono ?_; rintro e w' ⟨rfl, rfl⟩; dsimp only))
  all_goals (go_ret; exact ⟨Aid.ret_bool (by simp_all [show Op.win 0 0 10000 = true by decide]), by first | exact (Below.refl _ _).alloc (Nat.le_refl _) _ | exact below_drewN ((Below.refl _ _).alloc (Nat.le_refl _) _) _⟩)

set_option maxRecDepth 100000 in
set_option maxHeartbeats 2000000 in
theorem may_4n (a b : Int) (w : World) (hb : ¬ b = 0) :
    Calls Tryd.prog 16 #[.agg #[.int .i64 4, .int .i64 a, .int .i64 b]] w fun e w' => e = .returned (.bool (false)) ∧ Below w.heap.size w w' := by
  have ho : Op.operands 4 = 1 := by decide
  go_enter Tryd.func16, Tryd.ntmps16
  try simp only [List.append_eq, List.cons_append, List.nil_append]
  go_wp2_with fail
  refine (operands_is _ _ ho _).mono ?_; rintro e w' ⟨rfl, rfl⟩
  clear ho
  go_wp2_with (first | (go_at_call 19; refine (operands_is _ _ rfl _).mono ?_; rintro e w' ⟨rfl, rfl⟩; dsimp only) | (go_at_call 20; refine (within_any _ _ _ _).mono ?_; rintro e w' ⟨rfl, rfl⟩; dsimp only))
  all_goals (go_ret; exact ⟨Aid.ret_bool (by simp_all [show Op.win 0 0 10000 = true by decide]), by first | exact (Below.refl _ _).alloc (Nat.le_refl _) _ | exact below_drewN ((Below.refl _ _).alloc (Nat.le_refl _) _) _⟩)

set_option maxRecDepth 100000 in
set_option maxHeartbeats 2000000 in
theorem may_5 (a : Int) (w : World) :
    Calls Tryd.prog 16 #[.agg #[.int .i64 5, .int .i64 a, .int .i64 0]] w fun e w' => e = .returned (.bool (Op.win a 0 10000)) ∧ Below w.heap.size w w' := by
  have ho : Op.operands 5 = 1 := by decide
  go_enter Tryd.func16, Tryd.ntmps16
  try simp only [List.append_eq, List.cons_append, List.nil_append]
  go_wp2_with fail
  refine (operands_is _ _ ho _).mono ?_; rintro e w' ⟨rfl, rfl⟩
  clear ho
  go_wp2_with (first | (go_at_call 19; refine (operands_is _ _ rfl _).mono ?_; rintro e w' ⟨rfl, rfl⟩; dsimp only) | (go_at_call 20; refine (within_any _ _ _ _).mono ?_; rintro e w' ⟨rfl, rfl⟩; dsimp only))
  go_quiet ((go_at_call 20; exact Calls.quiet_of_same ((within_any _ _ _ _).mono fun _ _ h => ⟨h.1, h.2.symm⟩)))
  go_wp2_with (first | (go_at_call 19; refine (operands_is _ _ rfl _).mono ?_; rintro e w' ⟨rfl, rfl⟩; dsimp only) | (go_at_call 20; refine (within_any _ _ _ _).mono ?_; rintro e w' ⟨rfl, rfl⟩; dsimp only))
  all_goals (go_ret; exact ⟨Aid.ret_bool (by simp_all [show Op.win 0 0 10000 = true by decide]), by first | exact (Below.refl _ _).alloc (Nat.le_refl _) _ | exact below_drewN ((Below.refl _ _).alloc (Nat.le_refl _) _) _⟩)

set_option maxRecDepth 100000 in
set_option maxHeartbeats 2000000 in
theorem may_5n (a b : Int) (w : World) (hb : ¬ b = 0) :
    Calls Tryd.prog 16 #[.agg #[.int .i64 5, .int .i64 a, .int .i64 b]] w fun e w' => e = .returned (.bool (false)) ∧ Below w.heap.size w w' := by
  have ho : Op.operands 5 = 1 := by decide
  go_enter Tryd.func16, Tryd.ntmps16
  try simp only [List.append_eq, List.cons_append, List.nil_append]
  go_wp2_with fail
  refine (operands_is _ _ ho _).mono ?_; rintro e w' ⟨rfl, rfl⟩
  clear ho
  go_wp2_with (first | (go_at_call 19; refine (operands_is _ _ rfl _).mono ?_; rintro e w' ⟨rfl, rfl⟩; dsimp only) | (go_at_call 20; refine (within_any _ _ _ _).mono ?_; rintro e w' ⟨rfl, rfl⟩; dsimp only))
  all_goals (go_ret; exact ⟨Aid.ret_bool (by simp_all [show Op.win 0 0 10000 = true by decide]), by first | exact (Below.refl _ _).alloc (Nat.le_refl _) _ | exact below_drewN ((Below.refl _ _).alloc (Nat.le_refl _) _) _⟩)

set_option maxRecDepth 100000 in
set_option maxHeartbeats 2000000 in
theorem may_6 (a : Int) (w : World) :
    Calls Tryd.prog 16 #[.agg #[.int .i64 6, .int .i64 a, .int .i64 0]] w fun e w' => e = .returned (.bool (Op.win a 0 10000)) ∧ Below w.heap.size w w' := by
  have ho : Op.operands 6 = 1 := by decide
  go_enter Tryd.func16, Tryd.ntmps16
  try simp only [List.append_eq, List.cons_append, List.nil_append]
  go_wp2_with fail
  refine (operands_is _ _ ho _).mono ?_; rintro e w' ⟨rfl, rfl⟩
  clear ho
  go_wp2_with (first | (go_at_call 19; refine (operands_is _ _ rfl _).mono ?_; rintro e w' ⟨rfl, rfl⟩; dsimp only) | (go_at_call 20; refine (within_any _ _ _ _).mono ?_; rintro e w' ⟨rfl, rfl⟩; dsimp only))
  go_quiet ((go_at_call 20; exact Calls.quiet_of_same ((within_any _ _ _ _).mono fun _ _ h => ⟨h.1, h.2.symm⟩)))
  go_wp2_with (first | (go_at_call 19; refine (operands_is _ _ rfl _).mono ?_; rintro e w' ⟨rfl, rfl⟩; dsimp only) | (go_at_call 20; refine (within_any _ _ _ _).mono ?_; rintro e w' ⟨rfl, rfl⟩; dsimp only))
  all_goals (go_ret; exact ⟨Aid.ret_bool (by simp_all [show Op.win 0 0 10000 = true by decide]), by first | exact (Below.refl _ _).alloc (Nat.le_refl _) _ | exact below_drewN ((Below.refl _ _).alloc (Nat.le_refl _) _) _⟩)

set_option maxRecDepth 100000 in
set_option maxHeartbeats 2000000 in
theorem may_6n (a b : Int) (w : World) (hb : ¬ b = 0) :
    Calls Tryd.prog 16 #[.agg #[.int .i64 6, .int .i64 a, .int .i64 b]] w fun e w' => e = .returned (.bool (false)) ∧ Below w.heap.size w w' := by
  have ho : Op.operands 6 = 1 := by decide
  go_enter Tryd.func16, Tryd.ntmps16
  try simp only [List.append_eq, List.cons_append, List.nil_append]
  go_wp2_with fail
  refine (operands_is _ _ ho _).mono ?_; rintro e w' ⟨rfl, rfl⟩
  clear ho
  go_wp2_with (first | (go_at_call 19; refine (operands_is _ _ rfl _).mono ?_; rintro e w' ⟨rfl, rfl⟩; dsimp only) | (go_at_call 20; refine (within_any _ _ _ _).mono ?_; rintro e w' ⟨rfl, rfl⟩; dsimp only))
  all_goals (go_ret; exact ⟨Aid.ret_bool (by simp_all [show Op.win 0 0 10000 = true by decide]), by first | exact (Below.refl _ _).alloc (Nat.le_refl _) _ | exact below_drewN ((Below.refl _ _).alloc (Nat.le_refl _) _) _⟩)

set_option maxRecDepth 100000 in
set_option maxHeartbeats 2000000 in
theorem may_7 (a : Int) (w : World) :
    Calls Tryd.prog 16 #[.agg #[.int .i64 7, .int .i64 a, .int .i64 0]] w fun e w' => e = .returned (.bool (Op.win a 0 10000)) ∧ Below w.heap.size w w' := by
  have ho : Op.operands 7 = 1 := by decide
  go_enter Tryd.func16, Tryd.ntmps16
  try simp only [List.append_eq, List.cons_append, List.nil_append]
  go_wp2_with fail
  refine (operands_is _ _ ho _).mono ?_; rintro e w' ⟨rfl, rfl⟩
  clear ho
  go_wp2_with (first | (go_at_call 19; refine (operands_is _ _ rfl _).mono ?_; rintro e w' ⟨rfl, rfl⟩; dsimp only) | (go_at_call 20; refine (within_any _ _ _ _).mono ?_; rintro e w' ⟨rfl, rfl⟩; dsimp only))
  go_quiet ((go_at_call 20; exact Calls.quiet_of_same ((within_any _ _ _ _).mono fun _ _ h => ⟨h.1, h.2.symm⟩)))
  go_wp2_with (first | (go_at_call 19; refine (operands_is _ _ rfl _).mono ?_; rintro e w' ⟨rfl, rfl⟩; dsimp only) | (go_at_call 20; refine (within_any _ _ _ _).mono ?_; rintro e w' ⟨rfl, rfl⟩; dsimp only))
  all_goals (go_ret; exact ⟨Aid.ret_bool (by simp_all [show Op.win 0 0 10000 = true by decide]), by first | exact (Below.refl _ _).alloc (Nat.le_refl _) _ | exact below_drewN ((Below.refl _ _).alloc (Nat.le_refl _) _) _⟩)

set_option maxRecDepth 100000 in
set_option maxHeartbeats 2000000 in
theorem may_7n (a b : Int) (w : World) (hb : ¬ b = 0) :
    Calls Tryd.prog 16 #[.agg #[.int .i64 7, .int .i64 a, .int .i64 b]] w fun e w' => e = .returned (.bool (false)) ∧ Below w.heap.size w w' := by
  have ho : Op.operands 7 = 1 := by decide
  go_enter Tryd.func16, Tryd.ntmps16
  try simp only [List.append_eq, List.cons_append, List.nil_append]
  go_wp2_with fail
  refine (operands_is _ _ ho _).mono ?_; rintro e w' ⟨rfl, rfl⟩
  clear ho
  go_wp2_with (first | (go_at_call 19; refine (operands_is _ _ rfl _).mono ?_; rintro e w' ⟨rfl, rfl⟩; dsimp only) | (go_at_call 20; refine (within_any _ _ _ _).mono ?_; rintro e w' ⟨rfl, rfl⟩; dsimp only))
  all_goals (go_ret; exact ⟨Aid.ret_bool (by simp_all [show Op.win 0 0 10000 = true by decide]), by first | exact (Below.refl _ _).alloc (Nat.le_refl _) _ | exact below_drewN ((Below.refl _ _).alloc (Nat.le_refl _) _) _⟩)

set_option maxRecDepth 100000 in
set_option maxHeartbeats 2000000 in
theorem may_8 (a : Int) (w : World) :
    Calls Tryd.prog 16 #[.agg #[.int .i64 8, .int .i64 a, .int .i64 0]] w fun e w' => e = .returned (.bool (Op.win a 0 10000)) ∧ Below w.heap.size w w' := by
  have ho : Op.operands 8 = 1 := by decide
  go_enter Tryd.func16, Tryd.ntmps16
  try simp only [List.append_eq, List.cons_append, List.nil_append]
  go_wp2_with fail
  refine (operands_is _ _ ho _).mono ?_; rintro e w' ⟨rfl, rfl⟩
  clear ho
  go_wp2_with (first | (go_at_call 19; refine (operands_is _ _ rfl _).mono ?_; rintro e w' ⟨rfl, rfl⟩; dsimp only) | (go_at_call 20; refine (within_any _ _ _ _).mono ?_; rintro e w' ⟨rfl, rfl⟩; dsimp only))
  go_quiet ((go_at_call 20; exact Calls.quiet_of_same ((within_any _ _ _ _).mono fun _ _ h => ⟨h.1, h.2.symm⟩)))
  go_wp2_with (first | (go_at_call 19; refine (operands_is _ _ rfl _).mono ?_; rintro e w' ⟨rfl, rfl⟩; dsimp only) | (go_at_call 20; refine (within_any _ _ _ _).mono ?_; rintro e w' ⟨rfl, rfl⟩; dsimp only))
  all_goals (go_ret; exact ⟨Aid.ret_bool (by simp_all [show Op.win 0 0 10000 = true by decide]), by first | exact (Below.refl _ _).alloc (Nat.le_refl _) _ | exact below_drewN ((Below.refl _ _).alloc (Nat.le_refl _) _) _⟩)

set_option maxRecDepth 100000 in
set_option maxHeartbeats 2000000 in
theorem may_8n (a b : Int) (w : World) (hb : ¬ b = 0) :
    Calls Tryd.prog 16 #[.agg #[.int .i64 8, .int .i64 a, .int .i64 b]] w fun e w' => e = .returned (.bool (false)) ∧ Below w.heap.size w w' := by
  have ho : Op.operands 8 = 1 := by decide
  go_enter Tryd.func16, Tryd.ntmps16
  try simp only [List.append_eq, List.cons_append, List.nil_append]
  go_wp2_with fail
  refine (operands_is _ _ ho _).mono ?_; rintro e w' ⟨rfl, rfl⟩
  clear ho
  go_wp2_with (first | (go_at_call 19; refine (operands_is _ _ rfl _).mono ?_; rintro e w' ⟨rfl, rfl⟩; dsimp only) | (go_at_call 20; refine (within_any _ _ _ _).mono ?_; rintro e w' ⟨rfl, rfl⟩; dsimp only))
  all_goals (go_ret; exact ⟨Aid.ret_bool (by simp_all [show Op.win 0 0 10000 = true by decide]), by first | exact (Below.refl _ _).alloc (Nat.le_refl _) _ | exact below_drewN ((Below.refl _ _).alloc (Nat.le_refl _) _) _⟩)

set_option maxRecDepth 100000 in
set_option maxHeartbeats 2000000 in
theorem may_9 (a : Int) (w : World) :
    Calls Tryd.prog 16 #[.agg #[.int .i64 9, .int .i64 a, .int .i64 0]] w fun e w' => e = .returned (.bool (Op.win a 0 10000)) ∧ Below w.heap.size w w' := by
  have ho : Op.operands 9 = 1 := by decide
  go_enter Tryd.func16, Tryd.ntmps16
  try simp only [List.append_eq, List.cons_append, List.nil_append]
  go_wp2_with fail
  refine (operands_is _ _ ho _).mono ?_; rintro e w' ⟨rfl, rfl⟩
  clear ho
  go_wp2_with (first | (go_at_call 19; refine (operands_is _ _ rfl _).mono ?_; rintro e w' ⟨rfl, rfl⟩; dsimp only) | (go_at_call 20; refine (within_any _ _ _ _).mono ?_; rintro e w' ⟨rfl, rfl⟩; dsimp only))
  go_quiet ((go_at_call 20; exact Calls.quiet_of_same ((within_any _ _ _ _).mono fun _ _ h => ⟨h.1, h.2.symm⟩)))
  go_wp2_with (first | (go_at_call 19; refine (operands_is _ _ rfl _).mono ?_; rintro e w' ⟨rfl, rfl⟩; dsimp only) | (go_at_call 20; refine (within_any _ _ _ _).mono ?_; rintro e w' ⟨rfl, rfl⟩; dsimp only))
  all_goals (go_ret; exact ⟨Aid.ret_bool (by simp_all [show Op.win 0 0 10000 = true by decide]), by first | exact (Below.refl _ _).alloc (Nat.le_refl _) _ | exact below_drewN ((Below.refl _ _).alloc (Nat.le_refl _) _) _⟩)

set_option maxRecDepth 100000 in
set_option maxHeartbeats 2000000 in
theorem may_9n (a b : Int) (w : World) (hb : ¬ b = 0) :
    Calls Tryd.prog 16 #[.agg #[.int .i64 9, .int .i64 a, .int .i64 b]] w fun e w' => e = .returned (.bool (false)) ∧ Below w.heap.size w w' := by
  have ho : Op.operands 9 = 1 := by decide
  go_enter Tryd.func16, Tryd.ntmps16
  try simp only [List.append_eq, List.cons_append, List.nil_append]
  go_wp2_with fail
  refine (operands_is _ _ ho _).mono ?_; rintro e w' ⟨rfl, rfl⟩
  clear ho
  go_wp2_with (first | (go_at_call 19; refine (operands_is _ _ rfl _).mono ?_; rintro e w' ⟨rfl, rfl⟩; dsimp only) | (go_at_call 20; refine (within_any _ _ _ _).mono ?_; rintro e w' ⟨rfl, rfl⟩; dsimp only))
  all_goals (go_ret; exact ⟨Aid.ret_bool (by simp_all [show Op.win 0 0 10000 = true by decide]), by first | exact (Below.refl _ _).alloc (Nat.le_refl _) _ | exact below_drewN ((Below.refl _ _).alloc (Nat.le_refl _) _) _⟩)

set_option maxRecDepth 100000 in
set_option maxHeartbeats 2000000 in
theorem may_10 (a b : Int) (w : World) :
    Calls Tryd.prog 16 #[.agg #[.int .i64 10, .int .i64 a, .int .i64 b]] w fun e w' => e = .returned (.bool (Op.win a 0 10000 && Op.win b 1 10000)) ∧ Below w.heap.size w w' := by
  have ho : Op.operands 10 = 2 := by decide
  go_enter Tryd.func16, Tryd.ntmps16
  try simp only [List.append_eq, List.cons_append, List.nil_append]
  go_wp2_with fail
  refine (operands_is _ _ ho _).mono ?_; rintro e w' ⟨rfl, rfl⟩
  clear ho
  go_wp2_with (first | (go_at_call 19; refine (operands_is _ _ rfl _).mono ?_; rintro e w' ⟨rfl, rfl⟩; dsimp only) | (go_at_call 20; refine (within_any _ _ _ _).mono ?_; rintro e w' ⟨rfl, rfl⟩; dsimp only))
  go_quiet ((go_at_call 20; exact Calls.quiet_of_same ((within_any _ _ _ _).mono fun _ _ h => ⟨h.1, h.2.symm⟩)))
  go_wp2_with (first | (go_at_call 19; refine (operands_is _ _ rfl _).mono ?_; rintro e w' ⟨rfl, rfl⟩; dsimp only) | (go_at_call 20; refine (within_any _ _ _ _).mono ?_; rintro e w' ⟨rfl, rfl⟩; dsimp only))
  all_goals (go_ret; exact ⟨Aid.ret_bool (by simp_all [show Op.win 0 0 10000 = true by decide]), by first | exact (Below.refl _ _).alloc (Nat.le_refl _) _ | exact below_drewN ((Below.refl _ _).alloc (Nat.le_refl _) _) _⟩)

set_option maxRecDepth 100000 in
set_option maxHeartbeats 2000000 in
theorem may_11 (a b : Int) (w : World) :
    Calls Tryd.prog 16 #[.agg #[.int .i64 11, .int .i64 a, .int .i64 b]] w fun e w' => e = .returned (.bool (Op.win a 0 10000 && Op.win b 1 10000)) ∧ Below w.heap.size w w' := by
  have ho : Op.operands 11 = 2 := by decide
  go_enter Tryd.func16, Tryd.ntmps16
  try simp only [List.append_eq, List.cons_append, List.nil_append]
  go_wp2_with fail
  refine (operands_is _ _ ho _).mono ?_; rintro e w' ⟨rfl, rfl⟩
  clear ho
  go_wp2_with (first | (go_at_call 19; refine (operands_is _ _ rfl _).mono ?_; rintro e w' ⟨rfl, rfl⟩; dsimp only) | (go_at_call 20; refine (within_any _ _ _ _).mono ?_; rintro e w' ⟨rfl, rfl⟩; dsimp only))
  go_quiet ((go_at_call 20; exact Calls.quiet_of_same ((within_any _ _ _ _).mono fun _ _ h => ⟨h.1, h.2.symm⟩)))
  go_wp2_with (first | (go_at_call 19; refine (operands_is _ _ rfl _).mono ?_; rintro e w' ⟨rfl, rfl⟩; dsimp only) | (go_at_call 20; refine (within_any _ _ _ _).mono ?_; rintro e w' ⟨rfl, rfl⟩; dsimp only))
  all_goals (go_ret; exact ⟨Aid.ret_bool (by simp_all [show Op.win 0 0 10000 = true by decide]), by first | exact (Below.refl _ _).alloc (Nat.le_refl _) _ | exact below_drewN ((Below.refl _ _).alloc (Nat.le_refl _) _) _⟩)

set_option maxRecDepth 100000 in
set_option maxHeartbeats 2000000 in
theorem may_12 (a b : Int) (w : World) :
    Calls Tryd.prog 16 #[.agg #[.int .i64 12, .int .i64 a, .int .i64 b]] w fun e w' => e = .returned (.bool (Op.win a 0 10000 && Op.win b 1 10000)) ∧ Below w.heap.size w w' := by
  have ho : Op.operands 12 = 2 := by decide
  go_enter Tryd.func16, Tryd.ntmps16
  try simp only [List.append_eq, List.cons_append, List.nil_append]
  go_wp2_with fail
  refine (operands_is _ _ ho _).mono ?_; rintro e w' ⟨rfl, rfl⟩
  clear ho
  go_wp2_with (first | (go_at_call 19; refine (operands_is _ _ rfl _).mono ?_; rintro e w' ⟨rfl, rfl⟩; dsimp only) | (go_at_call 20; refine (within_any _ _ _ _).mono ?_; rintro e w' ⟨rfl, rfl⟩; dsimp only))
  go_quiet ((go_at_call 20; exact Calls.quiet_of_same ((within_any _ _ _ _).mono fun _ _ h => ⟨h.1, h.2.symm⟩)))
  go_wp2_with (first | (go_at_call 19; refine (operands_is _ _ rfl _).mono ?_; rintro e w' ⟨rfl, rfl⟩; dsimp only) | (go_at_call 20; refine (within_any _ _ _ _).mono ?_; rintro e w' ⟨rfl, rfl⟩; dsimp only))
  all_goals (go_ret; exact ⟨Aid.ret_bool (by simp_all [show Op.win 0 0 10000 = true by decide]), by first | exact (Below.refl _ _).alloc (Nat.le_refl _) _ | exact below_drewN ((Below.refl _ _).alloc (Nat.le_refl _) _) _⟩)

end Go.Proofs.YtcgfabnmkbiogaaDoor
