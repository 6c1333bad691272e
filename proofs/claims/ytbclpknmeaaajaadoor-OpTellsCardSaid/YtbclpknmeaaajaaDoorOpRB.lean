/- The contracts of May (governorref14), as walks. -/
import Derived.Test.YtbclpknmeaaajaaDoorProg
import Derived.Test.YtbclpknmeaaajaaDoorOpSpec
import Derived.Test.YtbclpknmeaaajaaDoorAid
import Derived.Test.YtbclpknmeaaajaaDoorOpRA
import Derived.Test.YtbclpknmeaaajaaDoorOpB
import Derived.WalkKit
import Derived.WalkSpells
import Derived.WalkLawsBesides
import Derived.Deep.QuietTactic
import Derived.BigQuiet
import Derived.Below
namespace Go.Proofs.YtbclpknmeaaajaaDoor
open Go.RowKit

set_option maxRecDepth 100000 in
set_option maxHeartbeats 2000000 in
theorem rmay_1 (a : Int) (w : World) :
    Calls Tryd.prog 10 #[.agg #[.int .i64 1, .int .i64 a, .int .i64 0]] w fun e w' => e = .returned (.bool (Op.win a (-32768) 32767)) ∧ Below w.heap.size w w' := by
  have ho : Op.operands 1 = 1 := by decide
  go_enter Tryd.func10, Tryd.ntmps10
  try simp only [List.append_eq, List.cons_append, List.nil_append]
  go_wp2_with fail
  refine (roperands_is _ _ ho _).mono ?_; rintro e w' ⟨rfl, rfl⟩
  clear ho
  go_wp2_with (first | (go_at_call 12; refine (roperands_is _ _ rfl _).mono ?_; rintro e w' ⟨rfl, rfl⟩; dsimp only) | (go_at_call 21; refine (rwithin_any _ _ _ _).mono ?_; rintro e w' ⟨rfl, rfl⟩; dsimp only))
  all_goals (go_ret; exact ⟨Aid.ret_bool (by simp_all [show Op.win 0 0 10000 = true by decide]), by first | exact (Below.refl _ _).alloc (Nat.le_refl _) _ | exact below_drewN ((Below.refl _ _).alloc (Nat.le_refl _) _) _⟩)

set_option maxRecDepth 100000 in
set_option maxHeartbeats 2000000 in
theorem rmay_1n (a b : Int) (w : World) (hb : ¬ b = 0) :
    Calls Tryd.prog 10 #[.agg #[.int .i64 1, .int .i64 a, .int .i64 b]] w fun e w' => e = .returned (.bool (false)) ∧ Below w.heap.size w w' := by
  have ho : Op.operands 1 = 1 := by decide
  go_enter Tryd.func10, Tryd.ntmps10
  try simp only [List.append_eq, List.cons_append, List.nil_append]
  go_wp2_with fail
  refine (roperands_is _ _ ho _).mono ?_; rintro e w' ⟨rfl, rfl⟩
  clear ho
  go_wp2_with (first | (go_at_call 12; refine (roperands_is _ _ rfl _).mono ?_; rintro e w' ⟨rfl, rfl⟩; dsimp only) | (go_at_call 21; refine (rwithin_any _ _ _ _).mono ?_; rintro e w' ⟨rfl, rfl⟩; dsimp only))
  all_goals (go_ret; exact ⟨Aid.ret_bool (by simp_all [show Op.win 0 0 10000 = true by decide]), by first | exact (Below.refl _ _).alloc (Nat.le_refl _) _ | exact below_drewN ((Below.refl _ _).alloc (Nat.le_refl _) _) _⟩)

set_option maxRecDepth 100000 in
set_option maxHeartbeats 2000000 in
theorem rmay_2 (w : World) :
    Calls Tryd.prog 10 #[.agg #[.int .i64 2, .int .i64 0, .int .i64 0]] w fun e w' => e = .returned (.bool (true)) ∧ Below w.heap.size w w' := by
  have ho : Op.operands 2 = 0 := by decide
  go_enter Tryd.func10, Tryd.ntmps10
  try simp only [List.append_eq, List.cons_append, List.nil_append]
  go_wp2_with fail
  refine (roperands_is _ _ ho _).mono ?_; rintro e w' ⟨rfl, rfl⟩
  clear ho
  go_wp2_with (first | (go_at_call 12; refine (roperands_is _ _ rfl _).mono ?_; rintro e w' ⟨rfl, rfl⟩; dsimp only) | (go_at_call 21; refine (rwithin_any _ _ _ _).mono ?_; rintro e w' ⟨rfl, rfl⟩; dsimp only))
  all_goals (go_ret; exact ⟨Aid.ret_bool (by simp_all [show Op.win 0 0 10000 = true by decide]), by first | exact (Below.refl _ _).alloc (Nat.le_refl _) _ | exact below_drewN ((Below.refl _ _).alloc (Nat.le_refl _) _) _⟩)

set_option maxRecDepth 100000 in
set_option maxHeartbeats 2000000 in
theorem rmay_2n (a b : Int) (w : World) (ha : ¬ a = 0) :
    Calls Tryd.prog 10 #[.agg #[.int .i64 2, .int .i64 a, .int .i64 b]] w fun e w' => e = .returned (.bool (false)) ∧ Below w.heap.size w w' := by
  have ho : Op.operands 2 = 0 := by decide
  go_enter Tryd.func10, Tryd.ntmps10
  try simp only [List.append_eq, List.cons_append, List.nil_append]
  go_wp2_with fail
  refine (roperands_is _ _ ho _).mono ?_; rintro e w' ⟨rfl, rfl⟩
  clear ho
  go_wp2_with (first | (go_at_call 12; refine (roperands_is _ _ rfl _).mono ?_; rintro e w' ⟨rfl, rfl⟩; dsimp only) | (go_at_call 21; refine (rwithin_any _ _ _ _).mono ?_; rintro e w' ⟨rfl, rfl⟩; dsimp only))
  all_goals (go_ret; exact ⟨Aid.ret_bool (by simp_all [show Op.win 0 0 10000 = true by decide]), by first | exact (Below.refl _ _).alloc (Nat.le_refl _) _ | exact below_drewN ((Below.refl _ _).alloc (Nat.le_refl _) _) _⟩)

set_option maxRecDepth 100000 in
set_option maxHeartbeats 2000000 in
theorem rmay_2m (b : Int) (w : World) (hb : ¬ b = 0) :
    Calls Tryd.prog 10 #[.agg #[.int .i64 2, .int .i64 0, .int .i64 b]] w fun e w' => e = .returned (.bool (false)) ∧ Below w.heap.size w w' := by
  have ho : Op.operands 2 = 0 := by decide
  go_enter Tryd.func10, Tryd.ntmps10
  try simp only [List.append_eq, List.cons_append, List.nil_append]
  go_wp2_with fail
  refine (roperands_is _ _ ho _).mono ?_; rintro e w' ⟨rfl, rfl⟩
  clear ho
  go_wp2_with (first | (go_at_call 12; refine (roperands_is _ _ rfl _).mono ?_; rintro e w' ⟨rfl, rfl⟩; dsimp only) | (go_at_call 21; refine (rwithin_any _ _ _ _).mono ?_; rintro e w' ⟨rfl, rfl⟩; dsimp only))
  all_goals (go_ret; exact ⟨Aid.ret_bool (by simp_all [show Op.win 0 0 10000 = true by decide]), by first | exact (Below.refl _ _).alloc (Nat.le_refl _) _ | exact below_drewN ((Below.refl _ _).alloc (Nat.le_refl _) _) _⟩)

set_option maxRecDepth 100000 in
set_option maxHeartbeats 2000000 in
theorem rmay_3 (a : Int) (w : World) :
    Calls Tryd.prog 10 #[.agg #[.int .i64 3, .int .i64 a, .int .i64 0]] w fun e w' => e = .returned (.bool (Op.win a 0 10000)) ∧ Below w.heap.size w w' := by
  have ho : Op.operands 3 = 1 := by decide
  go_enter Tryd.func10, Tryd.ntmps10
  try simp only [List.append_eq, List.cons_append, List.nil_append]
  go_wp2_with fail
  refine (roperands_is _ _ ho _).mono ?_; rintro e w' ⟨rfl, rfl⟩
  clear ho
  go_wp2_with (first | (go_at_call 12; refine (roperands_is _ _ rfl _).mono ?_; rintro e w' ⟨rfl, rfl⟩; dsimp only) | (go_at_call 21; refine (rwithin_any _ _ _ _).mono ?_; rintro e w' ⟨rfl, rfl⟩; dsimp only))
  all_goals (go_ret; exact ⟨Aid.ret_bool (by simp_all [show Op.win 0 0 10000 = true by decide]), by first | exact (Below.refl _ _).alloc (Nat.le_refl _) _ | exact below_drewN ((Below.refl _ _).alloc (Nat.le_refl _) _) _⟩)

set_option maxRecDepth 100000 in
set_option maxHeartbeats 2000000 in
theorem rmay_3n (a b : Int) (w : World) (hb : ¬ b = 0) :
    Calls Tryd.prog 10 #[.agg #[.int .i64 3, .int .i64 a, .int .i64 b]] w fun e w' => e = .returned (.bool (false)) ∧ Below w.heap.size w w' := by
  have ho : Op.operands 3 = 1 := by decide
  go_enter Tryd.func10, Tryd.ntmps10
  try simp only [List.append_eq, List.cons_append, List.nil_append]
  go_wp2_with fail
  refine (roperands_is _ _ ho _).mono ?_; rintro e w' ⟨rfl, rfl⟩
  clear ho
  go_wp2_with (first | (go_at_call 12; refine (roperands_is _ _ rfl _).mono ?_; rintro e w' ⟨rfl, rfl⟩; dsimp only) | (go_at_call 21; refine (rwithin_any _ _ _ _).mono ?_; rintro e w' ⟨rfl, rfl⟩; dsimp only))
  all_goals (go_ret; exact ⟨Aid.ret_bool (by simp_all [show Op.win 0 0 10000 = true by decide]), by first | exact (Below.refl _ _).alloc (Nat.le_refl _) _ | exact below_drewN ((Below.refl _ _).alloc (Nat.le_refl _) _) _⟩)

set_option maxRecDepth 100000 in
set_option maxHeartbeats 2000000 in
theorem rmay_4 (a : Int) (w : World) :
    Calls Tryd.prog 10 #[.agg #[.int .i64 4, .int .i64 a, .int .i64 0]] w fun e w' => e = .returned (.bool (Op.win a 0 10000)) ∧ Below w.heap.size w w' := by
  have ho : Op.operands 4 = 1 := by decide
  go_enter Tryd.func10, Tryd.ntmps10
  try simp only [List.append_eq, List.cons_append, List.nil_append]
  go_wp2_with fail
  refine (roperands_is _ _ ho _).mono ?_; rintro e w' ⟨rfl, rfl⟩
  clear ho
  go_wp2_with (first | (go_at_call 12; refine (roperands_is _ _ rfl _).mono ?_; rintro e w' ⟨rfl, rfl⟩; dsimp only) | (go_at_call 21; refine (rwithin_any _ _ _ _).mono ?_; rintro e w' ⟨rfl, rfl⟩; dsimp only))
  all_goals (go_ret; exact ⟨Aid.ret_bool (by simp_all [show Op.win 0 0 10000 = true by decide]), by first | exact (Below.refl _ _).alloc (Nat.le_refl _) _ | exact below_drewN ((Below.refl _ _).alloc (Nat.le_refl _) _) _⟩)

set_option maxRecDepth 100000 in
set_option maxHeartbeats 2000000 in
theorem rmay_4n (a b : Int) (w : World) (hb : ¬ b = 0) :
    Calls Tryd.prog 10 #[.agg #[.int .i64 4, .int .i64 a, .int .i64 b]] w fun e w' => e = .returned (.bool (false)) ∧ Below w.heap.size w w' := by
  have ho : Op.operands 4 = 1 := by decide
  go_enter Tryd.func10, Tryd.ntmps10
  try simp only [List.append_eq, List.cons_append, List.nil_append]
  go_wp2_with fail
  refine (roperands_is _ _ ho _).mono ?_; rintro e w' ⟨rfl, rfl⟩
  clear ho
  go_wp2_with (first | (go_at_call 12; refine (roperands_is _ _ rfl _).mono ?_; rintro e w' ⟨rfl, rfl⟩; dsimp only) | (go_at_call 21; refine (rwithin_any _ _ _ _).mono ?_; rintro e w' ⟨rfl, rfl⟩; dsimp only))
  all_goals (go_ret; exact ⟨Aid.ret_bool (by simp_all [show Op.win 0 0 10000 = true by decide]), by first | exact (Below.refl _ _).alloc (Nat.le_refl _) _ | exact below_drewN ((Below.refl _ _).alloc (Nat.le_refl _) _) _⟩)

set_option maxRecDepth 100000 in
set_option maxHeartbeats 2000000 in
theorem rmay_5 (a : Int) (w : World) :
    Calls Tryd.prog 10 #[.agg #[.int .i64 5, .int .i64 a, .int .i64 0]] w fun e w' => e = .returned (.bool (Op.win a 0 10000)) ∧ Below w.heap.size w w' := by
  have ho : Op.operands 5 = 1 := by decide
  go_enter Tryd.func10, Tryd.ntmps10
  try simp only [List.append_eq, List.cons_append, List.nil_append]
  go_wp2_with fail
  refine (roperands_is _ _ ho _).mono ?_; rintro e w' ⟨rfl, rfl⟩
  clear ho
  go_wp2_with (first | (go_at_call 12; refine (roperands_is _ _ rfl _).mono ?_; rintro e w' ⟨rfl, rfl⟩; dsimp only) | (go_at_call 21; refine (rwithin_any _ _ _ _).mono ?_; rintro e w' ⟨rfl, rfl⟩; dsimp only))
  all_goals (go_ret; exact ⟨Aid.ret_bool (by simp_all [show Op.win 0 0 10000 = true by decide]), by first | exact (Below.refl _ _).alloc (Nat.le_refl _) _ | exact below_drewN ((Below.refl _ _).alloc (Nat.le_refl _) _) _⟩)

set_option maxRecDepth 100000 in
set_option maxHeartbeats 2000000 in
theorem rmay_5n (a b : Int) (w : World) (hb : ¬ b = 0) :
    Calls Tryd.prog 10 #[.agg #[.int .i64 5, .int .i64 a, .int .i64 b]] w fun e w' => e = .returned (.bool (false)) ∧ Below w.heap.size w w' := by
  have ho : Op.operands 5 = 1 := by decide
  go_enter Tryd.func10, Tryd.ntmps10
  try simp only [List.append_eq, List.cons_append, List.nil_append]
  go_wp2_with fail
  refine (roperands_is _ _ ho _).mono ?_; rintro e w' ⟨rfl, rfl⟩
  clear ho
  go_wp2_with (first | (go_at_call 12; refine (roperands_is _ _ rfl _).mono ?_; rintro e w' ⟨rfl, rfl⟩; dsimp only) | (go_at_call 21; refine (rwithin_any _ _ _ _).mono ?_; rintro e w' ⟨rfl, rfl⟩; dsimp only))
  all_goals (go_ret; exact ⟨Aid.ret_bool (by simp_all [show Op.win 0 0 10000 = true by decide]), by first | exact (Below.refl _ _).alloc (Nat.le_refl _) _ | exact below_drewN ((Below.refl _ _).alloc (Nat.le_refl _) _) _⟩)

set_option maxRecDepth 100000 in
set_option maxHeartbeats 2000000 in
theorem rmay_6 (a : Int) (w : World) :
    Calls Tryd.prog 10 #[.agg #[.int .i64 6, .int .i64 a, .int .i64 0]] w fun e w' => e = .returned (.bool (Op.win a 0 10000)) ∧ Below w.heap.size w w' := by
  have ho : Op.operands 6 = 1 := by decide
  go_enter Tryd.func10, Tryd.ntmps10
  try simp only [List.append_eq, List.cons_append, List.nil_append]
  go_wp2_with fail
  refine (roperands_is _ _ ho _).mono ?_; rintro e w' ⟨rfl, rfl⟩
  clear ho
  go_wp2_with (first | (go_at_call 12; refine (roperands_is _ _ rfl _).mono ?_; rintro e w' ⟨rfl, rfl⟩; dsimp only) | (go_at_call 21; refine (rwithin_any _ _ _ _).mono ?_; rintro e w' ⟨rfl, rfl⟩; dsimp only))
  all_goals (go_ret; exact ⟨Aid.ret_bool (by simp_all [show Op.win 0 0 10000 = true by decide]), by first | exact (Below.refl _ _).alloc (Nat.le_refl _) _ | exact below_drewN ((Below.refl _ _).alloc (Nat.le_refl _) _) _⟩)

set_option maxRecDepth 100000 in
set_option maxHeartbeats 2000000 in
theorem rmay_6n (a b : Int) (w : World) (hb : ¬ b = 0) :
    Calls Tryd.prog 10 #[.agg #[.int .i64 6, .int .i64 a, .int .i64 b]] w fun e w' => e = .returned (.bool (false)) ∧ Below w.heap.size w w' := by
  have ho : Op.operands 6 = 1 := by decide
  go_enter Tryd.func10, Tryd.ntmps10
  try simp only [List.append_eq, List.cons_append, List.nil_append]
  go_wp2_with fail
  refine (roperands_is _ _ ho _).mono ?_; rintro e w' ⟨rfl, rfl⟩
  clear ho
  go_wp2_with (first | (go_at_call 12; refine (roperands_is _ _ rfl _).mono ?_; rintro e w' ⟨rfl, rfl⟩; dsimp only) | (go_at_call 21; refine (rwithin_any _ _ _ _).mono ?_; rintro e w' ⟨rfl, rfl⟩; dsimp only))
  all_goals (go_ret; exact ⟨Aid.ret_bool (by simp_all [show Op.win 0 0 10000 = true by decide]), by first | exact (Below.refl _ _).alloc (Nat.le_refl _) _ | exact below_drewN ((Below.refl _ _).alloc (Nat.le_refl _) _) _⟩)

set_option maxRecDepth 100000 in
set_option maxHeartbeats 2000000 in
theorem rmay_7 (a : Int) (w : World) :
    Calls Tryd.prog 10 #[.agg #[.int .i64 7, .int .i64 a, .int .i64 0]] w fun e w' => e = .returned (.bool (Op.win a 0 10000)) ∧ Below w.heap.size w w' := by
  have ho : Op.operands 7 = 1 := by decide
  go_enter Tryd.func10, Tryd.ntmps10
  try simp only [List.append_eq, List.cons_append, List.nil_append]
  go_wp2_with fail
  refine (roperands_is _ _ ho _).mono ?_; rintro e w' ⟨rfl, rfl⟩
  clear ho
  go_wp2_with (first | (go_at_call 12; refine (roperands_is _ _ rfl _).mono ?_; rintro e w' ⟨rfl, rfl⟩; dsimp only) | (go_at_call 21; refine (rwithin_any _ _ _ _).mono ?_; rintro e w' ⟨rfl, rfl⟩; dsimp only))
  all_goals (go_ret; exact ⟨Aid.ret_bool (by simp_all [show Op.win 0 0 10000 = true by decide]), by first | exact (Below.refl _ _).alloc (Nat.le_refl _) _ | exact below_drewN ((Below.refl _ _).alloc (Nat.le_refl _) _) _⟩)

set_option maxRecDepth 100000 in
set_option maxHeartbeats 2000000 in
theorem rmay_7n (a b : Int) (w : World) (hb : ¬ b = 0) :
    Calls Tryd.prog 10 #[.agg #[.int .i64 7, .int .i64 a, .int .i64 b]] w fun e w' => e = .returned (.bool (false)) ∧ Below w.heap.size w w' := by
  have ho : Op.operands 7 = 1 := by decide
  go_enter Tryd.func10, Tryd.ntmps10
  try simp only [List.append_eq, List.cons_append, List.nil_append]
  go_wp2_with fail
  refine (roperands_is _ _ ho _).mono ?_; rintro e w' ⟨rfl, rfl⟩
  clear ho
  go_wp2_with (first | (go_at_call 12; refine (roperands_is _ _ rfl _).mono ?_; rintro e w' ⟨rfl, rfl⟩; dsimp only) | (go_at_call 21; refine (rwithin_any _ _ _ _).mono ?_; rintro e w' ⟨rfl, rfl⟩; dsimp only))
  all_goals (go_ret; exact ⟨Aid.ret_bool (by simp_all [show Op.win 0 0 10000 = true by decide]), by first | exact (Below.refl _ _).alloc (Nat.le_refl _) _ | exact below_drewN ((Below.refl _ _).alloc (Nat.le_refl _) _) _⟩)

set_option maxRecDepth 100000 in
set_option maxHeartbeats 2000000 in
theorem rmay_8 (a : Int) (w : World) :
    Calls Tryd.prog 10 #[.agg #[.int .i64 8, .int .i64 a, .int .i64 0]] w fun e w' => e = .returned (.bool (Op.win a 0 10000)) ∧ Below w.heap.size w w' := by
  have ho : Op.operands 8 = 1 := by decide
  go_enter Tryd.func10, Tryd.ntmps10
  try simp only [List.append_eq, List.cons_append, List.nil_append]
  go_wp2_with fail
  refine (roperands_is _ _ ho _).mono ?_; rintro e w' ⟨rfl, rfl⟩
  clear ho
  go_wp2_with (first | (go_at_call 12; refine (roperands_is _ _ rfl _).mono ?_; rintro e w' ⟨rfl, rfl⟩; dsimp only) | (go_at_call 21; refine (rwithin_any _ _ _ _).mono ?_; rintro e w' ⟨rfl, rfl⟩; dsimp only))
  all_goals (go_ret; exact ⟨Aid.ret_bool (by simp_all [show Op.win 0 0 10000 = true by decide]), by first | exact (Below.refl _ _).alloc (Nat.le_refl _) _ | exact below_drewN ((Below.refl _ _).alloc (Nat.le_refl _) _) _⟩)

set_option maxRecDepth 100000 in
set_option maxHeartbeats 2000000 in
theorem rmay_8n (a b : Int) (w : World) (hb : ¬ b = 0) :
    Calls Tryd.prog 10 #[.agg #[.int .i64 8, .int .i64 a, .int .i64 b]] w fun e w' => e = .returned (.bool (false)) ∧ Below w.heap.size w w' := by
  have ho : Op.operands 8 = 1 := by decide
  go_enter Tryd.func10, Tryd.ntmps10
  try simp only [List.append_eq, List.cons_append, List.nil_append]
  go_wp2_with fail
  refine (roperands_is _ _ ho _).mono ?_; rintro e w' ⟨rfl, rfl⟩
  clear ho
  go_wp2_with (first | (go_at_call 12; refine (roperands_is _ _ rfl _).mono ?_; rintro e w' ⟨rfl, rfl⟩; dsimp only) | (go_at_call 21; refine (rwithin_any _ _ _ _).mono ?_; rintro e w' ⟨rfl, rfl⟩; dsimp only))
  all_goals (go_ret; exact ⟨Aid.ret_bool (by simp_all [show Op.win 0 0 10000 = true by decide]), by first | exact (Below.refl _ _).alloc (Nat.le_refl _) _ | exact below_drewN ((Below.refl _ _).alloc (Nat.le_refl _) _) _⟩)

set_option maxRecDepth 100000 in
set_option maxHeartbeats 2000000 in
theorem rmay_9 (a : Int) (w : World) :
    Calls Tryd.prog 10 #[.agg #[.int .i64 9, .int .i64 a, .int .i64 0]] w fun e w' => e = .returned (.bool (Op.win a 0 10000)) ∧ Below w.heap.size w w' := by
  have ho : Op.operands 9 = 1 := by decide
  go_enter Tryd.func10, Tryd.ntmps10
  try simp only [List.append_eq, List.cons_append, List.nil_append]
  go_wp2_with fail
  refine (roperands_is _ _ ho _).mono ?_; rintro e w' ⟨rfl, rfl⟩
  clear ho
  go_wp2_with (first | (go_at_call 12; refine (roperands_is _ _ rfl _).mono ?_; rintro e w' ⟨rfl, rfl⟩; dsimp only) | (go_at_call 21; refine (rwithin_any _ _ _ _).mono ?_; rintro e w' ⟨rfl, rfl⟩; dsimp only))
  all_goals (go_ret; exact ⟨Aid.ret_bool (by simp_all [show Op.win 0 0 10000 = true by decide]), by first | exact (Below.refl _ _).alloc (Nat.le_refl _) _ | exact below_drewN ((Below.refl _ _).alloc (Nat.le_refl _) _) _⟩)

set_option maxRecDepth 100000 in
set_option maxHeartbeats 2000000 in
theorem rmay_9n (a b : Int) (w : World) (hb : ¬ b = 0) :
    Calls Tryd.prog 10 #[.agg #[.int .i64 9, .int .i64 a, .int .i64 b]] w fun e w' => e = .returned (.bool (false)) ∧ Below w.heap.size w w' := by
  have ho : Op.operands 9 = 1 := by decide
  go_enter Tryd.func10, Tryd.ntmps10
  try simp only [List.append_eq, List.cons_append, List.nil_append]
  go_wp2_with fail
  refine (roperands_is _ _ ho _).mono ?_; rintro e w' ⟨rfl, rfl⟩
  clear ho
  go_wp2_with (first | (go_at_call 12; refine (roperands_is _ _ rfl _).mono ?_; rintro e w' ⟨rfl, rfl⟩; dsimp only) | (go_at_call 21; refine (rwithin_any _ _ _ _).mono ?_; rintro e w' ⟨rfl, rfl⟩; dsimp only))
  all_goals (go_ret; exact ⟨Aid.ret_bool (by simp_all [show Op.win 0 0 10000 = true by decide]), by first | exact (Below.refl _ _).alloc (Nat.le_refl _) _ | exact below_drewN ((Below.refl _ _).alloc (Nat.le_refl _) _) _⟩)

set_option maxRecDepth 100000 in
set_option maxHeartbeats 2000000 in
theorem rmay_10 (a b : Int) (w : World) :
    Calls Tryd.prog 10 #[.agg #[.int .i64 10, .int .i64 a, .int .i64 b]] w fun e w' => e = .returned (.bool (Op.win a 0 10000 && Op.win b 1 10000)) ∧ Below w.heap.size w w' := by
  have ho : Op.operands 10 = 2 := by decide
  go_enter Tryd.func10, Tryd.ntmps10
  try simp only [List.append_eq, List.cons_append, List.nil_append]
  go_wp2_with fail
  refine (roperands_is _ _ ho _).mono ?_; rintro e w' ⟨rfl, rfl⟩
  clear ho
  go_wp2_with (first | (go_at_call 12; refine (roperands_is _ _ rfl _).mono ?_; rintro e w' ⟨rfl, rfl⟩; dsimp only) | (go_at_call 21; refine (rwithin_any _ _ _ _).mono ?_; rintro e w' ⟨rfl, rfl⟩; dsimp only))
  all_goals (go_ret; exact ⟨Aid.ret_bool (by simp_all [show Op.win 0 0 10000 = true by decide]), by first | exact (Below.refl _ _).alloc (Nat.le_refl _) _ | exact below_drewN ((Below.refl _ _).alloc (Nat.le_refl _) _) _⟩)

set_option maxRecDepth 100000 in
set_option maxHeartbeats 2000000 in
theorem rmay_11 (a b : Int) (w : World) :
    Calls Tryd.prog 10 #[.agg #[.int .i64 11, .int .i64 a, .int .i64 b]] w fun e w' => e = .returned (.bool (Op.win a 0 10000 && Op.win b 1 10000)) ∧ Below w.heap.size w w' := by
  have ho : Op.operands 11 = 2 := by decide
  go_enter Tryd.func10, Tryd.ntmps10
  try simp only [List.append_eq, List.cons_append, List.nil_append]
  go_wp2_with fail
  refine (roperands_is _ _ ho _).mono ?_; rintro e w' ⟨rfl, rfl⟩
  clear ho
  go_wp2_with (first | (go_at_call 12; refine (roperands_is _ _ rfl _).mono ?_; rintro e w' ⟨rfl, rfl⟩; dsimp only) | (go_at_call 21; refine (rwithin_any _ _ _ _).mono ?_; rintro e w' ⟨rfl, rfl⟩; dsimp only))
  all_goals (go_ret; exact ⟨Aid.ret_bool (by simp_all [show Op.win 0 0 10000 = true by decide]), by first | exact (Below.refl _ _).alloc (Nat.le_refl _) _ | exact below_drewN ((Below.refl _ _).alloc (Nat.le_refl _) _) _⟩)

set_option maxRecDepth 100000 in
set_option maxHeartbeats 2000000 in
theorem rmay_12 (a b : Int) (w : World) :
    Calls Tryd.prog 10 #[.agg #[.int .i64 12, .int .i64 a, .int .i64 b]] w fun e w' => e = .returned (.bool (Op.win a 0 10000 && Op.win b 1 10000)) ∧ Below w.heap.size w w' := by
  have ho : Op.operands 12 = 2 := by decide
  go_enter Tryd.func10, Tryd.ntmps10
  try simp only [List.append_eq, List.cons_append, List.nil_append]
  go_wp2_with fail
  refine (roperands_is _ _ ho _).mono ?_; rintro e w' ⟨rfl, rfl⟩
  clear ho
  go_wp2_with (first | (go_at_call 12; refine (roperands_is _ _ rfl _).mono ?_; rintro e w' ⟨rfl, rfl⟩; dsimp only) | (go_at_call 21; refine (rwithin_any _ _ _ _).mono ?_; rintro e w' ⟨rfl, rfl⟩; dsimp only))
  all_goals (go_ret; exact ⟨Aid.ret_bool (by simp_all [show Op.win 0 0 10000 = true by decide]), by first | exact (Below.refl _ _).alloc (Nat.le_refl _) _ | exact below_drewN ((Below.refl _ _).alloc (Nat.le_refl _) _) _⟩)

set_option maxRecDepth 100000 in
set_option maxHeartbeats 2000000 in
theorem rmay_13 (a b : Int) (w : World) :
    Calls Tryd.prog 10 #[.agg #[.int .i64 13, .int .i64 a, .int .i64 b]] w fun e w' => e = .returned (.bool (Op.win a 0 10000 && Op.win b 1 10000)) ∧ Below w.heap.size w w' := by
  have ho : Op.operands 13 = 2 := by decide
  go_enter Tryd.func10, Tryd.ntmps10
  try simp only [List.append_eq, List.cons_append, List.nil_append]
  go_wp2_with fail
  refine (roperands_is _ _ ho _).mono ?_; rintro e w' ⟨rfl, rfl⟩
  clear ho
  go_wp2_with (first | (go_at_call 12; refine (roperands_is _ _ rfl _).mono ?_; rintro e w' ⟨rfl, rfl⟩; dsimp only) | (go_at_call 21; refine (rwithin_any _ _ _ _).mono ?_; rintro e w' ⟨rfl, rfl⟩; dsimp only))
  all_goals (go_ret; exact ⟨Aid.ret_bool (by simp_all [show Op.win 0 0 10000 = true by decide]), by first | exact (Below.refl _ _).alloc (Nat.le_refl _) _ | exact below_drewN ((Below.refl _ _).alloc (Nat.le_refl _) _) _⟩)

set_option maxRecDepth 100000 in
set_option maxHeartbeats 2000000 in
theorem rmay_14 (a b : Int) (w : World) :
    Calls Tryd.prog 10 #[.agg #[.int .i64 14, .int .i64 a, .int .i64 b]] w fun e w' => e = .returned (.bool (Op.win a 0 10000 && Op.win b 1 10000)) ∧ Below w.heap.size w w' := by
  have ho : Op.operands 14 = 2 := by decide
  go_enter Tryd.func10, Tryd.ntmps10
  try simp only [List.append_eq, List.cons_append, List.nil_append]
  go_wp2_with fail
  refine (roperands_is _ _ ho _).mono ?_; rintro e w' ⟨rfl, rfl⟩
  clear ho
  go_wp2_with (first | (go_at_call 12; refine (roperands_is _ _ rfl _).mono ?_; rintro e w' ⟨rfl, rfl⟩; dsimp only) | (go_at_call 21; refine (rwithin_any _ _ _ _).mono ?_; rintro e w' ⟨rfl, rfl⟩; dsimp only))
  all_goals (go_ret; exact ⟨Aid.ret_bool (by simp_all [show Op.win 0 0 10000 = true by decide]), by first | exact (Below.refl _ _).alloc (Nat.le_refl _) _ | exact below_drewN ((Below.refl _ _).alloc (Nat.le_refl _) _) _⟩)

set_option maxRecDepth 100000 in
set_option maxHeartbeats 2000000 in
theorem rmay_15 (a b : Int) (w : World) :
    Calls Tryd.prog 10 #[.agg #[.int .i64 15, .int .i64 a, .int .i64 b]] w fun e w' => e = .returned (.bool (Op.win a 0 10000 && Op.win b 1 10000)) ∧ Below w.heap.size w w' := by
  have ho : Op.operands 15 = 2 := by decide
  go_enter Tryd.func10, Tryd.ntmps10
  try simp only [List.append_eq, List.cons_append, List.nil_append]
  go_wp2_with fail
  refine (roperands_is _ _ ho _).mono ?_; rintro e w' ⟨rfl, rfl⟩
  clear ho
  go_wp2_with (first | (go_at_call 12; refine (roperands_is _ _ rfl _).mono ?_; rintro e w' ⟨rfl, rfl⟩; dsimp only) | (go_at_call 21; refine (rwithin_any _ _ _ _).mono ?_; rintro e w' ⟨rfl, rfl⟩; dsimp only))
  all_goals (go_ret; exact ⟨Aid.ret_bool (by simp_all [show Op.win 0 0 10000 = true by decide]), by first | exact (Below.refl _ _).alloc (Nat.le_refl _) _ | exact below_drewN ((Below.refl _ _).alloc (Nat.le_refl _) _) _⟩)

set_option maxRecDepth 100000 in
set_option maxHeartbeats 2000000 in
theorem rmay_16 (a : Int) (w : World) :
    Calls Tryd.prog 10 #[.agg #[.int .i64 16, .int .i64 a, .int .i64 0]] w fun e w' => e = .returned (.bool (Op.win a 1 14)) ∧ Below w.heap.size w w' := by
  have ho : Op.operands 16 = 1 := by decide
  go_enter Tryd.func10, Tryd.ntmps10
  try simp only [List.append_eq, List.cons_append, List.nil_append]
  go_wp2_with fail
  refine (roperands_is _ _ ho _).mono ?_; rintro e w' ⟨rfl, rfl⟩
  clear ho
  go_wp2_with (first | (go_at_call 12; refine (roperands_is _ _ rfl _).mono ?_; rintro e w' ⟨rfl, rfl⟩; dsimp only) | (go_at_call 21; refine (rwithin_any _ _ _ _).mono ?_; rintro e w' ⟨rfl, rfl⟩; dsimp only))
  all_goals (go_ret; exact ⟨Aid.ret_bool (by simp_all [show Op.win 0 0 10000 = true by decide]), by first | exact (Below.refl _ _).alloc (Nat.le_refl _) _ | exact below_drewN ((Below.refl _ _).alloc (Nat.le_refl _) _) _⟩)

set_option maxRecDepth 100000 in
set_option maxHeartbeats 2000000 in
theorem rmay_16n (a b : Int) (w : World) (hb : ¬ b = 0) :
    Calls Tryd.prog 10 #[.agg #[.int .i64 16, .int .i64 a, .int .i64 b]] w fun e w' => e = .returned (.bool (false)) ∧ Below w.heap.size w w' := by
  have ho : Op.operands 16 = 1 := by decide
  go_enter Tryd.func10, Tryd.ntmps10
  try simp only [List.append_eq, List.cons_append, List.nil_append]
  go_wp2_with fail
  refine (roperands_is _ _ ho _).mono ?_; rintro e w' ⟨rfl, rfl⟩
  clear ho
  go_wp2_with (first | (go_at_call 12; refine (roperands_is _ _ rfl _).mono ?_; rintro e w' ⟨rfl, rfl⟩; dsimp only) | (go_at_call 21; refine (rwithin_any _ _ _ _).mono ?_; rintro e w' ⟨rfl, rfl⟩; dsimp only))
  all_goals (go_ret; exact ⟨Aid.ret_bool (by simp_all [show Op.win 0 0 10000 = true by decide]), by first | exact (Below.refl _ _).alloc (Nat.le_refl _) _ | exact below_drewN ((Below.refl _ _).alloc (Nat.le_refl _) _) _⟩)

set_option maxRecDepth 100000 in
set_option maxHeartbeats 2000000 in
theorem rmay_17 (w : World) :
    Calls Tryd.prog 10 #[.agg #[.int .i64 17, .int .i64 0, .int .i64 0]] w fun e w' => e = .returned (.bool (true)) ∧ Below w.heap.size w w' := by
  have ho : Op.operands 17 = 0 := by decide
  go_enter Tryd.func10, Tryd.ntmps10
  try simp only [List.append_eq, List.cons_append, List.nil_append]
  go_wp2_with fail
  refine (roperands_is _ _ ho _).mono ?_; rintro e w' ⟨rfl, rfl⟩
  clear ho
  go_wp2_with (first | (go_at_call 12; refine (roperands_is _ _ rfl _).mono ?_; rintro e w' ⟨rfl, rfl⟩; dsimp only) | (go_at_call 21; refine (rwithin_any _ _ _ _).mono ?_; rintro e w' ⟨rfl, rfl⟩; dsimp only))
  all_goals (go_ret; exact ⟨Aid.ret_bool (by simp_all [show Op.win 0 0 10000 = true by decide]), by first | exact (Below.refl _ _).alloc (Nat.le_refl _) _ | exact below_drewN ((Below.refl _ _).alloc (Nat.le_refl _) _) _⟩)

set_option maxRecDepth 100000 in
set_option maxHeartbeats 2000000 in
theorem rmay_17n (a b : Int) (w : World) (ha : ¬ a = 0) :
    Calls Tryd.prog 10 #[.agg #[.int .i64 17, .int .i64 a, .int .i64 b]] w fun e w' => e = .returned (.bool (false)) ∧ Below w.heap.size w w' := by
  have ho : Op.operands 17 = 0 := by decide
  go_enter Tryd.func10, Tryd.ntmps10
  try simp only [List.append_eq, List.cons_append, List.nil_append]
  go_wp2_with fail
  refine (roperands_is _ _ ho _).mono ?_; rintro e w' ⟨rfl, rfl⟩
  clear ho
  go_wp2_with (first | (go_at_call 12; refine (roperands_is _ _ rfl _).mono ?_; rintro e w' ⟨rfl, rfl⟩; dsimp only) | (go_at_call 21; refine (rwithin_any _ _ _ _).mono ?_; rintro e w' ⟨rfl, rfl⟩; dsimp only))
  all_goals (go_ret; exact ⟨Aid.ret_bool (by simp_all [show Op.win 0 0 10000 = true by decide]), by first | exact (Below.refl _ _).alloc (Nat.le_refl _) _ | exact below_drewN ((Below.refl _ _).alloc (Nat.le_refl _) _) _⟩)

set_option maxRecDepth 100000 in
set_option maxHeartbeats 2000000 in
theorem rmay_17m (b : Int) (w : World) (hb : ¬ b = 0) :
    Calls Tryd.prog 10 #[.agg #[.int .i64 17, .int .i64 0, .int .i64 b]] w fun e w' => e = .returned (.bool (false)) ∧ Below w.heap.size w w' := by
  have ho : Op.operands 17 = 0 := by decide
  go_enter Tryd.func10, Tryd.ntmps10
  try simp only [List.append_eq, List.cons_append, List.nil_append]
  go_wp2_with fail
  refine (roperands_is _ _ ho _).mono ?_; rintro e w' ⟨rfl, rfl⟩
  clear ho
  go_wp2_with (first | (go_at_call 12; refine (roperands_is _ _ rfl _).mono ?_; rintro e w' ⟨rfl, rfl⟩; dsimp only) | (go_at_call 21; refine (rwithin_any _ _ _ _).mono ?_; rintro e w' ⟨rfl, rfl⟩; dsimp only))
  all_goals (go_ret; exact ⟨Aid.ret_bool (by simp_all [show Op.win 0 0 10000 = true by decide]), by first | exact (Below.refl _ _).alloc (Nat.le_refl _) _ | exact below_drewN ((Below.refl _ _).alloc (Nat.le_refl _) _) _⟩)

set_option maxRecDepth 100000 in
set_option maxHeartbeats 2000000 in
theorem rmay_18 (w : World) :
    Calls Tryd.prog 10 #[.agg #[.int .i64 18, .int .i64 0, .int .i64 0]] w fun e w' => e = .returned (.bool (true)) ∧ Below w.heap.size w w' := by
  have ho : Op.operands 18 = 0 := by decide
  go_enter Tryd.func10, Tryd.ntmps10
  try simp only [List.append_eq, List.cons_append, List.nil_append]
  go_wp2_with fail
  refine (roperands_is _ _ ho _).mono ?_; rintro e w' ⟨rfl, rfl⟩
  clear ho
  go_wp2_with (first | (go_at_call 12; refine (roperands_is _ _ rfl _).mono ?_; rintro e w' ⟨rfl, rfl⟩; dsimp only) | (go_at_call 21; refine (rwithin_any _ _ _ _).mono ?_; rintro e w' ⟨rfl, rfl⟩; dsimp only))
  all_goals (go_ret; exact ⟨Aid.ret_bool (by simp_all [show Op.win 0 0 10000 = true by decide]), by first | exact (Below.refl _ _).alloc (Nat.le_refl _) _ | exact below_drewN ((Below.refl _ _).alloc (Nat.le_refl _) _) _⟩)

set_option maxRecDepth 100000 in
set_option maxHeartbeats 2000000 in
theorem rmay_18n (a b : Int) (w : World) (ha : ¬ a = 0) :
    Calls Tryd.prog 10 #[.agg #[.int .i64 18, .int .i64 a, .int .i64 b]] w fun e w' => e = .returned (.bool (false)) ∧ Below w.heap.size w w' := by
  have ho : Op.operands 18 = 0 := by decide
  go_enter Tryd.func10, Tryd.ntmps10
  try simp only [List.append_eq, List.cons_append, List.nil_append]
  go_wp2_with fail
  refine (roperands_is _ _ ho _).mono ?_; rintro e w' ⟨rfl, rfl⟩
  clear ho
  go_wp2_with (first | (go_at_call 12; refine (roperands_is _ _ rfl _).mono ?_; rintro e w' ⟨rfl, rfl⟩; dsimp only) | (go_at_call 21; refine (rwithin_any _ _ _ _).mono ?_; rintro e w' ⟨rfl, rfl⟩; dsimp only))
  all_goals (go_ret; exact ⟨Aid.ret_bool (by simp_all [show Op.win 0 0 10000 = true by decide]), by first | exact (Below.refl _ _).alloc (Nat.le_refl _) _ | exact below_drewN ((Below.refl _ _).alloc (Nat.le_refl _) _) _⟩)

set_option maxRecDepth 100000 in
set_option maxHeartbeats 2000000 in
theorem rmay_18m (b : Int) (w : World) (hb : ¬ b = 0) :
    Calls Tryd.prog 10 #[.agg #[.int .i64 18, .int .i64 0, .int .i64 b]] w fun e w' => e = .returned (.bool (false)) ∧ Below w.heap.size w w' := by
  have ho : Op.operands 18 = 0 := by decide
  go_enter Tryd.func10, Tryd.ntmps10
  try simp only [List.append_eq, List.cons_append, List.nil_append]
  go_wp2_with fail
  refine (roperands_is _ _ ho _).mono ?_; rintro e w' ⟨rfl, rfl⟩
  clear ho
  go_wp2_with (first | (go_at_call 12; refine (roperands_is _ _ rfl _).mono ?_; rintro e w' ⟨rfl, rfl⟩; dsimp only) | (go_at_call 21; refine (rwithin_any _ _ _ _).mono ?_; rintro e w' ⟨rfl, rfl⟩; dsimp only))
  all_goals (go_ret; exact ⟨Aid.ret_bool (by simp_all [show Op.win 0 0 10000 = true by decide]), by first | exact (Below.refl _ _).alloc (Nat.le_refl _) _ | exact below_drewN ((Below.refl _ _).alloc (Nat.le_refl _) _) _⟩)

end Go.Proofs.YtbclpknmeaaajaaDoor
