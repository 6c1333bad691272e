/- The contracts of May (governorref14), as walks. -/
import Derived.Test.YtbclpknmeaaajaaDoorProg
import Derived.Test.YtbclpknmeaaajaaDoorOpSpec
import Derived.Test.YtbclpknmeaaajaaDoorAid
import Derived.Test.YtbclpknmeaaajaaDoorOpRB
import Derived.WalkKit
import Derived.WalkSpells
import Derived.WalkLawsBesides
import Derived.Deep.QuietTactic
import Derived.BigQuiet
import Derived.Below
namespace Go.Proofs.YtbclpknmeaaajaaDoor
open Go.RowKit

set_option maxRecDepth 100000 in
set_option maxHeartbeats 2000000 in
theorem rmay_19 (a : Int) (w : World) :
    Calls Tryd.prog 10 #[.agg #[.int .i64 19, .int .i64 a, .int .i64 0]] w fun e w' => e = .returned (.bool (Op.win a 0 1)) ∧ Below w.heap.size w w' := by
  have ho : Op.operands 19 = 1 := by decide
  go_enter Tryd.func10, Tryd.ntmps10
  try simp only [List.append_eq, List.cons_append, List.nil_append]
  go_wp2_with fail
  refine (roperands_is _ _ ho _).mono ?_; rintro e w' ⟨rfl, rfl⟩
  clear ho
  go_wp2_with (first | (go_at_call 12; refine (roperands_is _ _ rfl _).mono ?_; rintro e w' ⟨rfl, rfl⟩; dsimp only) | (go_at_call 21; refine (rwithin_any _ _ _ _).mono ?_; rintro e w' ⟨rfl, rfl⟩; dsimp only))
  all_goals (go_ret; exact ⟨Aid.ret_bool (by simp_all [show Op.win 0 0 10000 = true by decide]), by first | exact (Below.refl _ _).alloc (Nat.le_refl _) _ | exact below_drewN ((Below.refl _ _).alloc (Nat.le_refl _) _) _⟩)

set_option maxRecDepth 100000 in
set_option maxHeartbeats 2000000 in
theorem rmay_19n (a b : Int) (w : World) (hb : ¬ b = 0) :
    Calls Tryd.prog 10 #[.agg #[.int .i64 19, .int .i64 a, .int .i64 b]] w fun e w' => e = .returned (.bool (false)) ∧ Below w.heap.size w w' := by
  have ho : Op.operands 19 = 1 := by decide
  go_enter Tryd.func10, Tryd.ntmps10
  try simp only [List.append_eq, List.cons_append, List.nil_append]
  go_wp2_with fail
  refine (roperands_is _ _ ho _).mono ?_; rintro e w' ⟨rfl, rfl⟩
  clear ho
  go_wp2_with (first | (go_at_call 12; refine (roperands_is _ _ rfl _).mono ?_; rintro e w' ⟨rfl, rfl⟩; dsimp only) | (go_at_call 21; refine (rwithin_any _ _ _ _).mono ?_; rintro e w' ⟨rfl, rfl⟩; dsimp only))
  all_goals (go_ret; exact ⟨Aid.ret_bool (by simp_all [show Op.win 0 0 10000 = true by decide]), by first | exact (Below.refl _ _).alloc (Nat.le_refl _) _ | exact below_drewN ((Below.refl _ _).alloc (Nat.le_refl _) _) _⟩)

set_option maxRecDepth 100000 in
set_option maxHeartbeats 2000000 in
theorem rmay_20 (a b : Int) (w : World) :
    Calls Tryd.prog 10 #[.agg #[.int .i64 20, .int .i64 a, .int .i64 b]] w fun e w' => e = .returned (.bool (Op.win a (-32768) 32767 && Op.win b a 32767)) ∧ Below w.heap.size w w' := by
  have ho : Op.operands 20 = 2 := by decide
  go_enter Tryd.func10, Tryd.ntmps10
  try simp only [List.append_eq, List.cons_append, List.nil_append]
  go_wp2_with fail
  refine (roperands_is _ _ ho _).mono ?_; rintro e w' ⟨rfl, rfl⟩
  clear ho
  go_wp2_with (first | (go_at_call 12; refine (roperands_is _ _ rfl _).mono ?_; rintro e w' ⟨rfl, rfl⟩; dsimp only) | (go_at_call 21; refine (rwithin_any _ _ _ _).mono ?_; rintro e w' ⟨rfl, rfl⟩; dsimp only))
  all_goals (go_ret; exact ⟨Aid.ret_bool (by simp_all [show Op.win 0 0 10000 = true by decide]), by first | exact (Below.refl _ _).alloc (Nat.le_refl _) _ | exact below_drewN ((Below.refl _ _).alloc (Nat.le_refl _) _) _⟩)

set_option maxRecDepth 100000 in
set_option maxHeartbeats 2000000 in
theorem rmay_21 (a : Int) (w : World) :
    Calls Tryd.prog 10 #[.agg #[.int .i64 21, .int .i64 a, .int .i64 0]] w fun e w' => e = .returned (.bool (Op.win a 0 10000)) ∧ Below w.heap.size w w' := by
  have ho : Op.operands 21 = 1 := by decide
  go_enter Tryd.func10, Tryd.ntmps10
  try simp only [List.append_eq, List.cons_append, List.nil_append]
  go_wp2_with fail
  refine (roperands_is _ _ ho _).mono ?_; rintro e w' ⟨rfl, rfl⟩
  clear ho
  go_wp2_with (first | (go_at_call 12; refine (roperands_is _ _ rfl _).mono ?_; rintro e w' ⟨rfl, rfl⟩; dsimp only) | (go_at_call 21; refine (rwithin_any _ _ _ _).mono ?_; rintro e w' ⟨rfl, rfl⟩; dsimp only))
  all_goals (go_ret; exact ⟨Aid.ret_bool (by simp_all [show Op.win 0 0 10000 = true by decide]), by first | exact (Below.refl _ _).alloc (Nat.le_refl _) _ | exact below_drewN ((Below.refl _ _).alloc (Nat.le_refl _) _) _⟩)

set_option maxRecDepth 100000 in
set_option maxHeartbeats 2000000 in
theorem rmay_21n (a b : Int) (w : World) (hb : ¬ b = 0) :
    Calls Tryd.prog 10 #[.agg #[.int .i64 21, .int .i64 a, .int .i64 b]] w fun e w' => e = .returned (.bool (false)) ∧ Below w.heap.size w w' := by
  have ho : Op.operands 21 = 1 := by decide
  go_enter Tryd.func10, Tryd.ntmps10
  try simp only [List.append_eq, List.cons_append, List.nil_append]
  go_wp2_with fail
  refine (roperands_is _ _ ho _).mono ?_; rintro e w' ⟨rfl, rfl⟩
  clear ho
  go_wp2_with (first | (go_at_call 12; refine (roperands_is _ _ rfl _).mono ?_; rintro e w' ⟨rfl, rfl⟩; dsimp only) | (go_at_call 21; refine (rwithin_any _ _ _ _).mono ?_; rintro e w' ⟨rfl, rfl⟩; dsimp only))
  all_goals (go_ret; exact ⟨Aid.ret_bool (by simp_all [show Op.win 0 0 10000 = true by decide]), by first | exact (Below.refl _ _).alloc (Nat.le_refl _) _ | exact below_drewN ((Below.refl _ _).alloc (Nat.le_refl _) _) _⟩)

set_option maxRecDepth 100000 in
set_option maxHeartbeats 2000000 in
theorem rmay_22 (a : Int) (w : World) :
    Calls Tryd.prog 10 #[.agg #[.int .i64 22, .int .i64 a, .int .i64 0]] w fun e w' => e = .returned (.bool (Op.win a 0 10000)) ∧ Below w.heap.size w w' := by
  have ho : Op.operands 22 = 1 := by decide
  go_enter Tryd.func10, Tryd.ntmps10
  try simp only [List.append_eq, List.cons_append, List.nil_append]
  go_wp2_with fail
  refine (roperands_is _ _ ho _).mono ?_; rintro e w' ⟨rfl, rfl⟩
  clear ho
  go_wp2_with (first | (go_at_call 12; refine (roperands_is _ _ rfl _).mono ?_; rintro e w' ⟨rfl, rfl⟩; dsimp only) | (go_at_call 21; refine (rwithin_any _ _ _ _).mono ?_; rintro e w' ⟨rfl, rfl⟩; dsimp only))
  all_goals (go_ret; exact ⟨Aid.ret_bool (by simp_all [show Op.win 0 0 10000 = true by decide]), by first | exact (Below.refl _ _).alloc (Nat.le_refl _) _ | exact below_drewN ((Below.refl _ _).alloc (Nat.le_refl _) _) _⟩)

set_option maxRecDepth 100000 in
set_option maxHeartbeats 2000000 in
theorem rmay_22n (a b : Int) (w : World) (hb : ¬ b = 0) :
    Calls Tryd.prog 10 #[.agg #[.int .i64 22, .int .i64 a, .int .i64 b]] w fun e w' => e = .returned (.bool (false)) ∧ Below w.heap.size w w' := by
  have ho : Op.operands 22 = 1 := by decide
  go_enter Tryd.func10, Tryd.ntmps10
  try simp only [List.append_eq, List.cons_append, List.nil_append]
  go_wp2_with fail
  refine (roperands_is _ _ ho _).mono ?_; rintro e w' ⟨rfl, rfl⟩
  clear ho
  go_wp2_with (first | (go_at_call 12; refine (roperands_is _ _ rfl _).mono ?_; rintro e w' ⟨rfl, rfl⟩; dsimp only) | (go_at_call 21; refine (rwithin_any _ _ _ _).mono ?_; rintro e w' ⟨rfl, rfl⟩; dsimp only))
  all_goals (go_ret; exact ⟨Aid.ret_bool (by simp_all [show Op.win 0 0 10000 = true by decide]), by first | exact (Below.refl _ _).alloc (Nat.le_refl _) _ | exact below_drewN ((Below.refl _ _).alloc (Nat.le_refl _) _) _⟩)

set_option maxRecDepth 100000 in
set_option maxHeartbeats 2000000 in
theorem rmay_23 (a : Int) (w : World) :
    Calls Tryd.prog 10 #[.agg #[.int .i64 23, .int .i64 a, .int .i64 0]] w fun e w' => e = .returned (.bool (Op.win a 0 10000)) ∧ Below w.heap.size w w' := by
  have ho : Op.operands 23 = 1 := by decide
  go_enter Tryd.func10, Tryd.ntmps10
  try simp only [List.append_eq, List.cons_append, List.nil_append]
  go_wp2_with fail
  refine (roperands_is _ _ ho _).mono ?_; rintro e w' ⟨rfl, rfl⟩
  clear ho
  go_wp2_with (first | (go_at_call 12; refine (roperands_is _ _ rfl _).mono ?_; rintro e w' ⟨rfl, rfl⟩; dsimp only) | (go_at_call 21; refine (rwithin_any _ _ _ _).mono ?_; rintro e w' ⟨rfl, rfl⟩; dsimp only))
  all_goals (go_ret; exact ⟨Aid.ret_bool (by simp_all [show Op.win 0 0 10000 = true by decide]), by first | exact (Below.refl _ _).alloc (Nat.le_refl _) _ | exact below_drewN ((Below.refl _ _).alloc (Nat.le_refl _) _) _⟩)

set_option maxRecDepth 100000 in
set_option maxHeartbeats 2000000 in
theorem rmay_23n (a b : Int) (w : World) (hb : ¬ b = 0) :
    Calls Tryd.prog 10 #[.agg #[.int .i64 23, .int .i64 a, .int .i64 b]] w fun e w' => e = .returned (.bool (false)) ∧ Below w.heap.size w w' := by
  have ho : Op.operands 23 = 1 := by decide
  go_enter Tryd.func10, Tryd.ntmps10
  try simp only [List.append_eq, List.cons_append, List.nil_append]
  go_wp2_with fail
  refine (roperands_is _ _ ho _).mono ?_; rintro e w' ⟨rfl, rfl⟩
  clear ho
  go_wp2_with (first | (go_at_call 12; refine (roperands_is _ _ rfl _).mono ?_; rintro e w' ⟨rfl, rfl⟩; dsimp only) | (go_at_call 21; refine (rwithin_any _ _ _ _).mono ?_; rintro e w' ⟨rfl, rfl⟩; dsimp only))
  all_goals (go_ret; exact ⟨Aid.ret_bool (by simp_all [show Op.win 0 0 10000 = true by decide]), by first | exact (Below.refl _ _).alloc (Nat.le_refl _) _ | exact below_drewN ((Below.refl _ _).alloc (Nat.le_refl _) _) _⟩)

set_option maxRecDepth 100000 in
set_option maxHeartbeats 2000000 in
theorem rmay_24 (a : Int) (w : World) :
    Calls Tryd.prog 10 #[.agg #[.int .i64 24, .int .i64 a, .int .i64 0]] w fun e w' => e = .returned (.bool (Op.win a 0 10000)) ∧ Below w.heap.size w w' := by
  have ho : Op.operands 24 = 1 := by decide
  go_enter Tryd.func10, Tryd.ntmps10
  try simp only [List.append_eq, List.cons_append, List.nil_append]
  go_wp2_with fail
  refine (roperands_is _ _ ho _).mono ?_; rintro e w' ⟨rfl, rfl⟩
  clear ho
  go_wp2_with (first | (go_at_call 12; refine (roperands_is _ _ rfl _).mono ?_; rintro e w' ⟨rfl, rfl⟩; dsimp only) | (go_at_call 21; refine (rwithin_any _ _ _ _).mono ?_; rintro e w' ⟨rfl, rfl⟩; dsimp only))
  all_goals (go_ret; exact ⟨Aid.ret_bool (by simp_all [show Op.win 0 0 10000 = true by decide]), by first | exact (Below.refl _ _).alloc (Nat.le_refl _) _ | exact below_drewN ((Below.refl _ _).alloc (Nat.le_refl _) _) _⟩)

set_option maxRecDepth 100000 in
set_option maxHeartbeats 2000000 in
theorem rmay_24n (a b : Int) (w : World) (hb : ¬ b = 0) :
    Calls Tryd.prog 10 #[.agg #[.int .i64 24, .int .i64 a, .int .i64 b]] w fun e w' => e = .returned (.bool (false)) ∧ Below w.heap.size w w' := by
  have ho : Op.operands 24 = 1 := by decide
  go_enter Tryd.func10, Tryd.ntmps10
  try simp only [List.append_eq, List.cons_append, List.nil_append]
  go_wp2_with fail
  refine (roperands_is _ _ ho _).mono ?_; rintro e w' ⟨rfl, rfl⟩
  clear ho
  go_wp2_with (first | (go_at_call 12; refine (roperands_is _ _ rfl _).mono ?_; rintro e w' ⟨rfl, rfl⟩; dsimp only) | (go_at_call 21; refine (rwithin_any _ _ _ _).mono ?_; rintro e w' ⟨rfl, rfl⟩; dsimp only))
  all_goals (go_ret; exact ⟨Aid.ret_bool (by simp_all [show Op.win 0 0 10000 = true by decide]), by first | exact (Below.refl _ _).alloc (Nat.le_refl _) _ | exact below_drewN ((Below.refl _ _).alloc (Nat.le_refl _) _) _⟩)

set_option maxRecDepth 100000 in
set_option maxHeartbeats 2000000 in
theorem rmay_25 (a b : Int) (w : World) :
    Calls Tryd.prog 10 #[.agg #[.int .i64 25, .int .i64 a, .int .i64 b]] w fun e w' => e = .returned (.bool (Op.win a 0 10000 && Op.win b 0 10000)) ∧ Below w.heap.size w w' := by
  have ho : Op.operands 25 = 2 := by decide
  go_enter Tryd.func10, Tryd.ntmps10
  try simp only [List.append_eq, List.cons_append, List.nil_append]
  go_wp2_with fail
  refine (roperands_is _ _ ho _).mono ?_; rintro e w' ⟨rfl, rfl⟩
  clear ho
  go_wp2_with (first | (go_at_call 12; refine (roperands_is _ _ rfl _).mono ?_; rintro e w' ⟨rfl, rfl⟩; dsimp only) | (go_at_call 21; refine (rwithin_any _ _ _ _).mono ?_; rintro e w' ⟨rfl, rfl⟩; dsimp only))
  all_goals (go_ret; exact ⟨Aid.ret_bool (by simp_all [show Op.win 0 0 10000 = true by decide]), by first | exact (Below.refl _ _).alloc (Nat.le_refl _) _ | exact below_drewN ((Below.refl _ _).alloc (Nat.le_refl _) _) _⟩)

set_option maxRecDepth 100000 in
set_option maxHeartbeats 2000000 in
theorem rmay_26 (a b : Int) (w : World) :
    Calls Tryd.prog 10 #[.agg #[.int .i64 26, .int .i64 a, .int .i64 b]] w fun e w' => e = .returned (.bool (Op.win a 0 10000 && Op.win b 0 10000)) ∧ Below w.heap.size w w' := by
  have ho : Op.operands 26 = 2 := by decide
  go_enter Tryd.func10, Tryd.ntmps10
  try simp only [List.append_eq, List.cons_append, List.nil_append]
  go_wp2_with fail
  refine (roperands_is _ _ ho _).mono ?_; rintro e w' ⟨rfl, rfl⟩
  clear ho
  go_wp2_with (first | (go_at_call 12; refine (roperands_is _ _ rfl _).mono ?_; rintro e w' ⟨rfl, rfl⟩; dsimp only) | (go_at_call 21; refine (rwithin_any _ _ _ _).mono ?_; rintro e w' ⟨rfl, rfl⟩; dsimp only))
  all_goals (go_ret; exact ⟨Aid.ret_bool (by simp_all [show Op.win 0 0 10000 = true by decide]), by first | exact (Below.refl _ _).alloc (Nat.le_refl _) _ | exact below_drewN ((Below.refl _ _).alloc (Nat.le_refl _) _) _⟩)

set_option maxRecDepth 100000 in
set_option maxHeartbeats 2000000 in
theorem rmay_27 (a b : Int) (w : World) :
    Calls Tryd.prog 10 #[.agg #[.int .i64 27, .int .i64 a, .int .i64 b]] w fun e w' => e = .returned (.bool (Op.win a 0 1 && Op.win b 0 10000)) ∧ Below w.heap.size w w' := by
  have ho : Op.operands 27 = 2 := by decide
  go_enter Tryd.func10, Tryd.ntmps10
  try simp only [List.append_eq, List.cons_append, List.nil_append]
  go_wp2_with fail
  refine (roperands_is _ _ ho _).mono ?_; rintro e w' ⟨rfl, rfl⟩
  clear ho
  go_wp2_with (first | (go_at_call 12; refine (roperands_is _ _ rfl _).mono ?_; rintro e w' ⟨rfl, rfl⟩; dsimp only) | (go_at_call 21; refine (rwithin_any _ _ _ _).mono ?_; rintro e w' ⟨rfl, rfl⟩; dsimp only))
  all_goals (go_ret; exact ⟨Aid.ret_bool (by simp_all [show Op.win 0 0 10000 = true by decide]), by first | exact (Below.refl _ _).alloc (Nat.le_refl _) _ | exact below_drewN ((Below.refl _ _).alloc (Nat.le_refl _) _) _⟩)

set_option maxRecDepth 100000 in
set_option maxHeartbeats 2000000 in
theorem rmay_28 (a b : Int) (w : World) :
    Calls Tryd.prog 10 #[.agg #[.int .i64 28, .int .i64 a, .int .i64 b]] w fun e w' => e = .returned (.bool (Op.win a 0 1 && Op.win b 0 10000)) ∧ Below w.heap.size w w' := by
  have ho : Op.operands 28 = 2 := by decide
  go_enter Tryd.func10, Tryd.ntmps10
  try simp only [List.append_eq, List.cons_append, List.nil_append]
  go_wp2_with fail
  refine (roperands_is _ _ ho _).mono ?_; rintro e w' ⟨rfl, rfl⟩
  clear ho
  go_wp2_with (first | (go_at_call 12; refine (roperands_is _ _ rfl _).mono ?_; rintro e w' ⟨rfl, rfl⟩; dsimp only) | (go_at_call 21; refine (rwithin_any _ _ _ _).mono ?_; rintro e w' ⟨rfl, rfl⟩; dsimp only))
  all_goals (go_ret; exact ⟨Aid.ret_bool (by simp_all [show Op.win 0 0 10000 = true by decide]), by first | exact (Below.refl _ _).alloc (Nat.le_refl _) _ | exact below_drewN ((Below.refl _ _).alloc (Nat.le_refl _) _) _⟩)

set_option maxRecDepth 100000 in
set_option maxHeartbeats 2000000 in
theorem rmay_29 (w : World) :
    Calls Tryd.prog 10 #[.agg #[.int .i64 29, .int .i64 0, .int .i64 0]] w fun e w' => e = .returned (.bool (true)) ∧ Below w.heap.size w w' := by
  have ho : Op.operands 29 = 0 := by decide
  go_enter Tryd.func10, Tryd.ntmps10
  try simp only [List.append_eq, List.cons_append, List.nil_append]
  go_wp2_with fail
  refine (roperands_is _ _ ho _).mono ?_; rintro e w' ⟨rfl, rfl⟩
  clear ho
  go_wp2_with (first | (go_at_call 12; refine (roperands_is _ _ rfl _).mono ?_; rintro e w' ⟨rfl, rfl⟩; dsimp only) | (go_at_call 21; refine (rwithin_any _ _ _ _).mono ?_; rintro e w' ⟨rfl, rfl⟩; dsimp only))
  all_goals (go_ret; exact ⟨Aid.ret_bool (by simp_all [show Op.win 0 0 10000 = true by decide]), by first | exact (Below.refl _ _).alloc (Nat.le_refl _) _ | exact below_drewN ((Below.refl _ _).alloc (Nat.le_refl _) _) _⟩)

set_option maxRecDepth 100000 in
set_option maxHeartbeats 2000000 in
theorem rmay_29n (a b : Int) (w : World) (ha : ¬ a = 0) :
    Calls Tryd.prog 10 #[.agg #[.int .i64 29, .int .i64 a, .int .i64 b]] w fun e w' => e = .returned (.bool (false)) ∧ Below w.heap.size w w' := by
  have ho : Op.operands 29 = 0 := by decide
  go_enter Tryd.func10, Tryd.ntmps10
  try simp only [List.append_eq, List.cons_append, List.nil_append]
  go_wp2_with fail
  refine (roperands_is _ _ ho _).mono ?_; rintro e w' ⟨rfl, rfl⟩
  clear ho
  go_wp2_with (first | (go_at_call 12; refine (roperands_is _ _ rfl _).mono ?_; rintro e w' ⟨rfl, rfl⟩; dsimp only) | (go_at_call 21; refine (rwithin_any _ _ _ _).mono ?_; rintro e w' ⟨rfl, rfl⟩; dsimp only))
  all_goals (go_ret; exact ⟨Aid.ret_bool (by simp_all [show Op.win 0 0 10000 = true by decide]), by first | exact (Below.refl _ _).alloc (Nat.le_refl _) _ | exact below_drewN ((Below.refl _ _).alloc (Nat.le_refl _) _) _⟩)

set_option maxRecDepth 100000 in
set_option maxHeartbeats 2000000 in
theorem rmay_29m (b : Int) (w : World) (hb : ¬ b = 0) :
    Calls Tryd.prog 10 #[.agg #[.int .i64 29, .int .i64 0, .int .i64 b]] w fun e w' => e = .returned (.bool (false)) ∧ Below w.heap.size w w' := by
  have ho : Op.operands 29 = 0 := by decide
  go_enter Tryd.func10, Tryd.ntmps10
  try simp only [List.append_eq, List.cons_append, List.nil_append]
  go_wp2_with fail
  refine (roperands_is _ _ ho _).mono ?_; rintro e w' ⟨rfl, rfl⟩
  clear ho
  go_wp2_with (first | (go_at_call 12; refine (roperands_is _ _ rfl _).mono ?_; rintro e w' ⟨rfl, rfl⟩; dsimp only) | (go_at_call 21; refine (rwithin_any _ _ _ _).mono ?_; rintro e w' ⟨rfl, rfl⟩; dsimp only))
  all_goals (go_ret; exact ⟨Aid.ret_bool (by simp_all [show Op.win 0 0 10000 = true by decide]), by first | exact (Below.refl _ _).alloc (Nat.le_refl _) _ | exact below_drewN ((Below.refl _ _).alloc (Nat.le_refl _) _) _⟩)

set_option maxRecDepth 100000 in
set_option maxHeartbeats 2000000 in
theorem rmay_30 (w : World) :
    Calls Tryd.prog 10 #[.agg #[.int .i64 30, .int .i64 0, .int .i64 0]] w fun e w' => e = .returned (.bool (true)) ∧ Below w.heap.size w w' := by
  have ho : Op.operands 30 = 0 := by decide
  go_enter Tryd.func10, Tryd.ntmps10
  try simp only [List.append_eq, List.cons_append, List.nil_append]
  go_wp2_with fail
  refine (roperands_is _ _ ho _).mono ?_; rintro e w' ⟨rfl, rfl⟩
  clear ho
  go_wp2_with (first | (go_at_call 12; refine (roperands_is _ _ rfl _).mono ?_; rintro e w' ⟨rfl, rfl⟩; dsimp only) | (go_at_call 21; refine (rwithin_any _ _ _ _).mono ?_; rintro e w' ⟨rfl, rfl⟩; dsimp only))
  all_goals (go_ret; exact ⟨Aid.ret_bool (by simp_all [show Op.win 0 0 10000 = true by decide]), by first | exact (Below.refl _ _).alloc (Nat.le_refl _) _ | exact below_drewN ((Below.refl _ _).alloc (Nat.le_refl _) _) _⟩)

set_option maxRecDepth 100000 in
set_option maxHeartbeats 2000000 in
theorem rmay_30n (a b : Int) (w : World) (ha : ¬ a = 0) :
    Calls Tryd.prog 10 #[.agg #[.int .i64 30, .int .i64 a, .int .i64 b]] w fun e w' => e = .returned (.bool (false)) ∧ Below w.heap.size w w' := by
  have ho : Op.operands 30 = 0 := by decide
  go_enter Tryd.func10, Tryd.ntmps10
  try simp only [List.append_eq, List.cons_append, List.nil_append]
  go_wp2_with fail
  refine (roperands_is _ _ ho _).mono ?_; rintro e w' ⟨rfl, rfl⟩
  clear ho
  go_wp2_with (first | (go_at_call 12; refine (roperands_is _ _ rfl _).mono ?_; rintro e w' ⟨rfl, rfl⟩; dsimp only) | (go_at_call 21; refine (rwithin_any _ _ _ _).mono ?_; rintro e w' ⟨rfl, rfl⟩; dsimp only))
  all_goals (go_ret; exact ⟨Aid.ret_bool (by simp_all [show Op.win 0 0 10000 = true by decide]), by first | exact (Below.refl _ _).alloc (Nat.le_refl _) _ | exact below_drewN ((Below.refl _ _).alloc (Nat.le_refl _) _) _⟩)

set_option maxRecDepth 100000 in
set_option maxHeartbeats 2000000 in
theorem rmay_30m (b : Int) (w : World) (hb : ¬ b = 0) :
    Calls Tryd.prog 10 #[.agg #[.int .i64 30, .int .i64 0, .int .i64 b]] w fun e w' => e = .returned (.bool (false)) ∧ Below w.heap.size w w' := by
  have ho : Op.operands 30 = 0 := by decide
  go_enter Tryd.func10, Tryd.ntmps10
  try simp only [List.append_eq, List.cons_append, List.nil_append]
  go_wp2_with fail
  refine (roperands_is _ _ ho _).mono ?_; rintro e w' ⟨rfl, rfl⟩
  clear ho
  go_wp2_with (first | (go_at_call 12; refine (roperands_is _ _ rfl _).mono ?_; rintro e w' ⟨rfl, rfl⟩; dsimp only) | (go_at_call 21; refine (rwithin_any _ _ _ _).mono ?_; rintro e w' ⟨rfl, rfl⟩; dsimp only))
  all_goals (go_ret; exact ⟨Aid.ret_bool (by simp_all [show Op.win 0 0 10000 = true by decide]), by first | exact (Below.refl _ _).alloc (Nat.le_refl _) _ | exact below_drewN ((Below.refl _ _).alloc (Nat.le_refl _) _) _⟩)

set_option maxRecDepth 100000 in
set_option maxHeartbeats 2000000 in
theorem rmay_31 (a : Int) (w : World) :
    Calls Tryd.prog 10 #[.agg #[.int .i64 31, .int .i64 a, .int .i64 0]] w fun e w' => e = .returned (.bool (Op.win a 0 10000)) ∧ Below w.heap.size w w' := by
  have ho : Op.operands 31 = 1 := by decide
  go_enter Tryd.func10, Tryd.ntmps10
  try simp only [List.append_eq, List.cons_append, List.nil_append]
  go_wp2_with fail
  refine (roperands_is _ _ ho _).mono ?_; rintro e w' ⟨rfl, rfl⟩
  clear ho
  go_wp2_with (first | (go_at_call 12; refine (roperands_is _ _ rfl _).mono ?_; rintro e w' ⟨rfl, rfl⟩; dsimp only) | (go_at_call 21; refine (rwithin_any _ _ _ _).mono ?_; rintro e w' ⟨rfl, rfl⟩; dsimp only))
  all_goals (go_ret; exact ⟨Aid.ret_bool (by simp_all [show Op.win 0 0 10000 = true by decide]), by first | exact (Below.refl _ _).alloc (Nat.le_refl _) _ | exact below_drewN ((Below.refl _ _).alloc (Nat.le_refl _) _) _⟩)

set_option maxRecDepth 100000 in
set_option maxHeartbeats 2000000 in
theorem rmay_31n (a b : Int) (w : World) (hb : ¬ b = 0) :
    Calls Tryd.prog 10 #[.agg #[.int .i64 31, .int .i64 a, .int .i64 b]] w fun e w' => e = .returned (.bool (false)) ∧ Below w.heap.size w w' := by
  have ho : Op.operands 31 = 1 := by decide
  go_enter Tryd.func10, Tryd.ntmps10
  try simp only [List.append_eq, List.cons_append, List.nil_append]
  go_wp2_with fail
  refine (roperands_is _ _ ho _).mono ?_; rintro e w' ⟨rfl, rfl⟩
  clear ho
  go_wp2_with (first | (go_at_call 12; refine (roperands_is _ _ rfl _).mono ?_; rintro e w' ⟨rfl, rfl⟩; dsimp only) | (go_at_call 21; refine (rwithin_any _ _ _ _).mono ?_; rintro e w' ⟨rfl, rfl⟩; dsimp only))
  all_goals (go_ret; exact ⟨Aid.ret_bool (by simp_all [show Op.win 0 0 10000 = true by decide]), by first | exact (Below.refl _ _).alloc (Nat.le_refl _) _ | exact below_drewN ((Below.refl _ _).alloc (Nat.le_refl _) _) _⟩)

set_option maxRecDepth 100000 in
set_option maxHeartbeats 2000000 in
theorem rmay_32 (a : Int) (w : World) :
    Calls Tryd.prog 10 #[.agg #[.int .i64 32, .int .i64 a, .int .i64 0]] w fun e w' => e = .returned (.bool (Op.win a 0 10000)) ∧ Below w.heap.size w w' := by
  have ho : Op.operands 32 = 1 := by decide
  go_enter Tryd.func10, Tryd.ntmps10
  try simp only [List.append_eq, List.cons_append, List.nil_append]
  go_wp2_with fail
  refine (roperands_is _ _ ho _).mono ?_; rintro e w' ⟨rfl, rfl⟩
  clear ho
  go_wp2_with (first | (go_at_call 12; refine (roperands_is _ _ rfl _).mono ?_; rintro e w' ⟨rfl, rfl⟩; dsimp only) | (go_at_call 21; refine (rwithin_any _ _ _ _).mono ?_; rintro e w' ⟨rfl, rfl⟩; dsimp only))
  all_goals (go_ret; exact ⟨Aid.ret_bool (by simp_all [show Op.win 0 0 10000 = true by decide]), by first | exact (Below.refl _ _).alloc (Nat.le_refl _) _ | exact below_drewN ((Below.refl _ _).alloc (Nat.le_refl _) _) _⟩)

set_option maxRecDepth 100000 in
set_option maxHeartbeats 2000000 in
theorem rmay_32n (a b : Int) (w : World) (hb : ¬ b = 0) :
    Calls Tryd.prog 10 #[.agg #[.int .i64 32, .int .i64 a, .int .i64 b]] w fun e w' => e = .returned (.bool (false)) ∧ Below w.heap.size w w' := by
  have ho : Op.operands 32 = 1 := by decide
  go_enter Tryd.func10, Tryd.ntmps10
  try simp only [List.append_eq, List.cons_append, List.nil_append]
  go_wp2_with fail
  refine (roperands_is _ _ ho _).mono ?_; rintro e w' ⟨rfl, rfl⟩
  clear ho
  go_wp2_with (first | (go_at_call 12; refine (roperands_is _ _ rfl _).mono ?_; rintro e w' ⟨rfl, rfl⟩; dsimp only) | (go_at_call 21; refine (rwithin_any _ _ _ _).mono ?_; rintro e w' ⟨rfl, rfl⟩; dsimp only))
  all_goals (go_ret; exact ⟨Aid.ret_bool (by simp_all [show Op.win 0 0 10000 = true by decide]), by first | exact (Below.refl _ _).alloc (Nat.le_refl _) _ | exact below_drewN ((Below.refl _ _).alloc (Nat.le_refl _) _) _⟩)

set_option maxRecDepth 100000 in
set_option maxHeartbeats 2000000 in
theorem rmay_33 (a : Int) (w : World) :
    Calls Tryd.prog 10 #[.agg #[.int .i64 33, .int .i64 a, .int .i64 0]] w fun e w' => e = .returned (.bool (Op.win a 0 10000)) ∧ Below w.heap.size w w' := by
  have ho : Op.operands 33 = 1 := by decide
  go_enter Tryd.func10, Tryd.ntmps10
  try simp only [List.append_eq, List.cons_append, List.nil_append]
  go_wp2_with fail
  refine (roperands_is _ _ ho _).mono ?_; rintro e w' ⟨rfl, rfl⟩
  clear ho
  go_wp2_with (first | (go_at_call 12; refine (roperands_is _ _ rfl _).mono ?_; rintro e w' ⟨rfl, rfl⟩; dsimp only) | (go_at_call 21; refine (rwithin_any _ _ _ _).mono ?_; rintro e w' ⟨rfl, rfl⟩; dsimp only))
  all_goals (go_ret; exact ⟨Aid.ret_bool (by simp_all [show Op.win 0 0 10000 = true by decide]), by first | exact (Below.refl _ _).alloc (Nat.le_refl _) _ | exact below_drewN ((Below.refl _ _).alloc (Nat.le_refl _) _) _⟩)

set_option maxRecDepth 100000 in
set_option maxHeartbeats 2000000 in
theorem rmay_33n (a b : Int) (w : World) (hb : ¬ b = 0) :
    Calls Tryd.prog 10 #[.agg #[.int .i64 33, .int .i64 a, .int .i64 b]] w fun e w' => e = .returned (.bool (false)) ∧ Below w.heap.size w w' := by
  have ho : Op.operands 33 = 1 := by decide
  go_enter Tryd.func10, Tryd.ntmps10
  try simp only [List.append_eq, List.cons_append, List.nil_append]
  go_wp2_with fail
  refine (roperands_is _ _ ho _).mono ?_; rintro e w' ⟨rfl, rfl⟩
  clear ho
  go_wp2_with (first | (go_at_call 12; refine (roperands_is _ _ rfl _).mono ?_; rintro e w' ⟨rfl, rfl⟩; dsimp only) | (go_at_call 21; refine (rwithin_any _ _ _ _).mono ?_; rintro e w' ⟨rfl, rfl⟩; dsimp only))
  all_goals (go_ret; exact ⟨Aid.ret_bool (by simp_all [show Op.win 0 0 10000 = true by decide]), by first | exact (Below.refl _ _).alloc (Nat.le_refl _) _ | exact below_drewN ((Below.refl _ _).alloc (Nat.le_refl _) _) _⟩)

set_option maxRecDepth 100000 in
set_option maxHeartbeats 2000000 in
theorem rmay_34 (w : World) :
    Calls Tryd.prog 10 #[.agg #[.int .i64 34, .int .i64 0, .int .i64 0]] w fun e w' => e = .returned (.bool (true)) ∧ Below w.heap.size w w' := by
  have ho : Op.operands 34 = 0 := by decide
  go_enter Tryd.func10, Tryd.ntmps10
  try simp only [List.append_eq, List.cons_append, List.nil_append]
  go_wp2_with fail
  refine (roperands_is _ _ ho _).mono ?_; rintro e w' ⟨rfl, rfl⟩
  clear ho
  go_wp2_with (first | (go_at_call 12; refine (roperands_is _ _ rfl _).mono ?_; rintro e w' ⟨rfl, rfl⟩; dsimp only) | (go_at_call 21; refine (rwithin_any _ _ _ _).mono ?_; rintro e w' ⟨rfl, rfl⟩; dsimp only))
  all_goals (go_ret; exact ⟨Aid.ret_bool (by simp_all [show Op.win 0 0 10000 = true by decide]), by first | exact (Below.refl _ _).alloc (Nat.le_refl _) _ | exact below_drewN ((Below.refl _ _).alloc (Nat.le_refl _) _) _⟩)

set_option maxRecDepth 100000 in
set_option maxHeartbeats 2000000 in
theorem rmay_34n (a b : Int) (w : World) (ha : ¬ a = 0) :
    Calls Tryd.prog 10 #[.agg #[.int .i64 34, .int .i64 a, .int .i64 b]] w fun e w' => e = .returned (.bool (false)) ∧ Below w.heap.size w w' := by
  have ho : Op.operands 34 = 0 := by decide
  go_enter Tryd.func10, Tryd.ntmps10
  try simp only [List.append_eq, List.cons_append, List.nil_append]
  go_wp2_with fail
  refine (roperands_is _ _ ho _).mono ?_; rintro e w' ⟨rfl, rfl⟩
  clear ho
  go_wp2_with (first | (go_at_call 12; refine (roperands_is _ _ rfl _).mono ?_; rintro e w' ⟨rfl, rfl⟩; dsimp only) | (go_at_call 21; refine (rwithin_any _ _ _ _).mono ?_; rintro e w' ⟨rfl, rfl⟩; dsimp only))
  all_goals (go_ret; exact ⟨Aid.ret_bool (by simp_all [show Op.win 0 0 10000 = true by decide]), by first | exact (Below.refl _ _).alloc (Nat.le_refl _) _ | exact below_drewN ((Below.refl _ _).alloc (Nat.le_refl _) _) _⟩)

set_option maxRecDepth 100000 in
set_option maxHeartbeats 2000000 in
theorem rmay_34m (b : Int) (w : World) (hb : ¬ b = 0) :
    Calls Tryd.prog 10 #[.agg #[.int .i64 34, .int .i64 0, .int .i64 b]] w fun e w' => e = .returned (.bool (false)) ∧ Below w.heap.size w w' := by
  have ho : Op.operands 34 = 0 := by decide
  go_enter Tryd.func10, Tryd.ntmps10
  try simp only [List.append_eq, List.cons_append, List.nil_append]
  go_wp2_with fail
  refine (roperands_is _ _ ho _).mono ?_; rintro e w' ⟨rfl, rfl⟩
  clear ho
  go_wp2_with (first | (go_at_call 12; refine (roperands_is _ _ rfl _).mono ?_; rintro e w' ⟨rfl, rfl⟩; dsimp only) | (go_at_call 21; refine (rwithin_any _ _ _ _).mono ?_; rintro e w' ⟨rfl, rfl⟩; dsimp only))
  all_goals (go_ret; exact ⟨Aid.ret_bool (by simp_all [show Op.win 0 0 10000 = true by decide]), by first | exact (Below.refl _ _).alloc (Nat.le_refl _) _ | exact below_drewN ((Below.refl _ _).alloc (Nat.le_refl _) _) _⟩)

set_option maxRecDepth 100000 in
set_option maxHeartbeats 2000000 in
theorem rmay_35 (a : Int) (w : World) :
    Calls Tryd.prog 10 #[.agg #[.int .i64 35, .int .i64 a, .int .i64 0]] w fun e w' => e = .returned (.bool (Op.win a 1 10000)) ∧ Below w.heap.size w w' := by
  have ho : Op.operands 35 = 1 := by decide
  go_enter Tryd.func10, Tryd.ntmps10
  try simp only [List.append_eq, List.cons_append, List.nil_append]
  go_wp2_with fail
  refine (roperands_is _ _ ho _).mono ?_; rintro e w' ⟨rfl, rfl⟩
  clear ho
  go_wp2_with (first | (go_at_call 12; refine (roperands_is _ _ rfl _).mono ?_; rintro e w' ⟨rfl, rfl⟩; dsimp only) | (go_at_call 21; refine (rwithin_any _ _ _ _).mono ?_; rintro e w' ⟨rfl, rfl⟩; dsimp only))
  all_goals (go_ret; exact ⟨Aid.ret_bool (by simp_all [show Op.win 0 0 10000 = true by decide]), by first | exact (Below.refl _ _).alloc (Nat.le_refl _) _ | exact below_drewN ((Below.refl _ _).alloc (Nat.le_refl _) _) _⟩)

set_option maxRecDepth 100000 in
set_option maxHeartbeats 2000000 in
theorem rmay_35n (a b : Int) (w : World) (hb : ¬ b = 0) :
    Calls Tryd.prog 10 #[.agg #[.int .i64 35, .int .i64 a, .int .i64 b]] w fun e w' => e = .returned (.bool (false)) ∧ Below w.heap.size w w' := by
  have ho : Op.operands 35 = 1 := by decide
  go_enter Tryd.func10, Tryd.ntmps10
  try simp only [List.append_eq, List.cons_append, List.nil_append]
  go_wp2_with fail
  refine (roperands_is _ _ ho _).mono ?_; rintro e w' ⟨rfl, rfl⟩
  clear ho
  go_wp2_with (first | (go_at_call 12; refine (roperands_is _ _ rfl _).mono ?_; rintro e w' ⟨rfl, rfl⟩; dsimp only) | (go_at_call 21; refine (rwithin_any _ _ _ _).mono ?_; rintro e w' ⟨rfl, rfl⟩; dsimp only))
  all_goals (go_ret; exact ⟨Aid.ret_bool (by simp_all [show Op.win 0 0 10000 = true by decide]), by first | exact (Below.refl _ _).alloc (Nat.le_refl _) _ | exact below_drewN ((Below.refl _ _).alloc (Nat.le_refl _) _) _⟩)

end Go.Proofs.YtbclpknmeaaajaaDoor
