/- The contracts of Operands (op), as walks. -/
import Derived.Test.YtcgfabnmkbiogaaDoorProg
import Derived.Test.YtcgfabnmkbiogaaDoorOpSpec
import Derived.Test.YtcgfabnmkbiogaaDoorAid
import Derived.WalkKit
import Derived.WalkSpells
import Derived.WalkLawsBesides
import Derived.Deep.QuietTactic
import Derived.BigQuiet
import Derived.Below
namespace Go.Proofs.YtcgfabnmkbiogaaDoor
open Go.RowKit

set_option maxRecDepth 100000 in
set_option maxHeartbeats 1000000 in
theorem operands_1 (w : World) :
    Calls Tryd.prog 19 #[.int .i64 1] w fun e w' => e = .returned (.int .i64 1) ∧ w = w' := by
  go_enter Tryd.func19, Tryd.ntmps19
  try simp only [List.append_eq, List.cons_append, List.nil_append]
  repeat' (first | with_reducible refine Aid.then_exit ?_ | with_reducible refine Aid.block_hit ?_ | with_reducible refine Aid.block_miss rfl ?_ | with_reducible refine Aid.then_ret ?_ | with_reducible refine Aid.block_ret ?_ | with_reducible refine Aid.then_normal ?_ | with_reducible refine Aid.block_normal ?_ | go_values | go_skip | go_guarded | go_step | go_upon | go_back | (go_values <;> (try go_simp)) | (go_ite <;> go_prune <;> (try go_simp)) | (split <;> (first | (rename_i hx; exact (hx _ rfl).elim) | go_prune)))
  all_goals (go_ret; exact ⟨rfl, rfl⟩)

set_option maxRecDepth 100000 in
set_option maxHeartbeats 1000000 in
theorem operands_2 (w : World) :
    Calls Tryd.prog 19 #[.int .i64 2] w fun e w' => e = .returned (.int .i64 0) ∧ w = w' := by
  go_enter Tryd.func19, Tryd.ntmps19
  try simp only [List.append_eq, List.cons_append, List.nil_append]
  repeat' (first | with_reducible refine Aid.then_exit ?_ | with_reducible refine Aid.block_hit ?_ | with_reducible refine Aid.block_miss rfl ?_ | with_reducible refine Aid.then_ret ?_ | with_reducible refine Aid.block_ret ?_ | with_reducible refine Aid.then_normal ?_ | with_reducible refine Aid.block_normal ?_ | go_values | go_skip | go_guarded | go_step | go_upon | go_back | (go_values <;> (try go_simp)) | (go_ite <;> go_prune <;> (try go_simp)) | (split <;> (first | (rename_i hx; exact (hx _ rfl).elim) | go_prune)))
  all_goals (go_ret; exact ⟨rfl, rfl⟩)

set_option maxRecDepth 100000 in
set_option maxHeartbeats 1000000 in
theorem operands_3 (w : World) :
    Calls Tryd.prog 19 #[.int .i64 3] w fun e w' => e = .returned (.int .i64 1) ∧ w = w' := by
  go_enter Tryd.func19, Tryd.ntmps19
  try simp only [List.append_eq, List.cons_append, List.nil_append]
  repeat' (first | with_reducible refine Aid.then_exit ?_ | with_reducible refine Aid.block_hit ?_ | with_reducible refine Aid.block_miss rfl ?_ | with_reducible refine Aid.then_ret ?_ | with_reducible refine Aid.block_ret ?_ | with_reducible refine Aid.then_normal ?_ | with_reducible refine Aid.block_normal ?_ | go_values | go_skip | go_guarded | go_step | go_upon | go_back | (go_values <;> (try go_simp)) | (go_ite <;> go_prune <;> (try go_simp)) | (split <;> (first | (rename_i hx; exact (hx _ rfl).elim) | go_prune)))
  all_goals (go_ret; exact ⟨rfl, rfl⟩)

set_option maxRecDepth 100000 in
set_option maxHeartbeats 1000000 in
theorem operands_4 (w : World) :
    Calls Tryd.prog 19 #[.int .i64 4] w fun e w' => e = .returned (.int .i64 1) ∧ w = w' := by
  go_enter Tryd.func19, Tryd.ntmps19
  try simp only [List.append_eq, List.cons_append, List.nil_append]
  repeat' (first | with_reducible refine Aid.then_exit ?_ | with_reducible refine Aid.block_hit ?_ | with_reducible refine Aid.block_miss rfl ?_ | with_reducible refine Aid.then_ret ?_ | with_reducible refine Aid.block_ret ?_ | with_reducible refine Aid.then_normal ?_ | with_reducible refine Aid.block_normal ?_ | go_values | go_skip | go_guarded | go_step | go_upon | go_back | (go_values <;> (try go_simp)) | (go_ite <;> go_prune <;> (try go_simp)) | (split <;> (first | (rename_i hx; exact (hx _ rfl).elim) | go_prune)))
  all_goals (go_ret; exact ⟨rfl, rfl⟩)

set_option maxRecDepth 100000 in
set_option maxHeartbeats 1000000 in
theorem operands_5 (w : World) :
    Calls Tryd.prog 19 #[.int .i64 5] w fun e w' => e = .returned (.int .i64 1) ∧ w = w' := by
  go_enter Tryd.func19, Tryd.ntmps19
  try simp only [List.append_eq, List.cons_append, List.nil_append]
  repeat' (first | with_reducible refine Aid.then_exit ?_ | with_reducible refine Aid.block_hit ?_ | with_reducible refine Aid.block_miss rfl ?_ | with_reducible refine Aid.then_ret ?_ | with_reducible refine Aid.block_ret ?_ | with_reducible refine Aid.then_normal ?_ | with_reducible refine Aid.block_normal ?_ | go_values | go_skip | go_guarded | go_step | go_upon | go_back | (go_values <;> (try go_simp)) | (go_ite <;> go_prune <;> (try go_simp)) | (split <;> (first | (rename_i hx; exact (hx _ rfl).elim) | go_prune)))
  all_goals (go_ret; exact ⟨rfl, rfl⟩)

set_option maxRecDepth 100000 in
set_option maxHeartbeats 1000000 in
theorem operands_6 (w : World) :
    Calls Tryd.prog 19 #[.int .i64 6] w fun e w' => e = .returned (.int .i64 1) ∧ w = w' := by
  go_enter Tryd.func19, Tryd.ntmps19
  try simp only [List.append_eq, List.cons_append, List.nil_append]
  repeat' (first | with_reducible refine Aid.then_exit ?_ | with_reducible refine Aid.block_hit ?_ | with_reducible refine Aid.block_miss rfl ?_ | with_reducible refine Aid.then_ret ?_ | with_reducible refine Aid.block_ret ?_ | with_reducible refine Aid.then_normal ?_ | with_reducible refine Aid.block_normal ?_ | go_values | go_skip | go_guarded | go_step | go_upon | go_back | (go_values <;> (try go_simp)) | (go_ite <;> go_prune <;> (try go_simp)) | (split <;> (first | (rename_i hx; exact (hx _ rfl).elim) | go_prune)))
  all_goals (go_ret; exact ⟨rfl, rfl⟩)

set_option maxRecDepth 100000 in
set_option maxHeartbeats 1000000 in
theorem operands_7 (w : World) :
    Calls Tryd.prog 19 #[.int .i64 7] w fun e w' => e = .returned (.int .i64 1) ∧ w = w' := by
  go_enter Tryd.func19, Tryd.ntmps19
  try simp only [List.append_eq, List.cons_append, List.nil_append]
  repeat' (first | with_reducible refine Aid.then_exit ?_ | with_reducible refine Aid.block_hit ?_ | with_reducible refine Aid.block_miss rfl ?_ | with_reducible refine Aid.then_ret ?_ | with_reducible refine Aid.block_ret ?_ | with_reducible refine Aid.then_normal ?_ | with_reducible refine Aid.block_normal ?_ | go_values | go_skip | go_guarded | go_step | go_upon | go_back | (go_values <;> (try go_simp)) | (go_ite <;> go_prune <;> (try go_simp)) | (split <;> (first | (rename_i hx; exact (hx _ rfl).elim) | go_prune)))
  all_goals (go_ret; exact ⟨rfl, rfl⟩)

set_option maxRecDepth 100000 in
set_option maxHeartbeats 1000000 in
theorem operands_8 (w : World) :
    Calls Tryd.prog 19 #[.int .i64 8] w fun e w' => e = .returned (.int .i64 1) ∧ w = w' := by
  go_enter Tryd.func19, Tryd.ntmps19
  try simp only [List.append_eq, List.cons_append, List.nil_append]
  repeat' (first | with_reducible refine Aid.then_exit ?_ | with_reducible refine Aid.block_hit ?_ | with_reducible refine Aid.block_miss rfl ?_ | with_reducible refine Aid.then_ret ?_ | with_reducible refine Aid.block_ret ?_ | with_reducible refine Aid.then_normal ?_ | with_reducible refine Aid.block_normal ?_ | go_values | go_skip | go_guarded | go_step | go_upon | go_back | (go_values <;> (try go_simp)) | (go_ite <;> go_prune <;> (try go_simp)) | (split <;> (first | (rename_i hx; exact (hx _ rfl).elim) | go_prune)))
  all_goals (go_ret; exact ⟨rfl, rfl⟩)

set_option maxRecDepth 100000 in
set_option maxHeartbeats 1000000 in
theorem operands_9 (w : World) :
    Calls Tryd.prog 19 #[.int .i64 9] w fun e w' => e = .returned (.int .i64 1) ∧ w = w' := by
  go_enter Tryd.func19, Tryd.ntmps19
  try simp only [List.append_eq, List.cons_append, List.nil_append]
  repeat' (first | with_reducible refine Aid.then_exit ?_ | with_reducible refine Aid.block_hit ?_ | with_reducible refine Aid.block_miss rfl ?_ | with_reducible refine Aid.then_ret ?_ | with_reducible refine Aid.block_ret ?_ | with_reducible refine Aid.then_normal ?_ | with_reducible refine Aid.block_normal ?_ | go_values | go_skip | go_guarded | go_step | go_upon | go_back | (go_values <;> (try go_simp)) | (go_ite <;> go_prune <;> (try go_simp)) | (split <;> (first | (rename_i hx; exact (hx _ rfl).elim) | go_prune)))
  all_goals (go_ret; exact ⟨rfl, rfl⟩)

set_option maxRecDepth 100000 in
set_option maxHeartbeats 1000000 in
theorem operands_10 (w : World) :
    Calls Tryd.prog 19 #[.int .i64 10] w fun e w' => e = .returned (.int .i64 2) ∧ w = w' := by
  go_enter Tryd.func19, Tryd.ntmps19
  try simp only [List.append_eq, List.cons_append, List.nil_append]
  repeat' (first | with_reducible refine Aid.then_exit ?_ | with_reducible refine Aid.block_hit ?_ | with_reducible refine Aid.block_miss rfl ?_ | with_reducible refine Aid.then_ret ?_ | with_reducible refine Aid.block_ret ?_ | with_reducible refine Aid.then_normal ?_ | with_reducible refine Aid.block_normal ?_ | go_values | go_skip | go_guarded | go_step | go_upon | go_back | (go_values <;> (try go_simp)) | (go_ite <;> go_prune <;> (try go_simp)) | (split <;> (first | (rename_i hx; exact (hx _ rfl).elim) | go_prune)))
  all_goals (go_ret; exact ⟨rfl, rfl⟩)

set_option maxRecDepth 100000 in
set_option maxHeartbeats 1000000 in
theorem operands_11 (w : World) :
    Calls Tryd.prog 19 #[.int .i64 11] w fun e w' => e = .returned (.int .i64 2) ∧ w = w' := by
  go_enter Tryd.func19, Tryd.ntmps19
  try simp only [List.append_eq, List.cons_append, List.nil_append]
  repeat' (first | with_reducible refine Aid.then_exit ?_ | with_reducible refine Aid.block_hit ?_ | with_reducible refine Aid.block_miss rfl ?_ | with_reducible refine Aid.then_ret ?_ | with_reducible refine Aid.block_ret ?_ | with_reducible refine Aid.then_normal ?_ | with_reducible refine Aid.block_normal ?_ | go_values | go_skip | go_guarded | go_step | go_upon | go_back | (go_values <;> (try go_simp)) | (go_ite <;> go_prune <;> (try go_simp)) | (split <;> (first | (rename_i hx; exact (hx _ rfl).elim) | go_prune)))
  all_goals (go_ret; exact ⟨rfl, rfl⟩)

set_option maxRecDepth 100000 in
set_option maxHeartbeats 1000000 in
theorem operands_12 (w : World) :
    Calls Tryd.prog 19 #[.int .i64 12] w fun e w' => e = .returned (.int .i64 2) ∧ w = w' := by
  go_enter Tryd.func19, Tryd.ntmps19
  try simp only [List.append_eq, List.cons_append, List.nil_append]
  repeat' (first | with_reducible refine Aid.then_exit ?_ | with_reducible refine Aid.block_hit ?_ | with_reducible refine Aid.block_miss rfl ?_ | with_reducible refine Aid.then_ret ?_ | with_reducible refine Aid.block_ret ?_ | with_reducible refine Aid.then_normal ?_ | with_reducible refine Aid.block_normal ?_ | go_values | go_skip | go_guarded | go_step | go_upon | go_back | (go_values <;> (try go_simp)) | (go_ite <;> go_prune <;> (try go_simp)) | (split <;> (first | (rename_i hx; exact (hx _ rfl).elim) | go_prune)))
  all_goals (go_ret; exact ⟨rfl, rfl⟩)

set_option maxRecDepth 100000 in
set_option maxHeartbeats 1000000 in
theorem operands_13 (w : World) :
    Calls Tryd.prog 19 #[.int .i64 13] w fun e w' => e = .returned (.int .i64 2) ∧ w = w' := by
  go_enter Tryd.func19, Tryd.ntmps19
  try simp only [List.append_eq, List.cons_append, List.nil_append]
  repeat' (first | with_reducible refine Aid.then_exit ?_ | with_reducible refine Aid.block_hit ?_ | with_reducible refine Aid.block_miss rfl ?_ | with_reducible refine Aid.then_ret ?_ | with_reducible refine Aid.block_ret ?_ | with_reducible refine Aid.then_normal ?_ | with_reducible refine Aid.block_normal ?_ | go_values | go_skip | go_guarded | go_step | go_upon | go_back | (go_values <;> (try go_simp)) | (go_ite <;> go_prune <;> (try go_simp)) | (split <;> (first | (rename_i hx; exact (hx _ rfl).elim) | go_prune)))
  all_goals (go_ret; exact ⟨rfl, rfl⟩)

set_option maxRecDepth 100000 in
set_option maxHeartbeats 1000000 in
theorem operands_14 (w : World) :
    Calls Tryd.prog 19 #[.int .i64 14] w fun e w' => e = .returned (.int .i64 2) ∧ w = w' := by
  go_enter Tryd.func19, Tryd.ntmps19
  try simp only [List.append_eq, List.cons_append, List.nil_append]
  repeat' (first | with_reducible refine Aid.then_exit ?_ | with_reducible refine Aid.block_hit ?_ | with_reducible refine Aid.block_miss rfl ?_ | with_reducible refine Aid.then_ret ?_ | with_reducible refine Aid.block_ret ?_ | with_reducible refine Aid.then_normal ?_ | with_reducible refine Aid.block_normal ?_ | go_values | go_skip | go_guarded | go_step | go_upon | go_back | (go_values <;> (try go_simp)) | (go_ite <;> go_prune <;> (try go_simp)) | (split <;> (first | (rename_i hx; exact (hx _ rfl).elim) | go_prune)))
  all_goals (go_ret; exact ⟨rfl, rfl⟩)

set_option maxRecDepth 100000 in
set_option maxHeartbeats 1000000 in
theorem operands_15 (w : World) :
    Calls Tryd.prog 19 #[.int .i64 15] w fun e w' => e = .returned (.int .i64 2) ∧ w = w' := by
  go_enter Tryd.func19, Tryd.ntmps19
  try simp only [List.append_eq, List.cons_append, List.nil_append]
  repeat' (first | with_reducible refine Aid.then_exit ?_ | with_reducible refine Aid.block_hit ?_ | with_reducible refine Aid.block_miss rfl ?_ | with_reducible refine Aid.then_ret ?_ | with_reducible refine Aid.block_ret ?_ | with_reducible refine Aid.then_normal ?_ | with_reducible refine Aid.block_normal ?_ | go_values | go_skip | go_guarded | go_step | go_upon | go_back | (go_values <;> (try go_simp)) | (go_ite <;> go_prune <;> (try go_simp)) | (split <;> (first | (rename_i hx; exact (hx _ rfl).elim) | go_prune)))
  all_goals (go_ret; exact ⟨rfl, rfl⟩)

set_option maxRecDepth 100000 in
set_option maxHeartbeats 1000000 in
theorem operands_16 (w : World) :
    Calls Tryd.prog 19 #[.int .i64 16] w fun e w' => e = .returned (.int .i64 1) ∧ w = w' := by
  go_enter Tryd.func19, Tryd.ntmps19
  try simp only [List.append_eq, List.cons_append, List.nil_append]
  repeat' (first | with_reducible refine Aid.then_exit ?_ | with_reducible refine Aid.block_hit ?_ | with_reducible refine Aid.block_miss rfl ?_ | with_reducible refine Aid.then_ret ?_ | with_reducible refine Aid.block_ret ?_ | with_reducible refine Aid.then_normal ?_ | with_reducible refine Aid.block_normal ?_ | go_values | go_skip | go_guarded | go_step | go_upon | go_back | (go_values <;> (try go_simp)) | (go_ite <;> go_prune <;> (try go_simp)) | (split <;> (first | (rename_i hx; exact (hx _ rfl).elim) | go_prune)))
  all_goals (go_ret; exact ⟨rfl, rfl⟩)

set_option maxRecDepth 100000 in
set_option maxHeartbeats 1000000 in
theorem operands_17 (w : World) :
    Calls Tryd.prog 19 #[.int .i64 17] w fun e w' => e = .returned (.int .i64 0) ∧ w = w' := by
  go_enter Tryd.func19, Tryd.ntmps19
  try simp only [List.append_eq, List.cons_append, List.nil_append]
  repeat' (first | with_reducible refine Aid.then_exit ?_ | with_reducible refine Aid.block_hit ?_ | with_reducible refine Aid.block_miss rfl ?_ | with_reducible refine Aid.then_ret ?_ | with_reducible refine Aid.block_ret ?_ | with_reducible refine Aid.then_normal ?_ | with_reducible refine Aid.block_normal ?_ | go_values | go_skip | go_guarded | go_step | go_upon | go_back | (go_values <;> (try go_simp)) | (go_ite <;> go_prune <;> (try go_simp)) | (split <;> (first | (rename_i hx; exact (hx _ rfl).elim) | go_prune)))
  all_goals (go_ret; exact ⟨rfl, rfl⟩)

set_option maxRecDepth 100000 in
set_option maxHeartbeats 1000000 in
theorem operands_18 (w : World) :
    Calls Tryd.prog 19 #[.int .i64 18] w fun e w' => e = .returned (.int .i64 0) ∧ w = w' := by
  go_enter Tryd.func19, Tryd.ntmps19
  try simp only [List.append_eq, List.cons_append, List.nil_append]
  repeat' (first | with_reducible refine Aid.then_exit ?_ | with_reducible refine Aid.block_hit ?_ | with_reducible refine Aid.block_miss rfl ?_ | with_reducible refine Aid.then_ret ?_ | with_reducible refine Aid.block_ret ?_ | with_reducible refine Aid.then_normal ?_ | with_reducible refine Aid.block_normal ?_ | go_values | go_skip | go_guarded | go_step | go_upon | go_back | (go_values <;> (try go_simp)) | (go_ite <;> go_prune <;> (try go_simp)) | (split <;> (first | (rename_i hx; exact (hx _ rfl).elim) | go_prune)))
  all_goals (go_ret; exact ⟨rfl, rfl⟩)

set_option maxRecDepth 100000 in
set_option maxHeartbeats 1000000 in
theorem operands_19 (w : World) :
    Calls Tryd.prog 19 #[.int .i64 19] w fun e w' => e = .returned (.int .i64 1) ∧ w = w' := by
  go_enter Tryd.func19, Tryd.ntmps19
  try simp only [List.append_eq, List.cons_append, List.nil_append]
  repeat' (first | with_reducible refine Aid.then_exit ?_ | with_reducible refine Aid.block_hit ?_ | with_reducible refine Aid.block_miss rfl ?_ | with_reducible refine Aid.then_ret ?_ | with_reducible refine Aid.block_ret ?_ | with_reducible refine Aid.then_normal ?_ | with_reducible refine Aid.block_normal ?_ | go_values | go_skip | go_guarded | go_step | go_upon | go_back | (go_values <;> (try go_simp)) | (go_ite <;> go_prune <;> (try go_simp)) | (split <;> (first | (rename_i hx; exact (hx _ rfl).elim) | go_prune)))
  all_goals (go_ret; exact ⟨rfl, rfl⟩)

set_option maxRecDepth 100000 in
set_option maxHeartbeats 1000000 in
theorem operands_20 (w : World) :
    Calls Tryd.prog 19 #[.int .i64 20] w fun e w' => e = .returned (.int .i64 2) ∧ w = w' := by
  go_enter Tryd.func19, Tryd.ntmps19
  try simp only [List.append_eq, List.cons_append, List.nil_append]
  repeat' (first | with_reducible refine Aid.then_exit ?_ | with_reducible refine Aid.block_hit ?_ | with_reducible refine Aid.block_miss rfl ?_ | with_reducible refine Aid.then_ret ?_ | with_reducible refine Aid.block_ret ?_ | with_reducible refine Aid.then_normal ?_ | with_reducible refine Aid.block_normal ?_ | go_values | go_skip | go_guarded | go_step | go_upon | go_back | (go_values <;> (try go_simp)) | (go_ite <;> go_prune <;> (try go_simp)) | (split <;> (first | (rename_i hx; exact (hx _ rfl).elim) | go_prune)))
  all_goals (go_ret; exact ⟨rfl, rfl⟩)

set_option maxRecDepth 100000 in
set_option maxHeartbeats 1000000 in
theorem operands_21 (w : World) :
    Calls Tryd.prog 19 #[.int .i64 21] w fun e w' => e = .returned (.int .i64 1) ∧ w = w' := by
  go_enter Tryd.func19, Tryd.ntmps19
  try simp only [List.append_eq, List.cons_append, List.nil_append]
  repeat' (first | with_reducible refine Aid.then_exit ?_ | with_reducible refine Aid.block_hit ?_ | with_reducible refine Aid.block_miss rfl ?_ | with_reducible refine Aid.then_ret ?_ | with_reducible refine Aid.block_ret ?_ | with_reducible refine Aid.then_normal ?_ | with_reducible refine Aid.block_normal ?_ | go_values | go_skip | go_guarded | go_step | go_upon | go_back | (go_values <;> (try go_simp)) | (go_ite <;> go_prune <;> (try go_simp)) | (split <;> (first | (rename_i hx; exact (hx _ rfl).elim) | go_prune)))
  all_goals (go_ret; exact ⟨rfl, rfl⟩)

set_option maxRecDepth 100000 in
set_option maxHeartbeats 1000000 in
theorem operands_22 (w : World) :
    Calls Tryd.prog 19 #[.int .i64 22] w fun e w' => e = .returned (.int .i64 1) ∧ w = w' := by
  go_enter Tryd.func19, Tryd.ntmps19
  try simp only [List.append_eq, List.cons_append, List.nil_append]
  repeat' (first | with_reducible refine Aid.then_exit ?_ | with_reducible refine Aid.block_hit ?_ | with_reducible refine Aid.block_miss rfl ?_ | with_reducible refine Aid.then_ret ?_ | with_reducible refine Aid.block_ret ?_ | with_reducible refine Aid.then_normal ?_ | with_reducible refine Aid.block_normal ?_ | go_values | go_skip | go_guarded | go_step | go_upon | go_back | (go_values <;> (try go_simp)) | (go_ite <;> go_prune <;> (try go_simp)) | (split <;> (first | (rename_i hx; exact (hx _ rfl).elim) | go_prune)))
  all_goals (go_ret; exact ⟨rfl, rfl⟩)

set_option maxRecDepth 100000 in
set_option maxHeartbeats 1000000 in
theorem operands_23 (w : World) :
    Calls Tryd.prog 19 #[.int .i64 23] w fun e w' => e = .returned (.int .i64 1) ∧ w = w' := by
  go_enter Tryd.func19, Tryd.ntmps19
  try simp only [List.append_eq, List.cons_append, List.nil_append]
  repeat' (first | with_reducible refine Aid.then_exit ?_ | with_reducible refine Aid.block_hit ?_ | with_reducible refine Aid.block_miss rfl ?_ | with_reducible refine Aid.then_ret ?_ | with_reducible refine Aid.block_ret ?_ | with_reducible refine Aid.then_normal ?_ | with_reducible refine Aid.block_normal ?_ | go_values | go_skip | go_guarded | go_step | go_upon | go_back | (go_values <;> (try go_simp)) | (go_ite <;> go_prune <;> (try go_simp)) | (split <;> (first | (rename_i hx; exact (hx _ rfl).elim) | go_prune)))
  all_goals (go_ret; exact ⟨rfl, rfl⟩)

set_option maxRecDepth 100000 in
set_option maxHeartbeats 1000000 in
theorem operands_24 (w : World) :
    Calls Tryd.prog 19 #[.int .i64 24] w fun e w' => e = .returned (.int .i64 1) ∧ w = w' := by
  go_enter Tryd.func19, Tryd.ntmps19
  try simp only [List.append_eq, List.cons_append, List.nil_append]
  repeat' (first | with_reducible refine Aid.then_exit ?_ | with_reducible refine Aid.block_hit ?_ | with_reducible refine Aid.block_miss rfl ?_ | with_reducible refine Aid.then_ret ?_ | with_reducible refine Aid.block_ret ?_ | with_reducible refine Aid.then_normal ?_ | with_reducible refine Aid.block_normal ?_ | go_values | go_skip | go_guarded | go_step | go_upon | go_back | (go_values <;> (try go_simp)) | (go_ite <;> go_prune <;> (try go_simp)) | (split <;> (first | (rename_i hx; exact (hx _ rfl).elim) | go_prune)))
  all_goals (go_ret; exact ⟨rfl, rfl⟩)

set_option maxRecDepth 100000 in
set_option maxHeartbeats 1000000 in
theorem operands_25 (w : World) :
    Calls Tryd.prog 19 #[.int .i64 25] w fun e w' => e = .returned (.int .i64 2) ∧ w = w' := by
  go_enter Tryd.func19, Tryd.ntmps19
  try simp only [List.append_eq, List.cons_append, List.nil_append]
  repeat' (first | with_reducible refine Aid.then_exit ?_ | with_reducible refine Aid.block_hit ?_ | with_reducible refine Aid.block_miss rfl ?_ | with_reducible refine Aid.then_ret ?_ | with_reducible refine Aid.block_ret ?_ | with_reducible refine Aid.then_normal ?_ | with_reducible refine Aid.block_normal ?_ | go_values | go_skip | go_guarded | go_step | go_upon | go_back | (go_values <;> (try go_simp)) | (go_ite <;> go_prune <;> (try go_simp)) | (split <;> (first | (rename_i hx; exact (hx _ rfl).elim) | go_prune)))
  all_goals (go_ret; exact ⟨rfl, rfl⟩)

set_option maxRecDepth 100000 in
set_option maxHeartbeats 1000000 in
theorem operands_26 (w : World) :
    Calls Tryd.prog 19 #[.int .i64 26] w fun e w' => e = .returned (.int .i64 2) ∧ w = w' := by
  go_enter Tryd.func19, Tryd.ntmps19
  try simp only [List.append_eq, List.cons_append, List.nil_append]
  repeat' (first | with_reducible refine Aid.then_exit ?_ | with_reducible refine Aid.block_hit ?_ | with_reducible refine Aid.block_miss rfl ?_ | with_reducible refine Aid.then_ret ?_ | with_reducible refine Aid.block_ret ?_ | with_reducible refine Aid.then_normal ?_ | with_reducible refine Aid.block_normal ?_ | go_values | go_skip | go_guarded | go_step | go_upon | go_back | (go_values <;> (try go_simp)) | (go_ite <;> go_prune <;> (try go_simp)) | (split <;> (first | (rename_i hx; exact (hx _ rfl).elim) | go_prune)))
  all_goals (go_ret; exact ⟨rfl, rfl⟩)

set_option maxRecDepth 100000 in
set_option maxHeartbeats 1000000 in
theorem operands_27 (w : World) :
    Calls Tryd.prog 19 #[.int .i64 27] w fun e w' => e = .returned (.int .i64 2) ∧ w = w' := by
  go_enter Tryd.func19, Tryd.ntmps19
  try simp only [List.append_eq, List.cons_append, List.nil_append]
  repeat' (first | with_reducible refine Aid.then_exit ?_ | with_reducible refine Aid.block_hit ?_ | with_reducible refine Aid.block_miss rfl ?_ | with_reducible refine Aid.then_ret ?_ | with_reducible refine Aid.block_ret ?_ | with_reducible refine Aid.then_normal ?_ | with_reducible refine Aid.block_normal ?_ | go_values | go_skip | go_guarded | go_step | go_upon | go_back | (go_values <;> (try go_simp)) | (go_ite <;> go_prune <;> (try go_simp)) | (split <;> (first | (rename_i hx; exact (hx _ rfl).elim) | go_prune)))
  all_goals (go_ret; exact ⟨rfl, rfl⟩)

set_option maxRecDepth 100000 in
set_option maxHeartbeats 1000000 in
theorem operands_28 (w : World) :
    Calls Tryd.prog 19 #[.int .i64 28] w fun e w' => e = .returned (.int .i64 2) ∧ w = w' := by
  go_enter Tryd.func19, Tryd.ntmps19
  try simp only [List.append_eq, List.cons_append, List.nil_append]
  repeat' (first | with_reducible refine Aid.then_exit ?_ | with_reducible refine Aid.block_hit ?_ | with_reducible refine Aid.block_miss rfl ?_ | with_reducible refine Aid.then_ret ?_ | with_reducible refine Aid.block_ret ?_ | with_reducible refine Aid.then_normal ?_ | with_reducible refine Aid.block_normal ?_ | go_values | go_skip | go_guarded | go_step | go_upon | go_back | (go_values <;> (try go_simp)) | (go_ite <;> go_prune <;> (try go_simp)) | (split <;> (first | (rename_i hx; exact (hx _ rfl).elim) | go_prune)))
  all_goals (go_ret; exact ⟨rfl, rfl⟩)

set_option maxRecDepth 100000 in
set_option maxHeartbeats 1000000 in
theorem operands_29 (w : World) :
    Calls Tryd.prog 19 #[.int .i64 29] w fun e w' => e = .returned (.int .i64 0) ∧ w = w' := by
  go_enter Tryd.func19, Tryd.ntmps19
  try simp only [List.append_eq, List.cons_append, List.nil_append]
  repeat' (first | with_reducible refine Aid.then_exit ?_ | with_reducible refine Aid.block_hit ?_ | with_reducible refine Aid.block_miss rfl ?_ | with_reducible refine Aid.then_ret ?_ | with_reducible refine Aid.block_ret ?_ | with_reducible refine Aid.then_normal ?_ | with_reducible refine Aid.block_normal ?_ | go_values | go_skip | go_guarded | go_step | go_upon | go_back | (go_values <;> (try go_simp)) | (go_ite <;> go_prune <;> (try go_simp)) | (split <;> (first | (rename_i hx; exact (hx _ rfl).elim) | go_prune)))
  all_goals (go_ret; exact ⟨rfl, rfl⟩)

set_option maxRecDepth 100000 in
set_option maxHeartbeats 1000000 in
theorem operands_30 (w : World) :
    Calls Tryd.prog 19 #[.int .i64 30] w fun e w' => e = .returned (.int .i64 0) ∧ w = w' := by
  go_enter Tryd.func19, Tryd.ntmps19
  try simp only [List.append_eq, List.cons_append, List.nil_append]
  repeat' (first | with_reducible refine Aid.then_exit ?_ | with_reducible refine Aid.block_hit ?_ | with_reducible refine Aid.block_miss rfl ?_ | with_reducible refine Aid.then_ret ?_ | with_reducible refine Aid.block_ret ?_ | with_reducible refine Aid.then_normal ?_ | with_reducible refine Aid.block_normal ?_ | go_values | go_skip | go_guarded | go_step | go_upon | go_back | (go_values <;> (try go_simp)) | (go_ite <;> go_prune <;> (try go_simp)) | (split <;> (first | (rename_i hx; exact (hx _ rfl).elim) | go_prune)))
  all_goals (go_ret; exact ⟨rfl, rfl⟩)

set_option maxRecDepth 100000 in
set_option maxHeartbeats 1000000 in
theorem operands_31 (w : World) :
    Calls Tryd.prog 19 #[.int .i64 31] w fun e w' => e = .returned (.int .i64 1) ∧ w = w' := by
  go_enter Tryd.func19, Tryd.ntmps19
  try simp only [List.append_eq, List.cons_append, List.nil_append]
  repeat' (first | with_reducible refine Aid.then_exit ?_ | with_reducible refine Aid.block_hit ?_ | with_reducible refine Aid.block_miss rfl ?_ | with_reducible refine Aid.then_ret ?_ | with_reducible refine Aid.block_ret ?_ | with_reducible refine Aid.then_normal ?_ | with_reducible refine Aid.block_normal ?_ | go_values | go_skip | go_guarded | go_step | go_upon | go_back | (go_values <;> (try go_simp)) | (go_ite <;> go_prune <;> (try go_simp)) | (split <;> (first | (rename_i hx; exact (hx _ rfl).elim) | go_prune)))
  all_goals (go_ret; exact ⟨rfl, rfl⟩)

set_option maxRecDepth 100000 in
set_option maxHeartbeats 1000000 in
theorem operands_32 (w : World) :
    Calls Tryd.prog 19 #[.int .i64 32] w fun e w' => e = .returned (.int .i64 1) ∧ w = w' := by
  go_enter Tryd.func19, Tryd.ntmps19
  try simp only [List.append_eq, List.cons_append, List.nil_append]
  repeat' (first | with_reducible refine Aid.then_exit ?_ | with_reducible refine Aid.block_hit ?_ | with_reducible refine Aid.block_miss rfl ?_ | with_reducible refine Aid.then_ret ?_ | with_reducible refine Aid.block_ret ?_ | with_reducible refine Aid.then_normal ?_ | with_reducible refine Aid.block_normal ?_ | go_values | go_skip | go_guarded | go_step | go_upon | go_back | (go_values <;> (try go_simp)) | (go_ite <;> go_prune <;> (try go_simp)) | (split <;> (first | (rename_i hx; exact (hx _ rfl).elim) | go_prune)))
  all_goals (go_ret; exact ⟨rfl, rfl⟩)

set_option maxRecDepth 100000 in
set_option maxHeartbeats 1000000 in
theorem operands_33 (w : World) :
    Calls Tryd.prog 19 #[.int .i64 33] w fun e w' => e = .returned (.int .i64 1) ∧ w = w' := by
  go_enter Tryd.func19, Tryd.ntmps19
  try simp only [List.append_eq, List.cons_append, List.nil_append]
  repeat' (first | with_reducible refine Aid.then_exit ?_ | with_reducible refine Aid.block_hit ?_ | with_reducible refine Aid.block_miss rfl ?_ | with_reducible refine Aid.then_ret ?_ | with_reducible refine Aid.block_ret ?_ | with_reducible refine Aid.then_normal ?_ | with_reducible refine Aid.block_normal ?_ | go_values | go_skip | go_guarded | go_step | go_upon | go_back | (go_values <;> (try go_simp)) | (go_ite <;> go_prune <;> (try go_simp)) | (split <;> (first | (rename_i hx; exact (hx _ rfl).elim) | go_prune)))
  all_goals (go_ret; exact ⟨rfl, rfl⟩)

set_option maxRecDepth 100000 in
set_option maxHeartbeats 1000000 in
theorem operands_34 (w : World) :
    Calls Tryd.prog 19 #[.int .i64 34] w fun e w' => e = .returned (.int .i64 0) ∧ w = w' := by
  go_enter Tryd.func19, Tryd.ntmps19
  try simp only [List.append_eq, List.cons_append, List.nil_append]
  repeat' (first | with_reducible refine Aid.then_exit ?_ | with_reducible refine Aid.block_hit ?_ | with_reducible refine Aid.block_miss rfl ?_ | with_reducible refine Aid.then_ret ?_ | with_reducible refine Aid.block_ret ?_ | with_reducible refine Aid.then_normal ?_ | with_reducible refine Aid.block_normal ?_ | go_values | go_skip | go_guarded | go_step | go_upon | go_back | (go_values <;> (try go_simp)) | (go_ite <;> go_prune <;> (try go_simp)) | (split <;> (first | (rename_i hx; exact (hx _ rfl).elim) | go_prune)))
  all_goals (go_ret; exact ⟨rfl, rfl⟩)

set_option maxRecDepth 100000 in
set_option maxHeartbeats 1000000 in
theorem operands_35 (w : World) :
    Calls Tryd.prog 19 #[.int .i64 35] w fun e w' => e = .returned (.int .i64 1) ∧ w = w' := by
  go_enter Tryd.func19, Tryd.ntmps19
  try simp only [List.append_eq, List.cons_append, List.nil_append]
  repeat' (first | with_reducible refine Aid.then_exit ?_ | with_reducible refine Aid.block_hit ?_ | with_reducible refine Aid.block_miss rfl ?_ | with_reducible refine Aid.then_ret ?_ | with_reducible refine Aid.block_ret ?_ | with_reducible refine Aid.then_normal ?_ | with_reducible refine Aid.block_normal ?_ | go_values | go_skip | go_guarded | go_step | go_upon | go_back | (go_values <;> (try go_simp)) | (go_ite <;> go_prune <;> (try go_simp)) | (split <;> (first | (rename_i hx; exact (hx _ rfl).elim) | go_prune)))
  all_goals (go_ret; exact ⟨rfl, rfl⟩)

set_option maxRecDepth 100000 in
set_option maxHeartbeats 1000000 in
theorem operands_low (k : Int) (w : World) (h : k < 1) :
    Calls Tryd.prog 19 #[.int .i64 k] w fun e w' => e = .returned (.int .i64 (-1)) ∧ w = w' := by
  go_enter Tryd.func19, Tryd.ntmps19
  try simp only [List.append_eq, List.cons_append, List.nil_append]
  repeat' (first | with_reducible refine Aid.then_exit ?_ | with_reducible refine Aid.block_hit ?_ | with_reducible refine Aid.block_miss rfl ?_ | with_reducible refine Aid.then_ret ?_ | with_reducible refine Aid.block_ret ?_ | with_reducible refine Aid.then_normal ?_ | with_reducible refine Aid.block_normal ?_ | go_values | go_skip | go_guarded | go_step | go_upon | go_back | (go_values <;> (try go_simp)) | (go_ite <;> go_prune <;> (try go_simp)) | (split <;> (first | (rename_i hx; exact (hx _ rfl).elim) | go_prune)))
  all_goals (go_ret; exact ⟨rfl, rfl⟩)

set_option maxRecDepth 100000 in
set_option maxHeartbeats 1000000 in
theorem operands_high (k : Int) (w : World) (h : 35 < k) :
    Calls Tryd.prog 19 #[.int .i64 k] w fun e w' => e = .returned (.int .i64 (-1)) ∧ w = w' := by
  go_enter Tryd.func19, Tryd.ntmps19
  try simp only [List.append_eq, List.cons_append, List.nil_append]
  repeat' (first | with_reducible refine Aid.then_exit ?_ | with_reducible refine Aid.block_hit ?_ | with_reducible refine Aid.block_miss rfl ?_ | with_reducible refine Aid.then_ret ?_ | with_reducible refine Aid.block_ret ?_ | with_reducible refine Aid.then_normal ?_ | with_reducible refine Aid.block_normal ?_ | go_values | go_skip | go_guarded | go_step | go_upon | go_back | (go_values <;> (try go_simp)) | (go_ite <;> go_prune <;> (try go_simp)) | (split <;> (first | (rename_i hx; exact (hx _ rfl).elim) | go_prune)))
  all_goals (go_ret; exact ⟨rfl, rfl⟩)

theorem operands_is (k n : Int) (hn : Op.operands k = n) (w : World) :
    Calls Tryd.prog 19 #[.int .i64 k] w fun e w' => e = .returned (.int .i64 n) ∧ w = w' := by
  subst hn
  have h : k < 1 ∨ k = 1 ∨ k = 2 ∨ k = 3 ∨ k = 4 ∨ k = 5 ∨ k = 6 ∨ k = 7 ∨ k = 8 ∨ k = 9 ∨ k = 10 ∨ k = 11 ∨ k = 12 ∨ k = 13 ∨ k = 14 ∨ k = 15 ∨ k = 16 ∨ k = 17 ∨ k = 18 ∨ k = 19 ∨ k = 20 ∨ k = 21 ∨ k = 22 ∨ k = 23 ∨ k = 24 ∨ k = 25 ∨ k = 26 ∨ k = 27 ∨ k = 28 ∨ k = 29 ∨ k = 30 ∨ k = 31 ∨ k = 32 ∨ k = 33 ∨ k = 34 ∨ k = 35 ∨ 35 < k := by omega
  rcases h with h1 | rfl | rfl | rfl | rfl | rfl | rfl | rfl | rfl | rfl | rfl | rfl | rfl | rfl | rfl | rfl | rfl | rfl | rfl | rfl | rfl | rfl | rfl | rfl | rfl | rfl | rfl | rfl | rfl | rfl | rfl | rfl | rfl | rfl | rfl | rfl | h1
  · rw [show Op.operands k = -1 by unfold Op.operands; rw [if_neg (by omega), if_neg (by omega), if_neg (by omega)]]; exact operands_low k w h1
  · exact operands_1 w
  · exact operands_2 w
  · exact operands_3 w
  · exact operands_4 w
  · exact operands_5 w
  · exact operands_6 w
  · exact operands_7 w
  · exact operands_8 w
  · exact operands_9 w
  · exact operands_10 w
  · exact operands_11 w
  · exact operands_12 w
  · exact operands_13 w
  · exact operands_14 w
  · exact operands_15 w
  · exact operands_16 w
  · exact operands_17 w
  · exact operands_18 w
  · exact operands_19 w
  · exact operands_20 w
  · exact operands_21 w
  · exact operands_22 w
  · exact operands_23 w
  · exact operands_24 w
  · exact operands_25 w
  · exact operands_26 w
  · exact operands_27 w
  · exact operands_28 w
  · exact operands_29 w
  · exact operands_30 w
  · exact operands_31 w
  · exact operands_32 w
  · exact operands_33 w
  · exact operands_34 w
  · exact operands_35 w
  · rw [show Op.operands k = -1 by unfold Op.operands; rw [if_neg (by omega), if_neg (by omega), if_neg (by omega)]]; exact operands_high k w h1

set_option maxHeartbeats 400000 in
theorem within_any (n lo hi : Int) (w : World) :
    Calls Tryd.prog 20 #[.int .i64 n, .int .i64 lo, .int .i64 hi] w fun e w' => e = .returned (.bool (Op.win n lo hi)) ∧ w = w' := by
  by_cases h1 : lo ≤ n
  · by_cases h2 : n ≤ hi
    · go_enter Tryd.func20, Tryd.ntmps20
      go_wp2_with fail
      go_ret
      exact ⟨Aid.ret_bool (by simp [Op.win, h1, h2]), rfl⟩
    · have h3 : decide (n ≤ hi) = false := by simpa using h2
      go_enter Tryd.func20, Tryd.ntmps20
      go_wp2_with fail
      go_ret
      exact ⟨Aid.ret_bool (by simp [Op.win, h1, h2]), rfl⟩
  · have h3 : decide (lo ≤ n) = false := by simpa using h1
    go_enter Tryd.func20, Tryd.ntmps20
    go_wp2_with fail
    go_ret
    exact ⟨Aid.ret_bool (by simp [Op.win]; omega), rfl⟩
theorem within_is (n lo hi : Int) (r : Bool) (hr : Op.win n lo hi = r) (w : World) :
    Calls Tryd.prog 20 #[.int .i64 n, .int .i64 lo, .int .i64 hi] w fun e w' => e = .returned (.bool r) ∧ w = w' := by
  rw [← hr]; exact within_any n lo hi w

end Go.Proofs.YtcgfabnmkbiogaaDoor
