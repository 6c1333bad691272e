/- The contracts of package governorref2: Do, operators 1 to 7, as walks. -/
import Derived.Test.YtifnbaaphibofaaProg
import Derived.Test.YtifnbaaphibofaaWordSpec
import Derived.Test.YtifnbaaphibofaaWordRA
import Derived.Test.YtifnbaaphibofaaAid
import Derived.WalkKit
import Derived.WalkSpells
import Derived.WalkLawsBesides
namespace Go.Proofs.Ytifnbaaphibofaa
open Go.RowKit

set_option maxHeartbeats 800000 in
theorem rdo_1 (a b : Int) (w : World) :
    Calls Try.prog 10 #[.int .i64 1, .int .i64 a, .int .i64 b] w fun e w' => e = .returned (.tuple #[.int .i64 (Wd.fit (a + b)), .bool true]) ∧ w = w' := by
  go_enter Try.func10, Try.ntmps10
  repeat' (first | with_reducible refine Aid.then_exit ?_ | with_reducible refine Aid.block_hit ?_ | with_reducible refine Aid.block_miss rfl ?_ | with_reducible refine Aid.then_ret ?_ | with_reducible refine Aid.block_ret ?_ | with_reducible refine Aid.then_normal ?_ | with_reducible refine Aid.block_normal ?_ | (go_big_may; first | (go_at_call 12; refine (rfit_any _ _).mono ?_; rintro e w' ⟨rfl, rfl⟩; dsimp only) | (go_at_call 19; refine (rone_any _ _).mono ?_; rintro e w' ⟨rfl, rfl⟩; dsimp only)) | go_values | go_skip | go_guarded | go_step | go_upon | go_back | (go_values <;> (try go_simp)) | (go_ite <;> go_prune <;> (try go_simp)) | (split <;> (first | (rename_i hx; exact (hx _ rfl).elim) | go_prune)))
  all_goals (go_ret2; exact ⟨by simp [Wd.fit_wrap64], rfl⟩)

set_option maxHeartbeats 800000 in
theorem rdo_2 (a b : Int) (w : World) :
    Calls Try.prog 10 #[.int .i64 2, .int .i64 a, .int .i64 b] w fun e w' => e = .returned (.tuple #[.int .i64 (Wd.fit (a - b)), .bool true]) ∧ w = w' := by
  go_enter Try.func10, Try.ntmps10
  repeat' (first | with_reducible refine Aid.then_exit ?_ | with_reducible refine Aid.block_hit ?_ | with_reducible refine Aid.block_miss rfl ?_ | with_reducible refine Aid.then_ret ?_ | with_reducible refine Aid.block_ret ?_ | with_reducible refine Aid.then_normal ?_ | with_reducible refine Aid.block_normal ?_ | (go_big_may; first | (go_at_call 12; refine (rfit_any _ _).mono ?_; rintro e w' ⟨rfl, rfl⟩; dsimp only) | (go_at_call 19; refine (rone_any _ _).mono ?_; rintro e w' ⟨rfl, rfl⟩; dsimp only)) | go_values | go_skip | go_guarded | go_step | go_upon | go_back | (go_values <;> (try go_simp)) | (go_ite <;> go_prune <;> (try go_simp)) | (split <;> (first | (rename_i hx; exact (hx _ rfl).elim) | go_prune)))
  all_goals (go_ret2; exact ⟨by simp [Wd.fit_wrap64], rfl⟩)

set_option maxHeartbeats 800000 in
theorem rdo_3 (a b : Int) (w : World) :
    Calls Try.prog 10 #[.int .i64 3, .int .i64 a, .int .i64 b] w fun e w' => e = .returned (.tuple #[.int .i64 (Wd.fit (a * b)), .bool true]) ∧ w = w' := by
  go_enter Try.func10, Try.ntmps10
  repeat' (first | with_reducible refine Aid.then_exit ?_ | with_reducible refine Aid.block_hit ?_ | with_reducible refine Aid.block_miss rfl ?_ | with_reducible refine Aid.then_ret ?_ | with_reducible refine Aid.block_ret ?_ | with_reducible refine Aid.then_normal ?_ | with_reducible refine Aid.block_normal ?_ | (go_big_may; first | (go_at_call 12; refine (rfit_any _ _).mono ?_; rintro e w' ⟨rfl, rfl⟩; dsimp only) | (go_at_call 19; refine (rone_any _ _).mono ?_; rintro e w' ⟨rfl, rfl⟩; dsimp only)) | go_values | go_skip | go_guarded | go_step | go_upon | go_back | (go_values <;> (try go_simp)) | (go_ite <;> go_prune <;> (try go_simp)) | (split <;> (first | (rename_i hx; exact (hx _ rfl).elim) | go_prune)))
  all_goals (go_ret2; exact ⟨by simp [Wd.fit_wrap64], rfl⟩)

set_option maxHeartbeats 800000 in
theorem rdo_4n (a b : Int) (w : World) (hb : ¬ b = 0) :
    Calls Try.prog 10 #[.int .i64 4, .int .i64 a, .int .i64 b] w fun e w' => e = .returned (.tuple #[.int .i64 (Wd.fit (a.tdiv b)), .bool true]) ∧ w = w' := by
  go_enter Try.func10, Try.ntmps10
  repeat' (first | with_reducible refine Aid.then_exit ?_ | with_reducible refine Aid.block_hit ?_ | with_reducible refine Aid.block_miss rfl ?_ | with_reducible refine Aid.then_ret ?_ | with_reducible refine Aid.block_ret ?_ | with_reducible refine Aid.then_normal ?_ | with_reducible refine Aid.block_normal ?_ | (go_big_may; first | (go_at_call 12; refine (rfit_any _ _).mono ?_; rintro e w' ⟨rfl, rfl⟩; dsimp only) | (go_at_call 19; refine (rone_any _ _).mono ?_; rintro e w' ⟨rfl, rfl⟩; dsimp only)) | go_values | go_skip | go_guarded | go_step | go_upon | go_back | (go_values <;> (try go_simp)) | (go_ite <;> go_prune <;> (try go_simp)) | (split <;> (first | (rename_i hx; exact (hx _ rfl).elim) | go_prune)))
  all_goals (go_ret2; exact ⟨by simp [Wd.fit_wrap64], rfl⟩)

set_option maxHeartbeats 800000 in
theorem rdo_4z (a : Int) (w : World) :
    Calls Try.prog 10 #[.int .i64 4, .int .i64 a, .int .i64 0] w fun e w' => e = .returned (.tuple #[.int .i64 0, .bool false]) ∧ w = w' := by
  go_enter Try.func10, Try.ntmps10
  repeat' (first | with_reducible refine Aid.then_exit ?_ | with_reducible refine Aid.block_hit ?_ | with_reducible refine Aid.block_miss rfl ?_ | with_reducible refine Aid.then_ret ?_ | with_reducible refine Aid.block_ret ?_ | with_reducible refine Aid.then_normal ?_ | with_reducible refine Aid.block_normal ?_ | go_values | go_skip | go_guarded | go_step | go_upon | go_back | (go_values <;> (try go_simp)) | (go_ite <;> go_prune <;> (try go_simp)) | (split <;> (first | (rename_i hx; exact (hx _ rfl).elim) | go_prune)))
  all_goals (go_ret2; exact ⟨rfl, rfl⟩)

set_option maxHeartbeats 800000 in
theorem rdo_5n (a b : Int) (w : World) (hb : ¬ b = 0) :
    Calls Try.prog 10 #[.int .i64 5, .int .i64 a, .int .i64 b] w fun e w' => e = .returned (.tuple #[.int .i64 (Wd.fit (a.tmod b)), .bool true]) ∧ w = w' := by
  go_enter Try.func10, Try.ntmps10
  repeat' (first | with_reducible refine Aid.then_exit ?_ | with_reducible refine Aid.block_hit ?_ | with_reducible refine Aid.block_miss rfl ?_ | with_reducible refine Aid.then_ret ?_ | with_reducible refine Aid.block_ret ?_ | with_reducible refine Aid.then_normal ?_ | with_reducible refine Aid.block_normal ?_ | (go_big_may; first | (go_at_call 12; refine (rfit_any _ _).mono ?_; rintro e w' ⟨rfl, rfl⟩; dsimp only) | (go_at_call 19; refine (rone_any _ _).mono ?_; rintro e w' ⟨rfl, rfl⟩; dsimp only)) | go_values | go_skip | go_guarded | go_step | go_upon | go_back | (go_values <;> (try go_simp)) | (go_ite <;> go_prune <;> (try go_simp)) | (split <;> (first | (rename_i hx; exact (hx _ rfl).elim) | go_prune)))
  all_goals (go_ret2; exact ⟨rfl, rfl⟩)

set_option maxHeartbeats 800000 in
theorem rdo_5z (a : Int) (w : World) :
    Calls Try.prog 10 #[.int .i64 5, .int .i64 a, .int .i64 0] w fun e w' => e = .returned (.tuple #[.int .i64 0, .bool false]) ∧ w = w' := by
  go_enter Try.func10, Try.ntmps10
  repeat' (first | with_reducible refine Aid.then_exit ?_ | with_reducible refine Aid.block_hit ?_ | with_reducible refine Aid.block_miss rfl ?_ | with_reducible refine Aid.then_ret ?_ | with_reducible refine Aid.block_ret ?_ | with_reducible refine Aid.then_normal ?_ | with_reducible refine Aid.block_normal ?_ | go_values | go_skip | go_guarded | go_step | go_upon | go_back | (go_values <;> (try go_simp)) | (go_ite <;> go_prune <;> (try go_simp)) | (split <;> (first | (rename_i hx; exact (hx _ rfl).elim) | go_prune)))
  all_goals (go_ret2; exact ⟨rfl, rfl⟩)

set_option maxHeartbeats 800000 in
theorem rdo_6 (a b : Int) (w : World) :
    Calls Try.prog 10 #[.int .i64 6, .int .i64 a, .int .i64 b] w fun e w' => e = .returned (.tuple #[.int .i64 (Wd.one (a == b)), .bool true]) ∧ w = w' := by
  go_enter Try.func10, Try.ntmps10
  repeat' (first | with_reducible refine Aid.then_exit ?_ | with_reducible refine Aid.block_hit ?_ | with_reducible refine Aid.block_miss rfl ?_ | with_reducible refine Aid.then_ret ?_ | with_reducible refine Aid.block_ret ?_ | with_reducible refine Aid.then_normal ?_ | with_reducible refine Aid.block_normal ?_ | (go_big_may; first | (go_at_call 12; refine (rfit_any _ _).mono ?_; rintro e w' ⟨rfl, rfl⟩; dsimp only) | (go_at_call 19; refine (rone_any _ _).mono ?_; rintro e w' ⟨rfl, rfl⟩; dsimp only)) | go_values | go_skip | go_guarded | go_step | go_upon | go_back | (go_values <;> (try go_simp)) | (go_ite <;> go_prune <;> (try go_simp)) | (split <;> (first | (rename_i hx; exact (hx _ rfl).elim) | go_prune)))
  all_goals (go_ret2; exact ⟨rfl, rfl⟩)

set_option maxHeartbeats 800000 in
theorem rdo_7 (a b : Int) (w : World) :
    Calls Try.prog 10 #[.int .i64 7, .int .i64 a, .int .i64 b] w fun e w' => e = .returned (.tuple #[.int .i64 (Wd.one (a != b)), .bool true]) ∧ w = w' := by
  go_enter Try.func10, Try.ntmps10
  repeat' (first | with_reducible refine Aid.then_exit ?_ | with_reducible refine Aid.block_hit ?_ | with_reducible refine Aid.block_miss rfl ?_ | with_reducible refine Aid.then_ret ?_ | with_reducible refine Aid.block_ret ?_ | with_reducible refine Aid.then_normal ?_ | with_reducible refine Aid.block_normal ?_ | (go_big_may; first | (go_at_call 12; refine (rfit_any _ _).mono ?_; rintro e w' ⟨rfl, rfl⟩; dsimp only) | (go_at_call 19; refine (rone_any _ _).mono ?_; rintro e w' ⟨rfl, rfl⟩; dsimp only)) | go_values | go_skip | go_guarded | go_step | go_upon | go_back | (go_values <;> (try go_simp)) | (go_ite <;> go_prune <;> (try go_simp)) | (split <;> (first | (rename_i hx; exact (hx _ rfl).elim) | go_prune)))
  all_goals (go_ret2; exact ⟨rfl, rfl⟩)

end Go.Proofs.Ytifnbaaphibofaa
