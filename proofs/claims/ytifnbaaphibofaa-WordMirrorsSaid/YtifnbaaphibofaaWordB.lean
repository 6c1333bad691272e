/- The contracts of package word: Do, operators 1 to 5, as walks. -/
import Derived.Test.YtifnbaaphibofaaProg
import Derived.Test.YtifnbaaphibofaaWordSpec
import Derived.Test.YtifnbaaphibofaaWordA
import Derived.Test.YtifnbaaphibofaaAid
import Derived.WalkKit
import Derived.WalkSpells
import Derived.WalkLawsBesides
namespace Go.Proofs.Ytifnbaaphibofaa
open Go.RowKit

set_option maxHeartbeats 800000 in
theorem do_1 (a b : Int) (w : World) :
    Calls Try.prog 9 #[.int .i64 1, .int .i64 a, .int .i64 b] w fun e w' => e = .returned (.tuple #[.int .i64 (Wd.fit (a + b)), .bool true]) ∧ w = w' := by
  go_enter Try.func9, Try.ntmps9
  repeat' (first | with_reducible refine Aid.then_exit ?_ | with_reducible refine Aid.block_hit ?_ | with_reducible refine Aid.block_miss rfl ?_ | with_reducible refine Aid.then_ret ?_ | with_reducible refine Aid.block_ret ?_ | with_reducible refine Aid.then_normal ?_ | with_reducible refine Aid.block_normal ?_ | (go_big_may; first | (go_at_call 11; refine (fit_any _ _).mono ?_; rintro e w' ⟨rfl, rfl⟩; dsimp only) | (go_at_call 18; refine (one_any _ _).mono ?_; rintro e w' ⟨rfl, rfl⟩; dsimp only)) | go_values | go_skip | go_guarded | go_step | go_upon | go_back | (go_values <;> (try go_simp)) | (go_ite <;> go_prune <;> (try go_simp)) | (split <;> (first | (rename_i hx; exact (hx _ rfl).elim) | go_prune)))
  all_goals (go_ret2; exact ⟨by simp [Wd.fit_wrap64], rfl⟩)

set_option maxHeartbeats 800000 in
theorem do_2 (a b : Int) (w : World) :
    Calls Try.prog 9 #[.int .i64 2, .int .i64 a, .int .i64 b] w fun e w' => e = .returned (.tuple #[.int .i64 (Wd.fit (a - b)), .bool true]) ∧ w = w' := by
  go_enter Try.func9, Try.ntmps9
  repeat' (first | with_reducible refine Aid.then_exit ?_ | with_reducible refine Aid.block_hit ?_ | with_reducible refine Aid.block_miss rfl ?_ | with_reducible refine Aid.then_ret ?_ | with_reducible refine Aid.block_ret ?_ | with_reducible refine Aid.then_normal ?_ | with_reducible refine Aid.block_normal ?_ | (go_big_may; first | (go_at_call 11; refine (fit_any _ _).mono ?_; rintro e w' ⟨rfl, rfl⟩; dsimp only) | (go_at_call 18; refine (one_any _ _).mono ?_; rintro e w' ⟨rfl, rfl⟩; dsimp only)) | go_values | go_skip | go_guarded | go_step | go_upon | go_back | (go_values <;> (try go_simp)) | (go_ite <;> go_prune <;> (try go_simp)) | (split <;> (first | (rename_i hx; exact (hx _ rfl).elim) | go_prune)))
  all_goals (go_ret2; exact ⟨by simp [Wd.fit_wrap64, Wd.fit_sub], rfl⟩)

set_option maxHeartbeats 800000 in
theorem do_3 (a b : Int) (w : World) :
    Calls Try.prog 9 #[.int .i64 3, .int .i64 a, .int .i64 b] w fun e w' => e = .returned (.tuple #[.int .i64 (Wd.fit (a * b)), .bool true]) ∧ w = w' := by
  go_enter Try.func9, Try.ntmps9
  repeat' (first | with_reducible refine Aid.then_exit ?_ | with_reducible refine Aid.block_hit ?_ | with_reducible refine Aid.block_miss rfl ?_ | with_reducible refine Aid.then_ret ?_ | with_reducible refine Aid.block_ret ?_ | with_reducible refine Aid.then_normal ?_ | with_reducible refine Aid.block_normal ?_ | (go_big_may; first | (go_at_call 11; refine (fit_any _ _).mono ?_; rintro e w' ⟨rfl, rfl⟩; dsimp only) | (go_at_call 18; refine (one_any _ _).mono ?_; rintro e w' ⟨rfl, rfl⟩; dsimp only)) | go_values | go_skip | go_guarded | go_step | go_upon | go_back | (go_values <;> (try go_simp)) | (go_ite <;> go_prune <;> (try go_simp)) | (split <;> (first | (rename_i hx; exact (hx _ rfl).elim) | go_prune)))
  all_goals (go_ret2; exact ⟨by simp [Wd.fit_wrap64], rfl⟩)

set_option maxHeartbeats 800000 in
theorem do_4n (a b : Int) (w : World) (hb : ¬ b = 0) :
    Calls Try.prog 9 #[.int .i64 4, .int .i64 a, .int .i64 b] w fun e w' => e = .returned (.tuple #[.int .i64 (Wd.fit (a.tdiv b)), .bool true]) ∧ w = w' := by
  go_enter Try.func9, Try.ntmps9
  repeat' (first | with_reducible refine Aid.then_exit ?_ | with_reducible refine Aid.block_hit ?_ | with_reducible refine Aid.block_miss rfl ?_ | with_reducible refine Aid.then_ret ?_ | with_reducible refine Aid.block_ret ?_ | with_reducible refine Aid.then_normal ?_ | with_reducible refine Aid.block_normal ?_ | (go_big_may; first | (go_at_call 11; refine (fit_any _ _).mono ?_; rintro e w' ⟨rfl, rfl⟩; dsimp only) | (go_at_call 18; refine (one_any _ _).mono ?_; rintro e w' ⟨rfl, rfl⟩; dsimp only)) | go_values | go_skip | go_guarded | go_step | go_upon | go_back | (go_values <;> (try go_simp)) | (go_ite <;> go_prune <;> (try go_simp)) | (split <;> (first | (rename_i hx; exact (hx _ rfl).elim) | go_prune)))
  all_goals (go_ret2; exact ⟨by simp [Wd.fit_wrap64], rfl⟩)

set_option maxHeartbeats 800000 in
theorem do_4z (a : Int) (w : World) :
    Calls Try.prog 9 #[.int .i64 4, .int .i64 a, .int .i64 0] w fun e w' => e = .returned (.tuple #[.int .i64 0, .bool false]) ∧ w = w' := by
  go_enter Try.func9, Try.ntmps9
  repeat' (first | with_reducible refine Aid.then_exit ?_ | with_reducible refine Aid.block_hit ?_ | with_reducible refine Aid.block_miss rfl ?_ | with_reducible refine Aid.then_ret ?_ | with_reducible refine Aid.block_ret ?_ | with_reducible refine Aid.then_normal ?_ | with_reducible refine Aid.block_normal ?_ | go_values | go_skip | go_guarded | go_step | go_upon | go_back | (go_values <;> (try go_simp)) | (go_ite <;> go_prune <;> (try go_simp)) | (split <;> (first | (rename_i hx; exact (hx _ rfl).elim) | go_prune)))
  all_goals (go_ret2; exact ⟨rfl, rfl⟩)

set_option maxHeartbeats 800000 in
theorem do_5n (a b : Int) (w : World) (hb : ¬ b = 0) :
    Calls Try.prog 9 #[.int .i64 5, .int .i64 a, .int .i64 b] w fun e w' => e = .returned (.tuple #[.int .i64 (Wd.fit (a.tmod b)), .bool true]) ∧ w = w' := by
  go_enter Try.func9, Try.ntmps9
  repeat' (first | with_reducible refine Aid.then_exit ?_ | with_reducible refine Aid.block_hit ?_ | with_reducible refine Aid.block_miss rfl ?_ | with_reducible refine Aid.then_ret ?_ | with_reducible refine Aid.block_ret ?_ | with_reducible refine Aid.then_normal ?_ | with_reducible refine Aid.block_normal ?_ | (go_big_may; first | (go_at_call 11; refine (fit_any _ _).mono ?_; rintro e w' ⟨rfl, rfl⟩; dsimp only) | (go_at_call 18; refine (one_any _ _).mono ?_; rintro e w' ⟨rfl, rfl⟩; dsimp only)) | go_values | go_skip | go_guarded | go_step | go_upon | go_back | (go_values <;> (try go_simp)) | (go_ite <;> go_prune <;> (try go_simp)) | (split <;> (first | (rename_i hx; exact (hx _ rfl).elim) | go_prune)))
  all_goals (go_ret2; exact ⟨rfl, rfl⟩)

set_option maxHeartbeats 800000 in
theorem do_5z (a : Int) (w : World) :
    Calls Try.prog 9 #[.int .i64 5, .int .i64 a, .int .i64 0] w fun e w' => e = .returned (.tuple #[.int .i64 0, .bool false]) ∧ w = w' := by
  go_enter Try.func9, Try.ntmps9
  repeat' (first | with_reducible refine Aid.then_exit ?_ | with_reducible refine Aid.block_hit ?_ | with_reducible refine Aid.block_miss rfl ?_ | with_reducible refine Aid.then_ret ?_ | with_reducible refine Aid.block_ret ?_ | with_reducible refine Aid.then_normal ?_ | with_reducible refine Aid.block_normal ?_ | go_values | go_skip | go_guarded | go_step | go_upon | go_back | (go_values <;> (try go_simp)) | (go_ite <;> go_prune <;> (try go_simp)) | (split <;> (first | (rename_i hx; exact (hx _ rfl).elim) | go_prune)))
  all_goals (go_ret2; exact ⟨rfl, rfl⟩)

end Go.Proofs.Ytifnbaaphibofaa
