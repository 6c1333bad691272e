/- The law WordParts, walked. -/
import Derived.Test.YtifnbaaphibofaaWordIs
namespace Go.Proofs.Ytifnbaaphibofaa
open Go.RowKit

set_option maxHeartbeats 1000000 in
theorem wordParts_zero (a0 b0 : Int) (w : World) (h : Wd.fit b0 = 0) :
    Calls Try.prog 6 #[.int .i64 a0, .int .i64 b0] w fun e w' => e = .returned (.bool true) ∧ w = w' := by
  have F2 := Aid.hid h; clear h
  go_enter Try.func6, Try.ntmps6
  go_wp2_with fail
  refine (fit_any _ _).mono ?_; rintro e w' ⟨rfl, rfl⟩
  go_wp2_with fail
  refine (fit_is _ 0 F2.out _).mono ?_; rintro e w' ⟨rfl, rfl⟩
  go_wp2_with fail
  refine (do_4z _ _).mono ?_; rintro e w' ⟨rfl, rfl⟩
  go_wp2_with fail
  refine (do_5z _ _).mono ?_; rintro e w' ⟨rfl, rfl⟩
  go_wp2_with fail
  refine (awake_any _).mono ?_; rintro e w' ⟨rfl, rfl⟩
  go_wp2_with fail
  go_ret
  exact ⟨rfl, rfl⟩

set_option maxHeartbeats 4000000 in
theorem wordParts_rest (a0 b0 a b q r : Int) (w : World) (h1 : Wd.fit a0 = a) (h2 : Wd.fit b0 = b) (h3 : Wd.fit (a.tdiv b) = q) (h4 : Wd.fit (a.tmod b) = r)
    (h5 : Wd.fit (wrap64 (wrap64 (q * b) + r)) = a)
    (hc : (r = 0 ∧ 0 < b ∧ b ≤ 32767) ∨ (r = 0 ∧ b < 0 ∧ -32768 ≤ b) ∨
      (¬ r = 0 ∧ decide (r < 0) = false ∧ decide (a < 0) = false ∧ 0 < r ∧ r < b ∧ 0 < b ∧ b ≤ 32767) ∨ (¬ r = 0 ∧ decide (r < 0) = false ∧ decide (a < 0) = false ∧ 0 < r ∧ r < -b ∧ b < 0 ∧ -32768 ≤ b) ∨
      (¬ r = 0 ∧ decide (r < 0) = true ∧ decide (a < 0) = true ∧ r < 0 ∧ -r < b ∧ 0 < b ∧ b ≤ 32767) ∨ (¬ r = 0 ∧ decide (r < 0) = true ∧ decide (a < 0) = true ∧ r < 0 ∧ b < r ∧ b < 0 ∧ -32768 ≤ b)) :
    Calls Try.prog 6 #[.int .i64 a0, .int .i64 b0] w fun e w' => e = .returned (.bool true) ∧ w = w' := by
  have F1 := Aid.hid h1; have F2 := Aid.hid h2; have F3 := Aid.hid h3; have F4 := Aid.hid h4; have F5 := Aid.hid h5; clear h1 h2 h3 h4 h5
  rcases hc with ⟨rfl, hb, hb'⟩ | ⟨rfl, hb, hb'⟩ | ⟨hr, k1, k2, hr', hl, hb, hb'⟩ | ⟨hr, k1, k2, hr', hl, hb, hb'⟩ | ⟨hr, k1, k2, hr', hl, hb, hb'⟩ | ⟨hr, k1, k2, hr', hl, hb, hb'⟩
  all_goals
    go_enter Try.func6, Try.ntmps6
    go_wp2_with fail
    refine (fit_is _ a F1.out _).mono ?_; rintro e w' ⟨rfl, rfl⟩
    go_wp2_with fail
    refine (fit_is _ b F2.out _).mono ?_; rintro e w' ⟨rfl, rfl⟩
    go_wp2_with fail
    refine (do_4nis _ _ q (by omega) F3.out _).mono ?_; rintro e w' ⟨rfl, rfl⟩
    go_wp2_with fail
    refine (do_5nis _ _ _ (by omega) F4.out _).mono ?_; rintro e w' ⟨rfl, rfl⟩
    go_wp2_with fail
    refine (fit_is _ a (by simpa using F5.out) _).mono ?_; rintro e w' ⟨rfl, rfl⟩
    go_wp2_with fail
    refine (awake_any _).mono ?_; rintro e w' ⟨rfl, rfl⟩
    go_wp2_with fail
    go_ret
    exact ⟨rfl, rfl⟩

theorem tmod_facts (a b : Int) (hb : b ≠ 0) : a = b * (a.tdiv b) + a.tmod b ∧ ((0 ≤ a → 0 ≤ a.tmod b) ∧ (a ≤ 0 → a.tmod b ≤ 0)) ∧ (a.tmod b).natAbs < b.natAbs := by
  refine ⟨(Int.mul_tdiv_add_tmod a b).symm, ⟨fun h => Int.tmod_nonneg _ h, fun h => ?_⟩, ?_⟩
  · have := Int.tmod_nonneg b (a := -a) (by omega)
    rw [Int.neg_tmod] at this; omega
  · rw [Int.natAbs_tmod]; exact Nat.mod_lt _ (by omega)
theorem fit_back (t b r a : Int) (e : a = b * t + r) (h1 : -32768 ≤ a) (h2 : a ≤ 32767) : Wd.fit (wrap64 (wrap64 (Wd.fit t * b) + r)) = a := by
  obtain ⟨k, hk⟩ : ∃ k, Wd.fit t = t + k * 65536 := ⟨-((t + 32768) / 65536), by unfold Wd.fit; omega⟩
  have e2 : Wd.fit t * b = b * t + (k * b) * 65536 := by rw [hk, Int.add_mul, Int.mul_comm t b]; congr 1; rw [Int.mul_assoc, Int.mul_comm 65536, ← Int.mul_assoc]
  rw [e2]; generalize b * t = x at *; generalize k * b = y at *
  unfold Wd.fit wrap64; omega
theorem wordParts_any (a0 b0 : Int) (w : World) :
    Calls Try.prog 6 #[.int .i64 a0, .int .i64 b0] w fun e w' => e = .returned (.bool true) ∧ w = w' := by
  by_cases hb : Wd.fit b0 = 0
  · exact wordParts_zero a0 b0 w hb
  obtain ⟨a, ha⟩ : ∃ a, Wd.fit a0 = a := ⟨_, rfl⟩
  obtain ⟨b, hb'⟩ : ∃ b, Wd.fit b0 = b := ⟨_, rfl⟩
  have a1 := Wd.fit_in a0; have b1 := Wd.fit_in b0
  rw [ha] at a1; rw [hb'] at b1 hb
  obtain ⟨e, ⟨p1, p2⟩, p3⟩ := tmod_facts a b hb
  obtain ⟨r, hr⟩ : ∃ r, a.tmod b = r := ⟨_, rfl⟩
  obtain ⟨t, ht⟩ : ∃ t, a.tdiv b = t := ⟨_, rfl⟩
  rw [hr] at e p1 p2 p3; rw [ht] at e
  refine wordParts_rest a0 b0 a b _ r w ha hb' rfl ?_ ?_ ?_
  · rw [hr]; unfold Wd.fit; omega
  · rw [ht]; exact fit_back t b r a e a1.1 a1.2
  · by_cases hz : r = 0
    · omega
    · have : decide (r < 0) = decide (a < 0) := by rw [decide_eq_decide]; omega
      by_cases hs : r < 0 <;> by_cases hs' : 0 < b <;> simp [hz, hs] at this ⊢ <;> omega
end Go.Proofs.Ytifnbaaphibofaa
