/- The laws over package word, walked: each callee by its contract. -/
import Derived.Test.YtifnbaaphibofaaWordIs
namespace Go.Proofs.Ytifnbaaphibofaa
open Go.RowKit

theorem fits_rest (n : Int) : (IntKind.u64.wrap (wrap64 (n - Wd.fit n))).tmod 65536 = 0 := by
  have h : IntKind.u64.wrap (wrap64 (n - Wd.fit n)) = (n - Wd.fit n) % 18446744073709551616 := by
    simp [IntKind.wrap, IntKind.bits, IntKind.signed]; unfold wrap64; omega
  rw [h, Int.tmod_eq_emod_of_nonneg (by omega)]
  unfold Wd.fit; omega
theorem fits_more (n k : Int) : Wd.fit (wrap64 (n + wrap64 (k * 65536))) = Wd.fit n := by
  unfold Wd.fit wrap64; omega
theorem fits_same (n : Int) : Wd.fit (Wd.fit n) = Wd.fit n := by unfold Wd.fit; omega
theorem fits_in (n : Int) (h1 : -32768 ≤ n) (h2 : n ≤ 32767) : Wd.fit n = n := by unfold Wd.fit; omega

set_option maxRecDepth 100000 in
set_option maxHeartbeats 1000000 in
theorem wordFits_out (n k f : Int) (w : World) (hf : Wd.fit n = f) (h : n < -32768 ∨ 32767 < n) :
    Calls Try.prog 4 #[.int .i64 n, .int .i64 k] w fun e w' => e = .returned (.bool true) ∧ w = w' := by
  have g1 : -32768 ≤ f := hf ▸ (Wd.fit_in n).1
  have g2 : f ≤ 32767 := hf ▸ (Wd.fit_in n).2
  have g3 : (IntKind.u64.wrap (wrap64 (n - f))).tmod 65536 = 0 := hf ▸ fits_rest n
  have F1 := Aid.hid hf
  have F2 : Hid (Wd.fit f = f) := Aid.hid (hf ▸ fits_same n)
  have F3 : Hid (Wd.fit (wrap64 (n + wrap64 (k * 65536))) = f) := Aid.hid (hf ▸ fits_more n k)
  clear hf
  rcases h with h | h
  all_goals
    go_enter Try.func4, Try.ntmps4
    try simp only [List.append_eq, List.cons_append, List.nil_append]
    go_wp2_with fail
    refine (fit_is _ f F1.out _).mono ?_; rintro e w' ⟨rfl, rfl⟩
    go_wp2_with fail
    refine (fit_is _ f F2.out _).mono ?_; rintro e w' ⟨rfl, rfl⟩
    go_wp2_with fail
    refine (fit_is _ f F3.out _).mono ?_; rintro e w' ⟨rfl, rfl⟩
    go_wp2_with fail
    refine (awake_any _).mono ?_; rintro e w' ⟨rfl, rfl⟩
    go_wp2_with fail
    go_ret
    exact ⟨rfl, rfl⟩

set_option maxRecDepth 100000 in
set_option maxHeartbeats 1000000 in
theorem wordFits_in (n k : Int) (w : World) (g1 : -32768 ≤ n) (g2 : n ≤ 32767) :
    Calls Try.prog 4 #[.int .i64 n, .int .i64 k] w fun e w' => e = .returned (.bool true) ∧ w = w' := by
  have F1 : Hid (Wd.fit n = n) := Aid.hid (fits_in n g1 g2)
  have F3 : Hid (Wd.fit (wrap64 (n + wrap64 (k * 65536))) = n) := Aid.hid ((fits_more n k).trans (fits_in n g1 g2))
  go_enter Try.func4, Try.ntmps4
  try simp only [List.append_eq, List.cons_append, List.nil_append]
  go_wp2_with fail
  refine (fit_is _ n F1.out _).mono ?_; rintro e w' ⟨rfl, rfl⟩
  go_wp2_with fail
  refine (fit_is _ n F1.out _).mono ?_; rintro e w' ⟨rfl, rfl⟩
  go_wp2_with fail
  refine (fit_is _ n F3.out _).mono ?_; rintro e w' ⟨rfl, rfl⟩
  go_wp2_with fail
  refine (awake_any _).mono ?_; rintro e w' ⟨rfl, rfl⟩
  go_wp2_with fail
  go_ret
  exact ⟨rfl, rfl⟩

theorem wordFits_any (n k : Int) (w : World) :
    Calls Try.prog 4 #[.int .i64 n, .int .i64 k] w fun e w' => e = .returned (.bool true) ∧ w = w' := by
  by_cases h : n < -32768 ∨ 32767 < n
  · exact wordFits_out n k _ w rfl h
  · exact wordFits_in n k w (by omega) (by omega)

end Go.Proofs.Ytifnbaaphibofaa
