/- The laws over package word, walked: each callee by its contract. -/
import Derived.Test.YtifnbaaphibofaaWordIs
namespace Go.Proofs.Ytifnbaaphibofaa
open Go.RowKit

/-- A number is what another one is but for a multiple of 2^16. -/
theorem fit_eq {x y : Int} (h : ∃ k, x = y + k * 65536) : Wd.fit x = Wd.fit y := by
  obtain ⟨k, rfl⟩ := h; unfold Wd.fit; omega
theorem fit_ex (x : Int) : ∃ k, Wd.fit x = x + k * 65536 := ⟨-((x + 32768) / 65536), by unfold Wd.fit; omega⟩
theorem ring_p (a b c : Int) : Wd.fit (Wd.fit (a + b) + c) = Wd.fit (a + Wd.fit (b + c)) := by
  obtain ⟨k, hk⟩ := fit_ex (a + b); obtain ⟨m, hm⟩ := fit_ex (b + c)
  rw [hk, hm]; exact fit_eq ⟨k - m, by omega⟩
theorem ring_m (a b c : Int) : Wd.fit (Wd.fit (a * b) + Wd.fit (a * c)) = Wd.fit (a * Wd.fit (b + c)) := by
  obtain ⟨k, hk⟩ := fit_ex (a * b); obtain ⟨m, hm⟩ := fit_ex (a * c); obtain ⟨n, hn⟩ := fit_ex (b + c)
  rw [hk, hm, hn]
  refine fit_eq ⟨k + m - a * n, ?_⟩
  rw [Int.mul_add, Int.mul_add, ← Int.mul_assoc, Int.sub_mul, Int.add_mul]; omega
theorem ring_d (a b : Int) : Wd.fit (Wd.fit (Wd.fit a + b) - b) = Wd.fit a := by
  unfold Wd.fit; omega

set_option maxRecDepth 100000 in
set_option maxHeartbeats 1000000 in
theorem wordRing_any (a0 b0 c0 : Int) (w : World) :
    Calls Try.prog 5 #[.int .i64 a0, .int .i64 b0, .int .i64 c0] w fun e w' => e = .returned (.bool true) ∧ w = w' := by
  obtain ⟨a, ha⟩ : ∃ a, Wd.fit a0 = a := ⟨_, rfl⟩
  obtain ⟨b, hb⟩ : ∃ b, Wd.fit b0 = b := ⟨_, rfl⟩
  obtain ⟨c, hc⟩ : ∃ c, Wd.fit c0 = c := ⟨_, rfl⟩
  obtain ⟨ab, hab⟩ : ∃ x, Wd.fit (a + b) = x := ⟨_, rfl⟩
  obtain ⟨bc, hbc⟩ : ∃ x, Wd.fit (b + c) = x := ⟨_, rfl⟩
  obtain ⟨p, hp⟩ : ∃ x, Wd.fit (ab + c) = x := ⟨_, rfl⟩
  obtain ⟨m, hm⟩ : ∃ x, Wd.fit (a * bc) = x := ⟨_, rfl⟩
  obtain ⟨x, hx⟩ : ∃ x, Wd.fit (a * b) = x := ⟨_, rfl⟩
  obtain ⟨y, hy⟩ : ∃ x, Wd.fit (a * c) = x := ⟨_, rfl⟩
  have hba : Wd.fit (b + a) = ab := by rw [Int.add_comm]; exact hab
  have hq : Wd.fit (a + bc) = p := by rw [← hbc, ← ring_p, hab, hp]
  have hn : Wd.fit (x + y) = m := by rw [← hx, ← hy, ring_m, hbc, hm]
  have hd : Wd.fit (ab - b) = a := by rw [← hab, ← ha]; exact ring_d a0 b
  have F1 := Aid.hid ha; have F2 := Aid.hid hb; have F3 := Aid.hid hc; have F4 := Aid.hid hab; have F5 := Aid.hid hba
  have F6 := Aid.hid hp; have F7 := Aid.hid hbc; have F8 := Aid.hid hq; have F9 := Aid.hid hm; have F10 := Aid.hid hx; have F11 := Aid.hid hy
  have F12 := Aid.hid hn; have F13 := Aid.hid hd
  clear ha hb hc hab hba hp hbc hq hm hx hy hn hd
  go_enter Try.func5, Try.ntmps5
  try simp only [List.append_eq, List.cons_append, List.nil_append]
  go_wp2_with fail
  refine (fit_is _ a F1.out _).mono ?_; rintro e w' ⟨rfl, rfl⟩
  go_wp2_with fail
  refine (fit_is _ b F2.out _).mono ?_; rintro e w' ⟨rfl, rfl⟩
  go_wp2_with fail
  refine (fit_is _ c F3.out _).mono ?_; rintro e w' ⟨rfl, rfl⟩
  go_wp2_with fail
  refine (do_1is _ _ ab F4.out _).mono ?_; rintro e w' ⟨rfl, rfl⟩
  go_wp2_with fail
  refine (do_1is _ _ ab F5.out _).mono ?_; rintro e w' ⟨rfl, rfl⟩
  go_wp2_with fail
  refine (do_1is _ _ p F6.out _).mono ?_; rintro e w' ⟨rfl, rfl⟩
  go_wp2_with fail
  refine (do_1is _ _ bc F7.out _).mono ?_; rintro e w' ⟨rfl, rfl⟩
  go_wp2_with fail
  refine (do_1is _ _ p F8.out _).mono ?_; rintro e w' ⟨rfl, rfl⟩
  go_wp2_with fail
  refine (do_3is _ _ m F9.out _).mono ?_; rintro e w' ⟨rfl, rfl⟩
  go_wp2_with fail
  refine (do_3is _ _ x F10.out _).mono ?_; rintro e w' ⟨rfl, rfl⟩
  go_wp2_with fail
  refine (do_3is _ _ y F11.out _).mono ?_; rintro e w' ⟨rfl, rfl⟩
  go_wp2_with fail
  refine (do_1is _ _ m F12.out _).mono ?_; rintro e w' ⟨rfl, rfl⟩
  go_wp2_with fail
  refine (do_2is _ _ a F13.out _).mono ?_; rintro e w' ⟨rfl, rfl⟩
  go_wp2_with fail
  refine (awake_any _).mono ?_; rintro e w' ⟨rfl, rfl⟩
  go_wp2_with fail
  go_ret
  exact ⟨rfl, rfl⟩

end Go.Proofs.Ytifnbaaphibofaa
