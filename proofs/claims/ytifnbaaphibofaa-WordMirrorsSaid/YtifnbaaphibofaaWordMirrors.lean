/- The laws over package word, walked: each callee by its contract. -/
import Derived.Test.YtifnbaaphibofaaWordIs
namespace Go.Proofs.Ytifnbaaphibofaa
open Go.RowKit

theorem mirror_neg (a b : Int) : Wd.fit (-(Wd.fit (b - a))) = Wd.fit (a - b) := by unfold Wd.fit; omega
theorem mirror_m (a : Int) : Wd.fit (-(Wd.fit (-(Wd.fit a)))) = Wd.fit a := by unfold Wd.fit; omega
theorem mirror_same (a : Int) : Wd.fit (Wd.fit a) = Wd.fit a := by unfold Wd.fit; omega

set_option maxRecDepth 100000 in
set_option maxHeartbeats 1000000 in
theorem wordMirrors_any (a0 b0 : Int) (w : World) :
    Calls Try.prog 8 #[.int .i64 a0, .int .i64 b0] w fun e w' => e = .returned (.bool true) ∧ w = w' := by
  obtain ⟨a, ha⟩ : ∃ a, Wd.fit a0 = a := ⟨_, rfl⟩
  obtain ⟨b, hb⟩ : ∃ b, Wd.fit b0 = b := ⟨_, rfl⟩
  obtain ⟨y, hy⟩ : ∃ x, Wd.fit (b - a) = x := ⟨_, rfl⟩
  obtain ⟨x, hx⟩ : ∃ x, Wd.fit (a - b) = x := ⟨_, rfl⟩
  obtain ⟨m, hm⟩ : ∃ x, Wd.fit (-a) = x := ⟨_, rfl⟩
  obtain ⟨l, hl⟩ : ∃ x, Wd.one (decide (a < b)) = x := ⟨_, rfl⟩
  obtain ⟨le, hle⟩ : ∃ x, Wd.one (decide (a ≤ b)) = x := ⟨_, rfl⟩
  obtain ⟨n1, hn1⟩ : ∃ x, Wd.one (a == 0) = x := ⟨_, rfl⟩
  obtain ⟨n2, hn2⟩ : ∃ x, Wd.one (n1 == 0) = x := ⟨_, rfl⟩
  have hyx : Wd.fit (-y) = x := by rw [← hy, ← hx]; exact mirror_neg a b
  have hma : Wd.fit (a * -1) = m := by rw [← hm]; congr 1; omega
  have haa : Wd.fit a = a := by rw [← ha]; exact mirror_same a0
  have hmm : Wd.fit (-m) = a := by rw [← hm, ← ha]; exact mirror_m a0
  have hn3 : Wd.one (n2 == 0) = n1 := by rw [← hn2, ← hn1]; unfold Wd.one; grind
  have hd : Wd.fit (a.tdiv 1) = a := by rw [Int.tdiv_one]; exact haa
  have hr : Wd.fit (a.tmod 1) = 0 := by rw [Int.tmod_one]; decide
  have hmul : Wd.fit (a * 1) = a := by rw [Int.mul_one]; exact haa
  have hz : Wd.fit (a - a) = 0 := by rw [Int.sub_self]; decide
  have F_ha := Aid.hid ha; have F_hb := Aid.hid hb; have F_hy := Aid.hid hy; have F_hx := Aid.hid hx; have F_hm := Aid.hid hm; have F_hl := Aid.hid hl; have F_hle := Aid.hid hle; have F_hn1 := Aid.hid hn1; have F_hn2 := Aid.hid hn2; have F_hyx := Aid.hid hyx; have F_hma := Aid.hid hma; have F_hmm := Aid.hid hmm; have F_hn3 := Aid.hid hn3; have F_hd := Aid.hid hd; have F_hr := Aid.hid hr; have F_hmul := Aid.hid hmul; have F_hz := Aid.hid hz
  clear ha hb hy hx hm hl hle hn1 hn2 hyx hma hmm hn3 hd hr hmul hz haa
  go_enter Try.func8, Try.ntmps8
  try simp only [List.append_eq, List.cons_append, List.nil_append]
  go_wp2_with fail
  refine (fit_is _ a F_ha.out _).mono ?_; rintro e w' ⟨rfl, rfl⟩
  go_wp2_with fail
  refine (fit_is _ b F_hb.out _).mono ?_; rintro e w' ⟨rfl, rfl⟩
  go_wp2_with fail
  refine (do_2is _ _ x F_hx.out _).mono ?_; rintro e w' ⟨rfl, rfl⟩
  go_wp2_with fail
  refine (do_2is _ _ y F_hy.out _).mono ?_; rintro e w' ⟨rfl, rfl⟩
  go_wp2_with fail
  refine (do_3is _ _ m F_hma.out _).mono ?_; rintro e w' ⟨rfl, rfl⟩
  go_wp2_with fail
  refine (do_3is _ _ a F_hmul.out _).mono ?_; rintro e w' ⟨rfl, rfl⟩
  go_wp2_with fail
  refine (do_4nis _ _ a (by decide) F_hd.out _).mono ?_; rintro e w' ⟨rfl, rfl⟩
  go_wp2_with fail
  refine (do_5nis _ _ 0 (by decide) F_hr.out _).mono ?_; rintro e w' ⟨rfl, rfl⟩
  go_wp2_with fail
  refine (do_8is _ _ l F_hl.out _).mono ?_; rintro e w' ⟨rfl, rfl⟩
  go_wp2_with fail
  refine (do_10is _ _ l F_hl.out _).mono ?_; rintro e w' ⟨rfl, rfl⟩
  go_wp2_with fail
  refine (do_9is _ _ le F_hle.out _).mono ?_; rintro e w' ⟨rfl, rfl⟩
  go_wp2_with fail
  refine (do_11is _ _ le F_hle.out _).mono ?_; rintro e w' ⟨rfl, rfl⟩
  go_wp2_with fail
  refine (do_2is _ _ 0 F_hz.out _).mono ?_; rintro e w' ⟨rfl, rfl⟩
  go_wp2_with fail
  refine (neg_is _ x F_hyx.out _).mono ?_; rintro e w' ⟨rfl, rfl⟩
  go_wp2_with fail
  refine (neg_is _ m F_hm.out _).mono ?_; rintro e w' ⟨rfl, rfl⟩
  go_wp2_with fail
  refine (neg_is _ a F_hmm.out _).mono ?_; rintro e w' ⟨rfl, rfl⟩
  go_wp2_with fail
  refine (not_is _ n1 F_hn1.out _).mono ?_; rintro e w' ⟨rfl, rfl⟩
  go_wp2_with fail
  refine (not_is _ n2 F_hn2.out _).mono ?_; rintro e w' ⟨rfl, rfl⟩
  go_wp2_with fail
  refine (not_is _ n1 F_hn3.out _).mono ?_; rintro e w' ⟨rfl, rfl⟩
  go_wp2_with fail
  refine (not_is _ n1 F_hn1.out _).mono ?_; rintro e w' ⟨rfl, rfl⟩
  go_wp2_with fail
  refine (awake_any _).mono ?_; rintro e w' ⟨rfl, rfl⟩
  go_wp2_with fail
  go_ret
  exact ⟨rfl, rfl⟩

end Go.Proofs.Ytifnbaaphibofaa
