/- The law DiagKinds. -/
import Derived.Test.YtblkcgbifecemaaDoorErrAwake
namespace Go.Proofs.YtblkcgbifecemaaDoor
open Go.RowKit Go.Extern.Stop Go.Stop Go.Extern

set_option maxRecDepth 100000 in
set_option maxHeartbeats 4000000 in
theorem diagKinds_same (a at_ : Int) (w : World) (hg : Door w) :
    Calls Tryd.prog 3 #[.int .i64 a, .int .i64 a, .int .i64 at_] w fun e w' => e = .returned (.bool true) ∧ Below w.heap.size w w' := by
  have HG := Aid.hid hg
  clear hg
  go_enter Tryd.func3, Tryd.ntmps3
  try simp only [List.append_eq, List.cons_append, List.nil_append]
  go_wp2_with fail
  refine (new_er a at_ _).mono ?_; rintro e w1 ⟨b1, rfl, _, hE1, hb1⟩
  have H1 := Aid.hid hE1
  have B1 := Aid.hid hb1
  clear hE1 hb1
  go_wp2_with fail
  refine (of_is (.own b1 a at_ .nil) a true (by simp [Er.has]) _ H1.out).mono ?_; rintro e w2 ⟨t2, rfl, hb2, HI2⟩
  go_wp2_with fail
  refine HI2.out.mono ?_; rintro e w3 ⟨rfl, hb3⟩
  have H3 := Aid.hid ((H1.out.below hb2).below hb3)
  have B3 := Aid.hid ((B1.out.trans (hb2.mono B1.out.size)).trans (hb3.mono (Nat.le_trans B1.out.size hb2.size)))
  clear hb2 hb3 HI2
  go_wp2_with fail
  refine (of_is (.own b1 a at_ .nil) a true (by simp [Er.has]) _ H3.out).mono ?_; rintro e w4 ⟨t4, rfl, hb4, HI4⟩
  go_wp2_with fail
  refine HI4.out.mono ?_; rintro e w5 ⟨rfl, hb5⟩
  have H5 := Aid.hid ((H3.out.below hb4).below hb5)
  have B5 := Aid.hid ((B3.out.trans (hb4.mono B3.out.size)).trans (hb5.mono (Nat.le_trans B3.out.size hb4.size)))
  clear hb4 hb5 HI4
  go_wp2_with fail
  refine (of_er a _).mono ?_; rintro e w6 ⟨b6, rfl, _, hE6, hb6⟩
  have H6 := Aid.hid hE6
  have B6 := Aid.hid (B5.out.trans (hb6.mono B5.out.size))
  clear hE6 hb6
  go_wp2_with fail
  refine (of_is (.own b6 a (-1) .nil) a true (by simp [Er.has]) _ H6.out).mono ?_; rintro e w7 ⟨t7, rfl, hb7, HI7⟩
  go_wp2_with fail
  refine HI7.out.mono ?_; rintro e w8 ⟨rfl, hb8⟩
  have B8 := Aid.hid ((B6.out.trans (hb7.mono B6.out.size)).trans (hb8.mono (Nat.le_trans B6.out.size hb7.size)))
  clear hb7 hb8 HI7
  go_wp2_with fail
  refine (new_er a _ _).mono ?_; rintro e w9 ⟨b9, rfl, _, hE9, hb9⟩
  have H9 := Aid.hid hE9
  have B9 := Aid.hid (B8.out.trans (hb9.mono B8.out.size))
  clear hE9 hb9
  go_wp2_with fail
  refine (of_is _ a true (by simp [Er.has]) _ H9.out).mono ?_; rintro e wa ⟨ta, rfl, hba, HIa⟩
  go_wp2_with fail
  refine HIa.out.mono ?_; rintro e wb ⟨rfl, hbb⟩
  have Bb := Aid.hid ((B9.out.trans (hba.mono B9.out.size)).trans (hbb.mono (Nat.le_trans B9.out.size hba.size)))
  clear hba hbb HIa
  go_wp2_with fail
  refine (awake_any _ (HG.out.below Bb.out)).mono ?_; rintro e wc ⟨rfl, hbc⟩
  go_wp2_with fail
  go_ret
  exact ⟨rfl, Bb.out.trans (hbc.mono Bb.out.size)⟩

set_option maxRecDepth 100000 in
set_option maxHeartbeats 4000000 in
theorem diagKinds_other (a b at_ : Int) (w : World) (hg : Door w) (hab : ¬ a = b) :
    Calls Tryd.prog 3 #[.int .i64 a, .int .i64 b, .int .i64 at_] w fun e w' => e = .returned (.bool true) ∧ Below w.heap.size w w' := by
  have HG := Aid.hid hg
  have HAB := Aid.hid hab
  have hf : (a == b) = false := by simpa using hab
  clear hg
  go_enter Tryd.func3, Tryd.ntmps3
  try simp only [List.append_eq, List.cons_append, List.nil_append]
  go_wp2_with fail
  refine (new_er a at_ _).mono ?_; rintro e w1 ⟨b1, rfl, _, hE1, hb1⟩
  have H1 := Aid.hid hE1
  have B1 := Aid.hid hb1
  clear hE1 hb1
  go_wp2_with fail
  refine (of_is (.own b1 a at_ .nil) a true (by simp [Er.has]) _ H1.out).mono ?_; rintro e w2 ⟨t2, rfl, hb2, HI2⟩
  go_wp2_with fail
  refine HI2.out.mono ?_; rintro e w3 ⟨rfl, hb3⟩
  have H3 := Aid.hid ((H1.out.below hb2).below hb3)
  have B3 := Aid.hid ((B1.out.trans (hb2.mono B1.out.size)).trans (hb3.mono (Nat.le_trans B1.out.size hb2.size)))
  clear hb2 hb3 HI2
  go_wp2_with fail
  refine (of_is (.own b1 a at_ .nil) b false (by simp [Er.has, HAB.out]) _ H3.out).mono ?_; rintro e w4 ⟨t4, rfl, hb4, HI4⟩
  go_wp2_with fail
  refine HI4.out.mono ?_; rintro e w5 ⟨rfl, hb5⟩
  have H5 := Aid.hid ((H3.out.below hb4).below hb5)
  have B5 := Aid.hid ((B3.out.trans (hb4.mono B3.out.size)).trans (hb5.mono (Nat.le_trans B3.out.size hb4.size)))
  clear hb4 hb5 HI4
  go_wp2_with fail
  refine (of_er a _).mono ?_; rintro e w6 ⟨b6, rfl, _, hE6, hb6⟩
  have H6 := Aid.hid hE6
  have B6 := Aid.hid (B5.out.trans (hb6.mono B5.out.size))
  clear hE6 hb6
  go_wp2_with fail
  refine (of_is (.own b6 a (-1) .nil) b false (by simp [Er.has, HAB.out]) _ H6.out).mono ?_; rintro e w7 ⟨t7, rfl, hb7, HI7⟩
  go_wp2_with fail
  refine HI7.out.mono ?_; rintro e w8 ⟨rfl, hb8⟩
  have B8 := Aid.hid ((B6.out.trans (hb7.mono B6.out.size)).trans (hb8.mono (Nat.le_trans B6.out.size hb7.size)))
  clear hb7 hb8 HI7
  go_wp2_with fail
  refine (new_er a _ _).mono ?_; rintro e w9 ⟨b9, rfl, _, hE9, hb9⟩
  have H9 := Aid.hid hE9
  have B9 := Aid.hid (B8.out.trans (hb9.mono B8.out.size))
  clear hE9 hb9
  go_wp2_with fail
  refine (of_is _ a true (by simp [Er.has]) _ H9.out).mono ?_; rintro e wa ⟨ta, rfl, hba, HIa⟩
  go_wp2_with fail
  refine HIa.out.mono ?_; rintro e wb ⟨rfl, hbb⟩
  have Bb := Aid.hid ((B9.out.trans (hba.mono B9.out.size)).trans (hbb.mono (Nat.le_trans B9.out.size hba.size)))
  clear hba hbb HIa
  go_wp2_with fail
  refine (awake_any _ (HG.out.below Bb.out)).mono ?_; rintro e wc ⟨rfl, hbc⟩
  go_wp2_with fail
  go_ret
  exact ⟨rfl, Bb.out.trans (hbc.mono Bb.out.size)⟩

theorem diagKinds_any (a b at_ : Int) (w : World) (hg : Door w) :
    Calls Tryd.prog 3 #[.int .i64 a, .int .i64 b, .int .i64 at_] w fun e w' => e = .returned (.bool true) ∧ Below w.heap.size w w' := by
  by_cases h : a = b
  · subst h; exact diagKinds_same a at_ w hg
  · exact diagKinds_other a b at_ w hg h
end Go.Proofs.YtblkcgbifecemaaDoor
