/- The law WordTells, walked: both texts' operators by their contracts. -/
import Derived.Test.YtifnbaaphibofaaWordIs
import Derived.Test.YtifnbaaphibofaaWordE
import Derived.Test.YtifnbaaphibofaaWordRB
import Derived.Test.YtifnbaaphibofaaWordRC
import Derived.Test.YtifnbaaphibofaaWordRE
namespace Go.Proofs.Ytifnbaaphibofaa
open Go.RowKit

/-- What an operator makes of two numbers. -/
def Wd.val (op a b : Int) : Int :=
  if op = 1 then (fit (a + b)) else if op = 2 then (fit (a - b)) else if op = 3 then (fit (a * b)) else if op = 4 then (if b = 0 then 0 else fit (a.tdiv b)) else if op = 5 then (if b = 0 then 0 else fit (a.tmod b)) else if op = 6 then (one (a == b)) else if op = 7 then (one (a != b)) else if op = 8 then (one (decide (a < b))) else if op = 9 then (one (decide (a ≤ b))) else if op = 10 then (one (decide (b < a))) else if op = 11 then (one (decide (b ≤ a))) else if op = 12 then (one (a != 0 && b != 0)) else if op = 13 then (one (a != 0 || b != 0)) else if op = 14 then (one (!((a != 0) == (b != 0)))) else 0
/-- Whether it makes one. -/
def Wd.isOk (op b : Int) : Bool := !(decide (op < 1) || decide (14 < op) || (decide (op = 4) || decide (op = 5)) && decide (b = 0))
theorem Wd.val_no (op a b : Int) (h : op < 1 ∨ 14 < op) : Wd.val op a b = 0 := by
  unfold Wd.val; iterate 14 rw [if_neg (by omega)]
theorem Wd.isOk_no (op b : Int) (h : op < 1 ∨ 14 < op) : Wd.isOk op b = false := by
  unfold Wd.isOk; rcases h with h | h <;> simp [h]

set_option maxRecDepth 100000 in
set_option maxHeartbeats 1000000 in
theorem do_any (op a b : Int) (w : World) :
    Calls Try.prog 9 #[.int .i64 op, .int .i64 a, .int .i64 b] w fun e w' => e = .returned (.tuple #[.int .i64 (Wd.val op a b), .bool (Wd.isOk op b)]) ∧ w = w' := by
  by_cases h0 : op < 1 ∨ 14 < op
  · refine (do_no op a b w h0).mono ?_; rintro e w' ⟨rfl, rfl⟩
    exact ⟨by rw [Wd.val_no op a b h0, Wd.isOk_no op b h0], rfl⟩
  by_cases h1 : op = 1
  · subst h1
    refine (do_1 a b w).mono ?_; rintro e w' ⟨rfl, rfl⟩; exact ⟨by simp [Wd.val, Wd.isOk], rfl⟩
  by_cases h2 : op = 2
  · subst h2
    refine (do_2 a b w).mono ?_; rintro e w' ⟨rfl, rfl⟩; exact ⟨by simp [Wd.val, Wd.isOk], rfl⟩
  by_cases h3 : op = 3
  · subst h3
    refine (do_3 a b w).mono ?_; rintro e w' ⟨rfl, rfl⟩; exact ⟨by simp [Wd.val, Wd.isOk], rfl⟩
  by_cases h4 : op = 4
  · subst h4
    by_cases hb : b = 0
    · subst hb; refine (do_4z a w).mono ?_; rintro e w' ⟨rfl, rfl⟩; exact ⟨by simp [Wd.val, Wd.isOk], rfl⟩
    · refine (do_4n a b w hb).mono ?_; rintro e w' ⟨rfl, rfl⟩; exact ⟨by simp [Wd.val, Wd.isOk, hb], rfl⟩
  by_cases h5 : op = 5
  · subst h5
    by_cases hb : b = 0
    · subst hb; refine (do_5z a w).mono ?_; rintro e w' ⟨rfl, rfl⟩; exact ⟨by simp [Wd.val, Wd.isOk], rfl⟩
    · refine (do_5n a b w hb).mono ?_; rintro e w' ⟨rfl, rfl⟩; exact ⟨by simp [Wd.val, Wd.isOk, hb], rfl⟩
  by_cases h6 : op = 6
  · subst h6
    refine (do_6 a b w).mono ?_; rintro e w' ⟨rfl, rfl⟩; exact ⟨by simp [Wd.val, Wd.isOk], rfl⟩
  by_cases h7 : op = 7
  · subst h7
    refine (do_7 a b w).mono ?_; rintro e w' ⟨rfl, rfl⟩; exact ⟨by simp [Wd.val, Wd.isOk], rfl⟩
  by_cases h8 : op = 8
  · subst h8
    refine (do_8 a b w).mono ?_; rintro e w' ⟨rfl, rfl⟩; exact ⟨by simp [Wd.val, Wd.isOk], rfl⟩
  by_cases h9 : op = 9
  · subst h9
    refine (do_9 a b w).mono ?_; rintro e w' ⟨rfl, rfl⟩; exact ⟨by simp [Wd.val, Wd.isOk], rfl⟩
  by_cases h10 : op = 10
  · subst h10
    refine (do_10 a b w).mono ?_; rintro e w' ⟨rfl, rfl⟩; exact ⟨by simp [Wd.val, Wd.isOk], rfl⟩
  by_cases h11 : op = 11
  · subst h11
    refine (do_11 a b w).mono ?_; rintro e w' ⟨rfl, rfl⟩; exact ⟨by simp [Wd.val, Wd.isOk], rfl⟩
  by_cases h12 : op = 12
  · subst h12
    by_cases ha : a = 0
    · subst ha; refine (do_12z b w).mono ?_; rintro e w' ⟨rfl, rfl⟩; exact ⟨by simp [Wd.val, Wd.isOk], rfl⟩
    · refine (do_12n a b w ha).mono ?_; rintro e w' ⟨rfl, rfl⟩; exact ⟨by simp [Wd.val, Wd.isOk], rfl⟩
  by_cases h13 : op = 13
  · subst h13
    by_cases ha : a = 0
    · subst ha; refine (do_13z b w).mono ?_; rintro e w' ⟨rfl, rfl⟩; exact ⟨by simp [Wd.val, Wd.isOk], rfl⟩
    · refine (do_13n a b w ha).mono ?_; rintro e w' ⟨rfl, rfl⟩; exact ⟨by simp [Wd.val, Wd.isOk], rfl⟩
  by_cases h14 : op = 14
  · subst h14
    refine (do_14 a b w).mono ?_; rintro e w' ⟨rfl, rfl⟩; exact ⟨by simp [Wd.val, Wd.isOk], rfl⟩
  omega

set_option maxRecDepth 100000 in
set_option maxHeartbeats 1000000 in
theorem rdo_any (op a b : Int) (w : World) :
    Calls Try.prog 10 #[.int .i64 op, .int .i64 a, .int .i64 b] w fun e w' => e = .returned (.tuple #[.int .i64 (Wd.val op a b), .bool (Wd.isOk op b)]) ∧ w = w' := by
  by_cases h0 : op < 1 ∨ 14 < op
  · refine (rdo_no op a b w h0).mono ?_; rintro e w' ⟨rfl, rfl⟩
    exact ⟨by rw [Wd.val_no op a b h0, Wd.isOk_no op b h0], rfl⟩
  by_cases h1 : op = 1
  · subst h1
    refine (rdo_1 a b w).mono ?_; rintro e w' ⟨rfl, rfl⟩; exact ⟨by simp [Wd.val, Wd.isOk], rfl⟩
  by_cases h2 : op = 2
  · subst h2
    refine (rdo_2 a b w).mono ?_; rintro e w' ⟨rfl, rfl⟩; exact ⟨by simp [Wd.val, Wd.isOk], rfl⟩
  by_cases h3 : op = 3
  · subst h3
    refine (rdo_3 a b w).mono ?_; rintro e w' ⟨rfl, rfl⟩; exact ⟨by simp [Wd.val, Wd.isOk], rfl⟩
  by_cases h4 : op = 4
  · subst h4
    by_cases hb : b = 0
    · subst hb; refine (rdo_4z a w).mono ?_; rintro e w' ⟨rfl, rfl⟩; exact ⟨by simp [Wd.val, Wd.isOk], rfl⟩
    · refine (rdo_4n a b w hb).mono ?_; rintro e w' ⟨rfl, rfl⟩; exact ⟨by simp [Wd.val, Wd.isOk, hb], rfl⟩
  by_cases h5 : op = 5
  · subst h5
    by_cases hb : b = 0
    · subst hb; refine (rdo_5z a w).mono ?_; rintro e w' ⟨rfl, rfl⟩; exact ⟨by simp [Wd.val, Wd.isOk], rfl⟩
    · refine (rdo_5n a b w hb).mono ?_; rintro e w' ⟨rfl, rfl⟩; exact ⟨by simp [Wd.val, Wd.isOk, hb], rfl⟩
  by_cases h6 : op = 6
  · subst h6
    refine (rdo_6 a b w).mono ?_; rintro e w' ⟨rfl, rfl⟩; exact ⟨by simp [Wd.val, Wd.isOk], rfl⟩
  by_cases h7 : op = 7
  · subst h7
    refine (rdo_7 a b w).mono ?_; rintro e w' ⟨rfl, rfl⟩; exact ⟨by simp [Wd.val, Wd.isOk], rfl⟩
  by_cases h8 : op = 8
  · subst h8
    refine (rdo_8 a b w).mono ?_; rintro e w' ⟨rfl, rfl⟩; exact ⟨by simp [Wd.val, Wd.isOk], rfl⟩
  by_cases h9 : op = 9
  · subst h9
    refine (rdo_9 a b w).mono ?_; rintro e w' ⟨rfl, rfl⟩; exact ⟨by simp [Wd.val, Wd.isOk], rfl⟩
  by_cases h10 : op = 10
  · subst h10
    refine (rdo_10 a b w).mono ?_; rintro e w' ⟨rfl, rfl⟩; exact ⟨by simp [Wd.val, Wd.isOk], rfl⟩
  by_cases h11 : op = 11
  · subst h11
    refine (rdo_11 a b w).mono ?_; rintro e w' ⟨rfl, rfl⟩; exact ⟨by simp [Wd.val, Wd.isOk], rfl⟩
  by_cases h12 : op = 12
  · subst h12
    by_cases ha : a = 0
    · subst ha; refine (rdo_12z b w).mono ?_; rintro e w' ⟨rfl, rfl⟩; exact ⟨by simp [Wd.val, Wd.isOk], rfl⟩
    · refine (rdo_12n a b w ha).mono ?_; rintro e w' ⟨rfl, rfl⟩; exact ⟨by simp [Wd.val, Wd.isOk], rfl⟩
  by_cases h13 : op = 13
  · subst h13
    by_cases ha : a = 0
    · subst ha; refine (rdo_13z b w).mono ?_; rintro e w' ⟨rfl, rfl⟩; exact ⟨by simp [Wd.val, Wd.isOk], rfl⟩
    · refine (rdo_13n a b w ha).mono ?_; rintro e w' ⟨rfl, rfl⟩; exact ⟨by simp [Wd.val, Wd.isOk], rfl⟩
  by_cases h14 : op = 14
  · subst h14
    refine (rdo_14 a b w).mono ?_; rintro e w' ⟨rfl, rfl⟩; exact ⟨by simp [Wd.val, Wd.isOk], rfl⟩
  omega

set_option maxRecDepth 100000 in
set_option maxHeartbeats 1000000 in
theorem wordTells_any (op a b : Int) (w : World) :
    Calls Try.prog 3 #[.int .i64 op, .int .i64 a, .int .i64 b] w fun e w' => e = .returned (.bool true) ∧ w = w' := by
  go_enter Try.func3, Try.ntmps3
  try simp only [List.append_eq, List.cons_append, List.nil_append]
  go_wp2_with fail
  refine (do_any _ _ _ _).mono ?_; rintro e w' ⟨rfl, rfl⟩
  go_wp2_with fail
  refine (rdo_any _ _ _ _).mono ?_; rintro e w' ⟨rfl, rfl⟩
  go_wp2_with fail
  refine (fit_any _ _).mono ?_; rintro e w' ⟨rfl, rfl⟩
  go_wp2_with fail
  refine (rfit_any _ _).mono ?_; rintro e w' ⟨rfl, rfl⟩
  go_wp2_with fail
  refine (neg_any _ _).mono ?_; rintro e w' ⟨rfl, rfl⟩
  go_wp2_with fail
  refine (rneg_any _ _).mono ?_; rintro e w' ⟨rfl, rfl⟩
  go_wp2_with fail
  refine (not_any _ _).mono ?_; rintro e w' ⟨rfl, rfl⟩
  go_wp2_with fail
  refine (rnot_any _ _).mono ?_; rintro e w' ⟨rfl, rfl⟩
  go_wp2_with fail
  refine (awake_any _).mono ?_; rintro e w' ⟨rfl, rfl⟩
  go_wp2_with fail
  go_ret
  exact ⟨rfl, rfl⟩

end Go.Proofs.Ytifnbaaphibofaa
