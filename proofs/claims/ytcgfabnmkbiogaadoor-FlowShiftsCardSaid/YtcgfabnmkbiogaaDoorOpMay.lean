/- The contract of May (op). -/
import Derived.Test.YtcgfabnmkbiogaaDoorProg
import Derived.Test.YtcgfabnmkbiogaaDoorOpSpec
import Derived.Test.YtcgfabnmkbiogaaDoorAid
import Derived.Test.YtcgfabnmkbiogaaDoorOpC
import Derived.WalkKit
import Derived.WalkSpells
import Derived.WalkLawsBesides
import Derived.Deep.QuietTactic
import Derived.BigQuiet
import Derived.Below
namespace Go.Proofs.YtcgfabnmkbiogaaDoor
open Go.RowKit

set_option maxRecDepth 100000 in
set_option maxHeartbeats 2000000 in
theorem may_low (k a b : Int) (w : World) (h : k < 1) :
    Calls Tryd.prog 16 #[.agg #[.int .i64 k, .int .i64 a, .int .i64 b]] w fun e w' => e = .returned (.bool false) ∧ Below w.heap.size w w' := by
  have ho : Op.operands k = -1 := by unfold Op.operands; rw [if_neg (by omega), if_neg (by omega), if_neg (by omega)]
  have HO := Aid.hid ho
  clear ho
  go_enter Tryd.func16, Tryd.ntmps16
  try simp only [List.append_eq, List.cons_append, List.nil_append]
  go_wp2_with fail
  refine (operands_is _ _ HO.out _).mono ?_; rintro e w' ⟨rfl, rfl⟩
  go_wp2_with fail
  all_goals (go_ret; exact ⟨rfl, (Below.refl _ _).alloc (Nat.le_refl _) _⟩)

set_option maxRecDepth 100000 in
set_option maxHeartbeats 2000000 in
theorem may_high (k a b : Int) (w : World) (h : 35 < k) :
    Calls Tryd.prog 16 #[.agg #[.int .i64 k, .int .i64 a, .int .i64 b]] w fun e w' => e = .returned (.bool false) ∧ Below w.heap.size w w' := by
  have ho : Op.operands k = -1 := by unfold Op.operands; rw [if_neg (by omega), if_neg (by omega), if_neg (by omega)]
  have HO := Aid.hid ho
  clear ho
  go_enter Tryd.func16, Tryd.ntmps16
  try simp only [List.append_eq, List.cons_append, List.nil_append]
  go_wp2_with fail
  refine (operands_is _ _ HO.out _).mono ?_; rintro e w' ⟨rfl, rfl⟩
  go_wp2_with fail
  all_goals (go_ret; exact ⟨rfl, (Below.refl _ _).alloc (Nat.le_refl _) _⟩)

theorem may_is (k a b : Int) (r : Bool) (hr : Op.may k a b = r) (w : World) :
    Calls Tryd.prog 16 #[.agg #[.int .i64 k, .int .i64 a, .int .i64 b]] w fun e w' => e = .returned (.bool r) ∧ Below w.heap.size w w' := by
  subst hr
  have w20 : (Op.win a (-32768) 32767 && (Op.win b (-32768) 32767 && decide (a ≤ b))) = (Op.win a (-32768) 32767 && Op.win b a 32767) := by
    rw [Bool.eq_iff_iff]; simp [Op.win]; omega
  have h : k < 1 ∨ k = 1 ∨ k = 2 ∨ k = 3 ∨ k = 4 ∨ k = 5 ∨ k = 6 ∨ k = 7 ∨ k = 8 ∨ k = 9 ∨ k = 10 ∨ k = 11 ∨ k = 12 ∨ k = 13 ∨ k = 14 ∨ k = 15 ∨ k = 16 ∨ k = 17 ∨ k = 18 ∨ k = 19 ∨ k = 20 ∨ k = 21 ∨ k = 22 ∨ k = 23 ∨ k = 24 ∨ k = 25 ∨ k = 26 ∨ k = 27 ∨ k = 28 ∨ k = 29 ∨ k = 30 ∨ k = 31 ∨ k = 32 ∨ k = 33 ∨ k = 34 ∨ k = 35 ∨ 35 < k := by omega
  rcases h with h1 | rfl | rfl | rfl | rfl | rfl | rfl | rfl | rfl | rfl | rfl | rfl | rfl | rfl | rfl | rfl | rfl | rfl | rfl | rfl | rfl | rfl | rfl | rfl | rfl | rfl | rfl | rfl | rfl | rfl | rfl | rfl | rfl | rfl | rfl | rfl | h1
  · rw [show Op.may k a b = false by unfold Op.may; rw [if_pos (Or.inl (by unfold Op.operands; rw [if_neg (by omega), if_neg (by omega), if_neg (by omega)]; decide))]]; exact may_low k a b w h1
  · by_cases hb : b = 0
    · subst hb; have h := may_1 a w; simpa [Op.may, Op.operands, show Op.win 0 0 10000 = true by decide] using h
    · have h := may_1n a b w hb; simpa [Op.may, Op.operands, hb] using h
  · by_cases ha : a = 0
    · subst ha
      by_cases hb : b = 0
      · subst hb; have h := may_2 w; simpa [Op.may, Op.operands, show Op.win 0 0 10000 = true by decide] using h
      · have h := may_2m b w hb; simpa [Op.may, Op.operands, hb] using h
    · have h := may_2n a b w ha; simpa [Op.may, Op.operands, ha] using h
  · by_cases hb : b = 0
    · subst hb; have h := may_3 a w; simpa [Op.may, Op.operands, show Op.win 0 0 10000 = true by decide] using h
    · have h := may_3n a b w hb; simpa [Op.may, Op.operands, hb] using h
  · by_cases hb : b = 0
    · subst hb; have h := may_4 a w; simpa [Op.may, Op.operands, show Op.win 0 0 10000 = true by decide] using h
    · have h := may_4n a b w hb; simpa [Op.may, Op.operands, hb] using h
  · by_cases hb : b = 0
    · subst hb; have h := may_5 a w; simpa [Op.may, Op.operands, show Op.win 0 0 10000 = true by decide] using h
    · have h := may_5n a b w hb; simpa [Op.may, Op.operands, hb] using h
  · by_cases hb : b = 0
    · subst hb; have h := may_6 a w; simpa [Op.may, Op.operands, show Op.win 0 0 10000 = true by decide] using h
    · have h := may_6n a b w hb; simpa [Op.may, Op.operands, hb] using h
  · by_cases hb : b = 0
    · subst hb; have h := may_7 a w; simpa [Op.may, Op.operands, show Op.win 0 0 10000 = true by decide] using h
    · have h := may_7n a b w hb; simpa [Op.may, Op.operands, hb] using h
  · by_cases hb : b = 0
    · subst hb; have h := may_8 a w; simpa [Op.may, Op.operands, show Op.win 0 0 10000 = true by decide] using h
    · have h := may_8n a b w hb; simpa [Op.may, Op.operands, hb] using h
  · by_cases hb : b = 0
    · subst hb; have h := may_9 a w; simpa [Op.may, Op.operands, show Op.win 0 0 10000 = true by decide] using h
    · have h := may_9n a b w hb; simpa [Op.may, Op.operands, hb] using h
  · have h := may_10 a b w; simpa [Op.may, Op.operands] using h
  · have h := may_11 a b w; simpa [Op.may, Op.operands] using h
  · have h := may_12 a b w; simpa [Op.may, Op.operands] using h
  · have h := may_13 a b w; simpa [Op.may, Op.operands] using h
  · have h := may_14 a b w; simpa [Op.may, Op.operands] using h
  · have h := may_15 a b w; simpa [Op.may, Op.operands] using h
  · by_cases hb : b = 0
    · subst hb; have h := may_16 a w; simpa [Op.may, Op.operands, show Op.win 0 0 10000 = true by decide] using h
    · have h := may_16n a b w hb; simpa [Op.may, Op.operands, hb] using h
  · by_cases ha : a = 0
    · subst ha
      by_cases hb : b = 0
      · subst hb; have h := may_17 w; simpa [Op.may, Op.operands, show Op.win 0 0 10000 = true by decide] using h
      · have h := may_17m b w hb; simpa [Op.may, Op.operands, hb] using h
    · have h := may_17n a b w ha; simpa [Op.may, Op.operands, ha] using h
  · by_cases ha : a = 0
    · subst ha
      by_cases hb : b = 0
      · subst hb; have h := may_18 w; simpa [Op.may, Op.operands, show Op.win 0 0 10000 = true by decide] using h
      · have h := may_18m b w hb; simpa [Op.may, Op.operands, hb] using h
    · have h := may_18n a b w ha; simpa [Op.may, Op.operands, ha] using h
  · by_cases hb : b = 0
    · subst hb; have h := may_19 a w; simpa [Op.may, Op.operands, show Op.win 0 0 10000 = true by decide] using h
    · have h := may_19n a b w hb; simpa [Op.may, Op.operands, hb] using h
  · have h := may_20 a b w; rw [w20] at h; simpa [Op.may, Op.operands] using h
  · by_cases hb : b = 0
    · subst hb; have h := may_21 a w; simpa [Op.may, Op.operands, show Op.win 0 0 10000 = true by decide] using h
    · have h := may_21n a b w hb; simpa [Op.may, Op.operands, hb] using h
  · by_cases hb : b = 0
    · subst hb; have h := may_22 a w; simpa [Op.may, Op.operands, show Op.win 0 0 10000 = true by decide] using h
    · have h := may_22n a b w hb; simpa [Op.may, Op.operands, hb] using h
  · by_cases hb : b = 0
    · subst hb; have h := may_23 a w; simpa [Op.may, Op.operands, show Op.win 0 0 10000 = true by decide] using h
    · have h := may_23n a b w hb; simpa [Op.may, Op.operands, hb] using h
  · by_cases hb : b = 0
    · subst hb; have h := may_24 a w; simpa [Op.may, Op.operands, show Op.win 0 0 10000 = true by decide] using h
    · have h := may_24n a b w hb; simpa [Op.may, Op.operands, hb] using h
  · have h := may_25 a b w; simpa [Op.may, Op.operands] using h
  · have h := may_26 a b w; simpa [Op.may, Op.operands] using h
  · have h := may_27 a b w; simpa [Op.may, Op.operands] using h
  · have h := may_28 a b w; simpa [Op.may, Op.operands] using h
  · by_cases ha : a = 0
    · subst ha
      by_cases hb : b = 0
      · subst hb; have h := may_29 w; simpa [Op.may, Op.operands, show Op.win 0 0 10000 = true by decide] using h
      · have h := may_29m b w hb; simpa [Op.may, Op.operands, hb] using h
    · have h := may_29n a b w ha; simpa [Op.may, Op.operands, ha] using h
  · by_cases ha : a = 0
    · subst ha
      by_cases hb : b = 0
      · subst hb; have h := may_30 w; simpa [Op.may, Op.operands, show Op.win 0 0 10000 = true by decide] using h
      · have h := may_30m b w hb; simpa [Op.may, Op.operands, hb] using h
    · have h := may_30n a b w ha; simpa [Op.may, Op.operands, ha] using h
  · by_cases hb : b = 0
    · subst hb; have h := may_31 a w; simpa [Op.may, Op.operands, show Op.win 0 0 10000 = true by decide] using h
    · have h := may_31n a b w hb; simpa [Op.may, Op.operands, hb] using h
  · by_cases hb : b = 0
    · subst hb; have h := may_32 a w; simpa [Op.may, Op.operands, show Op.win 0 0 10000 = true by decide] using h
    · have h := may_32n a b w hb; simpa [Op.may, Op.operands, hb] using h
  · by_cases hb : b = 0
    · subst hb; have h := may_33 a w; simpa [Op.may, Op.operands, show Op.win 0 0 10000 = true by decide] using h
    · have h := may_33n a b w hb; simpa [Op.may, Op.operands, hb] using h
  · by_cases ha : a = 0
    · subst ha
      by_cases hb : b = 0
      · subst hb; have h := may_34 w; simpa [Op.may, Op.operands, show Op.win 0 0 10000 = true by decide] using h
      · have h := may_34m b w hb; simpa [Op.may, Op.operands, hb] using h
    · have h := may_34n a b w ha; simpa [Op.may, Op.operands, ha] using h
  · by_cases hb : b = 0
    · subst hb; have h := may_35 a w; simpa [Op.may, Op.operands, show Op.win 0 0 10000 = true by decide] using h
    · have h := may_35n a b w hb; simpa [Op.may, Op.operands, hb] using h
  · rw [show Op.may k a b = false by unfold Op.may; rw [if_pos (Or.inl (by unfold Op.operands; rw [if_neg (by omega), if_neg (by omega), if_neg (by omega)]; decide))]]; exact may_high k a b w h1

end Go.Proofs.YtcgfabnmkbiogaaDoor
