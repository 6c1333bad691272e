/- RulesInits, where the variable is of the kind that stands at place 2: its evaluations. -/
import Derived.Test.YthfknhkjodgfmaaRuIC
namespace Go.Proofs.Ythfknhkjodgfmaa
set_option linter.unusedSimpArgs false
set_option linter.unusedVariables false
open Go Go.RowKit
open Ev
theorem ri_2_0_0 : okv (riEv 2 0 (Ev.app (pEq zN 0 true) (pRange false true))) = some (.b true) := by kernel_rfl
theorem ri_2_0_1 : okv (riEv 2 0 (Ev.app (pEq zN 0 true) (pRange true false))) = some (.b true) := by kernel_rfl
theorem ri_2_0_2 : okv (riEv 2 0 (Ev.app (pEq zN 0 true) (pRange true true))) = some (.b true) := by kernel_rfl
theorem ri_2_0_3 : okv (riEv 2 0 (Ev.app (pEq zN 0 false) (pRange false true))) = some (.b true) := by kernel_rfl
theorem ri_2_0_4 : okv (riEv 2 0 (Ev.app (pEq zN 0 false) (pRange true false))) = some (.b true) := by kernel_rfl
theorem ri_2_0_5 : okv (riEv 2 0 (Ev.app (pEq zN 0 false) (pRange true true))) = some (.b true) := by kernel_rfl
theorem ri_2_1_6 : okv (riEv 2 1 (Ev.app (pEq zN 0 true) (pRange false true))) = some (.b true) := by kernel_rfl
theorem ri_2_1_7 : okv (riEv 2 1 (Ev.app (pEq zN 0 true) (pRange true false))) = some (.b true) := by kernel_rfl
theorem ri_2_1_8 : okv (riEv 2 1 (Ev.app (pEq zN 0 true) (pRange true true))) = some (.b true) := by kernel_rfl
theorem ri_2_1_9 : okv (riEv 2 1 (Ev.app (pEq zN 0 false) (pRange false true))) = some (.b true) := by kernel_rfl
theorem ri_2_1_10 : okv (riEv 2 1 (Ev.app (pEq zN 0 false) (pRange true false))) = some (.b true) := by kernel_rfl
theorem ri_2_1_11 : okv (riEv 2 1 (Ev.app (pEq zN 0 false) (pRange true true))) = some (.b true) := by kernel_rfl
theorem ri_2_2_12 : okv (riEv 2 2 (Ev.app (pEq zN 0 true) (pRange false true))) = some (.b true) := by kernel_rfl
theorem ri_2_2_13 : okv (riEv 2 2 (Ev.app (pEq zN 0 true) (pRange true false))) = some (.b true) := by kernel_rfl
theorem ri_2_2_14 : okv (riEv 2 2 (Ev.app (pEq zN 0 true) (pRange true true))) = some (.b true) := by kernel_rfl
theorem ri_2_2_15 : okv (riEv 2 2 (Ev.app (pEq zN 0 false) (pRange false true))) = some (.b true) := by kernel_rfl
theorem ri_2_2_16 : okv (riEv 2 2 (Ev.app (pEq zN 0 false) (pRange true false))) = some (.b true) := by kernel_rfl
theorem ri_2_2_17 : okv (riEv 2 2 (Ev.app (pEq zN 0 false) (pRange true true))) = some (.b true) := by kernel_rfl
theorem riK2_0 {ν : Nat → Int} (w : World) (hk : zval ν (lowZ 0 5) = 2) (hd : zval ν (lowZ 4 3) = 0) :
    Calls Try.prog 4 #[.int .i64 (ν 0), .int .i64 (ν 1), .int .i64 (ν 2), .int .i64 (ν 3), .int .i64 (ν 4), .int .i64 (ν 5)] w (fun e w' => e = .returned (.bool true) ∧ Below w.heap.size w w') := by
  have hL := zL_in (ν := ν)
  have hH := zH_in (ν := ν)
  by_cases t0 : zval ν zN = 0 ∧ zval ν zN < zval ν zL
  · exact ri_calls w hk hd ((path_eq (decide_eq_true (by omega))).app (path_range (decide_eq_false (by omega)) (decide_eq_true (by omega)))) ri_2_0_0
  · by_cases t1 : zval ν zN = 0 ∧ zval ν zH < zval ν zN
    · exact ri_calls w hk hd ((path_eq (decide_eq_true (by omega))).app (path_range (decide_eq_true (by omega)) (decide_eq_false (by omega)))) ri_2_0_1
    · by_cases t2 : zval ν zN = 0
      · exact ri_calls w hk hd ((path_eq (decide_eq_true (by omega))).app (path_range (decide_eq_true (by omega)) (decide_eq_true (by omega)))) ri_2_0_2
      · by_cases t3 : zval ν zN < zval ν zL
        · exact ri_calls w hk hd ((path_eq (decide_eq_false (by omega))).app (path_range (decide_eq_false (by omega)) (decide_eq_true (by omega)))) ri_2_0_3
        · by_cases t4 : zval ν zH < zval ν zN
          · exact ri_calls w hk hd ((path_eq (decide_eq_false (by omega))).app (path_range (decide_eq_true (by omega)) (decide_eq_false (by omega)))) ri_2_0_4
          · exact ri_calls w hk hd ((path_eq (decide_eq_false (by omega))).app (path_range (decide_eq_true (by omega)) (decide_eq_true (by omega)))) ri_2_0_5
theorem riK2_1 {ν : Nat → Int} (w : World) (hk : zval ν (lowZ 0 5) = 2) (hd : zval ν (lowZ 4 3) = 1) :
    Calls Try.prog 4 #[.int .i64 (ν 0), .int .i64 (ν 1), .int .i64 (ν 2), .int .i64 (ν 3), .int .i64 (ν 4), .int .i64 (ν 5)] w (fun e w' => e = .returned (.bool true) ∧ Below w.heap.size w w') := by
  have hL := zL_in (ν := ν)
  have hH := zH_in (ν := ν)
  by_cases t0 : zval ν zN = 0 ∧ zval ν zN < zval ν zL
  · exact ri_calls w hk hd ((path_eq (decide_eq_true (by omega))).app (path_range (decide_eq_false (by omega)) (decide_eq_true (by omega)))) ri_2_1_6
  · by_cases t1 : zval ν zN = 0 ∧ zval ν zH < zval ν zN
    · exact ri_calls w hk hd ((path_eq (decide_eq_true (by omega))).app (path_range (decide_eq_true (by omega)) (decide_eq_false (by omega)))) ri_2_1_7
    · by_cases t2 : zval ν zN = 0
      · exact ri_calls w hk hd ((path_eq (decide_eq_true (by omega))).app (path_range (decide_eq_true (by omega)) (decide_eq_true (by omega)))) ri_2_1_8
      · by_cases t3 : zval ν zN < zval ν zL
        · exact ri_calls w hk hd ((path_eq (decide_eq_false (by omega))).app (path_range (decide_eq_false (by omega)) (decide_eq_true (by omega)))) ri_2_1_9
        · by_cases t4 : zval ν zH < zval ν zN
          · exact ri_calls w hk hd ((path_eq (decide_eq_false (by omega))).app (path_range (decide_eq_true (by omega)) (decide_eq_false (by omega)))) ri_2_1_10
          · exact ri_calls w hk hd ((path_eq (decide_eq_false (by omega))).app (path_range (decide_eq_true (by omega)) (decide_eq_true (by omega)))) ri_2_1_11
theorem riK2_2 {ν : Nat → Int} (w : World) (hk : zval ν (lowZ 0 5) = 2) (hd : zval ν (lowZ 4 3) = 2) :
    Calls Try.prog 4 #[.int .i64 (ν 0), .int .i64 (ν 1), .int .i64 (ν 2), .int .i64 (ν 3), .int .i64 (ν 4), .int .i64 (ν 5)] w (fun e w' => e = .returned (.bool true) ∧ Below w.heap.size w w') := by
  have hL := zL_in (ν := ν)
  have hH := zH_in (ν := ν)
  by_cases t0 : zval ν zN = 0 ∧ zval ν zN < zval ν zL
  · exact ri_calls w hk hd ((path_eq (decide_eq_true (by omega))).app (path_range (decide_eq_false (by omega)) (decide_eq_true (by omega)))) ri_2_2_12
  · by_cases t1 : zval ν zN = 0 ∧ zval ν zH < zval ν zN
    · exact ri_calls w hk hd ((path_eq (decide_eq_true (by omega))).app (path_range (decide_eq_true (by omega)) (decide_eq_false (by omega)))) ri_2_2_13
    · by_cases t2 : zval ν zN = 0
      · exact ri_calls w hk hd ((path_eq (decide_eq_true (by omega))).app (path_range (decide_eq_true (by omega)) (decide_eq_true (by omega)))) ri_2_2_14
      · by_cases t3 : zval ν zN < zval ν zL
        · exact ri_calls w hk hd ((path_eq (decide_eq_false (by omega))).app (path_range (decide_eq_false (by omega)) (decide_eq_true (by omega)))) ri_2_2_15
        · by_cases t4 : zval ν zH < zval ν zN
          · exact ri_calls w hk hd ((path_eq (decide_eq_false (by omega))).app (path_range (decide_eq_true (by omega)) (decide_eq_false (by omega)))) ri_2_2_16
          · exact ri_calls w hk hd ((path_eq (decide_eq_false (by omega))).app (path_range (decide_eq_true (by omega)) (decide_eq_true (by omega)))) ri_2_2_17
end Go.Proofs.Ythfknhkjodgfmaa
