/- RulesInits, where the variable is of the kind that stands at place 3: its evaluations. -/
import Derived.Test.YthfknhkjodgfmaaRuIC
namespace Go.Proofs.Ythfknhkjodgfmaa
set_option linter.unusedSimpArgs false
set_option linter.unusedVariables false
open Go Go.RowKit
open Ev
theorem ri_3_0_0 : okv (riEv 3 0 (Ev.app (pEq zN 0 false) (pLow zN (0)))) = some (.b true) := by kernel_rfl
theorem ri_3_0_1 : okv (riEv 3 0 (Ev.app (pEq zN 0 false) (pHigh zN (0) 0))) = some (.b true) := by kernel_rfl
theorem ri_3_0_2 : okv (riEv 3 0 (Ev.app (pEq zN 0 true) (pIn zN (0) 0))) = some (.b true) := by kernel_rfl
theorem ri_3_1_3 : okv (riEv 3 1 (Ev.app (pEq zN 0 false) (pLow zN (0)))) = some (.b true) := by kernel_rfl
theorem ri_3_1_4 : okv (riEv 3 1 (Ev.app (pEq zN 0 false) (pHigh zN (0) 0))) = some (.b true) := by kernel_rfl
theorem ri_3_1_5 : okv (riEv 3 1 (Ev.app (pEq zN 0 true) (pIn zN (0) 0))) = some (.b true) := by kernel_rfl
theorem ri_3_2_6 : okv (riEv 3 2 (Ev.app (pEq zN 0 false) (pLow zN (0)))) = some (.b true) := by kernel_rfl
theorem ri_3_2_7 : okv (riEv 3 2 (Ev.app (pEq zN 0 false) (pHigh zN (0) 0))) = some (.b true) := by kernel_rfl
theorem ri_3_2_8 : okv (riEv 3 2 (Ev.app (pEq zN 0 true) (pIn zN (0) 0))) = some (.b true) := by kernel_rfl
theorem riK3_0 {ν : Nat → Int} (w : World) (hk : zval ν (lowZ 0 5) = 3) (hd : zval ν (lowZ 4 3) = 0) :
    Calls Try.prog 4 #[.int .i64 (ν 0), .int .i64 (ν 1), .int .i64 (ν 2), .int .i64 (ν 3), .int .i64 (ν 4), .int .i64 (ν 5)] w (fun e w' => e = .returned (.bool true) ∧ Below w.heap.size w w') := by
  have hL := zL_in (ν := ν)
  have hH := zH_in (ν := ν)
  by_cases t0 : zval ν zN < 0
  · exact ri_calls w hk hd ((path_eq (decide_eq_false (by omega))).app (path_low (by omega))) ri_3_0_0
  · by_cases t1 : 0 < zval ν zN
    · exact ri_calls w hk hd ((path_eq (decide_eq_false (by omega))).app (path_high (by omega) (by omega))) ri_3_0_1
    · exact ri_calls w hk hd ((path_eq (decide_eq_true (by omega))).app (path_in (by omega) (by omega))) ri_3_0_2
theorem riK3_1 {ν : Nat → Int} (w : World) (hk : zval ν (lowZ 0 5) = 3) (hd : zval ν (lowZ 4 3) = 1) :
    Calls Try.prog 4 #[.int .i64 (ν 0), .int .i64 (ν 1), .int .i64 (ν 2), .int .i64 (ν 3), .int .i64 (ν 4), .int .i64 (ν 5)] w (fun e w' => e = .returned (.bool true) ∧ Below w.heap.size w w') := by
  have hL := zL_in (ν := ν)
  have hH := zH_in (ν := ν)
  by_cases t0 : zval ν zN < 0
  · exact ri_calls w hk hd ((path_eq (decide_eq_false (by omega))).app (path_low (by omega))) ri_3_1_3
  · by_cases t1 : 0 < zval ν zN
    · exact ri_calls w hk hd ((path_eq (decide_eq_false (by omega))).app (path_high (by omega) (by omega))) ri_3_1_4
    · exact ri_calls w hk hd ((path_eq (decide_eq_true (by omega))).app (path_in (by omega) (by omega))) ri_3_1_5
theorem riK3_2 {ν : Nat → Int} (w : World) (hk : zval ν (lowZ 0 5) = 3) (hd : zval ν (lowZ 4 3) = 2) :
    Calls Try.prog 4 #[.int .i64 (ν 0), .int .i64 (ν 1), .int .i64 (ν 2), .int .i64 (ν 3), .int .i64 (ν 4), .int .i64 (ν 5)] w (fun e w' => e = .returned (.bool true) ∧ Below w.heap.size w w') := by
  have hL := zL_in (ν := ν)
  have hH := zH_in (ν := ν)
  by_cases t0 : zval ν zN < 0
  · exact ri_calls w hk hd ((path_eq (decide_eq_false (by omega))).app (path_low (by omega))) ri_3_2_6
  · by_cases t1 : 0 < zval ν zN
    · exact ri_calls w hk hd ((path_eq (decide_eq_false (by omega))).app (path_high (by omega) (by omega))) ri_3_2_7
    · exact ri_calls w hk hd ((path_eq (decide_eq_true (by omega))).app (path_in (by omega) (by omega))) ri_3_2_8
end Go.Proofs.Ythfknhkjodgfmaa
