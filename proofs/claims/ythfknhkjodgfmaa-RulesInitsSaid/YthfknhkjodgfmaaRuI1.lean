/- RulesInits, where the variable is of the kind that stands at place 1: its evaluations. -/
import Derived.Test.YthfknhkjodgfmaaRuIC
namespace Go.Proofs.Ythfknhkjodgfmaa
set_option linter.unusedSimpArgs false
set_option linter.unusedVariables false
open Go Go.RowKit
open Ev
theorem ri_1_0_0 : okv (riEv 1 0 (Ev.app (pEq zN 0 false) (Ev.app (pEq zN 1 false) (pLow zN (0))))) = some (.b true) := by kernel_rfl
theorem ri_1_0_1 : okv (riEv 1 0 (Ev.app (pEq zN 0 false) (Ev.app (pEq zN 1 false) (pHigh zN (0) 1)))) = some (.b true) := by kernel_rfl
theorem ri_1_0_2 : okv (riEv 1 0 (Ev.app (pEq zN 0 true) (Ev.app (pEq zN 1 false) (pIn zN (0) 1)))) = some (.b true) := by kernel_rfl
theorem ri_1_0_3 : okv (riEv 1 0 (Ev.app (pEq zN 0 false) (Ev.app (pEq zN 1 true) (pIn zN (0) 1)))) = some (.b true) := by kernel_rfl
theorem ri_1_1_4 : okv (riEv 1 1 (Ev.app (pEq zN 0 false) (Ev.app (pEq zN 1 false) (pLow zN (0))))) = some (.b true) := by kernel_rfl
theorem ri_1_1_5 : okv (riEv 1 1 (Ev.app (pEq zN 0 false) (Ev.app (pEq zN 1 false) (pHigh zN (0) 1)))) = some (.b true) := by kernel_rfl
theorem ri_1_1_6 : okv (riEv 1 1 (Ev.app (pEq zN 0 true) (Ev.app (pEq zN 1 false) (Ev.app (pIn zN (0) 1) (pGe zS 0 false))))) = some (.b true) := by kernel_rfl
theorem ri_1_1_7 : okv (riEv 1 1 (Ev.app (pEq zN 0 true) (Ev.app (pEq zN 1 false) (Ev.app (pIn zN (0) 1) (Ev.app (pGe zS 0 true) (pGe zS 8 true)))))) = some (.b true) := by kernel_rfl
theorem ri_1_1_8 : okv (riEv 1 1 (Ev.app (pEq zN 0 true) (Ev.app (pEq zN 1 false) (Ev.app (pIn zN (0) 1) (Ev.app (pGe zS 0 true) (pGe zS 8 false)))))) = some (.b true) := by kernel_rfl
theorem ri_1_1_9 : okv (riEv 1 1 (Ev.app (pEq zN 0 false) (Ev.app (pEq zN 1 true) (Ev.app (pIn zN (0) 1) (pGe zS 0 false))))) = some (.b true) := by kernel_rfl
theorem ri_1_1_10 : okv (riEv 1 1 (Ev.app (pEq zN 0 false) (Ev.app (pEq zN 1 true) (Ev.app (pIn zN (0) 1) (Ev.app (pGe zS 0 true) (pGe zS 8 true)))))) = some (.b true) := by kernel_rfl
theorem ri_1_1_11 : okv (riEv 1 1 (Ev.app (pEq zN 0 false) (Ev.app (pEq zN 1 true) (Ev.app (pIn zN (0) 1) (Ev.app (pGe zS 0 true) (pGe zS 8 false)))))) = some (.b true) := by kernel_rfl
theorem ri_1_2_12 : okv (riEv 1 2 (Ev.app (pEq zN 0 false) (Ev.app (pEq zN 1 false) (pLow zN (0))))) = some (.b true) := by kernel_rfl
theorem ri_1_2_13 : okv (riEv 1 2 (Ev.app (pEq zN 0 false) (Ev.app (pEq zN 1 false) (pHigh zN (0) 1)))) = some (.b true) := by kernel_rfl
theorem ri_1_2_14 : okv (riEv 1 2 (Ev.app (pEq zN 0 true) (Ev.app (pEq zN 1 false) (Ev.app (pIn zN (0) 1) (pGe zS 0 false))))) = some (.b true) := by kernel_rfl
theorem ri_1_2_15 : okv (riEv 1 2 (Ev.app (pEq zN 0 true) (Ev.app (pEq zN 1 false) (Ev.app (pIn zN (0) 1) (Ev.app (pGe zS 0 true) (pGe zS 8 true)))))) = some (.b true) := by kernel_rfl
theorem ri_1_2_16 : okv (riEv 1 2 (Ev.app (pEq zN 0 true) (Ev.app (pEq zN 1 false) (Ev.app (pIn zN (0) 1) (Ev.app (pGe zS 0 true) (pGe zS 8 false)))))) = some (.b true) := by kernel_rfl
theorem ri_1_2_17 : okv (riEv 1 2 (Ev.app (pEq zN 0 false) (Ev.app (pEq zN 1 true) (Ev.app (pIn zN (0) 1) (pGe zS 0 false))))) = some (.b true) := by kernel_rfl
theorem ri_1_2_18 : okv (riEv 1 2 (Ev.app (pEq zN 0 false) (Ev.app (pEq zN 1 true) (Ev.app (pIn zN (0) 1) (Ev.app (pGe zS 0 true) (pGe zS 8 true)))))) = some (.b true) := by kernel_rfl
theorem ri_1_2_19 : okv (riEv 1 2 (Ev.app (pEq zN 0 false) (Ev.app (pEq zN 1 true) (Ev.app (pIn zN (0) 1) (Ev.app (pGe zS 0 true) (pGe zS 8 false)))))) = some (.b true) := by kernel_rfl
theorem riK1_0 {ν : Nat → Int} (w : World) (hk : zval ν (lowZ 0 5) = 1) (hd : zval ν (lowZ 4 3) = 0) :
    Calls Try.prog 4 #[.int .i64 (ν 0), .int .i64 (ν 1), .int .i64 (ν 2), .int .i64 (ν 3), .int .i64 (ν 4), .int .i64 (ν 5)] w (fun e w' => e = .returned (.bool true) ∧ Below w.heap.size w w') := by
  have hL := zL_in (ν := ν)
  have hH := zH_in (ν := ν)
  by_cases t0 : zval ν zN < 0
  · exact ri_calls w hk hd ((path_eq (decide_eq_false (by omega))).app ((path_eq (decide_eq_false (by omega))).app (path_low (by omega)))) ri_1_0_0
  · by_cases t1 : 1 < zval ν zN
    · exact ri_calls w hk hd ((path_eq (decide_eq_false (by omega))).app ((path_eq (decide_eq_false (by omega))).app (path_high (by omega) (by omega)))) ri_1_0_1
    · by_cases t2 : zval ν zN = 0
      · exact ri_calls w hk hd ((path_eq (decide_eq_true (by omega))).app ((path_eq (decide_eq_false (by omega))).app (path_in (by omega) (by omega)))) ri_1_0_2
      · exact ri_calls w hk hd ((path_eq (decide_eq_false (by omega))).app ((path_eq (decide_eq_true (by omega))).app (path_in (by omega) (by omega)))) ri_1_0_3
theorem riK1_1 {ν : Nat → Int} (w : World) (hk : zval ν (lowZ 0 5) = 1) (hd : zval ν (lowZ 4 3) = 1) :
    Calls Try.prog 4 #[.int .i64 (ν 0), .int .i64 (ν 1), .int .i64 (ν 2), .int .i64 (ν 3), .int .i64 (ν 4), .int .i64 (ν 5)] w (fun e w' => e = .returned (.bool true) ∧ Below w.heap.size w w') := by
  have hL := zL_in (ν := ν)
  have hH := zH_in (ν := ν)
  by_cases t0 : zval ν zN < 0
  · exact ri_calls w hk hd ((path_eq (decide_eq_false (by omega))).app ((path_eq (decide_eq_false (by omega))).app (path_low (by omega)))) ri_1_1_4
  · by_cases t1 : 1 < zval ν zN
    · exact ri_calls w hk hd ((path_eq (decide_eq_false (by omega))).app ((path_eq (decide_eq_false (by omega))).app (path_high (by omega) (by omega)))) ri_1_1_5
    · by_cases t2 : zval ν zN = 0
      · by_cases s1 : zval ν zS < 0
        · exact ri_calls w hk hd ((path_eq (decide_eq_true (by omega))).app ((path_eq (decide_eq_false (by omega))).app ((path_in (by omega) (by omega)).app (path_ge (decide_eq_false (by omega)))))) ri_1_1_6
        · by_cases s2 : 7 < zval ν zS
          · exact ri_calls w hk hd ((path_eq (decide_eq_true (by omega))).app ((path_eq (decide_eq_false (by omega))).app ((path_in (by omega) (by omega)).app ((path_ge (decide_eq_true (by omega))).app (path_ge (decide_eq_true (by omega))))))) ri_1_1_7
          · exact ri_calls w hk hd ((path_eq (decide_eq_true (by omega))).app ((path_eq (decide_eq_false (by omega))).app ((path_in (by omega) (by omega)).app ((path_ge (decide_eq_true (by omega))).app (path_ge (decide_eq_false (by omega))))))) ri_1_1_8
      · by_cases s1 : zval ν zS < 0
        · exact ri_calls w hk hd ((path_eq (decide_eq_false (by omega))).app ((path_eq (decide_eq_true (by omega))).app ((path_in (by omega) (by omega)).app (path_ge (decide_eq_false (by omega)))))) ri_1_1_9
        · by_cases s2 : 7 < zval ν zS
          · exact ri_calls w hk hd ((path_eq (decide_eq_false (by omega))).app ((path_eq (decide_eq_true (by omega))).app ((path_in (by omega) (by omega)).app ((path_ge (decide_eq_true (by omega))).app (path_ge (decide_eq_true (by omega))))))) ri_1_1_10
          · exact ri_calls w hk hd ((path_eq (decide_eq_false (by omega))).app ((path_eq (decide_eq_true (by omega))).app ((path_in (by omega) (by omega)).app ((path_ge (decide_eq_true (by omega))).app (path_ge (decide_eq_false (by omega))))))) ri_1_1_11
theorem riK1_2 {ν : Nat → Int} (w : World) (hk : zval ν (lowZ 0 5) = 1) (hd : zval ν (lowZ 4 3) = 2) :
    Calls Try.prog 4 #[.int .i64 (ν 0), .int .i64 (ν 1), .int .i64 (ν 2), .int .i64 (ν 3), .int .i64 (ν 4), .int .i64 (ν 5)] w (fun e w' => e = .returned (.bool true) ∧ Below w.heap.size w w') := by
  have hL := zL_in (ν := ν)
  have hH := zH_in (ν := ν)
  by_cases t0 : zval ν zN < 0
  · exact ri_calls w hk hd ((path_eq (decide_eq_false (by omega))).app ((path_eq (decide_eq_false (by omega))).app (path_low (by omega)))) ri_1_2_12
  · by_cases t1 : 1 < zval ν zN
    · exact ri_calls w hk hd ((path_eq (decide_eq_false (by omega))).app ((path_eq (decide_eq_false (by omega))).app (path_high (by omega) (by omega)))) ri_1_2_13
    · by_cases t2 : zval ν zN = 0
      · by_cases s1 : zval ν zS < 0
        · exact ri_calls w hk hd ((path_eq (decide_eq_true (by omega))).app ((path_eq (decide_eq_false (by omega))).app ((path_in (by omega) (by omega)).app (path_ge (decide_eq_false (by omega)))))) ri_1_2_14
        · by_cases s2 : 7 < zval ν zS
          · exact ri_calls w hk hd ((path_eq (decide_eq_true (by omega))).app ((path_eq (decide_eq_false (by omega))).app ((path_in (by omega) (by omega)).app ((path_ge (decide_eq_true (by omega))).app (path_ge (decide_eq_true (by omega))))))) ri_1_2_15
          · exact ri_calls w hk hd ((path_eq (decide_eq_true (by omega))).app ((path_eq (decide_eq_false (by omega))).app ((path_in (by omega) (by omega)).app ((path_ge (decide_eq_true (by omega))).app (path_ge (decide_eq_false (by omega))))))) ri_1_2_16
      · by_cases s1 : zval ν zS < 0
        · exact ri_calls w hk hd ((path_eq (decide_eq_false (by omega))).app ((path_eq (decide_eq_true (by omega))).app ((path_in (by omega) (by omega)).app (path_ge (decide_eq_false (by omega)))))) ri_1_2_17
        · by_cases s2 : 7 < zval ν zS
          · exact ri_calls w hk hd ((path_eq (decide_eq_false (by omega))).app ((path_eq (decide_eq_true (by omega))).app ((path_in (by omega) (by omega)).app ((path_ge (decide_eq_true (by omega))).app (path_ge (decide_eq_true (by omega))))))) ri_1_2_18
          · exact ri_calls w hk hd ((path_eq (decide_eq_false (by omega))).app ((path_eq (decide_eq_true (by omega))).app ((path_in (by omega) (by omega)).app ((path_ge (decide_eq_true (by omega))).app (path_ge (decide_eq_false (by omega))))))) ri_1_2_19
end Go.Proofs.Ythfknhkjodgfmaa
