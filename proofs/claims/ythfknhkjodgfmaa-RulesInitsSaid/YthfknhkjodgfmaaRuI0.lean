/- RulesInits, where the variable is of the kind that stands at place 0: its evaluations. -/
import Derived.Test.YthfknhkjodgfmaaRuIC
namespace Go.Proofs.Ythfknhkjodgfmaa
set_option linter.unusedSimpArgs false
set_option linter.unusedVariables false
open Go Go.RowKit
open Ev
theorem ri_0_0_0 : okv (riEv 0 0 (Ev.app (pEq zN 0 false) (pLow zN (-32768)))) = some (.b true) := by kernel_rfl
theorem ri_0_0_1 : okv (riEv 0 0 (Ev.app (pEq zN 0 false) (pHigh zN (-32768) 32767))) = some (.b true) := by kernel_rfl
theorem ri_0_0_2 : okv (riEv 0 0 (Ev.app (pEq zN 0 true) (pIn zN (-32768) 32767))) = some (.b true) := by kernel_rfl
theorem ri_0_0_3 : okv (riEv 0 0 (Ev.app (pEq zN 0 false) (pIn zN (-32768) 32767))) = some (.b true) := by kernel_rfl
theorem ri_0_1_4 : okv (riEv 0 1 (Ev.app (pEq zN 0 false) (pLow zN (-32768)))) = some (.b true) := by kernel_rfl
theorem ri_0_1_5 : okv (riEv 0 1 (Ev.app (pEq zN 0 false) (pHigh zN (-32768) 32767))) = some (.b true) := by kernel_rfl
theorem ri_0_1_6 : okv (riEv 0 1 (Ev.app (pEq zN 0 true) (Ev.app (pIn zN (-32768) 32767) (pGe zS 0 false)))) = some (.b true) := by kernel_rfl
theorem ri_0_1_7 : okv (riEv 0 1 (Ev.app (pEq zN 0 true) (Ev.app (pIn zN (-32768) 32767) (Ev.app (pGe zS 0 true) (pGe zS 8 true))))) = some (.b true) := by kernel_rfl
theorem ri_0_1_8 : okv (riEv 0 1 (Ev.app (pEq zN 0 true) (Ev.app (pIn zN (-32768) 32767) (Ev.app (pGe zS 0 true) (pGe zS 8 false))))) = some (.b true) := by kernel_rfl
theorem ri_0_1_9 : okv (riEv 0 1 (Ev.app (pEq zN 0 false) (Ev.app (pIn zN (-32768) 32767) (pGe zS 0 false)))) = some (.b true) := by kernel_rfl
theorem ri_0_1_10 : okv (riEv 0 1 (Ev.app (pEq zN 0 false) (Ev.app (pIn zN (-32768) 32767) (Ev.app (pGe zS 0 true) (pGe zS 8 true))))) = some (.b true) := by kernel_rfl
theorem ri_0_1_11 : okv (riEv 0 1 (Ev.app (pEq zN 0 false) (Ev.app (pIn zN (-32768) 32767) (Ev.app (pGe zS 0 true) (pGe zS 8 false))))) = some (.b true) := by kernel_rfl
theorem ri_0_2_12 : okv (riEv 0 2 (Ev.app (pEq zN 0 false) (pLow zN (-32768)))) = some (.b true) := by kernel_rfl
theorem ri_0_2_13 : okv (riEv 0 2 (Ev.app (pEq zN 0 false) (pHigh zN (-32768) 32767))) = some (.b true) := by kernel_rfl
theorem ri_0_2_14 : okv (riEv 0 2 (Ev.app (pEq zN 0 true) (Ev.app (pIn zN (-32768) 32767) (pGe zS 0 false)))) = some (.b true) := by kernel_rfl
theorem ri_0_2_15 : okv (riEv 0 2 (Ev.app (pEq zN 0 true) (Ev.app (pIn zN (-32768) 32767) (Ev.app (pGe zS 0 true) (pGe zS 8 true))))) = some (.b true) := by kernel_rfl
theorem ri_0_2_16 : okv (riEv 0 2 (Ev.app (pEq zN 0 true) (Ev.app (pIn zN (-32768) 32767) (Ev.app (pGe zS 0 true) (pGe zS 8 false))))) = some (.b true) := by kernel_rfl
theorem ri_0_2_17 : okv (riEv 0 2 (Ev.app (pEq zN 0 false) (Ev.app (pIn zN (-32768) 32767) (pGe zS 0 false)))) = some (.b true) := by kernel_rfl
theorem ri_0_2_18 : okv (riEv 0 2 (Ev.app (pEq zN 0 false) (Ev.app (pIn zN (-32768) 32767) (Ev.app (pGe zS 0 true) (pGe zS 8 true))))) = some (.b true) := by kernel_rfl
theorem ri_0_2_19 : okv (riEv 0 2 (Ev.app (pEq zN 0 false) (Ev.app (pIn zN (-32768) 32767) (Ev.app (pGe zS 0 true) (pGe zS 8 false))))) = some (.b true) := by kernel_rfl
theorem riK0_0 {ν : Nat → Int} (w : World) (hk : zval ν (lowZ 0 5) = 0) (hd : zval ν (lowZ 4 3) = 0) :
    Calls Try.prog 4 #[.int .i64 (ν 0), .int .i64 (ν 1), .int .i64 (ν 2), .int .i64 (ν 3), .int .i64 (ν 4), .int .i64 (ν 5)] w (fun e w' => e = .returned (.bool true) ∧ Below w.heap.size w w') := by
  have hL := zL_in (ν := ν)
  have hH := zH_in (ν := ν)
  by_cases t0 : zval ν zN < -32768
  · exact ri_calls w hk hd ((path_eq (decide_eq_false (by omega))).app (path_low (by omega))) ri_0_0_0
  · by_cases t1 : 32767 < zval ν zN
    · exact ri_calls w hk hd ((path_eq (decide_eq_false (by omega))).app (path_high (by omega) (by omega))) ri_0_0_1
    · by_cases t2 : zval ν zN = 0
      · exact ri_calls w hk hd ((path_eq (decide_eq_true (by omega))).app (path_in (by omega) (by omega))) ri_0_0_2
      · exact ri_calls w hk hd ((path_eq (decide_eq_false (by omega))).app (path_in (by omega) (by omega))) ri_0_0_3
theorem riK0_1 {ν : Nat → Int} (w : World) (hk : zval ν (lowZ 0 5) = 0) (hd : zval ν (lowZ 4 3) = 1) :
    Calls Try.prog 4 #[.int .i64 (ν 0), .int .i64 (ν 1), .int .i64 (ν 2), .int .i64 (ν 3), .int .i64 (ν 4), .int .i64 (ν 5)] w (fun e w' => e = .returned (.bool true) ∧ Below w.heap.size w w') := by
  have hL := zL_in (ν := ν)
  have hH := zH_in (ν := ν)
  by_cases t0 : zval ν zN < -32768
  · exact ri_calls w hk hd ((path_eq (decide_eq_false (by omega))).app (path_low (by omega))) ri_0_1_4
  · by_cases t1 : 32767 < zval ν zN
    · exact ri_calls w hk hd ((path_eq (decide_eq_false (by omega))).app (path_high (by omega) (by omega))) ri_0_1_5
    · by_cases t2 : zval ν zN = 0
      · by_cases s1 : zval ν zS < 0
        · exact ri_calls w hk hd ((path_eq (decide_eq_true (by omega))).app ((path_in (by omega) (by omega)).app (path_ge (decide_eq_false (by omega))))) ri_0_1_6
        · by_cases s2 : 7 < zval ν zS
          · exact ri_calls w hk hd ((path_eq (decide_eq_true (by omega))).app ((path_in (by omega) (by omega)).app ((path_ge (decide_eq_true (by omega))).app (path_ge (decide_eq_true (by omega)))))) ri_0_1_7
          · exact ri_calls w hk hd ((path_eq (decide_eq_true (by omega))).app ((path_in (by omega) (by omega)).app ((path_ge (decide_eq_true (by omega))).app (path_ge (decide_eq_false (by omega)))))) ri_0_1_8
      · by_cases s1 : zval ν zS < 0
        · exact ri_calls w hk hd ((path_eq (decide_eq_false (by omega))).app ((path_in (by omega) (by omega)).app (path_ge (decide_eq_false (by omega))))) ri_0_1_9
        · by_cases s2 : 7 < zval ν zS
          · exact ri_calls w hk hd ((path_eq (decide_eq_false (by omega))).app ((path_in (by omega) (by omega)).app ((path_ge (decide_eq_true (by omega))).app (path_ge (decide_eq_true (by omega)))))) ri_0_1_10
          · exact ri_calls w hk hd ((path_eq (decide_eq_false (by omega))).app ((path_in (by omega) (by omega)).app ((path_ge (decide_eq_true (by omega))).app (path_ge (decide_eq_false (by omega)))))) ri_0_1_11
theorem riK0_2 {ν : Nat → Int} (w : World) (hk : zval ν (lowZ 0 5) = 0) (hd : zval ν (lowZ 4 3) = 2) :
    Calls Try.prog 4 #[.int .i64 (ν 0), .int .i64 (ν 1), .int .i64 (ν 2), .int .i64 (ν 3), .int .i64 (ν 4), .int .i64 (ν 5)] w (fun e w' => e = .returned (.bool true) ∧ Below w.heap.size w w') := by
  have hL := zL_in (ν := ν)
  have hH := zH_in (ν := ν)
  by_cases t0 : zval ν zN < -32768
  · exact ri_calls w hk hd ((path_eq (decide_eq_false (by omega))).app (path_low (by omega))) ri_0_2_12
  · by_cases t1 : 32767 < zval ν zN
    · exact ri_calls w hk hd ((path_eq (decide_eq_false (by omega))).app (path_high (by omega) (by omega))) ri_0_2_13
    · by_cases t2 : zval ν zN = 0
      · by_cases s1 : zval ν zS < 0
        · exact ri_calls w hk hd ((path_eq (decide_eq_true (by omega))).app ((path_in (by omega) (by omega)).app (path_ge (decide_eq_false (by omega))))) ri_0_2_14
        · by_cases s2 : 7 < zval ν zS
          · exact ri_calls w hk hd ((path_eq (decide_eq_true (by omega))).app ((path_in (by omega) (by omega)).app ((path_ge (decide_eq_true (by omega))).app (path_ge (decide_eq_true (by omega)))))) ri_0_2_15
          · exact ri_calls w hk hd ((path_eq (decide_eq_true (by omega))).app ((path_in (by omega) (by omega)).app ((path_ge (decide_eq_true (by omega))).app (path_ge (decide_eq_false (by omega)))))) ri_0_2_16
      · by_cases s1 : zval ν zS < 0
        · exact ri_calls w hk hd ((path_eq (decide_eq_false (by omega))).app ((path_in (by omega) (by omega)).app (path_ge (decide_eq_false (by omega))))) ri_0_2_17
        · by_cases s2 : 7 < zval ν zS
          · exact ri_calls w hk hd ((path_eq (decide_eq_false (by omega))).app ((path_in (by omega) (by omega)).app ((path_ge (decide_eq_true (by omega))).app (path_ge (decide_eq_true (by omega)))))) ri_0_2_18
          · exact ri_calls w hk hd ((path_eq (decide_eq_false (by omega))).app ((path_in (by omega) (by omega)).app ((path_ge (decide_eq_true (by omega))).app (path_ge (decide_eq_false (by omega)))))) ri_0_2_19
end Go.Proofs.Ythfknhkjodgfmaa
