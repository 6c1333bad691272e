/- TopOnce, an interval of 2 digits: what is known. -/
import Derived.Test.YtgampjagafcbbaaGreatDoorTpOnP
namespace Go.Proofs.YtgampjagafcbbaaGreatDoor
set_option linter.unusedSimpArgs false
set_option linter.unusedVariables false
set_option linter.constructorNameAsVariable false
open Go Go.RowKit
open Ev
noncomputable def on2P : List (Cd × Bool) := digP (.var 10) ++ digP (.var 11) ++ smallP (.var 20) ++ [((.gtr, .var 62, .lit (40)), false), ((.gtr, .var 14, .lit (9)), false), ((.gtr, .var 15, .lit (9)), false), ((.lss, .var 20, .lit (1)), false), ((.gtr, .var 20, .lit (100)), false)]
noncomputable def on2N : List (Z × Z) := [(.bin .add .i64 (.lit (1)) (.conv .i64 (.bin .rem .u64 (.conv .u64 (.var 0)) (.lit (20)))), .var 20), (.bin .sub .u8 (.var 10) (.lit (48)), .var 14), (.conv .i64 (.var 14), .var 14), (.bin .add .i64 (.lit (0)) (.var 14), .var 14), (.bin .sub .u8 (.var 11) (.lit (48)), .var 15), (.conv .i64 (.var 15), .var 15), (.bin .add .i64 (.bin .mul .i64 (.var 14) (.lit (10))) (.var 15), .var 20)] ++ smallN (.var 20)
set_option maxHeartbeats 4000000 in
theorem on2P_ok {ν : Nat → Int} (hf : OnD ν) (k0 : 10 ≤ ν 20 ∧ ν 20 < 100) (d10 : ν 10 = 48 + ν 20 / 10) (d11 : ν 11 = 48 + ν 20 % 10) (d14 : ν 14 = ν 20 / 10) (d15 : ν 15 = ν 20 % 10) : PathOk ν on2P := by
  obtain ⟨h20, b62, c62⟩ := hf
  obtain ⟨b0, c0⟩ := low_in (ν := ν) 0 20 (by decide) (by decide)
  exact (path_app (path_app (path_app (digP_ok (by show 48 ≤ ν 10; omega) (by show ν 10 ≤ 57; omega)) (digP_ok (by show 48 ≤ ν 11; omega) (by show ν 11 ≤ 57; omega))) (smallP_ok (by show 0 ≤ ν 20; omega) (by show ν 20 < 256; omega))) (path_cons (fc_gtf (by show ν 62 ≤ 40; omega)) (path_cons (fc_gtf (by show ν 14 ≤ 9; omega)) (path_cons (fc_gtf (by show ν 15 ≤ 9; omega)) (path_cons (fc_ltf (by show 1 ≤ ν 20; omega)) (path_cons (fc_gtf (by show ν 20 ≤ 100; omega)) path_nil))))))
set_option maxHeartbeats 4000000 in
theorem on2N_ok {ν : Nat → Int} (hf : OnD ν) (k0 : 10 ≤ ν 20 ∧ ν 20 < 100) (d10 : ν 10 = 48 + ν 20 / 10) (d11 : ν 11 = 48 + ν 20 % 10) (d14 : ν 14 = ν 20 / 10) (d15 : ν 15 = ν 20 % 10) : NormOk ν on2N := by
  obtain ⟨h20, b62, c62⟩ := hf
  obtain ⟨b0, c0⟩ := low_in (ν := ν) 0 20 (by decide) (by decide)
  exact (norm_app (norm_consz (by rw [zbin, zlit]; show IntKind.i64.wrap (1 + zval ν (lowZ 0 20)) = ν 20; rw [IntKind.wrap_i64]; omega) (norm_consz (by rw [zbin]; show IntKind.u8.wrap (ν 10 - 48) = ν 14; rw [wrap_u8']; omega) (norm_consz (by rw [zconv]; show IntKind.i64.wrap (ν 14) = ν 14; rw [IntKind.wrap_i64]; omega) (norm_consz (by rw [zbin]; show IntKind.i64.wrap (0 + ν 14) = ν 14; rw [IntKind.wrap_i64]; omega) (norm_consz (by rw [zbin]; show IntKind.u8.wrap (ν 11 - 48) = ν 15; rw [wrap_u8']; omega) (norm_consz (by rw [zconv]; show IntKind.i64.wrap (ν 15) = ν 15; rw [IntKind.wrap_i64]; omega) (norm_consz (by simp only [zbin, zconv, zlit, zvar, binVal, IntKind.wrap_i64, IntKind.wrap_u64, wrap_u8', wrap16, wrap_i32']; omega) norm_nil))))))) (smallN_ok (by show 0 ≤ ν 20; omega) (by show ν 20 < 256; omega)))
noncomputable def on2D : Ov := decOv [(.var 20, [.var 10, .var 11])] sOv
theorem on2D_good {ν : Nat → Int} (hf : OnD ν) (k0 : 10 ≤ ν 20 ∧ ν 20 < 100) (d10 : ν 10 = 48 + ν 20 / 10) (d11 : ν 11 = 48 + ν 20 % 10) (d14 : ν 14 = ν 20 / 10) (d15 : ν 15 = ν 20 % 10) : OvGood ν on2D := decOv_good (decok_cons (dec2_ok (by show 10 ≤ ν 20; omega) (by show ν 20 < 100; omega) d10 d11) decok_nil) sOv_good
end Go.Proofs.YtgampjagafcbbaaGreatDoor
