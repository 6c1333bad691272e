/- TopTimers, a time of 2 digits: what is known. -/
import Derived.Test.YtgampjagafcbbaaGreatDoorTpTiP
namespace Go.Proofs.YtgampjagafcbbaaGreatDoor
set_option linter.unusedSimpArgs false
set_option linter.unusedVariables false
set_option linter.constructorNameAsVariable false
open Go Go.RowKit
open Ev
noncomputable def ti2P : List (Cd × Bool) := digP (.var 10) ++ digP (.var 12) ++ digP (.var 13) ++ smallP (.var 20) ++ smallP (.var 21) ++ [((.gtr, .var 62, .lit (40)), false), ((.gtr, .var 16, .lit (9)), false), ((.gtr, .var 17, .lit (9)), false), ((.gtr, .var 20, .lit (9)), false), ((.lss, .var 20, .lit (1)), false), ((.gtr, .var 20, .lit (100)), false), ((.geq, .var 21, .lit (0)), true), ((.leq, .var 21, .lit (10000)), true), ((.geq, .var 21, .lit (-32768)), true), ((.leq, .var 21, .lit (32767)), true)]
noncomputable def ti2N : List (Z × Z) := [(.bin .add .i64 (.lit (1)) (.conv .i64 (.bin .rem .u64 (.conv .u64 (.var 0)) (.lit (5)))), .var 20), (.bin .add .i64 (.lit (1)) (.conv .i64 (.bin .rem .u64 (.conv .u64 (.var 1)) (.lit (60)))), .var 21), (.bin .sub .u8 (.var 12) (.lit (48)), .var 16), (.conv .i64 (.var 16), .var 16), (.bin .add .i64 (.lit (0)) (.var 16), .var 16), (.bin .sub .u8 (.var 13) (.lit (48)), .var 17), (.conv .i64 (.var 17), .var 17), (.bin .add .i64 (.bin .mul .i64 (.var 16) (.lit (10))) (.var 17), .var 21), (.bin .sub .u8 (.var 10) (.lit (48)), .var 20), (.conv .i16 (.var 21), .var 21)] ++ smallN (.var 20) ++ smallN (.var 21)
set_option maxHeartbeats 4000000 in
theorem ti2P_ok {ν : Nat → Int} (hf : TiD ν) (k1 : 10 ≤ ν 21 ∧ ν 21 < 100) (d10 : ν 10 = 48 + ν 20) (d12 : ν 12 = 48 + ν 21 / 10) (d13 : ν 13 = 48 + ν 21 % 10) (d16 : ν 16 = ν 21 / 10) (d17 : ν 17 = ν 21 % 10) : PathOk ν ti2P := by
  obtain ⟨h20, h21, b62, c62⟩ := hf
  obtain ⟨b0, c0⟩ := low_in (ν := ν) 0 5 (by decide) (by decide)
  obtain ⟨b1, c1⟩ := low_in (ν := ν) 1 60 (by decide) (by decide)
  exact (path_app (path_app (path_app (path_app (path_app (digP_ok (by show 48 ≤ ν 10; omega) (by show ν 10 ≤ 57; omega)) (digP_ok (by show 48 ≤ ν 12; omega) (by show ν 12 ≤ 57; omega))) (digP_ok (by show 48 ≤ ν 13; omega) (by show ν 13 ≤ 57; omega))) (smallP_ok (by show 0 ≤ ν 20; omega) (by show ν 20 < 256; omega))) (smallP_ok (by show 0 ≤ ν 21; omega) (by show ν 21 < 256; omega))) (path_cons (fc_gtf (by show ν 62 ≤ 40; omega)) (path_cons (fc_gtf (by show ν 16 ≤ 9; omega)) (path_cons (fc_gtf (by show ν 17 ≤ 9; omega)) (path_cons (fc_gtf (by show ν 20 ≤ 9; omega)) (path_cons (fc_ltf (by show 1 ≤ ν 20; omega)) (path_cons (fc_gtf (by show ν 20 ≤ 100; omega)) (path_cons (fc_ge (by show 0 ≤ ν 21; omega)) (path_cons (fc_le (by show ν 21 ≤ 10000; omega)) (path_cons (fc_ge (by show (-32768) ≤ ν 21; omega)) (path_cons (fc_le (by show ν 21 ≤ 32767; omega)) path_nil)))))))))))
set_option maxHeartbeats 4000000 in
theorem ti2N_ok {ν : Nat → Int} (hf : TiD ν) (k1 : 10 ≤ ν 21 ∧ ν 21 < 100) (d10 : ν 10 = 48 + ν 20) (d12 : ν 12 = 48 + ν 21 / 10) (d13 : ν 13 = 48 + ν 21 % 10) (d16 : ν 16 = ν 21 / 10) (d17 : ν 17 = ν 21 % 10) : NormOk ν ti2N := by
  obtain ⟨h20, h21, b62, c62⟩ := hf
  obtain ⟨b0, c0⟩ := low_in (ν := ν) 0 5 (by decide) (by decide)
  obtain ⟨b1, c1⟩ := low_in (ν := ν) 1 60 (by decide) (by decide)
  exact (norm_app (norm_app (norm_consz (by rw [zbin, zlit]; show IntKind.i64.wrap (1 + zval ν (lowZ 0 5)) = ν 20; rw [IntKind.wrap_i64]; omega) (norm_consz (by rw [zbin, zlit]; show IntKind.i64.wrap (1 + zval ν (lowZ 1 60)) = ν 21; rw [IntKind.wrap_i64]; omega) (norm_consz (by rw [zbin]; show IntKind.u8.wrap (ν 12 - 48) = ν 16; rw [wrap_u8']; omega) (norm_consz (by rw [zconv]; show IntKind.i64.wrap (ν 16) = ν 16; rw [IntKind.wrap_i64]; omega) (norm_consz (by rw [zbin]; show IntKind.i64.wrap (0 + ν 16) = ν 16; rw [IntKind.wrap_i64]; omega) (norm_consz (by rw [zbin]; show IntKind.u8.wrap (ν 13 - 48) = ν 17; rw [wrap_u8']; omega) (norm_consz (by rw [zconv]; show IntKind.i64.wrap (ν 17) = ν 17; rw [IntKind.wrap_i64]; omega) (norm_consz (by simp only [zbin, zconv, zlit, zvar, binVal, IntKind.wrap_i64, IntKind.wrap_u64, wrap_u8', wrap16, wrap_i32']; omega) (norm_consz (by rw [zbin]; show IntKind.u8.wrap (ν 10 - 48) = ν 20; rw [wrap_u8']; omega) (norm_consz (by rw [zconv]; show IntKind.i16.wrap (ν 21) = ν 21; rw [wrap16]; omega) norm_nil)))))))))) (smallN_ok (by show 0 ≤ ν 20; omega) (by show ν 20 < 256; omega))) (smallN_ok (by show 0 ≤ ν 21; omega) (by show ν 21 < 256; omega)))
noncomputable def ti2D : Ov := decOv [(.var 20, [.var 10]), (.var 21, [.var 12, .var 13])] sOv
theorem ti2D_good {ν : Nat → Int} (hf : TiD ν) (k1 : 10 ≤ ν 21 ∧ ν 21 < 100) (d10 : ν 10 = 48 + ν 20) (d12 : ν 12 = 48 + ν 21 / 10) (d13 : ν 13 = 48 + ν 21 % 10) (d16 : ν 16 = ν 21 / 10) (d17 : ν 17 = ν 21 % 10) : OvGood ν ti2D := by
  obtain ⟨h20, h21, b62, c62⟩ := hf
  obtain ⟨b0, c0⟩ := low_in (ν := ν) 0 5 (by decide) (by decide)
  obtain ⟨b1, c1⟩ := low_in (ν := ν) 1 60 (by decide) (by decide)
  exact decOv_good (decok_cons (dec1_ok (by show 0 ≤ ν 20; omega) (by show ν 20 < 10; omega) d10) (decok_cons (dec2_ok (by show 10 ≤ ν 21; omega) (by show ν 21 < 100; omega) d12 d13) decok_nil)) sOv_good
end Go.Proofs.YtgampjagafcbbaaGreatDoor
