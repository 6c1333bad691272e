/- TopOnce, an interval of 1 digits: what is known. -/
import Derived.Test.YtgampjagafcbbaaGreatDoorTpOnP
namespace Go.Proofs.YtgampjagafcbbaaGreatDoor
set_option linter.unusedSimpArgs false
set_option linter.unusedVariables false
set_option linter.constructorNameAsVariable false
open Go Go.RowKit
open Ev
noncomputable def on1P : List (Cd × Bool) := digP (.var 10) ++ smallP (.var 20) ++ [((.gtr, .var 62, .lit (40)), false), ((.gtr, .var 20, .lit (9)), false), ((.lss, .var 20, .lit (1)), false), ((.gtr, .var 20, .lit (100)), false)]
noncomputable def on1N : List (Z × Z) := [(.bin .add .i64 (.lit (1)) (.conv .i64 (.bin .rem .u64 (.conv .u64 (.var 0)) (.lit (20)))), .var 20), (.bin .sub .u8 (.var 10) (.lit (48)), .var 20)] ++ smallN (.var 20)
set_option maxHeartbeats 4000000 in
theorem on1P_ok {ν : Nat → Int} (hf : OnD ν) (k0 : 0 ≤ ν 20 ∧ ν 20 < 10) (d10 : ν 10 = 48 + ν 20) : PathOk ν on1P := by
  obtain ⟨h20, b62, c62⟩ := hf
  obtain ⟨b0, c0⟩ := low_in (ν := ν) 0 20 (by decide) (by decide)
  exact (path_app (path_app (digP_ok (by show 48 ≤ ν 10; omega) (by show ν 10 ≤ 57; omega)) (smallP_ok (by show 0 ≤ ν 20; omega) (by show ν 20 < 256; omega))) (path_cons (fc_gtf (by show ν 62 ≤ 40; omega)) (path_cons (fc_gtf (by show ν 20 ≤ 9; omega)) (path_cons (fc_ltf (by show 1 ≤ ν 20; omega)) (path_cons (fc_gtf (by show ν 20 ≤ 100; omega)) path_nil)))))
set_option maxHeartbeats 4000000 in
theorem on1N_ok {ν : Nat → Int} (hf : OnD ν) (k0 : 0 ≤ ν 20 ∧ ν 20 < 10) (d10 : ν 10 = 48 + ν 20) : NormOk ν on1N := by
  obtain ⟨h20, b62, c62⟩ := hf
  obtain ⟨b0, c0⟩ := low_in (ν := ν) 0 20 (by decide) (by decide)
  exact (norm_app (norm_consz (by rw [zbin, zlit]; show IntKind.i64.wrap (1 + zval ν (lowZ 0 20)) = ν 20; rw [IntKind.wrap_i64]; omega) (norm_consz (by rw [zbin]; show IntKind.u8.wrap (ν 10 - 48) = ν 20; rw [wrap_u8']; omega) norm_nil)) (smallN_ok (by show 0 ≤ ν 20; omega) (by show ν 20 < 256; omega)))
noncomputable def on1D : Ov := decOv [(.var 20, [.var 10])] sOv
theorem on1D_good {ν : Nat → Int} (hf : OnD ν) (k0 : 0 ≤ ν 20 ∧ ν 20 < 10) (d10 : ν 10 = 48 + ν 20) : OvGood ν on1D := decOv_good (decok_cons (dec1_ok (by show 0 ≤ ν 20; omega) (by show ν 20 < 10; omega) d10) decok_nil) sOv_good
end Go.Proofs.YtgampjagafcbbaaGreatDoor
