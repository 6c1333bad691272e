/- TopLoops, numbers of 1 and 1 digits: what is known. -/
import Derived.Test.YtoinghomkcjkcaaGreatDoorTpMp
namespace Go.Proofs.YtoinghomkcjkcaaGreatDoor
set_option linter.unusedSimpArgs false
set_option linter.unusedVariables false
set_option linter.constructorNameAsVariable false
open Go Go.RowKit
open Ev
noncomputable def lp11P : List (Cd × Bool) := digP (.var 10) ++ digP (.var 12) ++ smallP (.var 20) ++ smallP (.var 21) ++ [((.gtr, .var 20, .lit (9)), false), ((.gtr, .var 21, .lit (9)), false), ((.geq, .var 20, .lit (0)), true), ((.leq, .var 20, .lit (10000)), true), ((.geq, .var 20, .lit (-32768)), true), ((.leq, .var 20, .lit (32767)), true), ((.geq, .var 21, .lit (0)), true), ((.leq, .var 21, .lit (10000)), true), ((.geq, .var 21, .lit (-32768)), true), ((.leq, .var 21, .lit (32767)), true)]
noncomputable def lp11N : List (Z × Z) := [(.bin .rem .u64 (.conv .u64 (.var 0)) (.lit (12)), .var 20), (.bin .rem .u64 (.conv .u64 (.var 1)) (.lit (12)), .var 21), (.bin .sub .u8 (.var 10) (.lit (48)), .var 20), (.bin .sub .u8 (.var 12) (.lit (48)), .var 21), (.conv .i16 (.var 20), .var 20), (.conv .i16 (.var 21), .var 21)] ++ smallN (.var 20) ++ smallN (.var 21)
set_option maxHeartbeats 4000000 in
theorem lp11P_ok {ν : Nat → Int} (h20 : ν 20 = zval ν (lowZ 0 12)) (h21 : ν 21 = zval ν (lowZ 1 12)) (k0 : 0 ≤ ν 20 ∧ ν 20 < 10) (k1 : 0 ≤ ν 21 ∧ ν 21 < 10) (d10 : ν 10 = 48 + ν 20) (d12 : ν 12 = 48 + ν 21) : PathOk ν lp11P := by
  obtain ⟨b0, c0⟩ := low_in (ν := ν) 0 12 (by decide) (by decide)
  obtain ⟨b1, c1⟩ := low_in (ν := ν) 1 12 (by decide) (by decide)
  exact (path_app (path_app (path_app (path_app (digP_ok (by show 48 ≤ ν 10; omega) (by show ν 10 ≤ 57; omega)) (digP_ok (by show 48 ≤ ν 12; omega) (by show ν 12 ≤ 57; omega))) (smallP_ok (by show 0 ≤ ν 20; omega) (by show ν 20 < 256; omega))) (smallP_ok (by show 0 ≤ ν 21; omega) (by show ν 21 < 256; omega))) (path_cons (fc_gtf (by show ν 20 ≤ 9; omega)) (path_cons (fc_gtf (by show ν 21 ≤ 9; omega)) (path_cons (fc_ge (by show 0 ≤ ν 20; omega)) (path_cons (fc_le (by show ν 20 ≤ 10000; omega)) (path_cons (fc_ge (by show (-32768) ≤ ν 20; omega)) (path_cons (fc_le (by show ν 20 ≤ 32767; omega)) (path_cons (fc_ge (by show 0 ≤ ν 21; omega)) (path_cons (fc_le (by show ν 21 ≤ 10000; omega)) (path_cons (fc_ge (by show (-32768) ≤ ν 21; omega)) (path_cons (fc_le (by show ν 21 ≤ 32767; omega)) path_nil)))))))))))
set_option maxHeartbeats 4000000 in
theorem lp11N_ok {ν : Nat → Int} (h20 : ν 20 = zval ν (lowZ 0 12)) (h21 : ν 21 = zval ν (lowZ 1 12)) (k0 : 0 ≤ ν 20 ∧ ν 20 < 10) (k1 : 0 ≤ ν 21 ∧ ν 21 < 10) (d10 : ν 10 = 48 + ν 20) (d12 : ν 12 = 48 + ν 21) : NormOk ν lp11N := by
  obtain ⟨b0, c0⟩ := low_in (ν := ν) 0 12 (by decide) (by decide)
  obtain ⟨b1, c1⟩ := low_in (ν := ν) 1 12 (by decide) (by decide)
  exact (norm_app (norm_app (norm_consz ((low_rem 0 12 (by decide) (by decide)).trans h20.symm) (norm_consz ((low_rem 1 12 (by decide) (by decide)).trans h21.symm) (norm_consz (by rw [zbin]; show IntKind.u8.wrap (ν 10 - 48) = ν 20; rw [wrap_u8']; omega) (norm_consz (by rw [zbin]; show IntKind.u8.wrap (ν 12 - 48) = ν 21; rw [wrap_u8']; omega) (norm_consz (by rw [zconv]; show IntKind.i16.wrap (ν 20) = ν 20; rw [wrap16]; omega) (norm_consz (by rw [zconv]; show IntKind.i16.wrap (ν 21) = ν 21; rw [wrap16]; omega) norm_nil)))))) (smallN_ok (by show 0 ≤ ν 20; omega) (by show ν 20 < 256; omega))) (smallN_ok (by show 0 ≤ ν 21; omega) (by show ν 21 < 256; omega)))
noncomputable def lp11D : Ov := decOv [(.var 20, [.var 10]), (.var 21, [.var 12])] sOv
theorem lp11D_good {ν : Nat → Int} (h20 : ν 20 = zval ν (lowZ 0 12)) (h21 : ν 21 = zval ν (lowZ 1 12)) (k0 : 0 ≤ ν 20 ∧ ν 20 < 10) (k1 : 0 ≤ ν 21 ∧ ν 21 < 10) (d10 : ν 10 = 48 + ν 20) (d12 : ν 12 = 48 + ν 21) : OvGood ν lp11D := decOv_good (decok_cons (dec1_ok (by show 0 ≤ ν 20; omega) (by show ν 20 < 10; omega) d10) (decok_cons (dec1_ok (by show 0 ≤ ν 21; omega) (by show ν 21 < 10; omega) d12) decok_nil)) sOv_good
end Go.Proofs.YtoinghomkcjkcaaGreatDoor
