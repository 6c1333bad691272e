/- TopRanges, numbers of 1 and 1 digits: what is known. -/
import Derived.Test.YtgampjagafcbbaaGreatDoorTpRgP
namespace Go.Proofs.YtgampjagafcbbaaGreatDoor
set_option linter.unusedSimpArgs false
set_option linter.unusedVariables false
set_option linter.constructorNameAsVariable false
open Go Go.RowKit
open Ev
noncomputable def rg11P : List (Cd × Bool) := digP (.var 30) ++ digP (.var 40) ++ smallP (.var 20) ++ smallP (.var 21) ++ [((.gtr, .var 20, .lit (9)), false), ((.gtr, .var 21, .lit (9)), false), ((.geq, .var 20, .lit (-32768)), true), ((.leq, .var 21, .lit (32767)), true), ((.leq, .var 20, .var 21), true), ((.geq, .var 20, .var 20), true), ((.geq, .var 20, .lit (0)), true), ((.leq, .var 20, .lit (10000)), true), ((.geq, .var 21, .lit (0)), true), ((.leq, .var 21, .lit (10000)), true), ((.geq, .var 21, .lit (-32768)), true), ((.leq, .var 20, .lit (32767)), true), ((.lss, .var 20, .lit (-32768)), false), ((.gtr, .var 20, .lit (32767)), false)]
noncomputable def rg11N : List (Z × Z) := [(.bin .rem .u64 (.conv .u64 (.var 0)) (.lit (100)), .var 20), (.bin .sub .i64 (.conv .i64 (.bin .rem .u64 (.conv .u64 (.var 2)) (.lit (400)))) (.lit (100)), .var 22), (.bin .add .i64 (.var 20) (.conv .i64 (.bin .rem .u64 (.conv .u64 (.var 1)) (.lit (100)))), .var 21), (.bin .sub .u8 (.var 30) (.lit (48)), .var 20), (.bin .sub .u8 (.var 40) (.lit (48)), .var 21), (.conv .i16 (.var 22), .var 22), (.conv .i64 (.var 22), .var 22)] ++ smallN (.var 20) ++ smallN (.var 21)
theorem rg11P_ok {ν : Nat → Int} (hf : RgF ν) (k0 : 0 ≤ ν 20 ∧ ν 20 < 10) (k1 : 0 ≤ ν 21 ∧ ν 21 < 10) (d30 : ν 30 = 48 + ν 20) (d40 : ν 40 = 48 + ν 21) : PathOk ν rg11P := by
  obtain ⟨h20, h21, h22⟩ := hf
  obtain ⟨b0, c0⟩ := low_in (ν := ν) 0 100 (by decide) (by decide)
  obtain ⟨b1, c1⟩ := low_in (ν := ν) 1 100 (by decide) (by decide)
  obtain ⟨b2, c2⟩ := low_in (ν := ν) 2 400 (by decide) (by decide)
  exact (path_app (path_app (path_app (path_app (digP_ok (by show 48 ≤ ν 30; omega) (by show ν 30 ≤ 57; omega)) (digP_ok (by show 48 ≤ ν 40; omega) (by show ν 40 ≤ 57; omega))) (smallP_ok (by show 0 ≤ ν 20; omega) (by show ν 20 < 256; omega))) (smallP_ok (by show 0 ≤ ν 21; omega) (by show ν 21 < 256; omega))) (path_cons (fc_gtf (by show ν 20 ≤ 9; omega)) (path_cons (fc_gtf (by show ν 21 ≤ 9; omega)) (path_cons (fc_ge (by show (-32768) ≤ ν 20; omega)) (path_cons (fc_le (by show ν 21 ≤ 32767; omega)) (path_cons (fc_le (by show ν 20 ≤ ν 21; omega)) (path_cons (fc_ge (by show ν 20 ≤ ν 20; omega)) (path_cons (fc_ge (by show 0 ≤ ν 20; omega)) (path_cons (fc_le (by show ν 20 ≤ 10000; omega)) (path_cons (fc_ge (by show 0 ≤ ν 21; omega)) (path_cons (fc_le (by show ν 21 ≤ 10000; omega)) (path_cons (fc_ge (by show (-32768) ≤ ν 21; omega)) (path_cons (fc_le (by show ν 20 ≤ 32767; omega)) (path_cons (fc_ltf (by show (-32768) ≤ ν 20; omega)) (path_cons (fc_gtf (by show ν 20 ≤ 32767; omega)) path_nil)))))))))))))))
theorem rg11N_ok {ν : Nat → Int} (hf : RgF ν) (k0 : 0 ≤ ν 20 ∧ ν 20 < 10) (k1 : 0 ≤ ν 21 ∧ ν 21 < 10) (d30 : ν 30 = 48 + ν 20) (d40 : ν 40 = 48 + ν 21) : NormOk ν rg11N := by
  obtain ⟨h20, h21, h22⟩ := hf
  obtain ⟨b0, c0⟩ := low_in (ν := ν) 0 100 (by decide) (by decide)
  obtain ⟨b1, c1⟩ := low_in (ν := ν) 1 100 (by decide) (by decide)
  obtain ⟨b2, c2⟩ := low_in (ν := ν) 2 400 (by decide) (by decide)
  exact (norm_app (norm_app (norm_consz ((low_rem 0 100 (by decide) (by decide)).trans h20.symm) (norm_consz (by rw [zbin, zlit]; show IntKind.i64.wrap (zval ν (lowZ 2 400) - 100) = ν 22; rw [IntKind.wrap_i64]; omega) (norm_consz (by rw [zbin]; show IntKind.i64.wrap (ν 20 + zval ν (lowZ 1 100)) = ν 21; rw [IntKind.wrap_i64]; omega) (norm_consz (by rw [zbin]; show IntKind.u8.wrap (ν 30 - 48) = ν 20; rw [wrap_u8']; omega) (norm_consz (by rw [zbin]; show IntKind.u8.wrap (ν 40 - 48) = ν 21; rw [wrap_u8']; omega) (norm_consz (by rw [zconv]; show IntKind.i16.wrap (ν 22) = ν 22; rw [wrap16]; omega) (norm_consz (by rw [zconv]; show IntKind.i64.wrap (ν 22) = ν 22; rw [IntKind.wrap_i64]; omega) norm_nil))))))) (smallN_ok (by show 0 ≤ ν 20; omega) (by show ν 20 < 256; omega))) (smallN_ok (by show 0 ≤ ν 21; omega) (by show ν 21 < 256; omega)))
noncomputable def rg11D : Ov := decOv [(.var 20, [.var 30]), (.var 21, [.var 40])] sOv
theorem rg11D_good {ν : Nat → Int} (hf : RgF ν) (k0 : 0 ≤ ν 20 ∧ ν 20 < 10) (k1 : 0 ≤ ν 21 ∧ ν 21 < 10) (d30 : ν 30 = 48 + ν 20) (d40 : ν 40 = 48 + ν 21) : OvGood ν rg11D := decOv_good (decok_cons (dec1_ok (by show 0 ≤ ν 20; omega) (by show ν 20 < 10; omega) d30) (decok_cons (dec1_ok (by show 0 ≤ ν 21; omega) (by show ν 21 < 10; omega) d40) decok_nil)) sOv_good
end Go.Proofs.YtgampjagafcbbaaGreatDoor
