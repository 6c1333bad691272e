/- TopOrder: what is known of its numbers. -/
import Derived.Test.YtmdhaelmblmldaaGreatDoorTpMp
namespace Go.Proofs.YtmdhaelmblmldaaGreatDoor
set_option linter.unusedSimpArgs false
set_option linter.unusedVariables false
set_option linter.constructorNameAsVariable false
open Go Go.RowKit
open Ev
/-- The numbers and their digits, named. -/
structure OrF (ν : Nat → Int) : Prop where
  h20 : ν 20 = zval ν (lowZ 0 10)
  h21 : ν 21 = zval ν (lowZ 1 10)
  h22 : ν 22 = 1 + zval ν (lowZ 2 9)
  h23 : ν 23 = 1 + zval ν (lowZ 3 9)
  h24 : ν 24 = zval ν (lowZ 4 20)
  d10 : ν 10 = 48 + ν 22
  d11 : ν 11 = 48 + ν 20
  d12 : ν 12 = 48 + ν 23
  d13 : ν 13 = 48 + ν 21
noncomputable def orP : List (Cd × Bool) := digP (.var 10) ++ digP (.var 11) ++ digP (.var 12) ++ digP (.var 13) ++ smallP (.var 20) ++ smallP (.var 21) ++ smallP (.var 22) ++ smallP (.var 23) ++ smallP (.var 24) ++ [((.gtr, .var 22, .lit (9)), false), ((.gtr, .var 20, .lit (9)), false), ((.gtr, .var 23, .lit (9)), false), ((.gtr, .var 21, .lit (9)), false), ((.lss, .var 22, .lit (1)), false), ((.gtr, .var 22, .lit (100)), false), ((.lss, .var 23, .lit (1)), false), ((.gtr, .var 23, .lit (100)), false), ((.gtr, .lit (0), .var 24), false), ((.lss, .lit (1000), .var 24), false), ((.geq, .var 22, .lit (1)), true), ((.eql, .var 22, .lit (0)), false), ((.geq, .var 23, .lit (1)), true), ((.eql, .var 23, .lit (0)), false)]
noncomputable def orN : List (Z × Z) := [(.bin .rem .u64 (.conv .u64 (.var 0)) (.lit (10)), .var 20), (.bin .rem .u64 (.conv .u64 (.var 1)) (.lit (10)), .var 21), (.bin .add .i64 (.lit (1)) (.conv .i64 (.bin .rem .u64 (.conv .u64 (.var 2)) (.lit (9)))), .var 22), (.bin .add .i64 (.lit (1)) (.conv .i64 (.bin .rem .u64 (.conv .u64 (.var 3)) (.lit (9)))), .var 23), (.bin .rem .u64 (.conv .u64 (.var 4)) (.lit (20)), .var 24), (.bin .sub .u8 (.var 10) (.lit (48)), .var 22), (.bin .sub .u8 (.var 11) (.lit (48)), .var 20), (.bin .sub .u8 (.var 12) (.lit (48)), .var 23), (.bin .sub .u8 (.var 13) (.lit (48)), .var 21), (.bin .quo .i64 (.lit (0)) (.var 22), .lit (0)), (.bin .quo .i64 (.lit (0)) (.var 23), .lit (0))] ++ smallN (.var 20) ++ smallN (.var 21) ++ smallN (.var 22) ++ smallN (.var 23) ++ smallN (.var 24)
theorem orP_ok {ν : Nat → Int} (h : OrF ν) : PathOk ν orP := by
  obtain ⟨h20, h21, h22, h23, h24, d10, d11, d12, d13⟩ := h
  obtain ⟨b0, c0⟩ := low_in (ν := ν) 0 10 (by decide) (by decide)
  obtain ⟨b1, c1⟩ := low_in (ν := ν) 1 10 (by decide) (by decide)
  obtain ⟨b2, c2⟩ := low_in (ν := ν) 2 9 (by decide) (by decide)
  obtain ⟨b3, c3⟩ := low_in (ν := ν) 3 9 (by decide) (by decide)
  obtain ⟨b4, c4⟩ := low_in (ν := ν) 4 20 (by decide) (by decide)
  exact (path_app (path_app (path_app (path_app (path_app (path_app (path_app (path_app (path_app (digP_ok (by show 48 ≤ ν 10; omega) (by show ν 10 ≤ 57; omega)) (digP_ok (by show 48 ≤ ν 11; omega) (by show ν 11 ≤ 57; omega))) (digP_ok (by show 48 ≤ ν 12; omega) (by show ν 12 ≤ 57; omega))) (digP_ok (by show 48 ≤ ν 13; omega) (by show ν 13 ≤ 57; omega))) (smallP_ok (by show 0 ≤ ν 20; omega) (by show ν 20 < 256; omega))) (smallP_ok (by show 0 ≤ ν 21; omega) (by show ν 21 < 256; omega))) (smallP_ok (by show 0 ≤ ν 22; omega) (by show ν 22 < 256; omega))) (smallP_ok (by show 0 ≤ ν 23; omega) (by show ν 23 < 256; omega))) (smallP_ok (by show 0 ≤ ν 24; omega) (by show ν 24 < 256; omega))) (path_cons (fc_gtf (by show ν 22 ≤ 9; omega)) (path_cons (fc_gtf (by show ν 20 ≤ 9; omega)) (path_cons (fc_gtf (by show ν 23 ≤ 9; omega)) (path_cons (fc_gtf (by show ν 21 ≤ 9; omega)) (path_cons (fc_ltf (by show 1 ≤ ν 22; omega)) (path_cons (fc_gtf (by show ν 22 ≤ 100; omega)) (path_cons (fc_ltf (by show 1 ≤ ν 23; omega)) (path_cons (fc_gtf (by show ν 23 ≤ 100; omega)) (path_cons (fc_gtf (by show 0 ≤ ν 24; omega)) (path_cons (fc_ltf (by show ν 24 ≤ 1000; omega)) (path_cons (fc_ge (by show 1 ≤ ν 22; omega)) (path_cons (fc_ne (by show ν 22 ≠ 0; omega)) (path_cons (fc_ge (by show 1 ≤ ν 23; omega)) (path_cons (fc_ne (by show ν 23 ≠ 0; omega)) path_nil)))))))))))))))
theorem orN_ok {ν : Nat → Int} (h : OrF ν) : NormOk ν orN := by
  obtain ⟨h20, h21, h22, h23, h24, d10, d11, d12, d13⟩ := h
  obtain ⟨b0, c0⟩ := low_in (ν := ν) 0 10 (by decide) (by decide)
  obtain ⟨b1, c1⟩ := low_in (ν := ν) 1 10 (by decide) (by decide)
  obtain ⟨b2, c2⟩ := low_in (ν := ν) 2 9 (by decide) (by decide)
  obtain ⟨b3, c3⟩ := low_in (ν := ν) 3 9 (by decide) (by decide)
  obtain ⟨b4, c4⟩ := low_in (ν := ν) 4 20 (by decide) (by decide)
  exact (norm_app (norm_app (norm_app (norm_app (norm_app (norm_consz ((low_rem 0 10 (by decide) (by decide)).trans h20.symm) (norm_consz ((low_rem 1 10 (by decide) (by decide)).trans h21.symm) (norm_consz (by rw [zbin, zlit]; show IntKind.i64.wrap (1 + zval ν (lowZ 2 9)) = ν 22; rw [IntKind.wrap_i64]; omega) (norm_consz (by rw [zbin, zlit]; show IntKind.i64.wrap (1 + zval ν (lowZ 3 9)) = ν 23; rw [IntKind.wrap_i64]; omega) (norm_consz ((low_rem 4 20 (by decide) (by decide)).trans h24.symm) (norm_consz (by rw [zbin, zlit]; show IntKind.u8.wrap (ν 10 - 48) = ν 22; rw [wrap_u8']; omega) (norm_consz (by rw [zbin, zlit]; show IntKind.u8.wrap (ν 11 - 48) = ν 20; rw [wrap_u8']; omega) (norm_consz (by rw [zbin, zlit]; show IntKind.u8.wrap (ν 12 - 48) = ν 23; rw [wrap_u8']; omega) (norm_consz (by rw [zbin, zlit]; show IntKind.u8.wrap (ν 13 - 48) = ν 21; rw [wrap_u8']; omega) (norm_consz (quo_zero (by rw [zlit]; decide) (by show 0 < ν 22; omega) (by rw [zlit]; decide)) (norm_consz (quo_zero (by rw [zlit]; decide) (by show 0 < ν 23; omega) (by rw [zlit]; decide)) norm_nil))))))))))) (smallN_ok (by show 0 ≤ ν 20; omega) (by show ν 20 < 256; omega))) (smallN_ok (by show 0 ≤ ν 21; omega) (by show ν 21 < 256; omega))) (smallN_ok (by show 0 ≤ ν 22; omega) (by show ν 22 < 256; omega))) (smallN_ok (by show 0 ≤ ν 23; omega) (by show ν 23 < 256; omega))) (smallN_ok (by show 0 ≤ ν 24; omega) (by show ν 24 < 256; omega)))
noncomputable def orD : Ov := decOv [(.var 20, [.var 11]), (.var 21, [.var 13]), (.var 22, [.var 10]), (.var 23, [.var 12])] sOv
theorem orD_good {ν : Nat → Int} (h : OrF ν) : OvGood ν orD := by
  obtain ⟨h20, h21, h22, h23, h24, d10, d11, d12, d13⟩ := h
  obtain ⟨b0, c0⟩ := low_in (ν := ν) 0 10 (by decide) (by decide)
  obtain ⟨b1, c1⟩ := low_in (ν := ν) 1 10 (by decide) (by decide)
  obtain ⟨b2, c2⟩ := low_in (ν := ν) 2 9 (by decide) (by decide)
  obtain ⟨b3, c3⟩ := low_in (ν := ν) 3 9 (by decide) (by decide)
  obtain ⟨b4, c4⟩ := low_in (ν := ν) 4 20 (by decide) (by decide)
  exact decOv_good (decok_cons (dec1_ok (by show 0 ≤ ν 20; omega) (by show ν 20 < 10; omega) d11) (decok_cons (dec1_ok (by show 0 ≤ ν 21; omega) (by show ν 21 < 10; omega) d13) (decok_cons (dec1_ok (by show 0 ≤ ν 22; omega) (by show ν 22 < 10; omega) d10) (decok_cons (dec1_ok (by show 0 ≤ ν 23; omega) (by show ν 23 < 10; omega) d12) decok_nil)))) sOv_good
end Go.Proofs.YtmdhaelmblmldaaGreatDoor
