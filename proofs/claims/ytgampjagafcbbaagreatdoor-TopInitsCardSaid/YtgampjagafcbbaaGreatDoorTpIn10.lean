/- TopInits, numbers of 1 and 0 digits. -/
import Derived.Test.YtgampjagafcbbaaGreatDoorTpMp
namespace Go.Proofs.YtgampjagafcbbaaGreatDoor
set_option linter.unusedSimpArgs false
set_option linter.unusedVariables false
set_option linter.constructorNameAsVariable false
open Go Go.RowKit
open Ev
noncomputable def in10P : List (Cd × Bool) := digP (.var 30) ++ [((.gtr, .var 20, .lit (9)), false), ((.gtr, .var 20, .lit (32768)), false), ((.geq, .var 20, .lit (-32768)), true), ((.leq, .var 20, .lit (32767)), true), ((.lss, .var 20, .lit (-32768)), false), ((.gtr, .var 20, .lit (32767)), false), ((.lss, .var 20, .lit (-2147483648)), false), ((.gtr, .var 20, .lit (2147483647)), false), ((.leq, .lit (0), .var 20), true), ((.lss, .var 20, .lit (256)), true), ((.eql, .var 20, .var 20), true), ((.neq, .var 20, .var 20), false)]
noncomputable def in10N : List (Z × Z) := [(.bin .rem .u64 (.conv .u64 (.var 1)) (.lit (30000)), .lit (0)), (.bin .rem .u64 (.conv .u64 (.var 0)) (.lit (30000)), .var 20), (.conv .i64 (.var 20), .var 20), (.bin .sub .u8 (.var 30) (.lit (48)), .var 20), (.bin .add .i64 (.lit (0)) (.var 20), .var 20), (.bin .shr .i64 (.var 20) (.lit (24)), .lit (0)), (.bin .shr .i64 (.var 20) (.lit (16)), .lit (0)), (.bin .shr .i64 (.var 20) (.lit (8)), .lit (0)), (.conv .u8 (.var 20), .var 20), (.bin .or .i64 (.lit (0)) (.var 20), .var 20), (.conv .i32 (.var 20), .var 20)]
set_option maxHeartbeats 4000000 in
theorem in10P_ok {ν : Nat → Int} (h20 : ν 20 = zval ν (lowZ 0 30000)) (h21 : ν 21 = zval ν (lowZ 1 30000)) (h22 : ν 22 = 0 - ν 21) (v27 : ν 27 = ν 20 / 256 % 256) (v28 : ν 28 = ν 20 % 256) (v29 : ν 29 = ν 22 / 256 % 256) (v23 : ν 23 = ν 22 % 256) (v48 : ν 48 = 16776960 + ν 29) (v49 : ν 49 = ν 48 * 256 + ν 23) (k0 : 0 ≤ ν 20 ∧ ν 20 < 10) (k1 : ν 21 = 0) (d30 : ν 30 = 48 + ν 20) : PathOk ν in10P := by
  obtain ⟨b0, c0⟩ := low_in (ν := ν) 0 30000 (by decide) (by decide)
  obtain ⟨b1, c1⟩ := low_in (ν := ν) 1 30000 (by decide) (by decide)
  exact (path_app (digP_ok (by show 48 ≤ ν 30; omega) (by show ν 30 ≤ 57; omega)) (path_cons (fc_gtf (by show ν 20 ≤ 9; omega)) (path_cons (fc_gtf (by show ν 20 ≤ 32768; omega)) (path_cons (fc_ge (by show (-32768) ≤ ν 20; omega)) (path_cons (fc_le (by show ν 20 ≤ 32767; omega)) (path_cons (fc_ltf (by show (-32768) ≤ ν 20; omega)) (path_cons (fc_gtf (by show ν 20 ≤ 32767; omega)) (path_cons (fc_ltf (by show (-2147483648) ≤ ν 20; omega)) (path_cons (fc_gtf (by show ν 20 ≤ 2147483647; omega)) (path_cons (fc_le (by show 0 ≤ ν 20; omega)) (path_cons (fc_lt (by show ν 20 < 256; omega)) (path_cons (fc_eq (by show ν 20 = ν 20; omega)) (path_cons (fc_nq (by show ν 20 = ν 20; omega)) path_nil)))))))))))))
set_option maxHeartbeats 4000000 in
theorem in10N_ok {ν : Nat → Int} (h20 : ν 20 = zval ν (lowZ 0 30000)) (h21 : ν 21 = zval ν (lowZ 1 30000)) (h22 : ν 22 = 0 - ν 21) (v27 : ν 27 = ν 20 / 256 % 256) (v28 : ν 28 = ν 20 % 256) (v29 : ν 29 = ν 22 / 256 % 256) (v23 : ν 23 = ν 22 % 256) (v48 : ν 48 = 16776960 + ν 29) (v49 : ν 49 = ν 48 * 256 + ν 23) (k0 : 0 ≤ ν 20 ∧ ν 20 < 10) (k1 : ν 21 = 0) (d30 : ν 30 = 48 + ν 20) : NormOk ν in10N := by
  obtain ⟨b0, c0⟩ := low_in (ν := ν) 0 30000 (by decide) (by decide)
  obtain ⟨b1, c1⟩ := low_in (ν := ν) 1 30000 (by decide) (by decide)
  exact (norm_consz ((low_rem 1 30000 (by decide) (by decide)).trans (h21.symm.trans k1)) (norm_consz ((low_rem 0 30000 (by decide) (by decide)).trans h20.symm) (norm_consz (by rw [zconv]; show IntKind.i64.wrap (ν 20) = ν 20; rw [IntKind.wrap_i64]; omega) (norm_consz (by rw [zbin]; show IntKind.u8.wrap (ν 30 - 48) = ν 20; rw [wrap_u8']; omega) (norm_consz (by rw [zbin]; show IntKind.i64.wrap (0 + ν 20) = ν 20; rw [IntKind.wrap_i64]; omega) (norm_consz (by rw [zbin, zlit]; show binVal .shr .i64 (ν 20) 24 = 0; rw [(shr_at _).2.2]; omega) (norm_consz (by rw [zbin, zlit]; show binVal .shr .i64 (ν 20) 16 = 0; rw [(shr_at _).2.1]; omega) (norm_consz (by rw [zbin, zlit]; show binVal .shr .i64 (ν 20) 8 = 0; rw [(shr_at _).1]; omega) (norm_consz (by rw [zconv]; show IntKind.u8.wrap (ν 20) = ν 20; rw [wrap_u8']; omega) (norm_consz (by rw [zbin, zlit]; exact or0_val _ (by show 0 ≤ ν 20; omega) (by show ν 20 < 9223372036854775808; omega)) (norm_consz (by rw [zconv]; show IntKind.i32.wrap (ν 20) = ν 20; rw [wrap_i32']; omega) norm_nil)))))))))))
noncomputable def in10D : Ov := decOv [(.var 20, [.var 30])] sOv
theorem in10D_good {ν : Nat → Int} (h20 : ν 20 = zval ν (lowZ 0 30000)) (h21 : ν 21 = zval ν (lowZ 1 30000)) (h22 : ν 22 = 0 - ν 21) (v27 : ν 27 = ν 20 / 256 % 256) (v28 : ν 28 = ν 20 % 256) (v29 : ν 29 = ν 22 / 256 % 256) (v23 : ν 23 = ν 22 % 256) (v48 : ν 48 = 16776960 + ν 29) (v49 : ν 49 = ν 48 * 256 + ν 23) (k0 : 0 ≤ ν 20 ∧ ν 20 < 10) (k1 : ν 21 = 0) (d30 : ν 30 = 48 + ν 20) : OvGood ν in10D := decOv_good (decok_cons (dn1_ok (by show 0 ≤ ν 20; omega) (by show ν 20 < 10; omega) d30) decok_nil) sOv_good
set_option maxRecDepth 1000000 in
theorem in10T_ev : okv (mEv in10D in10P in10N 9 [.i .i64 (.var 0), .i .i64 (.var 1), .b true] start) = some (.b true) := by kernel_rfl
set_option maxRecDepth 1000000 in
theorem in10F_ev : okv (mEv in10D in10P in10N 9 [.i .i64 (.var 0), .i .i64 (.var 1), .b false] start) = some (.b true) := by kernel_rfl
def in10Nv (ν : Nat → Int) : Nat → Int := fun n => match n with
  | 20 => zval ν (lowZ 0 30000) | 21 => zval ν (lowZ 1 30000) | 22 => 0 - zval ν (lowZ 1 30000) | 27 => zval ν (lowZ 0 30000) / 256 % 256 | 28 => zval ν (lowZ 0 30000) % 256 | 29 => (0 - zval ν (lowZ 1 30000)) / 256 % 256 | 23 => (0 - zval ν (lowZ 1 30000)) % 256 | 48 => 16776960 + (0 - zval ν (lowZ 1 30000)) / 256 % 256 | 49 => (16776960 + (0 - zval ν (lowZ 1 30000)) / 256 % 256) * 256 + (0 - zval ν (lowZ 1 30000)) % 256
  | 30 => 48 + zval ν (lowZ 0 30000)
  | n => ν n
theorem in10 (ν0 : Nat → Int) (yes : Bool) (w : World) (hA : Tp.Asc w) (k0 : 0 ≤ zval ν0 (lowZ 0 30000) ∧ zval ν0 (lowZ 0 30000) < 10) (k1 : zval ν0 (lowZ 1 30000) = 0) : Calls Tryz.prog 9 #[.int .i64 (ν0 0), .int .i64 (ν0 1), .bool yes] w (fun e w' => e = .returned (.bool true) ∧ Below w.heap.size w w') := by
  have hp : PathOk (in10Nv ν0) in10P := in10P_ok rfl rfl rfl rfl rfl rfl rfl rfl rfl k0 k1 rfl
  have hn : NormOk (in10Nv ν0) in10N := in10N_ok rfl rfl rfl rfl rfl rfl rfl rfl rfl k0 k1 rfl
  have hg : OvGood (in10Nv ν0) in10D := in10D_good rfl rfl rfl rfl rfl rfl rfl rfl rfl k0 k1 rfl
  cases yes with
  | true => exact tm_true w hA hg hp hn in10T_ev (args := [.int .i64 (ν0 0), .int .i64 (ν0 1), .bool true]) (by simp [VRs, VR, zval, in10Nv])
  | false => exact tm_true w hA hg hp hn in10F_ev (args := [.int .i64 (ν0 0), .int .i64 (ν0 1), .bool false]) (by simp [VRs, VR, zval, in10Nv])
end Go.Proofs.YtgampjagafcbbaaGreatDoor
