/- TopOrder: way 4. -/
import Derived.Test.YtmdhaelmblmldaaGreatDoorTmOr
namespace Go.Proofs.YtmdhaelmblmldaaGreatDoor
set_option linter.unusedSimpArgs false
set_option linter.unusedVariables false
set_option linter.constructorNameAsVariable false
open Go Go.RowKit
open Ev
set_option maxRecDepth 1000000 in
theorem or4_ev : okv (mEv TmOro7 ([((.geq, .var 24, .var 22), false), ((.geq, .var 24, .var 23), true), ((.gtr, .bin .quo .i64 (.var 24) (.var 22), .lit (0)), false), ((.gtr, .bin .quo .i64 (.var 24) (.var 23), .lit (0)), true)] ++ orP) ([(.bin .quo .i64 (.var 24) (.var 22), .lit (0)), (.bin .sub .i64 (.var 24) (.lit (0)), .var 24)] ++ orN) 11 [.i .i64 (.var 0), .i .i64 (.var 1), .i .i64 (.var 2), .i .i64 (.var 3), .i .i64 (.var 4)] start) = some (.b true) := by kernel_rfl
theorem or4 {ν : Nat → Int} (h : OrF ν) (w : World) (hA : Tp.Asc w) (e1 : ν 24 < ν 22) (e2 : ν 23 ≤ ν 24) : Calls Tryz.prog 11 #[.int .i64 (ν 0), .int .i64 (ν 1), .int .i64 (ν 2), .int .i64 (ν 3), .int .i64 (ν 4)] w (fun e w' => e = .returned (.bool true) ∧ Below w.heap.size w w') := by
  have hp := orP_ok h
  have hn := orN_ok h
  have hg := TmOrg7 h
  obtain ⟨h20, h21, h22, h23, h24, d10, d11, d12, d13⟩ := h
  obtain ⟨b0, c0⟩ := low_in (ν := ν) 0 10 (by decide) (by decide)
  obtain ⟨b1, c1⟩ := low_in (ν := ν) 1 10 (by decide) (by decide)
  obtain ⟨b2, c2⟩ := low_in (ν := ν) 2 9 (by decide) (by decide)
  obtain ⟨b3, c3⟩ := low_in (ν := ν) 3 9 (by decide) (by decide)
  obtain ⟨b4, c4⟩ := low_in (ν := ν) 4 20 (by decide) (by decide)
  have hp2 : PathOk ν ([((.geq, .var 24, .var 22), false), ((.geq, .var 24, .var 23), true), ((.gtr, .bin .quo .i64 (.var 24) (.var 22), .lit (0)), false), ((.gtr, .bin .quo .i64 (.var 24) (.var 23), .lit (0)), true)] ++ orP) := path_app (path_cons (fc_gef (by show ν 24 < ν 22; omega)) (path_cons (fc_ge (by show ν 23 ≤ ν 24; omega)) (path_cons (fc_gtf (by rw [quo_zero (by show 0 ≤ ν 24; omega) (by show ν 24 < ν 22; omega) (by show ν 24 < 1000000; omega), zlit]; omega)) (path_cons (fc_gt (b := .lit 0) (quo_pos (by show 0 < ν 23; omega) (by show ν 23 ≤ ν 24; omega) (by show ν 24 < 1000000; omega))) path_nil)))) hp
  have hn2 : NormOk ν ([(.bin .quo .i64 (.var 24) (.var 22), .lit (0)), (.bin .sub .i64 (.var 24) (.lit (0)), .var 24)] ++ orN) := norm_app (norm_consz (quo_zero (by show 0 ≤ ν 24; omega) (by show ν 24 < ν 22; omega) (by show ν 24 < 1000000; omega)) (norm_consz (by rw [zbin, zlit]; show IntKind.i64.wrap (ν 24 - 0) = ν 24; rw [IntKind.wrap_i64]; omega) norm_nil)) hn
  exact tm_true w hA hg hp2 hn2 or4_ev (args := [.int .i64 (ν 0), .int .i64 (ν 1), .int .i64 (ν 2), .int .i64 (ν 3), .int .i64 (ν 4)]) (by simp [VRs, VR, zval])
end Go.Proofs.YtmdhaelmblmldaaGreatDoor
