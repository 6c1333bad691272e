/- TopTimers, a time of 2 digits. -/
import Derived.Test.YtgampjagafcbbaaGreatDoorTmTi2
import Derived.Test.YtgampjagafcbbaaGreatDoorTpTiS
import Derived.Test.YtgampjagafcbbaaGreatDoorTpTiF
namespace Go.Proofs.YtgampjagafcbbaaGreatDoor
set_option linter.unusedSimpArgs false
set_option linter.unusedVariables false
set_option linter.constructorNameAsVariable false
open Go Go.RowKit
open Ev
noncomputable def ti2L : Lov := lovY (q 1021) tiS0 [(20, .var 20), (21, .var 21), (30, .lit (0)), (60, .lit (0)), (62, .var 62)] 0 tiE 2
set_option maxRecDepth 1000000 in
theorem ti2_ev : okv (finX (lawX ti2L TmTi2o7 ti2P ti2N 7 [.i .i64 (.var 0), .i .i64 (.var 1), .sy (q 999) (.lit 0) (.var 62)] start) (resOf 7)) = some (.b true) := by kernel_rfl
theorem ti2 {ν : Nat → Int} (hf : TiD ν) (k1 : 10 ≤ ν 21 ∧ ν 21 < 100) (d10 : ν 10 = 48 + ν 20) (d12 : ν 12 = 48 + ν 21 / 10) (d13 : ν 13 = 48 + ν 21 % 10) (d16 : ν 16 = ν 21 / 10) (d17 : ν 17 = ν 21 % 10) (w : World) (hA : Tp.Asc w) {b c0 n0 ln : Nat} {tk : Nat → Int} {args : List Value} (hpb : b < w.heap.size) (hl : ν 62 = (ln : Int)) (hm : HasTicks w b c0 ln tk) (ha : VRs ν ((pl0 w [4]).put (bpOf 999) (b, c0, n0)) [.i .i64 (.var 0), .i .i64 (.var 1), .sy (q 999) (.lit 0) (.var 62)] args) : Calls Tryz.prog 7 args.toArray w (fun e w' => e = .returned (.bool true) ∧ Below w.heap.size w w') := by
  refine law_trueY (g := 7) (xs := [.i .i64 (.var 0), .i .i64 (.var 1), .sy (q 999) (.lit 0) (.var 62)]) (lov := ti2L) (p := (b, c0, n0)) w hA (TmTi2g7 hf k1 d10 d12 d13 d16 d17) (ti2P_ok hf k1 d10 d12 d13 d16 d17) (ti2N_ok hf k1 d10 d12 d13 d16 d17) (show fnB 7 (len [V.i .i64 (.var 0), V.i .i64 (.var 1), V.sy (q 999) (.lit 0) (.var 62)]) = true from ti_fn) hpb (fun c1 hc => ?_) ti2_ev ha
  rw [one_loop ti_one c1 hc]
  obtain ⟨h20, h21, b62, c62⟩ := hf
  obtain ⟨b0, c0⟩ := low_in (ν := ν) 0 5 (by decide) (by decide)
  obtain ⟨b1, c1⟩ := low_in (ν := ν) 1 60 (by decide) (by decide)
  refine told_loopY (S := tiS) (F := tiF (ν 20) (ν 21) ln tk) (mu := tiMu) hA (law_gtY hA) (law_plY (by decide)) (fnB_ok ti_fn).2.2.2.1 (by decide) ti_slot law_yY hl hm rfl ti_own (fun _ _ _ => sOv_good) (fun j ν' h => ?_) ⟨tiNu (ν 20) (ν 21) ln tk 0 0 0 0, (eqs_cons (by show ν 20 = ν 20; omega) (eqs_cons (by show ν 21 = ν 21; omega) (eqs_cons (by show 0 = 0; omega) (eqs_cons (by show 0 = 0; omega) (eqs_cons (by show (ln : Int) = ν 62; omega) eqs_nil))))), tiC_nu (by omega) (by omega) (by omega) (by omega) (by omega) (by omega) (by omega) (by omega) (by omega), (by show 0 < ν 20; omega)⟩ ti_round
  have hc : tiC (ν 20) (ν 21) ln tk ν' := by
    match j, h with
    | 0, h => exact h.1
    | 1, h => exact h.1.1
    | _ + 2, h => exact h.1.1
  obtain ⟨h20, h21, h62, h61, h63, h64, h66, h67, h68, b60, c60, _⟩ := hc
  exact ⟨b60, h62, fun _ => h61⟩
end Go.Proofs.YtgampjagafcbbaaGreatDoor
