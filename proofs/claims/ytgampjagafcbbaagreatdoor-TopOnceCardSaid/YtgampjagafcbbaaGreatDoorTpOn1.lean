/- TopOnce, an interval of 1 digits. -/
import Derived.Test.YtgampjagafcbbaaGreatDoorTmOn1
import Derived.Test.YtgampjagafcbbaaGreatDoorTpOnS
import Derived.Test.YtgampjagafcbbaaGreatDoorTpOnF
namespace Go.Proofs.YtgampjagafcbbaaGreatDoor
set_option linter.unusedSimpArgs false
set_option linter.unusedVariables false
set_option linter.constructorNameAsVariable false
open Go Go.RowKit
open Ev
noncomputable def on1L : Lov := lovY (q 1018) onS0 [(20, .var 20), (30, .lit (0)), (60, .lit (0)), (62, .var 62)] 0 onE 1
set_option maxRecDepth 1000000 in
theorem on1_ev : okv (finX (lawX on1L TmOn1o7 on1P on1N 8 [.i .i64 (.var 0), .sy (q 999) (.lit 0) (.var 62)] start) (resOf 8)) = some (.b true) := by kernel_rfl
theorem on1 {ν : Nat → Int} (hf : OnD ν) (k0 : 0 ≤ ν 20 ∧ ν 20 < 10) (d10 : ν 10 = 48 + ν 20) (w : World) (hA : Tp.Asc w) {b c0 n0 ln : Nat} {tk : Nat → Int} {args : List Value} (hpb : b < w.heap.size) (hl : ν 62 = (ln : Int)) (hm : HasTicks w b c0 ln tk) (ha : VRs ν ((pl0 w [4]).put (bpOf 999) (b, c0, n0)) [.i .i64 (.var 0), .sy (q 999) (.lit 0) (.var 62)] args) : Calls Tryz.prog 8 args.toArray w (fun e w' => e = .returned (.bool true) ∧ Below w.heap.size w w') := by
  refine law_trueY (g := 8) (xs := [.i .i64 (.var 0), .sy (q 999) (.lit 0) (.var 62)]) (lov := on1L) (p := (b, c0, n0)) w hA (TmOn1g7 hf k0 d10) (on1P_ok hf k0 d10) (on1N_ok hf k0 d10) (show fnB 8 (len [V.i .i64 (.var 0), V.sy (q 999) (.lit 0) (.var 62)]) = true from on_fn) hpb (fun c1 hc => ?_) on1_ev ha
  rw [one_loop on_one c1 hc]
  obtain ⟨h20, b62, c62⟩ := hf
  obtain ⟨b0, c0⟩ := low_in (ν := ν) 0 20 (by decide) (by decide)
  refine told_loopY (S := onS) (F := onF (ν 20) ln tk) (mu := onMu) hA (law_gtY hA) (law_plY (by decide)) (fnB_ok on_fn).2.2.2.1 (by decide) on_slot law_yY hl hm rfl on_own (fun _ _ _ => sOv_good) (fun j ν' h => ?_) ⟨onNu (ν 20) ln tk 0 0 0 0, (eqs_cons (by show ν 20 = ν 20; omega) (eqs_cons (by show 0 = 0; omega) (eqs_cons (by show 0 = 0; omega) (eqs_cons (by show (ln : Int) = ν 62; omega) eqs_nil)))), onC_nu (by omega) (by omega) (by omega) (by omega) (by omega) (by omega) (by omega), (by show 0 < ν 20; omega)⟩ on_round
  cases j with
  | zero => obtain ⟨⟨h20, h62, h61, h63, h64, h66, h67, h68, b60, c60, _⟩, _⟩ := h; exact ⟨b60, h62, fun _ => h61⟩
  | succ j => obtain ⟨⟨h20, h62, h61, h63, h64, h66, h67, h68, b60, c60, _⟩, _⟩ := h; exact ⟨b60, h62, fun _ => h61⟩
end Go.Proofs.YtgampjagafcbbaaGreatDoor
