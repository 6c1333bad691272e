/- TopFors, up: it answers true. -/
import Derived.Test.YtoinghomkcjkcaaGreatDoorTmFo0
import Derived.Test.YtoinghomkcjkcaaGreatDoorTpFo0M
namespace Go.Proofs.YtoinghomkcjkcaaGreatDoor
set_option linter.unusedSimpArgs false
set_option linter.unusedVariables false
set_option linter.constructorNameAsVariable false
open Go Go.RowKit
open Ev
noncomputable def fo0Pl : List (Cd × Bool) := fo0P ++ [((.gtr, .var 20, .var 21), false), ((.eql, .var 50, .var 50), true), ((.eql, .var 51, .var 51), true)]
noncomputable def fo0Nl : List (Z × Z) := fo0N ++ [(.bin .sub .i64 (.conv .i64 (.bin .rem .u64 (.conv .u64 (.var 0)) (.lit (81)))) (.lit (40)), .var 20), (.bin .sub .i64 (.conv .i64 (.bin .rem .u64 (.conv .u64 (.var 1)) (.lit (81)))) (.lit (40)), .var 21), (.conv .i16 (.var 20), .var 20), (.conv .i64 (.var 20), .var 20), (.conv .i16 (.var 21), .var 21), (.conv .i64 (.var 21), .var 21)]
theorem fo0Pl_ok {ν : Nat → Int} (h22 : ν 22 = 1 + zval ν (lowZ 2 9)) (v23 : ν 23 = 0 - ν 22) (v24 : ν 24 = 32767 - ν 22) (v26 : ν 26 = ν 24 % 256) (d10 : ν 10 = 48 + ν 22) (h20 : ν 20 = zval ν (lowZ 0 81) - 40) (h21 : ν 21 = zval ν (lowZ 1 81) - 40) (c : ν 20 ≤ ν 21) : PathOk ν fo0Pl := by
  obtain ⟨b2, c2⟩ := low_in (ν := ν) 2 9 (by decide) (by decide)
  obtain ⟨b0, c0⟩ := low_in (ν := ν) 0 81 (by decide) (by decide)
  obtain ⟨b1, c1⟩ := low_in (ν := ν) 1 81 (by decide) (by decide)
  exact path_app (fo0P_ok h22 v23 v24 v26 d10) (path_cons (fc_gtf (by show ν 20 ≤ ν 21; omega)) (path_cons (fc_eq (by show ν 50 = ν 50; omega)) (path_cons (fc_eq (by show ν 51 = ν 51; omega)) path_nil)))
theorem fo0Nl_ok {ν : Nat → Int} (h22 : ν 22 = 1 + zval ν (lowZ 2 9)) (v23 : ν 23 = 0 - ν 22) (v24 : ν 24 = 32767 - ν 22) (v26 : ν 26 = ν 24 % 256) (d10 : ν 10 = 48 + ν 22) (h20 : ν 20 = zval ν (lowZ 0 81) - 40) (h21 : ν 21 = zval ν (lowZ 1 81) - 40) (c : ν 20 ≤ ν 21) : NormOk ν fo0Nl := by
  obtain ⟨b2, c2⟩ := low_in (ν := ν) 2 9 (by decide) (by decide)
  obtain ⟨b0, c0⟩ := low_in (ν := ν) 0 81 (by decide) (by decide)
  obtain ⟨b1, c1⟩ := low_in (ν := ν) 1 81 (by decide) (by decide)
  exact norm_app (fo0N_ok h22 v23 v24 v26 d10) (norm_consz (by rw [zbin, zlit]; show IntKind.i64.wrap (zval ν (lowZ 0 81) - 40) = ν 20; rw [IntKind.wrap_i64]; omega) (norm_consz (by rw [zbin, zlit]; show IntKind.i64.wrap (zval ν (lowZ 1 81) - 40) = ν 21; rw [IntKind.wrap_i64]; omega) (norm_consz (by rw [zconv]; show IntKind.i16.wrap (ν 20) = ν 20; rw [wrap16]; omega) (norm_consz (by rw [zconv]; show IntKind.i64.wrap (ν 20) = ν 20; rw [IntKind.wrap_i64]; omega) (norm_consz (by rw [zconv]; show IntKind.i16.wrap (ν 21) = ν 21; rw [wrap16]; omega) (norm_consz (by rw [zconv]; show IntKind.i64.wrap (ν 21) = ν 21; rw [IntKind.wrap_i64]; omega) norm_nil))))))
noncomputable def fo0L : Lov := lovN (q 1000) fo0S [(20, .var 20), (21, .var 21), (22, .var 22), (10, .var 10), (30, .lit 0), (31, .var 20)] (some 0) fo0E noLov
noncomputable def fr0L : Lov := lovN (q 1037) fr0S0 [(20, .var 20), (21, .var 21), (24, .var 24), (22, .var 22)] none fr0E noLov
noncomputable def fo0Ov : Ov := loopOv 46 fr0L sOv fo0Pl fo0Nl TmFo0o7
set_option maxRecDepth 1000000 in
theorem fo0_ev : okv (finX (lawX fo0L fo0Ov fo0Pl fo0Nl 4 [.i .i64 (.var 0), .i .i64 (.var 1), .i .i64 (.var 2), .b false] start) (resOf 4)) = some (.b true) := by kernel_rfl
set_option maxRecDepth 1000000 in
theorem fo0 {ν : Nat → Int} (h22 : ν 22 = 1 + zval ν (lowZ 2 9)) (v23 : ν 23 = 0 - ν 22) (v24 : ν 24 = 32767 - ν 22) (v26 : ν 26 = ν 24 % 256) (d10 : ν 10 = 48 + ν 22) (h20 : ν 20 = zval ν (lowZ 0 81) - 40) (h21 : ν 21 = zval ν (lowZ 1 81) - 40) (c : ν 20 ≤ ν 21) (w : World) (hA : Tp.Asc w) {args : List Value} (ha : VRs ν (pl0 w [4]) [.i .i64 (.var 0), .i .i64 (.var 1), .i .i64 (.var 2), .b false] args) (hr : ForR (fun x => x ≤ ν 21) (ν 22) 0 (ν 20) (ν 50) (ν 51)) (h52 : ν 52 = 9 + 5 * ν 50) : Calls Tryz.prog 4 args.toArray w (fun e w' => e = .returned (.bool true) ∧ Below w.heap.size w w') := by
  obtain ⟨b2, c2⟩ := low_in (ν := ν) 2 9 (by decide) (by decide)
  obtain ⟨b0, c0⟩ := low_in (ν := ν) 0 81 (by decide) (by decide)
  obtain ⟨b1, c1⟩ := low_in (ν := ν) 1 81 (by decide) (by decide)
  have hB : fo0B (ν 20) (ν 21) (ν 22) 0 (ν 20) := ⟨(by omega), (by omega), (by omega), (by omega), (by omega), (by omega), (by omega), (by omega)⟩
  have hg : OvGood ν fo0Ov := loopOv_good sOv_good (fo0Pl_ok h22 v23 v24 v26 d10 h20 h21 c) (fo0Nl_ok h22 v23 v24 v26 d10 h20 h21 c) (TmFo0g7 h22 v23 v24 v26 d10) (fun W hW c1 hc => by
    rw [one_loop fo_rone c1 hc]
    exact told_loopN (S := fr0S) (F := fr0F (ν 20) (ν 21) (ν 22) (ν 10) (ν 50) (ν 51)) (mu := fo0Mu) hW fo_rnt rfl (fun _ _ _ => sOv_good) ⟨(fo0Nu (ν 20) (ν 21) (ν 22) (ν 10) 0 (ν 20)), (eqs_cons (by show (ν 20 : Int) = ν 20; omega) (eqs_cons (by show (ν 21 : Int) = ν 21; omega) (eqs_cons (by show ((32767 - ν 22) : Int) = ν 24; omega) (eqs_cons (by show (ν 22 : Int) = ν 22; omega) eqs_nil)))), rfl, hr, hB⟩ (fr0_round rfl rfl rfl rfl h52) anyLov_ok)
  refine law_true (g := 4) (xs := [.i .i64 (.var 0), .i .i64 (.var 1), .i .i64 (.var 2), .b false]) (lov := fo0L) w hA hg (fo0Pl_ok h22 v23 v24 v26 d10 h20 h21 c) (fo0Nl_ok h22 v23 v24 v26 d10 h20 h21 c) (show fnB 4 (len [V.i .i64 (.var 0), V.i .i64 (.var 1), V.i .i64 (.var 2), V.b false]) = true from fo_fn) (fun c1 hc => ?_) fo0_ev ha
  rw [one_loop fo_one c1 hc]
  exact told_loopN (S := fun _ => fo0S) (F := fo0F (ν 20) (ν 21) (ν 22) (ν 10) (ν 50) (ν 51)) (mu := fo0Mu) (start_good hA) (fnB_ok fo_fn).2.2.2.1 rfl (fun _ _ _ => sOv_good) ⟨(fo0Nu (ν 20) (ν 21) (ν 22) (ν 10) 0 (ν 20)), (eqs_cons (by show (ν 20 : Int) = ν 20; omega) (eqs_cons (by show (ν 21 : Int) = ν 21; omega) (eqs_cons (by show (ν 22 : Int) = ν 22; omega) (eqs_cons (by show (ν 10 : Int) = ν 10; omega) (eqs_cons (by show (0 : Int) = 0; omega) (eqs_cons (by show (ν 20 : Int) = ν 20; omega) eqs_nil)))))), ⟨0, ν 20, rfl, hr, hB⟩⟩ (fo0_round rfl rfl rfl rfl rfl) anyLov_ok
end Go.Proofs.YtoinghomkcjkcaaGreatDoor
