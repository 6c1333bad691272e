/- TopFors, down: it answers true. -/
import Derived.Test.YtoinghomkcjkcaaGreatDoorTmFo1
import Derived.Test.YtoinghomkcjkcaaGreatDoorTpFo1M
namespace Go.Proofs.YtoinghomkcjkcaaGreatDoor
set_option linter.unusedSimpArgs false
set_option linter.unusedVariables false
set_option linter.constructorNameAsVariable false
open Go Go.RowKit
open Ev
noncomputable def fo1Pl : List (Cd × Bool) := fo1P ++ [((.gtr, .var 20, .var 21), true), ((.eql, .var 50, .var 50), true), ((.eql, .var 51, .var 51), true)]
noncomputable def fo1Nl : List (Z × Z) := fo1N ++ [(.bin .sub .i64 (.conv .i64 (.bin .rem .u64 (.conv .u64 (.var 0)) (.lit (81)))) (.lit (40)), .var 20), (.bin .sub .i64 (.conv .i64 (.bin .rem .u64 (.conv .u64 (.var 1)) (.lit (81)))) (.lit (40)), .var 21), (.conv .i16 (.var 20), .var 20), (.conv .i64 (.var 20), .var 20), (.conv .i16 (.var 21), .var 21), (.conv .i64 (.var 21), .var 21)]
theorem fo1Pl_ok {ν : Nat → Int} (h22 : ν 22 = 1 + zval ν (lowZ 2 9)) (v23 : ν 23 = 0 - ν 22) (v24 : ν 24 = (-32768) + ν 22) (v27 : ν 27 = ν 23 % 256) (d10 : ν 10 = 48 + ν 22) (h20 : ν 20 = zval ν (lowZ 0 81) - 40) (h21 : ν 21 = zval ν (lowZ 1 81) - 40) (c : ν 21 < ν 20) : PathOk ν fo1Pl := by
  obtain ⟨b2, c2⟩ := low_in (ν := ν) 2 9 (by decide) (by decide)
  obtain ⟨b0, c0⟩ := low_in (ν := ν) 0 81 (by decide) (by decide)
  obtain ⟨b1, c1⟩ := low_in (ν := ν) 1 81 (by decide) (by decide)
  exact path_app (fo1P_ok h22 v23 v24 v27 d10) (path_cons (fc_gt (by show ν 21 < ν 20; omega)) (path_cons (fc_eq (by show ν 50 = ν 50; omega)) (path_cons (fc_eq (by show ν 51 = ν 51; omega)) path_nil)))
theorem fo1Nl_ok {ν : Nat → Int} (h22 : ν 22 = 1 + zval ν (lowZ 2 9)) (v23 : ν 23 = 0 - ν 22) (v24 : ν 24 = (-32768) + ν 22) (v27 : ν 27 = ν 23 % 256) (d10 : ν 10 = 48 + ν 22) (h20 : ν 20 = zval ν (lowZ 0 81) - 40) (h21 : ν 21 = zval ν (lowZ 1 81) - 40) (c : ν 21 < ν 20) : NormOk ν fo1Nl := by
  obtain ⟨b2, c2⟩ := low_in (ν := ν) 2 9 (by decide) (by decide)
  obtain ⟨b0, c0⟩ := low_in (ν := ν) 0 81 (by decide) (by decide)
  obtain ⟨b1, c1⟩ := low_in (ν := ν) 1 81 (by decide) (by decide)
  exact norm_app (fo1N_ok h22 v23 v24 v27 d10) (norm_consz (by rw [zbin, zlit]; show IntKind.i64.wrap (zval ν (lowZ 0 81) - 40) = ν 20; rw [IntKind.wrap_i64]; omega) (norm_consz (by rw [zbin, zlit]; show IntKind.i64.wrap (zval ν (lowZ 1 81) - 40) = ν 21; rw [IntKind.wrap_i64]; omega) (norm_consz (by rw [zconv]; show IntKind.i16.wrap (ν 20) = ν 20; rw [wrap16]; omega) (norm_consz (by rw [zconv]; show IntKind.i64.wrap (ν 20) = ν 20; rw [IntKind.wrap_i64]; omega) (norm_consz (by rw [zconv]; show IntKind.i16.wrap (ν 21) = ν 21; rw [wrap16]; omega) (norm_consz (by rw [zconv]; show IntKind.i64.wrap (ν 21) = ν 21; rw [IntKind.wrap_i64]; omega) norm_nil))))))
noncomputable def fo1L : Lov := lovN (q 1000) fo1S [(20, .var 20), (21, .var 21), (23, .var 23), (10, .var 10), (30, .lit 0), (31, .var 20)] (some 0) fo1E noLov
noncomputable def fr1L : Lov := lovN (q 1037) fr1S0 [(20, .var 20), (21, .var 21), (24, .var 24), (23, .var 23)] none fr1E noLov
noncomputable def fo1Ov : Ov := loopOv 46 fr1L sOv fo1Pl fo1Nl TmFo1o7
set_option maxRecDepth 1000000 in
theorem fo1_ev : okv (finX (lawX fo1L fo1Ov fo1Pl fo1Nl 4 [.i .i64 (.var 0), .i .i64 (.var 1), .i .i64 (.var 2), .b false] start) (resOf 4)) = some (.b true) := by kernel_rfl
set_option maxRecDepth 1000000 in
theorem fo1 {ν : Nat → Int} (h22 : ν 22 = 1 + zval ν (lowZ 2 9)) (v23 : ν 23 = 0 - ν 22) (v24 : ν 24 = (-32768) + ν 22) (v27 : ν 27 = ν 23 % 256) (d10 : ν 10 = 48 + ν 22) (h20 : ν 20 = zval ν (lowZ 0 81) - 40) (h21 : ν 21 = zval ν (lowZ 1 81) - 40) (c : ν 21 < ν 20) (w : World) (hA : Tp.Asc w) {args : List Value} (ha : VRs ν (pl0 w [4]) [.i .i64 (.var 0), .i .i64 (.var 1), .i .i64 (.var 2), .b false] args) (hr : ForR (fun x => ν 21 ≤ x) (0 - ν 22) 0 (ν 20) (ν 50) (ν 51)) (h52 : ν 52 = 9 + 5 * ν 50) : Calls Tryz.prog 4 args.toArray w (fun e w' => e = .returned (.bool true) ∧ Below w.heap.size w w') := by
  obtain ⟨b2, c2⟩ := low_in (ν := ν) 2 9 (by decide) (by decide)
  obtain ⟨b0, c0⟩ := low_in (ν := ν) 0 81 (by decide) (by decide)
  obtain ⟨b1, c1⟩ := low_in (ν := ν) 1 81 (by decide) (by decide)
  have hB : fo1B (ν 20) (ν 21) (ν 22) 0 (ν 20) := ⟨(by omega), (by omega), (by omega), (by omega), (by omega), (by omega), (by omega), (by omega)⟩
  have hg : OvGood ν fo1Ov := loopOv_good sOv_good (fo1Pl_ok h22 v23 v24 v27 d10 h20 h21 c) (fo1Nl_ok h22 v23 v24 v27 d10 h20 h21 c) (TmFo1g7 h22 v23 v24 v27 d10) (fun W hW c1 hc => by
    rw [one_loop fo_rone c1 hc]
    exact told_loopN (S := fr1S) (F := fr1F (ν 20) (ν 21) (ν 22) (ν 10) (ν 50) (ν 51)) (mu := fo1Mu) hW fo_rnt rfl (fun _ _ _ => sOv_good) ⟨(fo1Nu (ν 20) (ν 21) (ν 22) (ν 10) 0 (ν 20)), (eqs_cons (by show (ν 20 : Int) = ν 20; omega) (eqs_cons (by show (ν 21 : Int) = ν 21; omega) (eqs_cons (by show (((-32768) + ν 22) : Int) = ν 24; omega) (eqs_cons (by show (0 - ν 22 : Int) = ν 23; omega) eqs_nil)))), rfl, hr, hB⟩ (fr1_round rfl rfl rfl rfl h52) anyLov_ok)
  refine law_true (g := 4) (xs := [.i .i64 (.var 0), .i .i64 (.var 1), .i .i64 (.var 2), .b false]) (lov := fo1L) w hA hg (fo1Pl_ok h22 v23 v24 v27 d10 h20 h21 c) (fo1Nl_ok h22 v23 v24 v27 d10 h20 h21 c) (show fnB 4 (len [V.i .i64 (.var 0), V.i .i64 (.var 1), V.i .i64 (.var 2), V.b false]) = true from fo_fn) (fun c1 hc => ?_) fo1_ev ha
  rw [one_loop fo_one c1 hc]
  exact told_loopN (S := fun _ => fo1S) (F := fo1F (ν 20) (ν 21) (ν 22) (ν 10) (ν 50) (ν 51)) (mu := fo1Mu) (start_good hA) (fnB_ok fo_fn).2.2.2.1 rfl (fun _ _ _ => sOv_good) ⟨(fo1Nu (ν 20) (ν 21) (ν 22) (ν 10) 0 (ν 20)), (eqs_cons (by show (ν 20 : Int) = ν 20; omega) (eqs_cons (by show (ν 21 : Int) = ν 21; omega) (eqs_cons (by show (0 - ν 22 : Int) = ν 23; omega) (eqs_cons (by show (ν 10 : Int) = ν 10; omega) (eqs_cons (by show (0 : Int) = 0; omega) (eqs_cons (by show (ν 20 : Int) = ν 20; omega) eqs_nil)))))), ⟨0, ν 20, rfl, hr, hB⟩⟩ (fo1_round rfl rfl rfl rfl rfl) anyLov_ok
end Go.Proofs.YtoinghomkcjkcaaGreatDoor
