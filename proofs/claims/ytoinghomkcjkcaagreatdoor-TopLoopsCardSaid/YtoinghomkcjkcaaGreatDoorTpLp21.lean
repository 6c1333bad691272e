/- TopLoops, numbers of 2 and 1 digits: it answers true. -/
import Derived.Test.YtoinghomkcjkcaaGreatDoorTmLp21
import Derived.Test.YtoinghomkcjkcaaGreatDoorTpLpS
namespace Go.Proofs.YtoinghomkcjkcaaGreatDoor
set_option linter.unusedSimpArgs false
set_option linter.unusedVariables false
set_option linter.constructorNameAsVariable false
open Go Go.RowKit
open Ev
noncomputable def lp21aP : List (Cd × Bool) := lp21P ++ [((.eql, .var 54, .var 54), true)]
noncomputable def lp21aN : List (Z × Z) := lp21N ++ [(.bin .rem .u64 (.conv .u64 (.var 2)) (.lit (40)), .lit (0)), (.bin .mul .i64 (.var 20) (.var 21), .var 50), (.bin .mul .i64 (.var 50) (.lit (100)), .var 55), (.bin .sub .i64 (.var 55) (.lit (1)), .var 54)]
theorem lp21aP_ok {ν : Nat → Int} (h20 : ν 20 = zval ν (lowZ 0 12)) (h21 : ν 21 = zval ν (lowZ 1 12)) (k0 : 10 ≤ ν 20 ∧ ν 20 < 100) (k1 : 0 ≤ ν 21 ∧ ν 21 < 10) (d10 : ν 10 = 48 + ν 20 / 10) (d11 : ν 11 = 48 + ν 20 % 10) (d12 : ν 12 = 48 + ν 21) (d14 : ν 14 = ν 20 / 10) (d15 : ν 15 = ν 20 % 10) (h22 : ν 22 = zval ν (lowZ 2 40)) (h50 : ν 20 * ν 21 = ν 50) (b50 : 0 ≤ ν 50) (c50 : ν 50 ≤ 121) (h55 : ν 55 = ν 50 * 100) (h56 : ν 56 = 2 * ν 22) (h54 : ν 54 = ν 50 * 100 - 1) (h52 : ν 52 = 311 + 11 * ν 20 + 14 * ν 50) (c : ν 22 < 1) : PathOk ν lp21aP := by
  obtain ⟨b0, c0⟩ := low_in (ν := ν) 0 12 (by decide) (by decide)
  obtain ⟨b1, c1⟩ := low_in (ν := ν) 1 12 (by decide) (by decide)
  obtain ⟨b2, e2⟩ := low_in (ν := ν) 2 40 (by decide) (by decide)
  exact path_app (lp21P_ok h20 h21 k0 k1 d10 d11 d12 d14 d15) (path_cons (fc_eq (by show ν 54 = ν 54; omega)) path_nil)
theorem lp21aN_ok {ν : Nat → Int} (h20 : ν 20 = zval ν (lowZ 0 12)) (h21 : ν 21 = zval ν (lowZ 1 12)) (k0 : 10 ≤ ν 20 ∧ ν 20 < 100) (k1 : 0 ≤ ν 21 ∧ ν 21 < 10) (d10 : ν 10 = 48 + ν 20 / 10) (d11 : ν 11 = 48 + ν 20 % 10) (d12 : ν 12 = 48 + ν 21) (d14 : ν 14 = ν 20 / 10) (d15 : ν 15 = ν 20 % 10) (h22 : ν 22 = zval ν (lowZ 2 40)) (h50 : ν 20 * ν 21 = ν 50) (b50 : 0 ≤ ν 50) (c50 : ν 50 ≤ 121) (h55 : ν 55 = ν 50 * 100) (h56 : ν 56 = 2 * ν 22) (h54 : ν 54 = ν 50 * 100 - 1) (h52 : ν 52 = 311 + 11 * ν 20 + 14 * ν 50) (c : ν 22 < 1) : NormOk ν lp21aN := by
  obtain ⟨b0, c0⟩ := low_in (ν := ν) 0 12 (by decide) (by decide)
  obtain ⟨b1, c1⟩ := low_in (ν := ν) 1 12 (by decide) (by decide)
  obtain ⟨b2, e2⟩ := low_in (ν := ν) 2 40 (by decide) (by decide)
  exact norm_app (lp21N_ok h20 h21 k0 k1 d10 d11 d12 d14 d15) (norm_consz ((low_rem 2 40 (by decide) (by decide)).trans (by show zval ν (lowZ 2 40) = 0; omega)) (norm_consz (by rw [zbin]; show IntKind.i64.wrap (ν 20 * ν 21) = ν 50; rw [h50, IntKind.wrap_i64]; omega) (norm_consz (by rw [zbin]; show IntKind.i64.wrap (ν 50 * 100) = ν 55; rw [IntKind.wrap_i64]; omega) (norm_consz (by rw [zbin]; show IntKind.i64.wrap (ν 55 - 1) = ν 54; rw [IntKind.wrap_i64]; omega) norm_nil))))
noncomputable def lp21aL : Lov := lovN (q 1048) lpS0 [(22, .lit (0)), (20, .var 20), (21, .var 21)] none lpE noLov
noncomputable def lp21aOv : Ov := loopOv 46 lp21aL sOv lp21aP lp21aN TmLp21o7
set_option maxRecDepth 1000000 in
theorem lp21a_ev : okv (finX (lawX noLov lp21aOv lp21aP lp21aN 5 [.i .i64 (.var 0), .i .i64 (.var 1), .i .i64 (.var 2)] start) (resOf 5)) = some (.b true) := by kernel_rfl
set_option maxRecDepth 1000000 in
theorem lp21a {ν : Nat → Int} (h20 : ν 20 = zval ν (lowZ 0 12)) (h21 : ν 21 = zval ν (lowZ 1 12)) (k0 : 10 ≤ ν 20 ∧ ν 20 < 100) (k1 : 0 ≤ ν 21 ∧ ν 21 < 10) (d10 : ν 10 = 48 + ν 20 / 10) (d11 : ν 11 = 48 + ν 20 % 10) (d12 : ν 12 = 48 + ν 21) (d14 : ν 14 = ν 20 / 10) (d15 : ν 15 = ν 20 % 10) (h22 : ν 22 = zval ν (lowZ 2 40)) (h50 : ν 20 * ν 21 = ν 50) (b50 : 0 ≤ ν 50) (c50 : ν 50 ≤ 121) (h55 : ν 55 = ν 50 * 100) (h56 : ν 56 = 2 * ν 22) (h54 : ν 54 = ν 50 * 100 - 1) (h52 : ν 52 = 311 + 11 * ν 20 + 14 * ν 50) (c : ν 22 < 1) (w : World) (hA : Tp.Asc w) {args : List Value} (ha : VRs ν (pl0 w [4]) [.i .i64 (.var 0), .i .i64 (.var 1), .i .i64 (.var 2)] args) : Calls Tryz.prog 5 args.toArray w (fun e w' => e = .returned (.bool true) ∧ Below w.heap.size w w') := by
  obtain ⟨b0, c0⟩ := low_in (ν := ν) 0 12 (by decide) (by decide)
  obtain ⟨b1, c1⟩ := low_in (ν := ν) 1 12 (by decide) (by decide)
  obtain ⟨b2, e2⟩ := low_in (ν := ν) 2 40 (by decide) (by decide)
  have hg : OvGood ν lp21aOv := loopOv_good sOv_good (lp21aP_ok h20 h21 k0 k1 d10 d11 d12 d14 d15 h22 h50 b50 c50 h55 h56 h54 h52 c) (lp21aN_ok h20 h21 k0 k1 d10 d11 d12 d14 d15 h22 h50 b50 c50 h55 h56 h54 h52 c) (TmLp21g7 h20 h21 k0 k1 d10 d11 d12 d14 d15) (fun W hW c1 hc => by
    rw [one_loop lp_rone c1 hc]
    exact told_loopN (S := lpS) (F := lpF (ν 20) (ν 21) (ν 22)) (mu := lpMu) hW lp_rnt rfl (fun _ _ _ => sOv_good) ⟨lpNu (ν 20) (ν 21) (ν 22) 1 0 0 0 1 0, (eqs_cons (by show ν 22 = 0; omega) (eqs_cons (by show ν 20 = ν 20; omega) (eqs_cons (by show ν 21 = ν 21; omega) eqs_nil))), rfl, (by omega), (by omega), (by omega), (by omega), (by omega), (by omega)⟩ (lp_round (o := ν 20) (i := ν 21) (p := ν 22) (fun h => absurd h (by omega)) (fun _ => ⟨by rw [h50]; exact h54, by rw [h50]; exact h52⟩)) anyLov_ok)
  exact law_true (g := 5) (xs := [.i .i64 (.var 0), .i .i64 (.var 1), .i .i64 (.var 2)]) (lov := noLov) w hA hg (lp21aP_ok h20 h21 k0 k1 d10 d11 d12 d14 d15 h22 h50 b50 c50 h55 h56 h54 h52 c) (lp21aN_ok h20 h21 k0 k1 d10 d11 d12 d14 d15 h22 h50 b50 c50 h55 h56 h54 h52 c) (show fnB 5 (len [V.i .i64 (.var 0), V.i .i64 (.var 1), V.i .i64 (.var 2)]) = true from lp_fn) (fun c1 hc => anyLov_ok) lp21a_ev ha
noncomputable def lp21bP : List (Cd × Bool) := lp21P ++ [((.geq, .var 22, .lit (1)), true), ((.leq, .var 22, .lit (21)), true), ((.eql, .var 54, .var 54), true)]
noncomputable def lp21bN : List (Z × Z) := lp21N ++ [(.bin .rem .u64 (.conv .u64 (.var 2)) (.lit (40)), .var 22), (.conv .i64 (.var 22), .var 22), (.conv .i16 (.var 22), .var 22), (.bin .mul .i64 (.var 20) (.var 21), .var 50), (.bin .mul .i64 (.var 50) (.lit (100)), .var 55), (.bin .mul .i64 (.lit (2)) (.var 22), .var 56), (.bin .add .i64 (.var 55) (.var 56), .var 54)]
theorem lp21bP_ok {ν : Nat → Int} (h20 : ν 20 = zval ν (lowZ 0 12)) (h21 : ν 21 = zval ν (lowZ 1 12)) (k0 : 10 ≤ ν 20 ∧ ν 20 < 100) (k1 : 0 ≤ ν 21 ∧ ν 21 < 10) (d10 : ν 10 = 48 + ν 20 / 10) (d11 : ν 11 = 48 + ν 20 % 10) (d12 : ν 12 = 48 + ν 21) (d14 : ν 14 = ν 20 / 10) (d15 : ν 15 = ν 20 % 10) (h22 : ν 22 = zval ν (lowZ 2 40)) (h50 : ν 20 * ν 21 = ν 50) (b50 : 0 ≤ ν 50) (c50 : ν 50 ≤ 121) (h55 : ν 55 = ν 50 * 100) (h56 : ν 56 = 2 * ν 22) (h54 : ν 54 = ν 50 * 100 + 2 * ν 22) (h52 : ν 52 = 13 + 11 * ν 20 + 14 * ν 50 + 14 * ν 22) (c : 1 ≤ ν 22) (c2 : ν 22 ≤ 21) : PathOk ν lp21bP := by
  obtain ⟨b0, c0⟩ := low_in (ν := ν) 0 12 (by decide) (by decide)
  obtain ⟨b1, c1⟩ := low_in (ν := ν) 1 12 (by decide) (by decide)
  obtain ⟨b2, e2⟩ := low_in (ν := ν) 2 40 (by decide) (by decide)
  exact path_app (lp21P_ok h20 h21 k0 k1 d10 d11 d12 d14 d15) (path_cons (fc_ge (by show 1 ≤ ν 22; omega)) (path_cons (fc_le (by show ν 22 ≤ 21; omega)) (path_cons (fc_eq (by show ν 54 = ν 54; omega)) path_nil)))
theorem lp21bN_ok {ν : Nat → Int} (h20 : ν 20 = zval ν (lowZ 0 12)) (h21 : ν 21 = zval ν (lowZ 1 12)) (k0 : 10 ≤ ν 20 ∧ ν 20 < 100) (k1 : 0 ≤ ν 21 ∧ ν 21 < 10) (d10 : ν 10 = 48 + ν 20 / 10) (d11 : ν 11 = 48 + ν 20 % 10) (d12 : ν 12 = 48 + ν 21) (d14 : ν 14 = ν 20 / 10) (d15 : ν 15 = ν 20 % 10) (h22 : ν 22 = zval ν (lowZ 2 40)) (h50 : ν 20 * ν 21 = ν 50) (b50 : 0 ≤ ν 50) (c50 : ν 50 ≤ 121) (h55 : ν 55 = ν 50 * 100) (h56 : ν 56 = 2 * ν 22) (h54 : ν 54 = ν 50 * 100 + 2 * ν 22) (h52 : ν 52 = 13 + 11 * ν 20 + 14 * ν 50 + 14 * ν 22) (c : 1 ≤ ν 22) (c2 : ν 22 ≤ 21) : NormOk ν lp21bN := by
  obtain ⟨b0, c0⟩ := low_in (ν := ν) 0 12 (by decide) (by decide)
  obtain ⟨b1, c1⟩ := low_in (ν := ν) 1 12 (by decide) (by decide)
  obtain ⟨b2, e2⟩ := low_in (ν := ν) 2 40 (by decide) (by decide)
  exact norm_app (lp21N_ok h20 h21 k0 k1 d10 d11 d12 d14 d15) (norm_consz ((low_rem 2 40 (by decide) (by decide)).trans h22.symm) (norm_consz (by rw [zconv]; show IntKind.i64.wrap (ν 22) = ν 22; rw [IntKind.wrap_i64]; omega) (norm_consz (by rw [zconv]; show IntKind.i16.wrap (ν 22) = ν 22; rw [wrap16]; omega) (norm_consz (by rw [zbin]; show IntKind.i64.wrap (ν 20 * ν 21) = ν 50; rw [h50, IntKind.wrap_i64]; omega) (norm_consz (by rw [zbin]; show IntKind.i64.wrap (ν 50 * 100) = ν 55; rw [IntKind.wrap_i64]; omega) (norm_consz (by rw [zbin]; show IntKind.i64.wrap (2 * ν 22) = ν 56; rw [IntKind.wrap_i64]; omega) (norm_consz (by rw [zbin]; show IntKind.i64.wrap (ν 55 + ν 56) = ν 54; rw [IntKind.wrap_i64]; omega) norm_nil)))))))
noncomputable def lp21bL : Lov := lovN (q 1048) lpS0 [(22, .var 22), (20, .var 20), (21, .var 21)] none lpE noLov
noncomputable def lp21bOv : Ov := loopOv 46 lp21bL sOv lp21bP lp21bN TmLp21o7
set_option maxRecDepth 1000000 in
theorem lp21b_ev : okv (finX (lawX noLov lp21bOv lp21bP lp21bN 5 [.i .i64 (.var 0), .i .i64 (.var 1), .i .i64 (.var 2)] start) (resOf 5)) = some (.b true) := by kernel_rfl
set_option maxRecDepth 1000000 in
theorem lp21b {ν : Nat → Int} (h20 : ν 20 = zval ν (lowZ 0 12)) (h21 : ν 21 = zval ν (lowZ 1 12)) (k0 : 10 ≤ ν 20 ∧ ν 20 < 100) (k1 : 0 ≤ ν 21 ∧ ν 21 < 10) (d10 : ν 10 = 48 + ν 20 / 10) (d11 : ν 11 = 48 + ν 20 % 10) (d12 : ν 12 = 48 + ν 21) (d14 : ν 14 = ν 20 / 10) (d15 : ν 15 = ν 20 % 10) (h22 : ν 22 = zval ν (lowZ 2 40)) (h50 : ν 20 * ν 21 = ν 50) (b50 : 0 ≤ ν 50) (c50 : ν 50 ≤ 121) (h55 : ν 55 = ν 50 * 100) (h56 : ν 56 = 2 * ν 22) (h54 : ν 54 = ν 50 * 100 + 2 * ν 22) (h52 : ν 52 = 13 + 11 * ν 20 + 14 * ν 50 + 14 * ν 22) (c : 1 ≤ ν 22) (c2 : ν 22 ≤ 21) (w : World) (hA : Tp.Asc w) {args : List Value} (ha : VRs ν (pl0 w [4]) [.i .i64 (.var 0), .i .i64 (.var 1), .i .i64 (.var 2)] args) : Calls Tryz.prog 5 args.toArray w (fun e w' => e = .returned (.bool true) ∧ Below w.heap.size w w') := by
  obtain ⟨b0, c0⟩ := low_in (ν := ν) 0 12 (by decide) (by decide)
  obtain ⟨b1, c1⟩ := low_in (ν := ν) 1 12 (by decide) (by decide)
  obtain ⟨b2, e2⟩ := low_in (ν := ν) 2 40 (by decide) (by decide)
  have hg : OvGood ν lp21bOv := loopOv_good sOv_good (lp21bP_ok h20 h21 k0 k1 d10 d11 d12 d14 d15 h22 h50 b50 c50 h55 h56 h54 h52 c c2) (lp21bN_ok h20 h21 k0 k1 d10 d11 d12 d14 d15 h22 h50 b50 c50 h55 h56 h54 h52 c c2) (TmLp21g7 h20 h21 k0 k1 d10 d11 d12 d14 d15) (fun W hW c1 hc => by
    rw [one_loop lp_rone c1 hc]
    exact told_loopN (S := lpS) (F := lpF (ν 20) (ν 21) (ν 22)) (mu := lpMu) hW lp_rnt rfl (fun _ _ _ => sOv_good) ⟨lpNu (ν 20) (ν 21) (ν 22) 1 0 0 0 1 0, (eqs_cons (by show ν 22 = ν 22; omega) (eqs_cons (by show ν 20 = ν 20; omega) (eqs_cons (by show ν 21 = ν 21; omega) eqs_nil))), rfl, (by omega), (by omega), (by omega), (by omega), (by omega), (by omega)⟩ (lp_round (o := ν 20) (i := ν 21) (p := ν 22) (fun _ => ⟨by rw [h50]; exact h54, by rw [h50]; exact h52⟩) (fun h => absurd h (by omega))) anyLov_ok)
  exact law_true (g := 5) (xs := [.i .i64 (.var 0), .i .i64 (.var 1), .i .i64 (.var 2)]) (lov := noLov) w hA hg (lp21bP_ok h20 h21 k0 k1 d10 d11 d12 d14 d15 h22 h50 b50 c50 h55 h56 h54 h52 c c2) (lp21bN_ok h20 h21 k0 k1 d10 d11 d12 d14 d15 h22 h50 b50 c50 h55 h56 h54 h52 c c2) (show fnB 5 (len [V.i .i64 (.var 0), V.i .i64 (.var 1), V.i .i64 (.var 2)]) = true from lp_fn) (fun c1 hc => anyLov_ok) lp21b_ev ha
noncomputable def lp21cP : List (Cd × Bool) := lp21P ++ [((.geq, .var 22, .lit (1)), true), ((.leq, .var 22, .lit (21)), false), ((.eql, .var 54, .var 54), true)]
noncomputable def lp21cN : List (Z × Z) := lp21N ++ [(.bin .rem .u64 (.conv .u64 (.var 2)) (.lit (40)), .var 22), (.conv .i64 (.var 22), .var 22), (.conv .i16 (.var 22), .var 22), (.bin .mul .i64 (.var 20) (.var 21), .var 50), (.bin .mul .i64 (.var 50) (.lit (100)), .var 55), (.bin .sub .i64 (.var 55) (.lit (1)), .var 54)]
theorem lp21cP_ok {ν : Nat → Int} (h20 : ν 20 = zval ν (lowZ 0 12)) (h21 : ν 21 = zval ν (lowZ 1 12)) (k0 : 10 ≤ ν 20 ∧ ν 20 < 100) (k1 : 0 ≤ ν 21 ∧ ν 21 < 10) (d10 : ν 10 = 48 + ν 20 / 10) (d11 : ν 11 = 48 + ν 20 % 10) (d12 : ν 12 = 48 + ν 21) (d14 : ν 14 = ν 20 / 10) (d15 : ν 15 = ν 20 % 10) (h22 : ν 22 = zval ν (lowZ 2 40)) (h50 : ν 20 * ν 21 = ν 50) (b50 : 0 ≤ ν 50) (c50 : ν 50 ≤ 121) (h55 : ν 55 = ν 50 * 100) (h56 : ν 56 = 2 * ν 22) (h54 : ν 54 = ν 50 * 100 - 1) (h52 : ν 52 = 311 + 11 * ν 20 + 14 * ν 50) (c : 21 < ν 22) : PathOk ν lp21cP := by
  obtain ⟨b0, c0⟩ := low_in (ν := ν) 0 12 (by decide) (by decide)
  obtain ⟨b1, c1⟩ := low_in (ν := ν) 1 12 (by decide) (by decide)
  obtain ⟨b2, e2⟩ := low_in (ν := ν) 2 40 (by decide) (by decide)
  exact path_app (lp21P_ok h20 h21 k0 k1 d10 d11 d12 d14 d15) (path_cons (fc_ge (by show 1 ≤ ν 22; omega)) (path_cons (fc_lef (by show 21 < ν 22; omega)) (path_cons (fc_eq (by show ν 54 = ν 54; omega)) path_nil)))
theorem lp21cN_ok {ν : Nat → Int} (h20 : ν 20 = zval ν (lowZ 0 12)) (h21 : ν 21 = zval ν (lowZ 1 12)) (k0 : 10 ≤ ν 20 ∧ ν 20 < 100) (k1 : 0 ≤ ν 21 ∧ ν 21 < 10) (d10 : ν 10 = 48 + ν 20 / 10) (d11 : ν 11 = 48 + ν 20 % 10) (d12 : ν 12 = 48 + ν 21) (d14 : ν 14 = ν 20 / 10) (d15 : ν 15 = ν 20 % 10) (h22 : ν 22 = zval ν (lowZ 2 40)) (h50 : ν 20 * ν 21 = ν 50) (b50 : 0 ≤ ν 50) (c50 : ν 50 ≤ 121) (h55 : ν 55 = ν 50 * 100) (h56 : ν 56 = 2 * ν 22) (h54 : ν 54 = ν 50 * 100 - 1) (h52 : ν 52 = 311 + 11 * ν 20 + 14 * ν 50) (c : 21 < ν 22) : NormOk ν lp21cN := by
  obtain ⟨b0, c0⟩ := low_in (ν := ν) 0 12 (by decide) (by decide)
  obtain ⟨b1, c1⟩ := low_in (ν := ν) 1 12 (by decide) (by decide)
  obtain ⟨b2, e2⟩ := low_in (ν := ν) 2 40 (by decide) (by decide)
  exact norm_app (lp21N_ok h20 h21 k0 k1 d10 d11 d12 d14 d15) (norm_consz ((low_rem 2 40 (by decide) (by decide)).trans h22.symm) (norm_consz (by rw [zconv]; show IntKind.i64.wrap (ν 22) = ν 22; rw [IntKind.wrap_i64]; omega) (norm_consz (by rw [zconv]; show IntKind.i16.wrap (ν 22) = ν 22; rw [wrap16]; omega) (norm_consz (by rw [zbin]; show IntKind.i64.wrap (ν 20 * ν 21) = ν 50; rw [h50, IntKind.wrap_i64]; omega) (norm_consz (by rw [zbin]; show IntKind.i64.wrap (ν 50 * 100) = ν 55; rw [IntKind.wrap_i64]; omega) (norm_consz (by rw [zbin]; show IntKind.i64.wrap (ν 55 - 1) = ν 54; rw [IntKind.wrap_i64]; omega) norm_nil))))))
noncomputable def lp21cL : Lov := lovN (q 1048) lpS0 [(22, .var 22), (20, .var 20), (21, .var 21)] none lpE noLov
noncomputable def lp21cOv : Ov := loopOv 46 lp21cL sOv lp21cP lp21cN TmLp21o7
set_option maxRecDepth 1000000 in
theorem lp21c_ev : okv (finX (lawX noLov lp21cOv lp21cP lp21cN 5 [.i .i64 (.var 0), .i .i64 (.var 1), .i .i64 (.var 2)] start) (resOf 5)) = some (.b true) := by kernel_rfl
set_option maxRecDepth 1000000 in
theorem lp21c {ν : Nat → Int} (h20 : ν 20 = zval ν (lowZ 0 12)) (h21 : ν 21 = zval ν (lowZ 1 12)) (k0 : 10 ≤ ν 20 ∧ ν 20 < 100) (k1 : 0 ≤ ν 21 ∧ ν 21 < 10) (d10 : ν 10 = 48 + ν 20 / 10) (d11 : ν 11 = 48 + ν 20 % 10) (d12 : ν 12 = 48 + ν 21) (d14 : ν 14 = ν 20 / 10) (d15 : ν 15 = ν 20 % 10) (h22 : ν 22 = zval ν (lowZ 2 40)) (h50 : ν 20 * ν 21 = ν 50) (b50 : 0 ≤ ν 50) (c50 : ν 50 ≤ 121) (h55 : ν 55 = ν 50 * 100) (h56 : ν 56 = 2 * ν 22) (h54 : ν 54 = ν 50 * 100 - 1) (h52 : ν 52 = 311 + 11 * ν 20 + 14 * ν 50) (c : 21 < ν 22) (w : World) (hA : Tp.Asc w) {args : List Value} (ha : VRs ν (pl0 w [4]) [.i .i64 (.var 0), .i .i64 (.var 1), .i .i64 (.var 2)] args) : Calls Tryz.prog 5 args.toArray w (fun e w' => e = .returned (.bool true) ∧ Below w.heap.size w w') := by
  obtain ⟨b0, c0⟩ := low_in (ν := ν) 0 12 (by decide) (by decide)
  obtain ⟨b1, c1⟩ := low_in (ν := ν) 1 12 (by decide) (by decide)
  obtain ⟨b2, e2⟩ := low_in (ν := ν) 2 40 (by decide) (by decide)
  have hg : OvGood ν lp21cOv := loopOv_good sOv_good (lp21cP_ok h20 h21 k0 k1 d10 d11 d12 d14 d15 h22 h50 b50 c50 h55 h56 h54 h52 c) (lp21cN_ok h20 h21 k0 k1 d10 d11 d12 d14 d15 h22 h50 b50 c50 h55 h56 h54 h52 c) (TmLp21g7 h20 h21 k0 k1 d10 d11 d12 d14 d15) (fun W hW c1 hc => by
    rw [one_loop lp_rone c1 hc]
    exact told_loopN (S := lpS) (F := lpF (ν 20) (ν 21) (ν 22)) (mu := lpMu) hW lp_rnt rfl (fun _ _ _ => sOv_good) ⟨lpNu (ν 20) (ν 21) (ν 22) 1 0 0 0 1 0, (eqs_cons (by show ν 22 = ν 22; omega) (eqs_cons (by show ν 20 = ν 20; omega) (eqs_cons (by show ν 21 = ν 21; omega) eqs_nil))), rfl, (by omega), (by omega), (by omega), (by omega), (by omega), (by omega)⟩ (lp_round (o := ν 20) (i := ν 21) (p := ν 22) (fun h => absurd h (by omega)) (fun _ => ⟨by rw [h50]; exact h54, by rw [h50]; exact h52⟩)) anyLov_ok)
  exact law_true (g := 5) (xs := [.i .i64 (.var 0), .i .i64 (.var 1), .i .i64 (.var 2)]) (lov := noLov) w hA hg (lp21cP_ok h20 h21 k0 k1 d10 d11 d12 d14 d15 h22 h50 b50 c50 h55 h56 h54 h52 c) (lp21cN_ok h20 h21 k0 k1 d10 d11 d12 d14 d15 h22 h50 b50 c50 h55 h56 h54 h52 c) (show fnB 5 (len [V.i .i64 (.var 0), V.i .i64 (.var 1), V.i .i64 (.var 2)]) = true from lp_fn) (fun c1 hc => anyLov_ok) lp21c_ev ha
end Go.Proofs.YtoinghomkcjkcaaGreatDoor
