/- TopRanges, numbers of 2 and 3 digits: each way. -/
import Derived.Test.YtgampjagafcbbaaGreatDoorTmRg23
namespace Go.Proofs.YtgampjagafcbbaaGreatDoor
set_option linter.unusedSimpArgs false
set_option linter.unusedVariables false
set_option linter.constructorNameAsVariable false
open Go Go.RowKit
open Ev
set_option maxRecDepth 1000000 in
theorem rg23Lt_ev : okv (mEv TmRg23o7 ([((.lss, .var 22, .var 20), true)] ++ rg23P) ([] ++ rg23N) 5 [.i .i64 (.var 0), .i .i64 (.var 1), .i .i64 (.var 2)] start) = some (.b true) := by kernel_rfl
theorem rg23Lt {ν : Nat → Int} (hf : RgF ν) (k0 : 10 ≤ ν 20 ∧ ν 20 < 100) (k1 : 100 ≤ ν 21 ∧ ν 21 < 1000) (d30 : ν 30 = 48 + ν 20 / 10) (d31 : ν 31 = 48 + ν 20 % 10) (d40 : ν 40 = 48 + ν 21 / 100) (d41 : ν 41 = 48 + ν 21 / 10 % 10) (d42 : ν 42 = 48 + ν 21 % 10) (d50 : ν 50 = ν 20 / 10) (d51 : ν 51 = ν 20 % 10) (d55 : ν 55 = ν 21 / 100) (d56 : ν 56 = ν 21 / 10 % 10) (d57 : ν 57 = ν 21 % 10) (d45 : ν 45 = ν 21 / 10) (w : World) (hA : Tp.Asc w) (e1 : ν 22 < ν 20) : Calls Tryz.prog 5 #[.int .i64 (ν 0), .int .i64 (ν 1), .int .i64 (ν 2)] w (fun e w' => e = .returned (.bool true) ∧ Below w.heap.size w w') := by
  have hp := rg23P_ok hf k0 k1 d30 d31 d40 d41 d42 d50 d51 d55 d56 d57 d45
  have hn := rg23N_ok hf k0 k1 d30 d31 d40 d41 d42 d50 d51 d55 d56 d57 d45
  have hg := TmRg23g7 hf k0 k1 d30 d31 d40 d41 d42 d50 d51 d55 d56 d57 d45
  obtain ⟨h20, h21, h22⟩ := hf
  obtain ⟨b0, c0⟩ := low_in (ν := ν) 0 100 (by decide) (by decide)
  obtain ⟨b1, c1⟩ := low_in (ν := ν) 1 100 (by decide) (by decide)
  obtain ⟨b2, c2⟩ := low_in (ν := ν) 2 400 (by decide) (by decide)
  have hp2 : PathOk ν ([((.lss, .var 22, .var 20), true)] ++ rg23P) := path_app (path_cons (fc_lt (by show ν 22 < ν 20; omega)) path_nil) hp
  have hn2 : NormOk ν ([] ++ rg23N) := norm_app norm_nil hn
  exact tm_true w hA hg hp2 hn2 rg23Lt_ev (args := [.int .i64 (ν 0), .int .i64 (ν 1), .int .i64 (ν 2)]) (by simp [VRs, VR, zval])
set_option maxRecDepth 1000000 in
theorem rg23Lft_ev : okv (mEv TmRg23o7 ([((.lss, .var 22, .var 20), false), ((.gtr, .var 22, .var 21), true)] ++ rg23P) ([] ++ rg23N) 5 [.i .i64 (.var 0), .i .i64 (.var 1), .i .i64 (.var 2)] start) = some (.b true) := by kernel_rfl
theorem rg23Lft {ν : Nat → Int} (hf : RgF ν) (k0 : 10 ≤ ν 20 ∧ ν 20 < 100) (k1 : 100 ≤ ν 21 ∧ ν 21 < 1000) (d30 : ν 30 = 48 + ν 20 / 10) (d31 : ν 31 = 48 + ν 20 % 10) (d40 : ν 40 = 48 + ν 21 / 100) (d41 : ν 41 = 48 + ν 21 / 10 % 10) (d42 : ν 42 = 48 + ν 21 % 10) (d50 : ν 50 = ν 20 / 10) (d51 : ν 51 = ν 20 % 10) (d55 : ν 55 = ν 21 / 100) (d56 : ν 56 = ν 21 / 10 % 10) (d57 : ν 57 = ν 21 % 10) (d45 : ν 45 = ν 21 / 10) (w : World) (hA : Tp.Asc w) (e1 : ν 20 ≤ ν 22) (e2 : ν 21 < ν 22) : Calls Tryz.prog 5 #[.int .i64 (ν 0), .int .i64 (ν 1), .int .i64 (ν 2)] w (fun e w' => e = .returned (.bool true) ∧ Below w.heap.size w w') := by
  have hp := rg23P_ok hf k0 k1 d30 d31 d40 d41 d42 d50 d51 d55 d56 d57 d45
  have hn := rg23N_ok hf k0 k1 d30 d31 d40 d41 d42 d50 d51 d55 d56 d57 d45
  have hg := TmRg23g7 hf k0 k1 d30 d31 d40 d41 d42 d50 d51 d55 d56 d57 d45
  obtain ⟨h20, h21, h22⟩ := hf
  obtain ⟨b0, c0⟩ := low_in (ν := ν) 0 100 (by decide) (by decide)
  obtain ⟨b1, c1⟩ := low_in (ν := ν) 1 100 (by decide) (by decide)
  obtain ⟨b2, c2⟩ := low_in (ν := ν) 2 400 (by decide) (by decide)
  have hp2 : PathOk ν ([((.lss, .var 22, .var 20), false), ((.gtr, .var 22, .var 21), true)] ++ rg23P) := path_app (path_cons (fc_ltf (by show ν 20 ≤ ν 22; omega)) (path_cons (fc_gt (by show ν 21 < ν 22; omega)) path_nil)) hp
  have hn2 : NormOk ν ([] ++ rg23N) := norm_app norm_nil hn
  exact tm_true w hA hg hp2 hn2 rg23Lft_ev (args := [.int .i64 (ν 0), .int .i64 (ν 1), .int .i64 (ν 2)]) (by simp [VRs, VR, zval])
set_option maxRecDepth 1000000 in
theorem rg23Lff_ev : okv (mEv TmRg23o7 ([((.eql, .var 22, .var 22), true), ((.lss, .var 22, .var 20), false), ((.gtr, .var 22, .var 21), false)] ++ rg23P) ([] ++ rg23N) 5 [.i .i64 (.var 0), .i .i64 (.var 1), .i .i64 (.var 2)] start) = some (.b true) := by kernel_rfl
theorem rg23Lff {ν : Nat → Int} (hf : RgF ν) (k0 : 10 ≤ ν 20 ∧ ν 20 < 100) (k1 : 100 ≤ ν 21 ∧ ν 21 < 1000) (d30 : ν 30 = 48 + ν 20 / 10) (d31 : ν 31 = 48 + ν 20 % 10) (d40 : ν 40 = 48 + ν 21 / 100) (d41 : ν 41 = 48 + ν 21 / 10 % 10) (d42 : ν 42 = 48 + ν 21 % 10) (d50 : ν 50 = ν 20 / 10) (d51 : ν 51 = ν 20 % 10) (d55 : ν 55 = ν 21 / 100) (d56 : ν 56 = ν 21 / 10 % 10) (d57 : ν 57 = ν 21 % 10) (d45 : ν 45 = ν 21 / 10) (w : World) (hA : Tp.Asc w) (e1 : ν 20 ≤ ν 22) (e2 : ν 22 ≤ ν 21) : Calls Tryz.prog 5 #[.int .i64 (ν 0), .int .i64 (ν 1), .int .i64 (ν 2)] w (fun e w' => e = .returned (.bool true) ∧ Below w.heap.size w w') := by
  have hp := rg23P_ok hf k0 k1 d30 d31 d40 d41 d42 d50 d51 d55 d56 d57 d45
  have hn := rg23N_ok hf k0 k1 d30 d31 d40 d41 d42 d50 d51 d55 d56 d57 d45
  have hg := TmRg23g7 hf k0 k1 d30 d31 d40 d41 d42 d50 d51 d55 d56 d57 d45
  obtain ⟨h20, h21, h22⟩ := hf
  obtain ⟨b0, c0⟩ := low_in (ν := ν) 0 100 (by decide) (by decide)
  obtain ⟨b1, c1⟩ := low_in (ν := ν) 1 100 (by decide) (by decide)
  obtain ⟨b2, c2⟩ := low_in (ν := ν) 2 400 (by decide) (by decide)
  have hp2 : PathOk ν ([((.eql, .var 22, .var 22), true), ((.lss, .var 22, .var 20), false), ((.gtr, .var 22, .var 21), false)] ++ rg23P) := path_app (path_cons (fc_eq (by show ν 22 = ν 22; omega)) (path_cons (fc_ltf (by show ν 20 ≤ ν 22; omega)) (path_cons (fc_gtf (by show ν 22 ≤ ν 21; omega)) path_nil))) hp
  have hn2 : NormOk ν ([] ++ rg23N) := norm_app norm_nil hn
  exact tm_true w hA hg hp2 hn2 rg23Lff_ev (args := [.int .i64 (ν 0), .int .i64 (ν 1), .int .i64 (ν 2)]) (by simp [VRs, VR, zval])
def rg23Nv (ν : Nat → Int) : Nat → Int := fun n => match n with
  | 20 => zval ν (lowZ 0 100) | 21 => zval ν (lowZ 0 100) + zval ν (lowZ 1 100) | 22 => zval ν (lowZ 2 400) - 100
  | 30 => 48 + zval ν (lowZ 0 100) / 10
  | 31 => 48 + zval ν (lowZ 0 100) % 10
  | 40 => 48 + (zval ν (lowZ 0 100) + zval ν (lowZ 1 100)) / 100
  | 41 => 48 + (zval ν (lowZ 0 100) + zval ν (lowZ 1 100)) / 10 % 10
  | 42 => 48 + (zval ν (lowZ 0 100) + zval ν (lowZ 1 100)) % 10
  | 50 => zval ν (lowZ 0 100) / 10
  | 51 => zval ν (lowZ 0 100) % 10
  | 55 => (zval ν (lowZ 0 100) + zval ν (lowZ 1 100)) / 100
  | 56 => (zval ν (lowZ 0 100) + zval ν (lowZ 1 100)) / 10 % 10
  | 57 => (zval ν (lowZ 0 100) + zval ν (lowZ 1 100)) % 10
  | 45 => (zval ν (lowZ 0 100) + zval ν (lowZ 1 100)) / 10
  | n => ν n
theorem rg23 (ν0 : Nat → Int) (w : World) (hA : Tp.Asc w) (k0 : 10 ≤ zval ν0 (lowZ 0 100) ∧ zval ν0 (lowZ 0 100) < 100) (k1 : 100 ≤ zval ν0 (lowZ 0 100) + zval ν0 (lowZ 1 100) ∧ zval ν0 (lowZ 0 100) + zval ν0 (lowZ 1 100) < 1000) : Calls Tryz.prog 5 #[.int .i64 (ν0 0), .int .i64 (ν0 1), .int .i64 (ν0 2)] w (fun e w' => e = .returned (.bool true) ∧ Below w.heap.size w w') := by
  have hf : RgF (rg23Nv ν0) := ⟨rfl, rfl, rfl⟩
  have d30 : rg23Nv ν0 30 = 48 + rg23Nv ν0 20 / 10 := rfl
  have d31 : rg23Nv ν0 31 = 48 + rg23Nv ν0 20 % 10 := rfl
  have d40 : rg23Nv ν0 40 = 48 + rg23Nv ν0 21 / 100 := rfl
  have d41 : rg23Nv ν0 41 = 48 + rg23Nv ν0 21 / 10 % 10 := rfl
  have d42 : rg23Nv ν0 42 = 48 + rg23Nv ν0 21 % 10 := rfl
  have d50 : rg23Nv ν0 50 = rg23Nv ν0 20 / 10 := rfl
  have d51 : rg23Nv ν0 51 = rg23Nv ν0 20 % 10 := rfl
  have d55 : rg23Nv ν0 55 = rg23Nv ν0 21 / 100 := rfl
  have d56 : rg23Nv ν0 56 = rg23Nv ν0 21 / 10 % 10 := rfl
  have d57 : rg23Nv ν0 57 = rg23Nv ν0 21 % 10 := rfl
  have d45 : rg23Nv ν0 45 = rg23Nv ν0 21 / 10 := rfl
  have q0 : 10 ≤ rg23Nv ν0 20 ∧ rg23Nv ν0 20 < 100 := k0
  have q1 : 100 ≤ rg23Nv ν0 21 ∧ rg23Nv ν0 21 < 1000 := k1
  rcases Int.lt_or_le (rg23Nv ν0 22) (rg23Nv ν0 20) with e1 | e1
  · exact rg23Lt hf q0 q1 d30 d31 d40 d41 d42 d50 d51 d55 d56 d57 d45 w hA e1
  · rcases Int.lt_or_le (rg23Nv ν0 21) (rg23Nv ν0 22) with e2 | e2
    · exact rg23Lft hf q0 q1 d30 d31 d40 d41 d42 d50 d51 d55 d56 d57 d45 w hA e1 e2
    · exact rg23Lff hf q0 q1 d30 d31 d40 d41 d42 d50 d51 d55 d56 d57 d45 w hA e1 e2
end Go.Proofs.YtgampjagafcbbaaGreatDoor
