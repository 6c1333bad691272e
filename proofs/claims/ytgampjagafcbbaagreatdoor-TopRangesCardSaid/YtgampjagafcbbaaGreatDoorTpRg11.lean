/- TopRanges, numbers of 1 and 1 digits: each way. -/
import Derived.Test.YtgampjagafcbbaaGreatDoorTmRg11
namespace Go.Proofs.YtgampjagafcbbaaGreatDoor
set_option linter.unusedSimpArgs false
set_option linter.unusedVariables false
set_option linter.constructorNameAsVariable false
open Go Go.RowKit
open Ev
set_option maxRecDepth 1000000 in
theorem rg11Lt_ev : okv (mEv TmRg11o7 ([((.lss, .var 22, .var 20), true)] ++ rg11P) ([] ++ rg11N) 5 [.i .i64 (.var 0), .i .i64 (.var 1), .i .i64 (.var 2)] start) = some (.b true) := by kernel_rfl
theorem rg11Lt {ν : Nat → Int} (hf : RgF ν) (k0 : 0 ≤ ν 20 ∧ ν 20 < 10) (k1 : 0 ≤ ν 21 ∧ ν 21 < 10) (d30 : ν 30 = 48 + ν 20) (d40 : ν 40 = 48 + ν 21) (w : World) (hA : Tp.Asc w) (e1 : ν 22 < ν 20) : Calls Tryz.prog 5 #[.int .i64 (ν 0), .int .i64 (ν 1), .int .i64 (ν 2)] w (fun e w' => e = .returned (.bool true) ∧ Below w.heap.size w w') := by
  have hp := rg11P_ok hf k0 k1 d30 d40
  have hn := rg11N_ok hf k0 k1 d30 d40
  have hg := TmRg11g7 hf k0 k1 d30 d40
  obtain ⟨h20, h21, h22⟩ := hf
  obtain ⟨b0, c0⟩ := low_in (ν := ν) 0 100 (by decide) (by decide)
  obtain ⟨b1, c1⟩ := low_in (ν := ν) 1 100 (by decide) (by decide)
  obtain ⟨b2, c2⟩ := low_in (ν := ν) 2 400 (by decide) (by decide)
  have hp2 : PathOk ν ([((.lss, .var 22, .var 20), true)] ++ rg11P) := path_app (path_cons (fc_lt (by show ν 22 < ν 20; omega)) path_nil) hp
  have hn2 : NormOk ν ([] ++ rg11N) := norm_app norm_nil hn
  exact tm_true w hA hg hp2 hn2 rg11Lt_ev (args := [.int .i64 (ν 0), .int .i64 (ν 1), .int .i64 (ν 2)]) (by simp [VRs, VR, zval])
set_option maxRecDepth 1000000 in
theorem rg11Lft_ev : okv (mEv TmRg11o7 ([((.lss, .var 22, .var 20), false), ((.gtr, .var 22, .var 21), true)] ++ rg11P) ([] ++ rg11N) 5 [.i .i64 (.var 0), .i .i64 (.var 1), .i .i64 (.var 2)] start) = some (.b true) := by kernel_rfl
theorem rg11Lft {ν : Nat → Int} (hf : RgF ν) (k0 : 0 ≤ ν 20 ∧ ν 20 < 10) (k1 : 0 ≤ ν 21 ∧ ν 21 < 10) (d30 : ν 30 = 48 + ν 20) (d40 : ν 40 = 48 + ν 21) (w : World) (hA : Tp.Asc w) (e1 : ν 20 ≤ ν 22) (e2 : ν 21 < ν 22) : Calls Tryz.prog 5 #[.int .i64 (ν 0), .int .i64 (ν 1), .int .i64 (ν 2)] w (fun e w' => e = .returned (.bool true) ∧ Below w.heap.size w w') := by
  have hp := rg11P_ok hf k0 k1 d30 d40
  have hn := rg11N_ok hf k0 k1 d30 d40
  have hg := TmRg11g7 hf k0 k1 d30 d40
  obtain ⟨h20, h21, h22⟩ := hf
  obtain ⟨b0, c0⟩ := low_in (ν := ν) 0 100 (by decide) (by decide)
  obtain ⟨b1, c1⟩ := low_in (ν := ν) 1 100 (by decide) (by decide)
  obtain ⟨b2, c2⟩ := low_in (ν := ν) 2 400 (by decide) (by decide)
  have hp2 : PathOk ν ([((.lss, .var 22, .var 20), false), ((.gtr, .var 22, .var 21), true)] ++ rg11P) := path_app (path_cons (fc_ltf (by show ν 20 ≤ ν 22; omega)) (path_cons (fc_gt (by show ν 21 < ν 22; omega)) path_nil)) hp
  have hn2 : NormOk ν ([] ++ rg11N) := norm_app norm_nil hn
  exact tm_true w hA hg hp2 hn2 rg11Lft_ev (args := [.int .i64 (ν 0), .int .i64 (ν 1), .int .i64 (ν 2)]) (by simp [VRs, VR, zval])
set_option maxRecDepth 1000000 in
theorem rg11Lff_ev : okv (mEv TmRg11o7 ([((.eql, .var 22, .var 22), true), ((.lss, .var 22, .var 20), false), ((.gtr, .var 22, .var 21), false)] ++ rg11P) ([] ++ rg11N) 5 [.i .i64 (.var 0), .i .i64 (.var 1), .i .i64 (.var 2)] start) = some (.b true) := by kernel_rfl
theorem rg11Lff {ν : Nat → Int} (hf : RgF ν) (k0 : 0 ≤ ν 20 ∧ ν 20 < 10) (k1 : 0 ≤ ν 21 ∧ ν 21 < 10) (d30 : ν 30 = 48 + ν 20) (d40 : ν 40 = 48 + ν 21) (w : World) (hA : Tp.Asc w) (e1 : ν 20 ≤ ν 22) (e2 : ν 22 ≤ ν 21) : Calls Tryz.prog 5 #[.int .i64 (ν 0), .int .i64 (ν 1), .int .i64 (ν 2)] w (fun e w' => e = .returned (.bool true) ∧ Below w.heap.size w w') := by
  have hp := rg11P_ok hf k0 k1 d30 d40
  have hn := rg11N_ok hf k0 k1 d30 d40
  have hg := TmRg11g7 hf k0 k1 d30 d40
  obtain ⟨h20, h21, h22⟩ := hf
  obtain ⟨b0, c0⟩ := low_in (ν := ν) 0 100 (by decide) (by decide)
  obtain ⟨b1, c1⟩ := low_in (ν := ν) 1 100 (by decide) (by decide)
  obtain ⟨b2, c2⟩ := low_in (ν := ν) 2 400 (by decide) (by decide)
  have hp2 : PathOk ν ([((.eql, .var 22, .var 22), true), ((.lss, .var 22, .var 20), false), ((.gtr, .var 22, .var 21), false)] ++ rg11P) := path_app (path_cons (fc_eq (by show ν 22 = ν 22; omega)) (path_cons (fc_ltf (by show ν 20 ≤ ν 22; omega)) (path_cons (fc_gtf (by show ν 22 ≤ ν 21; omega)) path_nil))) hp
  have hn2 : NormOk ν ([] ++ rg11N) := norm_app norm_nil hn
  exact tm_true w hA hg hp2 hn2 rg11Lff_ev (args := [.int .i64 (ν 0), .int .i64 (ν 1), .int .i64 (ν 2)]) (by simp [VRs, VR, zval])
def rg11Nv (ν : Nat → Int) : Nat → Int := fun n => match n with
  | 20 => zval ν (lowZ 0 100) | 21 => zval ν (lowZ 0 100) + zval ν (lowZ 1 100) | 22 => zval ν (lowZ 2 400) - 100
  | 30 => 48 + zval ν (lowZ 0 100)
  | 40 => 48 + (zval ν (lowZ 0 100) + zval ν (lowZ 1 100))
  | n => ν n
theorem rg11 (ν0 : Nat → Int) (w : World) (hA : Tp.Asc w) (k0 : 0 ≤ zval ν0 (lowZ 0 100) ∧ zval ν0 (lowZ 0 100) < 10) (k1 : 0 ≤ zval ν0 (lowZ 0 100) + zval ν0 (lowZ 1 100) ∧ zval ν0 (lowZ 0 100) + zval ν0 (lowZ 1 100) < 10) : Calls Tryz.prog 5 #[.int .i64 (ν0 0), .int .i64 (ν0 1), .int .i64 (ν0 2)] w (fun e w' => e = .returned (.bool true) ∧ Below w.heap.size w w') := by
  have hf : RgF (rg11Nv ν0) := ⟨rfl, rfl, rfl⟩
  have d30 : rg11Nv ν0 30 = 48 + rg11Nv ν0 20 := rfl
  have d40 : rg11Nv ν0 40 = 48 + rg11Nv ν0 21 := rfl
  have q0 : 0 ≤ rg11Nv ν0 20 ∧ rg11Nv ν0 20 < 10 := k0
  have q1 : 0 ≤ rg11Nv ν0 21 ∧ rg11Nv ν0 21 < 10 := k1
  rcases Int.lt_or_le (rg11Nv ν0 22) (rg11Nv ν0 20) with e1 | e1
  · exact rg11Lt hf q0 q1 d30 d40 w hA e1
  · rcases Int.lt_or_le (rg11Nv ν0 21) (rg11Nv ν0 22) with e2 | e2
    · exact rg11Lft hf q0 q1 d30 d40 w hA e1 e2
    · exact rg11Lff hf q0 q1 d30 d40 w hA e1 e2
end Go.Proofs.YtgampjagafcbbaaGreatDoor
