/- TopFields: it answers true, whatever comes in. -/
import Derived.Test.YtmdhaelmblmldaaGreatDoorTpFdS
import Derived.Test.YtmdhaelmblmldaaGreatDoorTmFd
namespace Go.Proofs.YtmdhaelmblmldaaGreatDoor
set_option linter.unusedSimpArgs false
set_option linter.unusedVariables false
set_option linter.constructorNameAsVariable false
open Go Go.RowKit
open Ev
noncomputable def fdLov : Lov := lovOf (q 1035) fdS0 [(20, .var 20), (1, .var 1)] 0 fdE noLov
set_option maxRecDepth 1000000 in
theorem fd_ev : okv (finX (lawX fdLov TmFdo7 [] [(.bin .rem .u64 (.conv .u64 (.var 0)) (.lit 30), .var 20), (.conv .i64 (.var 20), .var 20)] 10 [.i .i64 (.var 0), .i .i64 (.var 1)] start) (resOf 10)) = some (.b true) := by kernel_rfl
theorem fd_fn : fnB 10 2 = true := by kernel_rfl
theorem fd_one : Nat.beq (loopsC (bodyOf 10)).length 1 = true := by kernel_rfl
theorem fd_law {ν : Nat → Int} (h3 : ν 20 = zval ν (lowZ 0 30)) (w : World) (hA : Tp.Asc w) : Calls Tryz.prog 10 #[.int .i64 (ν 0), .int .i64 (ν 1)] w (fun e w' => e = .returned (.bool true) ∧ Below w.heap.size w w') := by
  obtain ⟨h1, h2⟩ := low_in (ν := ν) 0 30 (by decide) (by decide)
  have hn : NormOk ν [(.bin .rem .u64 (.conv .u64 (.var 0)) (.lit 30), .var 20), (.conv .i64 (.var 20), .var 20)] := norm_consz ((low_rem 0 30 (by decide) (by decide)).trans h3.symm) (norm_consz (by rw [zconv]; show IntKind.i64.wrap (ν 20) = ν 20; rw [IntKind.wrap_i64]; omega) norm_nil)
  refine law_true (g := 10) (xs := [.i .i64 (.var 0), .i .i64 (.var 1)]) (lov := fdLov) (ov := TmFdo7) (path := []) (norm := [(.bin .rem .u64 (.conv .u64 (.var 0)) (.lit 30), .var 20), (.conv .i64 (.var 20), .var 20)]) w hA TmFdg7 path_nil hn (show fnB 10 (len [V.i .i64 (.var 0), V.i .i64 (.var 1)]) = true from fd_fn) (fun c1 hc => ?_) fd_ev (args := [.int .i64 (ν 0), .int .i64 (ν 1)]) (by simp [VRs, VR, zval])
  rw [one_loop fd_one c1 hc]
  refine told_loop (S := fdS) (F := fdF) (mu := fdMu) hA (law_gt hA) (law_pl (by decide)) (fnB_ok fd_fn).2.2.2.1 rfl (fun _ _ _ => sOv_good) (fun ν' he => ?_) ⟨ν, fun p hp => ?_⟩ fd_round anyLov_ok
  · have e := he (20, .var 20) (List.mem_cons_self ..)
    have e' : ν' 20 = ν 20 := e
    exact ⟨by omega, by omega⟩
  · rcases List.mem_cons.1 hp with rfl | hp
    · rfl
    · obtain rfl := List.mem_singleton.1 hp
      rfl
def fdNv (ν : Nat → Int) : Nat → Int := fun n => match n with | 20 => zval ν (lowZ 0 30) | n => ν n
theorem topFields_any (m c : Int) (w : World) (hA : Tp.Asc w) : Calls Tryz.prog 10 #[.int .i64 m, .int .i64 c] w (fun e w' => e = .returned (.bool true) ∧ Below w.heap.size w w') :=
  fd_law (ν := fdNv (fun n => match n with | 0 => m | _ => c)) rfl w hA
end Go.Proofs.YtmdhaelmblmldaaGreatDoor
