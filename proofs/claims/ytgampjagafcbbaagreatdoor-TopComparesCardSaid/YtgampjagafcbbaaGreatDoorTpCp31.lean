/- TopCompares 3 1: each way. -/
import Derived.Test.YtgampjagafcbbaaGreatDoorTpCpP
import Derived.Test.YtgampjagafcbbaaGreatDoorTmCp31
namespace Go.Proofs.YtgampjagafcbbaaGreatDoor
set_option linter.unusedSimpArgs false
set_option linter.unusedVariables false
set_option linter.constructorNameAsVariable false
open Go Go.RowKit
open Ev
set_option maxRecDepth 1000000 in
theorem cp31_0 : okv (mEv TmCp31o2 (cmpP true false false true) [(lowZ 0 6, 3), (lowZ 1 3, 1)] 3 [.i .i64 (.var 0), .i .i64 (.var 1), .i .i64 (.var 2), .i .i64 (.var 3)] start) = some (.b true) := by kernel_rfl
set_option maxRecDepth 1000000 in
theorem cp31_1 : okv (mEv TmCp31o2 (cmpP true false false false) [(lowZ 0 6, 3), (lowZ 1 3, 1)] 3 [.i .i64 (.var 0), .i .i64 (.var 1), .i .i64 (.var 2), .i .i64 (.var 3)] start) = some (.b true) := by kernel_rfl
set_option maxRecDepth 1000000 in
theorem cp31_2 : okv (mEv TmCp31o2 (cmpP false true false true) [(lowZ 0 6, 3), (lowZ 1 3, 1)] 3 [.i .i64 (.var 0), .i .i64 (.var 1), .i .i64 (.var 2), .i .i64 (.var 3)] start) = some (.b true) := by kernel_rfl
set_option maxRecDepth 1000000 in
theorem cp31_3 : okv (mEv TmCp31o2 (cmpP false true false false) [(lowZ 0 6, 3), (lowZ 1 3, 1)] 3 [.i .i64 (.var 0), .i .i64 (.var 1), .i .i64 (.var 2), .i .i64 (.var 3)] start) = some (.b true) := by kernel_rfl
set_option maxRecDepth 1000000 in
theorem cp31_4 : okv (mEv TmCp31o2 (cmpP false false true true) [(lowZ 0 6, 3), (lowZ 1 3, 1)] 3 [.i .i64 (.var 0), .i .i64 (.var 1), .i .i64 (.var 2), .i .i64 (.var 3)] start) = some (.b true) := by kernel_rfl
set_option maxRecDepth 1000000 in
theorem cp31_5 : okv (mEv TmCp31o2 (cmpP false false true false) [(lowZ 0 6, 3), (lowZ 1 3, 1)] 3 [.i .i64 (.var 0), .i .i64 (.var 1), .i .i64 (.var 2), .i .i64 (.var 3)] start) = some (.b true) := by kernel_rfl
theorem cp31 (ν : Nat → Int) (w : World) (hA : Tp.Asc w) (h : zval ν (lowZ 0 6) = 3) (h' : zval ν (lowZ 1 3) = 1) : Calls Tryz.prog 3 #[.int .i64 (ν 0), .int .i64 (ν 1), .int .i64 (ν 2), .int .i64 (ν 3)] w (fun e w' => e = .returned (.bool true) ∧ Below w.heap.size w w') := by
  have ha : VRs ν (pl0 w [4]) [.i .i64 (.var 0), .i .i64 (.var 1), .i .i64 (.var 2), .i .i64 (.var 3)] [.int .i64 (ν 0), .int .i64 (ν 1), .int .i64 (ν 2), .int .i64 (ν 3)] := by simp [VRs, VR, zval]
  have hn := norm_cons h (norm_cons h' norm_nil)
  obtain ⟨h1, h2, h3⟩ | ⟨h1, h2, h3⟩ | ⟨h1, h2, h3⟩ := ordB (zval ν (fitZ (.var 2))) (zval ν (fitZ (.var 3)))
  · cases h4 : ltI 0 (zval ν (fitZ (.var 2))) with
    | true => exact tm_true w hA TmCp31g2 (cmpP_ok h1 h2 h3 h4) hn cp31_0 ha
    | false => exact tm_true w hA TmCp31g2 (cmpP_ok h1 h2 h3 h4) hn cp31_1 ha
  · cases h4 : ltI 0 (zval ν (fitZ (.var 2))) with
    | true => exact tm_true w hA TmCp31g2 (cmpP_ok h1 h2 h3 h4) hn cp31_2 ha
    | false => exact tm_true w hA TmCp31g2 (cmpP_ok h1 h2 h3 h4) hn cp31_3 ha
  · cases h4 : ltI 0 (zval ν (fitZ (.var 2))) with
    | true => exact tm_true w hA TmCp31g2 (cmpP_ok h1 h2 h3 h4) hn cp31_4 ha
    | false => exact tm_true w hA TmCp31g2 (cmpP_ok h1 h2 h3 h4) hn cp31_5 ha
end Go.Proofs.YtgampjagafcbbaaGreatDoor
