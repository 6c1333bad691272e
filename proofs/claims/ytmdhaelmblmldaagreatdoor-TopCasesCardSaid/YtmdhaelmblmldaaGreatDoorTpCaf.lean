/- TopCases, otherwise = f: each way. -/
import Derived.Test.YtmdhaelmblmldaaGreatDoorTpCaP
import Derived.Test.YtmdhaelmblmldaaGreatDoorTmCaf
namespace Go.Proofs.YtmdhaelmblmldaaGreatDoor
set_option linter.unusedSimpArgs false
set_option linter.unusedVariables false
set_option linter.constructorNameAsVariable false
open Go Go.RowKit
open Ev
set_option maxRecDepth 1000000 in
theorem caf0a : okv (mEv TmCafo2 (((.gtr, lowZ 0 3, .lit 0), false) :: caseP (.var 0) true false false false false) [] 9 [.i .i64 (.var 0), .b false] start) = some (.b true) := by kernel_rfl
set_option maxRecDepth 1000000 in
theorem caf0b : okv (mEv TmCafo2 (((.gtr, lowZ 0 3, .lit 0), false) :: caseP (.var 0) false true false false false) [] 9 [.i .i64 (.var 0), .b false] start) = some (.b true) := by kernel_rfl
set_option maxRecDepth 1000000 in
theorem caf0c : okv (mEv TmCafo2 (((.gtr, lowZ 0 3, .lit 0), false) :: caseP (.var 0) false false true false false) [] 9 [.i .i64 (.var 0), .b false] start) = some (.b true) := by kernel_rfl
set_option maxRecDepth 1000000 in
theorem caf0d : okv (mEv TmCafo2 (((.gtr, lowZ 0 3, .lit 0), false) :: caseP (.var 0) false false false true false) [] 9 [.i .i64 (.var 0), .b false] start) = some (.b true) := by kernel_rfl
set_option maxRecDepth 1000000 in
theorem caf0e : okv (mEv TmCafo2 (((.gtr, lowZ 0 3, .lit 0), false) :: caseP (.var 0) false false false false true) [] 9 [.i .i64 (.var 0), .b false] start) = some (.b true) := by kernel_rfl
set_option maxRecDepth 1000000 in
theorem caf0n : okv (mEv TmCafo2 (((.gtr, lowZ 0 3, .lit 0), false) :: caseP (.var 0) false false false false false) [] 9 [.i .i64 (.var 0), .b false] start) = some (.b true) := by kernel_rfl
set_option maxRecDepth 1000000 in
theorem caf1a : okv (mEv TmCafo2 (((.gtr, lowZ 0 3, .lit 0), true) :: caseP caseI true false false false false) [] 9 [.i .i64 (.var 0), .b false] start) = some (.b true) := by kernel_rfl
set_option maxRecDepth 1000000 in
theorem caf1b : okv (mEv TmCafo2 (((.gtr, lowZ 0 3, .lit 0), true) :: caseP caseI false true false false false) [] 9 [.i .i64 (.var 0), .b false] start) = some (.b true) := by kernel_rfl
set_option maxRecDepth 1000000 in
theorem caf1c : okv (mEv TmCafo2 (((.gtr, lowZ 0 3, .lit 0), true) :: caseP caseI false false true false false) [] 9 [.i .i64 (.var 0), .b false] start) = some (.b true) := by kernel_rfl
set_option maxRecDepth 1000000 in
theorem caf1d : okv (mEv TmCafo2 (((.gtr, lowZ 0 3, .lit 0), true) :: caseP caseI false false false true false) [] 9 [.i .i64 (.var 0), .b false] start) = some (.b true) := by kernel_rfl
set_option maxRecDepth 1000000 in
theorem caf1e : okv (mEv TmCafo2 (((.gtr, lowZ 0 3, .lit 0), true) :: caseP caseI false false false false true) [] 9 [.i .i64 (.var 0), .b false] start) = some (.b true) := by kernel_rfl
set_option maxRecDepth 1000000 in
theorem caf1n : okv (mEv TmCafo2 (((.gtr, lowZ 0 3, .lit 0), true) :: caseP caseI false false false false false) [] 9 [.i .i64 (.var 0), .b false] start) = some (.b true) := by kernel_rfl
end Go.Proofs.YtmdhaelmblmldaaGreatDoor
