/- TopCases, otherwise = t: each way. -/
import Derived.Test.YtmdhaelmblmldaaGreatDoorTpCaP
import Derived.Test.YtmdhaelmblmldaaGreatDoorTmCat
namespace Go.Proofs.YtmdhaelmblmldaaGreatDoor
set_option linter.unusedSimpArgs false
set_option linter.unusedVariables false
set_option linter.constructorNameAsVariable false
open Go Go.RowKit
open Ev
set_option maxRecDepth 1000000 in
theorem cat0a : okv (mEv TmCato2 (((.gtr, lowZ 0 3, .lit 0), false) :: caseP (.var 0) true false false false false) [] 9 [.i .i64 (.var 0), .b true] start) = some (.b true) := by kernel_rfl
set_option maxRecDepth 1000000 in
theorem cat0b : okv (mEv TmCato2 (((.gtr, lowZ 0 3, .lit 0), false) :: caseP (.var 0) false true false false false) [] 9 [.i .i64 (.var 0), .b true] start) = some (.b true) := by kernel_rfl
set_option maxRecDepth 1000000 in
theorem cat0c : okv (mEv TmCato2 (((.gtr, lowZ 0 3, .lit 0), false) :: caseP (.var 0) false false true false false) [] 9 [.i .i64 (.var 0), .b true] start) = some (.b true) := by kernel_rfl
set_option maxRecDepth 1000000 in
theorem cat0d : okv (mEv TmCato2 (((.gtr, lowZ 0 3, .lit 0), false) :: caseP (.var 0) false false false true false) [] 9 [.i .i64 (.var 0), .b true] start) = some (.b true) := by kernel_rfl
set_option maxRecDepth 1000000 in
theorem cat0e : okv (mEv TmCato2 (((.gtr, lowZ 0 3, .lit 0), false) :: caseP (.var 0) false false false false true) [] 9 [.i .i64 (.var 0), .b true] start) = some (.b true) := by kernel_rfl
set_option maxRecDepth 1000000 in
theorem cat0n : okv (mEv TmCato2 (((.gtr, lowZ 0 3, .lit 0), false) :: caseP (.var 0) false false false false false) [] 9 [.i .i64 (.var 0), .b true] start) = some (.b true) := by kernel_rfl
set_option maxRecDepth 1000000 in
theorem cat1a : okv (mEv TmCato2 (((.gtr, lowZ 0 3, .lit 0), true) :: caseP caseI true false false false false) [] 9 [.i .i64 (.var 0), .b true] start) = some (.b true) := by kernel_rfl
set_option maxRecDepth 1000000 in
theorem cat1b : okv (mEv TmCato2 (((.gtr, lowZ 0 3, .lit 0), true) :: caseP caseI false true false false false) [] 9 [.i .i64 (.var 0), .b true] start) = some (.b true) := by kernel_rfl
set_option maxRecDepth 1000000 in
theorem cat1c : okv (mEv TmCato2 (((.gtr, lowZ 0 3, .lit 0), true) :: caseP caseI false false true false false) [] 9 [.i .i64 (.var 0), .b true] start) = some (.b true) := by kernel_rfl
set_option maxRecDepth 1000000 in
theorem cat1d : okv (mEv TmCato2 (((.gtr, lowZ 0 3, .lit 0), true) :: caseP caseI false false false true false) [] 9 [.i .i64 (.var 0), .b true] start) = some (.b true) := by kernel_rfl
set_option maxRecDepth 1000000 in
theorem cat1e : okv (mEv TmCato2 (((.gtr, lowZ 0 3, .lit 0), true) :: caseP caseI false false false false true) [] 9 [.i .i64 (.var 0), .b true] start) = some (.b true) := by kernel_rfl
set_option maxRecDepth 1000000 in
theorem cat1n : okv (mEv TmCato2 (((.gtr, lowZ 0 3, .lit 0), true) :: caseP caseI false false false false false) [] 9 [.i .i64 (.var 0), .b true] start) = some (.b true) := by kernel_rfl
end Go.Proofs.YtmdhaelmblmldaaGreatDoor
