/- TopFors, down: its loop, told. -/
import Derived.Test.YtoinghomkcjkcaaGreatDoorTpFoR
namespace Go.Proofs.YtoinghomkcjkcaaGreatDoor
set_option linter.unusedSimpArgs false
set_option linter.unusedVariables false
set_option linter.constructorNameAsVariable false
open Go Go.RowKit
open Ev
/-- the numbers, at n turns -/
def fo1Nu (a t s d n k : Int) : Nat → Int := fun m => match m with
  | 20 => a | 21 => t | 22 => s | 23 => (0 - s) | 24 => ((-32768) + s) | 10 => d | 30 => n | 31 => k | 32 => (n + 1) | 33 => (k + (0 - s)) | 40 => (4 + 5 * n) | 41 => (5 + 19 * n) | 42 => (4 + 5 * n + 1) | 43 => (4 + 5 * n + 5) | 44 => (4 + 5 * n + 3) | 60 => (5 + 19 * n + 0) | 61 => (5 + 19 * n + 1) | 62 => (5 + 19 * n + 2) | 63 => (5 + 19 * n + 3) | 64 => (5 + 19 * n + 4) | 65 => (5 + 19 * n + 5) | 66 => (5 + 19 * n + 6) | 67 => (5 + 19 * n + 7) | 68 => (5 + 19 * n + 8) | 69 => (5 + 19 * n + 9) | 70 => (5 + 19 * n + 10) | 71 => (5 + 19 * n + 11) | 72 => (5 + 19 * n + 12) | 73 => (5 + 19 * n + 13) | 74 => (5 + 19 * n + 14) | 75 => (5 + 19 * n + 15) | 76 => (5 + 19 * n + 16) | 77 => (5 + 19 * n + 17) | 78 => (5 + 19 * n + 18) | 79 => (5 + 19 * n + 19) | _ => 0
def fo1B (a t s n k : Int) : Prop := 1 ≤ s ∧ s ≤ 9 ∧ -40 ≤ t ∧ t < a ∧ a ≤ 40 ∧ 0 ≤ n ∧ n ≤ a - k ∧ t - 9 ≤ k
def fo1F (a t s d N K : Int) (_ : Nat) (ν : Nat → Int) : Prop := ∃ n k, ν = fo1Nu a t s d n k ∧ ForR (fun x => t ≤ x) (0 - s) n k N K ∧ fo1B a t s n k
def fo1Mu (_ : Nat) (ν : Nat → Int) : Nat := (ν 31 + 100 - ν 21).toNat
noncomputable def fo1S : St := ⟨[(0, .i .i64 (.var 20)), (1, .i .i64 (.var 21)), (2, .i .i64 (.var 23)), (10, .s (Ev.app (T 2 0x202d) [.var 10])), (11, .i .i64 (.var 30)), (12, .i .i64 (.var 31))], [], q 1000⟩
noncomputable def fo1E : St := ⟨[(0, .i .i64 (.var 20)), (1, .i .i64 (.var 21)), (10, .s (Ev.app (T 2 0x202d) [.var 10])), (11, .i .i64 (.var 50)), (12, .i .i64 (.var 51))], [], q 1000⟩
set_option maxRecDepth 1000000 in
theorem fo1Lt : goesB (q 1000) fo1S [] [(20, .var 20), (21, .var 21), (23, .var 23), (10, .var 10), (30, .var 32), (31, .var 33)] (iterX (mFS noLov sOv [((.gtr, .var 23, .lit (0)), false), ((.lss, .var 23, .lit (0)), true), ((.gtr, .var 33, .lit (32767)), false), ((.geq, .var 31, .var 21), true)] [(.bin .add .i64 (.var 30) (.lit (1)), .var 32), (.bin .add .i64 (.var 31) (.var 23), .var 33)] (loopC 4 0)) 1 (fo1S.tr mGt) fo1S.hh) = true := by kernel_rfl
set_option maxRecDepth 1000000 in
theorem fo1Lf : endsB (some 0) (q 1000) fo1E [] [(20, .var 20), (21, .var 21), (10, .var 10), (50, .var 30), (51, .var 31)] (iterX (mFS noLov sOv [((.gtr, .var 23, .lit (0)), false), ((.lss, .var 23, .lit (0)), true), ((.geq, .var 31, .var 21), false)] [] (loopC 4 0)) 1 (fo1S.tr mGt) fo1S.hh) = true := by kernel_rfl
set_option maxHeartbeats 4000000 in
theorem fo1_round {ν0 : Nat → Int} {a t s d N K : Int} (h20 : ν0 20 = a) (h21 : ν0 21 = t) (h10 : ν0 10 = d) (h50 : ν0 50 = N) (h51 : ν0 51 = K) : ∀ (j : Nat) (ν : Nat → Int), fo1F a t s d N K j ν → RoundOkN ν0 ν sOv 4 0 (q 1000) (some 0) fo1E (fun _ => fo1S) (fo1F a t s d N K) fo1Mu j := by
  rintro j ν ⟨n, k, rfl, r, b1, b2, b3, b4, b5, b6, b7, b8⟩
  by_cases c : t ≤ k
  · exact ⟨[((.gtr, .var 23, .lit (0)), false), ((.lss, .var 23, .lit (0)), true), ((.gtr, .var 33, .lit (32767)), false), ((.geq, .var 31, .var 21), true)], [(.bin .add .i64 (.var 30) (.lit (1)), .var 32), (.bin .add .i64 (.var 31) (.var 23), .var 33)], 1, (path_cons (fc_gtf (by show (0 - s) ≤ 0; omega)) (path_cons (fc_lt (by show (0 - s) < 0; omega)) (path_cons (fc_gtf (by show (k + (0 - s)) ≤ 32767; omega)) (path_cons (fc_ge (by show t ≤ k; omega)) path_nil)))), (norm_consz (by rw [zbin]; show IntKind.i64.wrap (n + 1) = (n + 1); rw [IntKind.wrap_i64]; omega) (norm_consz (by rw [zbin]; show IntKind.i64.wrap (k + (0 - s)) = (k + (0 - s)); rw [IntKind.wrap_i64]; omega) norm_nil)), .inl ⟨j, [], [(20, .var 20), (21, .var 21), (23, .var 23), (10, .var 10), (30, .var 32), (31, .var 33)], fo1Nu a t s d (n + 1) (k + (0 - s)), fo1Lt, (eqs_cons rfl (eqs_cons rfl (eqs_cons rfl (eqs_cons rfl (eqs_cons rfl (eqs_cons rfl eqs_nil)))))), ⟨n + 1, k + (0 - s), rfl, r.next c, ⟨(by omega), (by omega), (by omega), (by omega), (by omega), (by omega), (by omega), (by omega)⟩⟩, (by show ((k + (0 - s)) + 100 - t).toNat < (k + 100 - t).toNat; omega)⟩⟩
  · obtain ⟨e1, e2⟩ := r.halt c
    exact ⟨[((.gtr, .var 23, .lit (0)), false), ((.lss, .var 23, .lit (0)), true), ((.geq, .var 31, .var 21), false)], [], 1, (path_cons (fc_gtf (by show (0 - s) ≤ 0; omega)) (path_cons (fc_lt (by show (0 - s) < 0; omega)) (path_cons (fc_gef (by show k < t; omega)) path_nil))), norm_nil, .inr ⟨[], [(20, .var 20), (21, .var 21), (10, .var 10), (50, .var 30), (51, .var 31)], fo1Lf, (eqs_cons h20 (eqs_cons h21 (eqs_cons h10 (eqs_cons (h50.trans e1) (eqs_cons (h51.trans e2) eqs_nil)))))⟩⟩
end Go.Proofs.YtoinghomkcjkcaaGreatDoor
