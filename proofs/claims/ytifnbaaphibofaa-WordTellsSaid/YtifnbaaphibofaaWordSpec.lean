/- Package word, in plain Lean: sixteen bits that go round. No program in sight. -/
import Derived.RowKit
namespace Go.Proofs.Ytifnbaaphibofaa.Wd
open Go.RowKit

/-- A number as sixteen bits. -/
def fit (n : Int) : Int := (n + 32768) % 65536 - 32768
/-- 1 of true. -/
def one (b : Bool) : Int := if b then 1 else 0

theorem fit_wrap16 (n : Int) : IntKind.i16.wrap n = fit n := by
  simp [IntKind.wrap, IntKind.bits, IntKind.signed, fit]; omega
theorem fit_in (n : Int) : -32768 ≤ fit n ∧ fit n ≤ 32767 := by unfold fit; omega
theorem wrap64_fit (n : Int) : wrap64 (fit n) = fit n := by have := fit_in n; unfold wrap64; omega
theorem fit_wrap64 (n : Int) : fit (wrap64 n) = fit n := by unfold fit wrap64; omega
theorem fit_wraps (n : Int) : fit (IntKind.u16.wrap (IntKind.u64.wrap n)) = fit n := by
  simp [IntKind.wrap, IntKind.bits, IntKind.signed, fit]
theorem fit_sub (a b : Int) : fit (a + wrap64 (-b)) = fit (a - b) := by unfold fit wrap64; omega
end Go.Proofs.Ytifnbaaphibofaa.Wd
