/- Chapter 14 in plain Lean: how many operands, which instructions may be. -/
import Derived.WalkKit
namespace Go.Proofs.YtcgfabnmkbiogaaDoor

/-- How many operands an instruction has; -1: it is none. -/
def Op.operands (k : Int) : Int :=
  if k = 10 ∨ k = 11 ∨ k = 12 ∨ k = 13 ∨ k = 14 ∨ k = 15 ∨ k = 20 ∨ k = 25 ∨ k = 26 ∨ k = 27 ∨ k = 28 then 2
  else if k = 2 ∨ k = 17 ∨ k = 18 ∨ k = 29 ∨ k = 30 ∨ k = 34 then 0
  else if 1 ≤ k ∧ k ≤ 35 then 1 else -1
/-- Is a number from one to another one? -/
def Op.win (n lo hi : Int) : Bool := decide (lo ≤ n) && decide (n ≤ hi)
/-- May an instruction be? -/
def Op.may (k a b : Int) : Bool :=
  if Op.operands k < 0 ∨ (Op.operands k < 1 ∧ a ≠ 0) ∨ (Op.operands k < 2 ∧ b ≠ 0) then false
  else if k = 20 then Op.win a (-32768) 32767 && Op.win b a 32767
  else if k = 1 then Op.win a (-32768) 32767
  else if k = 16 then Op.win a 1 14
  else if k = 19 then Op.win a 0 1
  else if k = 27 ∨ k = 28 then Op.win a 0 1 && Op.win b 0 10000
  else if k = 10 ∨ k = 11 ∨ k = 12 ∨ k = 13 ∨ k = 14 ∨ k = 15 then Op.win a 0 10000 && Op.win b 1 10000
  else if k = 35 then Op.win a 1 10000
  else Op.win a 0 10000 && Op.win b 0 10000
end Go.Proofs.YtcgfabnmkbiogaaDoor
