/- What is wrong with a declaration (chapter 8), in plain Lean: the program's answer (Ru). -/
import Derived.Test.YtejifefgmlpclaaGreatTyY
import Derived.Test.YtejifefgmlpclaaGreatRuA
set_option linter.unusedSimpArgs false
set_option linter.unusedVariables false
namespace Go.Proofs.YtejifefgmlpclaaGreat
open Go.RowKit

/-- What is wrong with the statements at a place. -/
def Ru.stmts (u : List Dk) (x y : Int) (l : List St) : Int := match Pl.at u x y with | some p => Ty.stmts p false l | none => 22
def Ru.bodiesFrom (u : List Dk) (d : Int) : Nat → List Md → Int
  | _, [] => 0
  | k, m :: l => if m.abs then Ru.bodiesFrom u d (k + 1) l else if Ru.stmts u d k m.body ≠ 0 then Ru.stmts u d k m.body else Ru.bodiesFrom u d (k + 1) l
def Ru.class_ (u : List Dk) (d : Int) (x : Dk) : Int :=
  if Ru.base u d x then 7 else if Ru.strange u x then 8 else if Ru.kinds u x then 9 else if Ru.inits x then 10 else if Ru.names u d x then 6
  else if Ru.abstract u d x then 12 else if Ru.over u d x then 11 else if Ru.faces u d then 8 else Ru.bodiesFrom u d 0 x.ms
def Ru.program (u : List Dk) (d : Nat) (x : Dk) : Int :=
  if x.vs.any (Ru.badVar u) then 9 else if x.vs.any (fun v => !Ru.first v) then 10 else if Ru.slots u d x then 16 else if Ru.twins x.vs then 6 else Ru.stmts u d (-1) x.body
def Ru.declAt (u : List Dk) (d : Nat) (x : Dk) : Int :=
  if ¬(1 ≤ x.kind ∧ x.kind ≤ 4) then 22
  else if 12 ≤ d ∨ Ru.great x = true then 5
  else if Tb.find u x.name ≠ d then 6
  else if x.kind = 1 then Ru.face u x else if x.kind = 2 then Ru.class_ u d x else if x.kind = 3 then Ru.program u d x else Ru.task u d x
/-- What is wrong with a declaration. -/
def Ru.decl (u : List Dk) (d : Int) : Int :=
  if d < 0 then 22 else match u[d.toNat]? with | some x => Ru.declAt u d.toNat x | none => 22
def Ru.unitFrom (u : List Dk) : Nat → Nat → List (Int × Int)
  | 0, _ => []
  | n + 1, d => (if Ru.decl u d ≠ 0 then [(Ru.decl u d, (d : Int))] else []) ++ Ru.unitFrom u n (d + 1)
/-- What is wrong with each: the codes and where. -/
def Ru.unit (u : List Dk) : List (Int × Int) := Ru.unitFrom u u.length 0
end Go.Proofs.YtejifefgmlpclaaGreat
