/- What may be in a declaration (chapter 8), in plain Lean. -/
import Derived.Test.YtejifefgmlpclaaGreatTabG
import Derived.Test.YtejifefgmlpclaaGreatTabD
import Derived.Test.YtejifefgmlpclaaGreatTabFieldsSpec
import Derived.Test.YtejifefgmlpclaaGreatOrd
import Derived.Test.YtejifefgmlpclaaGreatTyA
import Derived.WalkKit
import Derived.WalkSpells
import Derived.WalkLawsBesides
import Derived.LoopTactic
import Derived.Deep.QuietTactic
import Derived.BigQuiet
import Derived.Below
import Derived.Laws.ResultCell
import Derived.Laws.Tables
import Derived.Laws.Rows
import Derived.Deep.Cut
import Derived.KernelRfl
set_option linter.unusedSimpArgs false
set_option linter.unusedVariables false
namespace Go.Proofs.YtejifefgmlpclaaGreat
open Go.RowKit

/-- Two types are equal. -/
def Ru.tyEq (a b : Ty) : Bool := a.k == b.k && (a.lo == b.lo && (a.hi == b.hi && a.name.toList == b.name.toList))
def Ru.psEq : List Vd → List Vd → Bool
  | [], [] => true
  | a :: x, b :: y => Ru.tyEq a.ty b.ty && Ru.psEq x y
  | _, _ => false
def Ru.alike (a b : Md) : Bool := Ru.psEq a.ps b.ps && Ru.tyEq a.res b.res
theorem Ru.tyEq_symm (a b : Ty) : Ru.tyEq a b = Ru.tyEq b a := by
  unfold Ru.tyEq; rw [Bool.beq_comm (a := a.k), Bool.beq_comm (a := a.lo), Bool.beq_comm (a := a.hi), Bool.beq_comm (a := a.name.toList)]
theorem Ru.psEq_symm : ∀ a b : List Vd, Ru.psEq a b = Ru.psEq b a
  | [], [] => rfl
  | [], _ :: _ => rfl
  | _ :: _, [] => rfl
  | a :: x, b :: y => by rw [Ru.psEq, Ru.psEq, Ru.tyEq_symm, Ru.psEq_symm x y]
theorem Ru.alike_symm (a b : Md) : Ru.alike a b = Ru.alike b a := by unfold Ru.alike; rw [Ru.psEq_symm, Ru.tyEq_symm]
/-- The kind of a name's declaration. -/
def Ru.kind (u : List Dk) (s : ByteArray) : Int := Tb.kind u (Tb.find u s)
def Ru.absAt (u : List Dk) (d : Int) : Bool := match u[d.toNat]? with | some x => x.abs | none => false
/-- May a type be there (0: a parameter's, 1: a field's, 2: a program's variable's)? -/
def Ru.may (u : List Dk) (t : Ty) (wh : Int) : Bool :=
  if t.k = 1 ∨ t.k = 2 then true
  else if t.k = 5 then Ru.kind u t.name == 2 || Ru.kind u t.name == 1
  else if t.k = 3 then decide (wh ≥ 1) && (decide (t.lo ≥ -32768) && (decide (t.hi ≤ 32767) && decide (t.lo ≤ t.hi)))
  else if t.k = 4 then decide (wh ≥ 1) && (decide (t.hi ≥ 0) && decide (t.hi < 8))
  else if t.k = 6 then wh == 2 && (Ru.kind u t.name == 2 && !Ru.absAt u (Tb.find u t.name))
  else if t.k = 7 then wh == 2 && (decide (t.lo ≥ 1) && decide (t.lo ≤ 7))
  else false
def Ru.result (t : Ty) : Bool := t.k == 0 || (t.k == 1 || t.k == 2)
def Ru.first (v : Vd) : Bool :=
  if v.ty.k = 1 then decide (-32768 ≤ v.init) && decide (v.init ≤ 32767)
  else if v.ty.k = 2 then decide (0 ≤ v.init) && decide (v.init ≤ 1)
  else if v.ty.k = 3 then decide (v.ty.lo ≤ v.init) && decide (v.init ≤ v.ty.hi)
  else decide (0 ≤ v.init) && decide (v.init ≤ 0)
/-- Is a name there a second time? -/
def Ru.twice : List ByteArray → List ByteArray → Bool
  | _, [] => false
  | seen, s :: l => seen.any (fun t => t.toList == s.toList) || Ru.twice (seen ++ [s]) l
def Ru.twins (l : List Vd) : Bool := Ru.twice [] (l.map (·.name))
def Ru.twiceM (l : List Md) : Bool := Ru.twice [] (l.map (·.name))
def Ru.great (d : Dk) : Bool :=
  decide (d.ms.length > 6) || (decide (d.faces.length > 4) || (decide (d.vs.length > 8) || d.ms.any fun m => decide (m.ps.length > 3) || decide (m.vs.length > 8)))
/-- Is a variable such that may not be of its type, or has a place? -/
def Ru.odd (u : List Dk) (wh : Int) (v : Vd) : Bool := decide (v.dir ≠ 0) || !Ru.may u v.ty wh
def Ru.face (u : List Dk) (x : Dk) : Int :=
  if x.ms.any fun m => (m.ps.any fun v => !Ru.may u v.ty 0) || !Ru.result m.res then 9
  else if Ru.twiceM x.ms || x.ms.any fun m => Ru.twins m.ps then 6 else 0
def Ru.base (u : List Dk) (d : Int) (x : Dk) : Bool :=
  if x.base.toList = [] then false
  else decide (Tb.find u x.base < 0) || (decide (Tb.find u x.base ≥ d) || (decide (Ru.kind u x.base ≠ 2) || (match u[(Tb.find u x.base).toNat]? with | some b => b.fin | none => false)))
def Ru.strangeGo (u : List Dk) : List ByteArray → List ByteArray → Bool
  | _, [] => false
  | seen, s :: l => (decide (Ru.kind u s ≠ 1) || seen.any (fun t => t.toList == s.toList)) || Ru.strangeGo u (seen ++ [s]) l
def Ru.strange (u : List Dk) (x : Dk) : Bool := Ru.strangeGo u [] x.faces
def Ru.kinds (u : List Dk) (x : Dk) : Bool :=
  x.vs.any (Ru.odd u 1) || x.ms.any fun m => m.ps.any (Ru.odd u 0) || (m.vs.any (Ru.odd u 1) || !Ru.result m.res)
def Ru.inits (x : Dk) : Bool := x.vs.any (fun v => !Ru.first v) || x.ms.any fun m => m.vs.any fun v => !Ru.first v
def Ru.names (u : List Dk) (d : Int) (x : Dk) : Bool :=
  (Ru.twins (Tb.fields u d) || Ru.twiceM x.ms) || x.ms.any fun m => Ru.twins (m.ps ++ m.vs ++ Tb.fields u d)
def Ru.method (u : List Dk) (d : Int) (s : ByteArray) : Option Md :=
  if (Tb.method u d s).2.2 then (Tb.msOf u (Tb.method u d s).1)[(Tb.method u d s).2.1.toNat]? else none
def Ru.isAbs (o : Option Md) : Bool := match o with | some m => m.abs | none => false
def Ru.abstract (u : List Dk) (d : Int) (x : Dk) : Bool :=
  if x.abs && x.fin then true
  else if x.ms.any fun m => m.abs && (m.fin || (decide ((m.vs.length : Int) + m.body.length > 0) || !x.abs)) then true
  else if x.abs then false
  else (Tb.chain u d).any fun c => (Tb.msOf u c).any fun m => Ru.isAbs (Ru.method u d m.name)
def Ru.above (u : List Dk) (d : Int) : Int := ((Tb.chain u d) ++ [-1])[1]?.getD (-1)
def Ru.overs (u : List Dk) (d : Int) (m : Md) : Bool :=
  match Ru.method u (Ru.above u d) m.name with
  | some n => !m.over || (n.fin || !Ru.alike m n)
  | none => m.over
def Ru.over (u : List Dk) (d : Int) (x : Dk) : Bool := x.ms.any (Ru.overs u d)
def Ru.faces (u : List Dk) (d : Int) : Bool :=
  (Tb.faces u d).any fun f => (Tb.msOf u f).any fun m => match Ru.method u d m.name with | some n => !Ru.alike m n | none => true
def Ru.badVar (u : List Dk) (v : Vd) : Bool := !Ru.may u v.ty 2 || (decide (v.dir < 0) || (decide (v.dir > 2) || (decide (v.dir ≠ 0) && (decide (v.ty.k ≠ 1) && decide (v.ty.k ≠ 2)))))
/-- The slots that the variables of the declarations ahead write. -/
def Ru.taken (l : List Dk) (n : Int) : Bool := l.any fun d => d.kind == 3 && d.vs.any fun v => v.dir == 2 && v.slot == n
def Ru.slotsGo (tk : Int → Bool) : List Vd → List Vd → Bool
  | _, [] => false
  | seen, v :: l => (decide (v.dir ≠ 0) && (decide (v.slot < 0) || (decide (v.slot ≥ 8) || (v.dir == 2 && (tk v.slot || seen.any fun w => w.dir == 2 && w.slot == v.slot))))) || Ru.slotsGo tk (seen ++ [v]) l
def Ru.slots (u : List Dk) (d : Nat) (x : Dk) : Bool := Ru.slotsGo (Ru.taken (u.take d)) [] x.vs
def Ru.task (u : List Dk) (d : Nat) (x : Dk) : Int :=
  if decide (Tb.find u x.base < 0) || (decide (Tb.find u x.base ≥ d) || (decide (Ru.kind u x.base ≠ 3) || (decide (x.every < 1) || (decide (x.every > 100) || (decide (x.first < 0) || decide (x.first > 9)))))) then 17
  else if (u.take d).any fun y => y.kind == 4 && y.base.toList == x.base.toList then 17 else 0
end Go.Proofs.YtejifefgmlpclaaGreat
/- Lists searched by a test, as walks; laws for walks. -/
namespace Go.Proofs.YtejifefgmlpclaaGreat
open Go.RowKit

theorem new1 (w : World) (x0 : List Value) (t0 : TypeId) :
    Aid.Has (w.alloc (.cells x0.toArray t0)) (w.heap.size) x0 t0 ∧ Below w.heap.size w (w.alloc (.cells x0.toArray t0)) := by
  exact ⟨Aid.Has.new _ _ _, below_new _ _⟩
theorem new2 (w : World) (x0 x1 : List Value) (t0 t1 : TypeId) :
    Aid.Has ((w.alloc (.cells x0.toArray t0)).alloc (.cells x1.toArray t1)) (w.heap.size) x0 t0 ∧ Aid.Has ((w.alloc (.cells x0.toArray t0)).alloc (.cells x1.toArray t1)) (w.heap.size + 1) x1 t1 ∧ Below w.heap.size w ((w.alloc (.cells x0.toArray t0)).alloc (.cells x1.toArray t1)) := by
  obtain ⟨h0, hb⟩ := new1 w x0 t0
  have e : (w.alloc (.cells x0.toArray t0)).heap.size = w.heap.size + 1 := by simp
  exact ⟨h0.alloc _, (by rw [← e]; exact Aid.Has.new _ _ _), hb.alloc hb.size _⟩
theorem new3 (w : World) (x0 x1 x2 : List Value) (t0 t1 t2 : TypeId) :
    Aid.Has (((w.alloc (.cells x0.toArray t0)).alloc (.cells x1.toArray t1)).alloc (.cells x2.toArray t2)) (w.heap.size) x0 t0 ∧ Aid.Has (((w.alloc (.cells x0.toArray t0)).alloc (.cells x1.toArray t1)).alloc (.cells x2.toArray t2)) (w.heap.size + 1) x1 t1 ∧ Aid.Has (((w.alloc (.cells x0.toArray t0)).alloc (.cells x1.toArray t1)).alloc (.cells x2.toArray t2)) (w.heap.size + 1 + 1) x2 t2 ∧ Below w.heap.size w (((w.alloc (.cells x0.toArray t0)).alloc (.cells x1.toArray t1)).alloc (.cells x2.toArray t2)) := by
  obtain ⟨h0, h1, hb⟩ := new2 w x0 x1 t0 t1
  have e : ((w.alloc (.cells x0.toArray t0)).alloc (.cells x1.toArray t1)).heap.size = w.heap.size + 1 + 1 := by simp
  exact ⟨h0.alloc _, h1.alloc _, (by rw [← e]; exact Aid.Has.new _ _ _), hb.alloc hb.size _⟩
theorem new4 (w : World) (x0 x1 x2 x3 : List Value) (t0 t1 t2 t3 : TypeId) :
    Aid.Has ((((w.alloc (.cells x0.toArray t0)).alloc (.cells x1.toArray t1)).alloc (.cells x2.toArray t2)).alloc (.cells x3.toArray t3)) (w.heap.size) x0 t0 ∧ Aid.Has ((((w.alloc (.cells x0.toArray t0)).alloc (.cells x1.toArray t1)).alloc (.cells x2.toArray t2)).alloc (.cells x3.toArray t3)) (w.heap.size + 1) x1 t1 ∧ Aid.Has ((((w.alloc (.cells x0.toArray t0)).alloc (.cells x1.toArray t1)).alloc (.cells x2.toArray t2)).alloc (.cells x3.toArray t3)) (w.heap.size + 1 + 1) x2 t2 ∧ Aid.Has ((((w.alloc (.cells x0.toArray t0)).alloc (.cells x1.toArray t1)).alloc (.cells x2.toArray t2)).alloc (.cells x3.toArray t3)) (w.heap.size + 1 + 1 + 1) x3 t3 ∧ Below w.heap.size w ((((w.alloc (.cells x0.toArray t0)).alloc (.cells x1.toArray t1)).alloc (.cells x2.toArray t2)).alloc (.cells x3.toArray t3)) := by
  obtain ⟨h0, h1, h2, hb⟩ := new3 w x0 x1 x2 t0 t1 t2
  have e : (((w.alloc (.cells x0.toArray t0)).alloc (.cells x1.toArray t1)).alloc (.cells x2.toArray t2)).heap.size = w.heap.size + 1 + 1 + 1 := by simp
  exact ⟨h0.alloc _, h1.alloc _, h2.alloc _, (by rw [← e]; exact Aid.Has.new _ _ _), hb.alloc hb.size _⟩
theorem new5 (w : World) (x0 x1 x2 x3 x4 : List Value) (t0 t1 t2 t3 t4 : TypeId) :
    Aid.Has (((((w.alloc (.cells x0.toArray t0)).alloc (.cells x1.toArray t1)).alloc (.cells x2.toArray t2)).alloc (.cells x3.toArray t3)).alloc (.cells x4.toArray t4)) (w.heap.size) x0 t0 ∧ Aid.Has (((((w.alloc (.cells x0.toArray t0)).alloc (.cells x1.toArray t1)).alloc (.cells x2.toArray t2)).alloc (.cells x3.toArray t3)).alloc (.cells x4.toArray t4)) (w.heap.size + 1) x1 t1 ∧ Aid.Has (((((w.alloc (.cells x0.toArray t0)).alloc (.cells x1.toArray t1)).alloc (.cells x2.toArray t2)).alloc (.cells x3.toArray t3)).alloc (.cells x4.toArray t4)) (w.heap.size + 1 + 1) x2 t2 ∧ Aid.Has (((((w.alloc (.cells x0.toArray t0)).alloc (.cells x1.toArray t1)).alloc (.cells x2.toArray t2)).alloc (.cells x3.toArray t3)).alloc (.cells x4.toArray t4)) (w.heap.size + 1 + 1 + 1) x3 t3 ∧ Aid.Has (((((w.alloc (.cells x0.toArray t0)).alloc (.cells x1.toArray t1)).alloc (.cells x2.toArray t2)).alloc (.cells x3.toArray t3)).alloc (.cells x4.toArray t4)) (w.heap.size + 1 + 1 + 1 + 1) x4 t4 ∧ Below w.heap.size w (((((w.alloc (.cells x0.toArray t0)).alloc (.cells x1.toArray t1)).alloc (.cells x2.toArray t2)).alloc (.cells x3.toArray t3)).alloc (.cells x4.toArray t4)) := by
  obtain ⟨h0, h1, h2, h3, hb⟩ := new4 w x0 x1 x2 x3 t0 t1 t2 t3
  have e : ((((w.alloc (.cells x0.toArray t0)).alloc (.cells x1.toArray t1)).alloc (.cells x2.toArray t2)).alloc (.cells x3.toArray t3)).heap.size = w.heap.size + 1 + 1 + 1 + 1 := by simp
  exact ⟨h0.alloc _, h1.alloc _, h2.alloc _, h3.alloc _, (by rw [← e]; exact Aid.Has.new _ _ _), hb.alloc hb.size _⟩
theorem new6 (w : World) (x0 x1 x2 x3 x4 x5 : List Value) (t0 t1 t2 t3 t4 t5 : TypeId) :
    Aid.Has ((((((w.alloc (.cells x0.toArray t0)).alloc (.cells x1.toArray t1)).alloc (.cells x2.toArray t2)).alloc (.cells x3.toArray t3)).alloc (.cells x4.toArray t4)).alloc (.cells x5.toArray t5)) (w.heap.size) x0 t0 ∧ Aid.Has ((((((w.alloc (.cells x0.toArray t0)).alloc (.cells x1.toArray t1)).alloc (.cells x2.toArray t2)).alloc (.cells x3.toArray t3)).alloc (.cells x4.toArray t4)).alloc (.cells x5.toArray t5)) (w.heap.size + 1) x1 t1 ∧ Aid.Has ((((((w.alloc (.cells x0.toArray t0)).alloc (.cells x1.toArray t1)).alloc (.cells x2.toArray t2)).alloc (.cells x3.toArray t3)).alloc (.cells x4.toArray t4)).alloc (.cells x5.toArray t5)) (w.heap.size + 1 + 1) x2 t2 ∧ Aid.Has ((((((w.alloc (.cells x0.toArray t0)).alloc (.cells x1.toArray t1)).alloc (.cells x2.toArray t2)).alloc (.cells x3.toArray t3)).alloc (.cells x4.toArray t4)).alloc (.cells x5.toArray t5)) (w.heap.size + 1 + 1 + 1) x3 t3 ∧ Aid.Has ((((((w.alloc (.cells x0.toArray t0)).alloc (.cells x1.toArray t1)).alloc (.cells x2.toArray t2)).alloc (.cells x3.toArray t3)).alloc (.cells x4.toArray t4)).alloc (.cells x5.toArray t5)) (w.heap.size + 1 + 1 + 1 + 1) x4 t4 ∧ Aid.Has ((((((w.alloc (.cells x0.toArray t0)).alloc (.cells x1.toArray t1)).alloc (.cells x2.toArray t2)).alloc (.cells x3.toArray t3)).alloc (.cells x4.toArray t4)).alloc (.cells x5.toArray t5)) (w.heap.size + 1 + 1 + 1 + 1 + 1) x5 t5 ∧ Below w.heap.size w ((((((w.alloc (.cells x0.toArray t0)).alloc (.cells x1.toArray t1)).alloc (.cells x2.toArray t2)).alloc (.cells x3.toArray t3)).alloc (.cells x4.toArray t4)).alloc (.cells x5.toArray t5)) := by
  obtain ⟨h0, h1, h2, h3, h4, hb⟩ := new5 w x0 x1 x2 x3 x4 t0 t1 t2 t3 t4
  have e : (((((w.alloc (.cells x0.toArray t0)).alloc (.cells x1.toArray t1)).alloc (.cells x2.toArray t2)).alloc (.cells x3.toArray t3)).alloc (.cells x4.toArray t4)).heap.size = w.heap.size + 1 + 1 + 1 + 1 + 1 := by simp
  exact ⟨h0.alloc _, h1.alloc _, h2.alloc _, h3.alloc _, h4.alloc _, (by rw [← e]; exact Aid.Has.new _ _ _), hb.alloc hb.size _⟩
theorem newn1 (w : World) (x0 : List Value) (t0 : TypeId) :
    ∃ W, (w.alloc (.cells x0.toArray t0)) = W ∧ Aid.Has W (w.heap.size) x0 t0 ∧ Below w.heap.size w W := ⟨_, rfl, new1 w x0 t0⟩
theorem newn2 (w : World) (x0 x1 : List Value) (t0 t1 : TypeId) :
    ∃ W, ((w.alloc (.cells x0.toArray t0)).alloc (.cells x1.toArray t1)) = W ∧ Aid.Has W (w.heap.size) x0 t0 ∧ Aid.Has W (w.heap.size + 1) x1 t1 ∧ Below w.heap.size w W := ⟨_, rfl, new2 w x0 x1 t0 t1⟩
theorem newn3 (w : World) (x0 x1 x2 : List Value) (t0 t1 t2 : TypeId) :
    ∃ W, (((w.alloc (.cells x0.toArray t0)).alloc (.cells x1.toArray t1)).alloc (.cells x2.toArray t2)) = W ∧ Aid.Has W (w.heap.size) x0 t0 ∧ Aid.Has W (w.heap.size + 1) x1 t1 ∧ Aid.Has W (w.heap.size + 1 + 1) x2 t2 ∧ Below w.heap.size w W := ⟨_, rfl, new3 w x0 x1 x2 t0 t1 t2⟩
theorem newn4 (w : World) (x0 x1 x2 x3 : List Value) (t0 t1 t2 t3 : TypeId) :
    ∃ W, ((((w.alloc (.cells x0.toArray t0)).alloc (.cells x1.toArray t1)).alloc (.cells x2.toArray t2)).alloc (.cells x3.toArray t3)) = W ∧ Aid.Has W (w.heap.size) x0 t0 ∧ Aid.Has W (w.heap.size + 1) x1 t1 ∧ Aid.Has W (w.heap.size + 1 + 1) x2 t2 ∧ Aid.Has W (w.heap.size + 1 + 1 + 1) x3 t3 ∧ Below w.heap.size w W := ⟨_, rfl, new4 w x0 x1 x2 x3 t0 t1 t2 t3⟩
theorem newn5 (w : World) (x0 x1 x2 x3 x4 : List Value) (t0 t1 t2 t3 t4 : TypeId) :
    ∃ W, (((((w.alloc (.cells x0.toArray t0)).alloc (.cells x1.toArray t1)).alloc (.cells x2.toArray t2)).alloc (.cells x3.toArray t3)).alloc (.cells x4.toArray t4)) = W ∧ Aid.Has W (w.heap.size) x0 t0 ∧ Aid.Has W (w.heap.size + 1) x1 t1 ∧ Aid.Has W (w.heap.size + 1 + 1) x2 t2 ∧ Aid.Has W (w.heap.size + 1 + 1 + 1) x3 t3 ∧ Aid.Has W (w.heap.size + 1 + 1 + 1 + 1) x4 t4 ∧ Below w.heap.size w W := ⟨_, rfl, new5 w x0 x1 x2 x3 x4 t0 t1 t2 t3 t4⟩
theorem newn6 (w : World) (x0 x1 x2 x3 x4 x5 : List Value) (t0 t1 t2 t3 t4 t5 : TypeId) :
    ∃ W, ((((((w.alloc (.cells x0.toArray t0)).alloc (.cells x1.toArray t1)).alloc (.cells x2.toArray t2)).alloc (.cells x3.toArray t3)).alloc (.cells x4.toArray t4)).alloc (.cells x5.toArray t5)) = W ∧ Aid.Has W (w.heap.size) x0 t0 ∧ Aid.Has W (w.heap.size + 1) x1 t1 ∧ Aid.Has W (w.heap.size + 1 + 1) x2 t2 ∧ Aid.Has W (w.heap.size + 1 + 1 + 1) x3 t3 ∧ Aid.Has W (w.heap.size + 1 + 1 + 1 + 1) x4 t4 ∧ Aid.Has W (w.heap.size + 1 + 1 + 1 + 1 + 1) x5 t5 ∧ Below w.heap.size w W := ⟨_, rfl, new6 w x0 x1 x2 x3 x4 x5 t0 t1 t2 t3 t4 t5⟩
theorem la0 {α : Type} {l : List α} {i : Nat} : l.toArray[i]? = l[i]? := List.getElem?_toArray
theorem la1 {α : Type} {a : α} {l : List α} {i : Nat} : (a :: l)[i + 1]? = l[i]? := List.getElem?_cons_succ
theorem la2 {α : Type} {a : α} {l : List α} : (a :: l)[0]? = some a := List.getElem?_cons_zero
theorem la3 {α : Type} {l : List α} {i : Nat} {a : α} : l.toArray.setIfInBounds i a = (l.set i a).toArray := List.setIfInBounds_toArray l i a
theorem la4 {α : Type} {x : α} {xs : List α} {a : α} : (x :: xs).set 0 a = a :: xs := List.set_cons_zero
theorem la5 {α : Type} {x : α} {xs : List α} {a : α} {i : Nat} : (x :: xs).set (i + 1) a = x :: xs.set i a := List.set_cons_succ
theorem new_at {w X : World} {xs : Array Value} {t : TypeId} (h : w.alloc (.cells xs t) = X) : Aid.Has X w.heap.size xs.toList t := by subst h; exact Aid.Has.new w xs.toList t
theorem all_at {w X : World} {o : Obj} {b : Nat} {ys : List Value} {t : TypeId} (h : w.alloc o = X) (hh : Aid.Has w b ys t) : Aid.Has X b ys t := by subst h; exact hh.alloc _
theorem below_at {w X : World} {o : Obj} {a : World} (h : w.alloc o = X) (hb : Below a.heap.size a w) : Below a.heap.size a X := by subst h; exact hb.alloc hb.size _
theorem below_at0 {w X : World} {o : Obj} (h : w.alloc o = X) : Below w.heap.size w X := by subst h; exact below_new w o
theorem newh1 (w : World) (x0 : List Value) (t0 : TypeId) :
    ∃ W, (w.alloc (.cells x0.toArray t0)) = W ∧ Hid (Aid.Has W (w.heap.size) x0 t0) ∧ Hid (Below w.heap.size w W) := by
  obtain ⟨W, e, h0, k⟩ := newn1 w x0 t0
  exact ⟨W, e, Aid.hid h0, Aid.hid k⟩
theorem newh2 (w : World) (x0 x1 : List Value) (t0 t1 : TypeId) :
    ∃ W, ((w.alloc (.cells x0.toArray t0)).alloc (.cells x1.toArray t1)) = W ∧ Hid (Aid.Has W (w.heap.size) x0 t0) ∧ Hid (Aid.Has W (w.heap.size + 1) x1 t1) ∧ Hid (Below w.heap.size w W) := by
  obtain ⟨W, e, h0, h1, k⟩ := newn2 w x0 x1 t0 t1
  exact ⟨W, e, Aid.hid h0, Aid.hid h1, Aid.hid k⟩
theorem newh3 (w : World) (x0 x1 x2 : List Value) (t0 t1 t2 : TypeId) :
    ∃ W, (((w.alloc (.cells x0.toArray t0)).alloc (.cells x1.toArray t1)).alloc (.cells x2.toArray t2)) = W ∧ Hid (Aid.Has W (w.heap.size) x0 t0) ∧ Hid (Aid.Has W (w.heap.size + 1) x1 t1) ∧ Hid (Aid.Has W (w.heap.size + 1 + 1) x2 t2) ∧ Hid (Below w.heap.size w W) := by
  obtain ⟨W, e, h0, h1, h2, k⟩ := newn3 w x0 x1 x2 t0 t1 t2
  exact ⟨W, e, Aid.hid h0, Aid.hid h1, Aid.hid h2, Aid.hid k⟩
theorem newh4 (w : World) (x0 x1 x2 x3 : List Value) (t0 t1 t2 t3 : TypeId) :
    ∃ W, ((((w.alloc (.cells x0.toArray t0)).alloc (.cells x1.toArray t1)).alloc (.cells x2.toArray t2)).alloc (.cells x3.toArray t3)) = W ∧ Hid (Aid.Has W (w.heap.size) x0 t0) ∧ Hid (Aid.Has W (w.heap.size + 1) x1 t1) ∧ Hid (Aid.Has W (w.heap.size + 1 + 1) x2 t2) ∧ Hid (Aid.Has W (w.heap.size + 1 + 1 + 1) x3 t3) ∧ Hid (Below w.heap.size w W) := by
  obtain ⟨W, e, h0, h1, h2, h3, k⟩ := newn4 w x0 x1 x2 x3 t0 t1 t2 t3
  exact ⟨W, e, Aid.hid h0, Aid.hid h1, Aid.hid h2, Aid.hid h3, Aid.hid k⟩
theorem newh5 (w : World) (x0 x1 x2 x3 x4 : List Value) (t0 t1 t2 t3 t4 : TypeId) :
    ∃ W, (((((w.alloc (.cells x0.toArray t0)).alloc (.cells x1.toArray t1)).alloc (.cells x2.toArray t2)).alloc (.cells x3.toArray t3)).alloc (.cells x4.toArray t4)) = W ∧ Hid (Aid.Has W (w.heap.size) x0 t0) ∧ Hid (Aid.Has W (w.heap.size + 1) x1 t1) ∧ Hid (Aid.Has W (w.heap.size + 1 + 1) x2 t2) ∧ Hid (Aid.Has W (w.heap.size + 1 + 1 + 1) x3 t3) ∧ Hid (Aid.Has W (w.heap.size + 1 + 1 + 1 + 1) x4 t4) ∧ Hid (Below w.heap.size w W) := by
  obtain ⟨W, e, h0, h1, h2, h3, h4, k⟩ := newn5 w x0 x1 x2 x3 x4 t0 t1 t2 t3 t4
  exact ⟨W, e, Aid.hid h0, Aid.hid h1, Aid.hid h2, Aid.hid h3, Aid.hid h4, Aid.hid k⟩
theorem newh6 (w : World) (x0 x1 x2 x3 x4 x5 : List Value) (t0 t1 t2 t3 t4 t5 : TypeId) :
    ∃ W, ((((((w.alloc (.cells x0.toArray t0)).alloc (.cells x1.toArray t1)).alloc (.cells x2.toArray t2)).alloc (.cells x3.toArray t3)).alloc (.cells x4.toArray t4)).alloc (.cells x5.toArray t5)) = W ∧ Hid (Aid.Has W (w.heap.size) x0 t0) ∧ Hid (Aid.Has W (w.heap.size + 1) x1 t1) ∧ Hid (Aid.Has W (w.heap.size + 1 + 1) x2 t2) ∧ Hid (Aid.Has W (w.heap.size + 1 + 1 + 1) x3 t3) ∧ Hid (Aid.Has W (w.heap.size + 1 + 1 + 1 + 1) x4 t4) ∧ Hid (Aid.Has W (w.heap.size + 1 + 1 + 1 + 1 + 1) x5 t5) ∧ Hid (Below w.heap.size w W) := by
  obtain ⟨W, e, h0, h1, h2, h3, h4, h5, k⟩ := newn6 w x0 x1 x2 x3 x4 x5 t0 t1 t2 t3 t4 t5
  exact ⟨W, e, Aid.hid h0, Aid.hid h1, Aid.hid h2, Aid.hid h3, Aid.hid h4, Aid.hid h5, Aid.hid k⟩
theorem nb {w w' : World} {b : Nat} {xs : List Value} {t : TypeId} (hb : Below w.heap.size w w') (h : Hid (Aid.Has w b xs t)) : Hid (Aid.Has w' b xs t) := Aid.hid (h.out.below hb h.out.lt)
theorem kb {a w w' : World} (h : Hid (Below a.heap.size a w)) (hb : Below w.heap.size w w') : Hid (Below a.heap.size a w') := Aid.hid (h.out.trans (hb.mono h.out.size))
theorem nw {w X : World} {xs : Array Value} {t : TypeId} (h : w.alloc (.cells xs t) = X) : Hid (Aid.Has X w.heap.size xs.toList t) := Aid.hid (new_at h)
theorem na {w X : World} {o : Obj} {b : Nat} {ys : List Value} {t : TypeId} (h : w.alloc o = X) (hh : Hid (Aid.Has w b ys t)) : Hid (Aid.Has X b ys t) := Aid.hid (all_at h hh.out)
theorem nk {w X : World} {o : Obj} {a : World} (h : w.alloc o = X) (hb : Hid (Below a.heap.size a w)) : Hid (Below a.heap.size a X) := Aid.hid (below_at h hb.out)
theorem nq {w X : World} {o : Obj} (h : w.alloc o = X) : Hid (Below w.heap.size w X) := Aid.hid (below_at0 h)
theorem kc {w w' : World} {B : Nat} {p : Addr} {v : Value} (hS : Below B w w') (hc : w.cell? p = some v) (hl : p.block < B) : w'.cell? p = some v := (hS.cell hl).trans hc
def nes (k : Int) : List Int → Prop | [] => True | m :: l => (k == m) = false ∧ nes k l
theorem stT {ops : Array Oper} {rest : List Oper} {o : Oper} {a : Act} {w : World} {Q : Exit → Act → World → Prop} {x y : Operand} {g : Nat} {xs : List Value} {cells : Array Value} (N : Hid (Aid.Has w g xs 44)) (hgd : o.guard = none) (ho : o.op = .store 44 x y)
    (hx : a.eval x = .pointer (some ⟨g, 0, none⟩)) (hy : a.eval y = .agg cells) (hi : cells.size = 4) (hold : xs.toArray.size = cells.size) (h1 : cells.all (·.oneCell') = true)
    (h : wpList Tryz.prog ops Q rest (a.put o.dst undef) (w.setRow g cells)) : wpList Tryz.prog ops Q (o :: rest) a w :=
  wpList_store_row hgd 44 x y ho g cells hx hy 44 _ N.out (by rw [hi]; kernel_rfl) hold h1 h
theorem rtT {fn : Func} {p u : Tmp} {a : Act} {w : World} {R : Ending → World → Prop} {g : Nat} {xs : List Value} {x : Value} {cs : Array Value} (N : Hid (Aid.Has w g xs 44)) (h : fn.results = #[.cell p 44, .tmp u]) (hp : a.tmps.getD p undef = .pointer (some ⟨g, 0, none⟩)) (hx : a.tmps.getD u undef = x)
    (hi : cs.size = 4) (hd : a.defers = []) (hR : R (.returned (.tuple #[.agg cs, x])) (w.setRow g cs)) : bodyPost Tryz.prog fn R .ret a (w.setRow g cs) :=
  bodyPost_ret (results_row2 h _ _ g 44 cs (0, 0) _ x hp hx (row_has (ys := cs.toList) N.out) Tryz.underlying44 rfl (by rw [hi]; kernel_rfl)) hd hR
theorem xc1 {w : World} {b : Nat} {t : TypeId} {a0 : Value} {l : List Value} (h : Hid (Aid.Has w b (a0 :: l) t)) : w.cell? ⟨b, 0, none⟩ = some a0 ∧ b < w.heap.size := ⟨h.out.cell 0 _ rfl, h.out.lt⟩
theorem xc2 {w : World} {b : Nat} {t : TypeId} {a0 a1 : Value} {l : List Value} (h : Hid (Aid.Has w b (a0 :: a1 :: l) t)) : w.cell? ⟨b, 0, none⟩ = some a0 ∧ w.cell? ⟨b, 1, none⟩ = some a1 ∧ b < w.heap.size := ⟨h.out.cell 0 _ rfl, h.out.cell 1 _ rfl, h.out.lt⟩
theorem xc3 {w : World} {b : Nat} {t : TypeId} {a0 a1 a2 : Value} {l : List Value} (h : Hid (Aid.Has w b (a0 :: a1 :: a2 :: l) t)) : w.cell? ⟨b, 0, none⟩ = some a0 ∧ w.cell? ⟨b, 1, none⟩ = some a1 ∧ w.cell? ⟨b, 2, none⟩ = some a2 ∧ b < w.heap.size := ⟨h.out.cell 0 _ rfl, h.out.cell 1 _ rfl, h.out.cell 2 _ rfl, h.out.lt⟩
theorem xc4 {w : World} {b : Nat} {t : TypeId} {a0 a1 a2 a3 : Value} {l : List Value} (h : Hid (Aid.Has w b (a0 :: a1 :: a2 :: a3 :: l) t)) : w.cell? ⟨b, 0, none⟩ = some a0 ∧ w.cell? ⟨b, 1, none⟩ = some a1 ∧ w.cell? ⟨b, 2, none⟩ = some a2 ∧ w.cell? ⟨b, 3, none⟩ = some a3 ∧ b < w.heap.size := ⟨h.out.cell 0 _ rfl, h.out.cell 1 _ rfl, h.out.cell 2 _ rfl, h.out.cell 3 _ rfl, h.out.lt⟩
theorem xc5 {w : World} {b : Nat} {t : TypeId} {a0 a1 a2 a3 a4 : Value} {l : List Value} (h : Hid (Aid.Has w b (a0 :: a1 :: a2 :: a3 :: a4 :: l) t)) : w.cell? ⟨b, 0, none⟩ = some a0 ∧ w.cell? ⟨b, 1, none⟩ = some a1 ∧ w.cell? ⟨b, 2, none⟩ = some a2 ∧ w.cell? ⟨b, 3, none⟩ = some a3 ∧ w.cell? ⟨b, 4, none⟩ = some a4 ∧ b < w.heap.size := ⟨h.out.cell 0 _ rfl, h.out.cell 1 _ rfl, h.out.cell 2 _ rfl, h.out.cell 3 _ rfl, h.out.cell 4 _ rfl, h.out.lt⟩
theorem xc6 {w : World} {b : Nat} {t : TypeId} {a0 a1 a2 a3 a4 a5 : Value} {l : List Value} (h : Hid (Aid.Has w b (a0 :: a1 :: a2 :: a3 :: a4 :: a5 :: l) t)) : w.cell? ⟨b, 0, none⟩ = some a0 ∧ w.cell? ⟨b, 1, none⟩ = some a1 ∧ w.cell? ⟨b, 2, none⟩ = some a2 ∧ w.cell? ⟨b, 3, none⟩ = some a3 ∧ w.cell? ⟨b, 4, none⟩ = some a4 ∧ w.cell? ⟨b, 5, none⟩ = some a5 ∧ b < w.heap.size := ⟨h.out.cell 0 _ rfl, h.out.cell 1 _ rfl, h.out.cell 2 _ rfl, h.out.cell 3 _ rfl, h.out.cell 4 _ rfl, h.out.cell 5 _ rfl, h.out.lt⟩
theorem xc7 {w : World} {b : Nat} {t : TypeId} {a0 a1 a2 a3 a4 a5 a6 : Value} {l : List Value} (h : Hid (Aid.Has w b (a0 :: a1 :: a2 :: a3 :: a4 :: a5 :: a6 :: l) t)) : w.cell? ⟨b, 0, none⟩ = some a0 ∧ w.cell? ⟨b, 1, none⟩ = some a1 ∧ w.cell? ⟨b, 2, none⟩ = some a2 ∧ w.cell? ⟨b, 3, none⟩ = some a3 ∧ w.cell? ⟨b, 4, none⟩ = some a4 ∧ w.cell? ⟨b, 5, none⟩ = some a5 ∧ w.cell? ⟨b, 6, none⟩ = some a6 ∧ b < w.heap.size := ⟨h.out.cell 0 _ rfl, h.out.cell 1 _ rfl, h.out.cell 2 _ rfl, h.out.cell 3 _ rfl, h.out.cell 4 _ rfl, h.out.cell 5 _ rfl, h.out.cell 6 _ rfl, h.out.lt⟩
theorem xc8 {w : World} {b : Nat} {t : TypeId} {a0 a1 a2 a3 a4 a5 a6 a7 : Value} {l : List Value} (h : Hid (Aid.Has w b (a0 :: a1 :: a2 :: a3 :: a4 :: a5 :: a6 :: a7 :: l) t)) : w.cell? ⟨b, 0, none⟩ = some a0 ∧ w.cell? ⟨b, 1, none⟩ = some a1 ∧ w.cell? ⟨b, 2, none⟩ = some a2 ∧ w.cell? ⟨b, 3, none⟩ = some a3 ∧ w.cell? ⟨b, 4, none⟩ = some a4 ∧ w.cell? ⟨b, 5, none⟩ = some a5 ∧ w.cell? ⟨b, 6, none⟩ = some a6 ∧ w.cell? ⟨b, 7, none⟩ = some a7 ∧ b < w.heap.size := ⟨h.out.cell 0 _ rfl, h.out.cell 1 _ rfl, h.out.cell 2 _ rfl, h.out.cell 3 _ rfl, h.out.cell 4 _ rfl, h.out.cell 5 _ rfl, h.out.cell 6 _ rfl, h.out.cell 7 _ rfl, h.out.lt⟩
theorem Rows.at_map {α : Type} {w : World} {B sz : Nat} {A : Option Addr} {f : α → List Value} {l : List α} (h : Rows w B sz A (l.map f)) (hn : 0 < l.length) :
    ∃ b off, A = some ⟨b, off, none⟩ ∧ b < B ∧ ∀ i x, l[i]? = some x → ∀ j v, (f x)[j]? = some v → w.cell? ⟨b, off + i * sz + j, none⟩ = some v := by
  obtain ⟨b, off, h1, h2, h3⟩ := h (by simpa using hn)
  exact ⟨b, off, h1, h2, fun i x hx j v hv => h3 i (f x) (by simp [hx]) j v hv⟩
theorem enter_of {P : Program} {f : FuncId} {fn : Func} (hf : P.funcs[f]? = some fn) (hname : (fn.name == "runtime.NumGoroutine") = false) (hb : fn.body.isNone = false) (args : Array Value) (w : World) :
    (callFunc f args).run P w = .ok (.enter f args) w := by
  have h1 : fn.name ≠ "runtime.NumGoroutine" := by simpa using hname
  cases hbd : fn.body with
  | none => simp [hbd] at hb
  | some c => simp [callFunc, hf, h1, hbd]
theorem any_hit {α : Type} {p : α → Bool} {l : List α} {k : Nat} {x : α} (hx : l[k]? = some x) (h : p x = true) : l.any p = true := List.any_eq_true.2 ⟨x, List.mem_of_getElem? hx, h⟩
theorem any_miss {α : Type} {p : α → Bool} {l : List α} (h : ∀ j, j < l.length → ∀ e, l[j]? = some e → p e = false) : l.any p = false := by
  rw [List.any_eq_false]
  intro x hx
  obtain ⟨j, hj⟩ := List.getElem?_of_mem hx
  rw [h j (List.getElem?_eq_some_iff.1 hj).1 x hj]; simp
set_option maxRecDepth 100000 in
set_option maxHeartbeats 4000000 in
theorem indexV_is (l : List Vd) (A : Option Addr) (c B : Nat) (g : FuncId) (cs : Array Value) (p : Vd → Bool) (w : World) (hG : ∀ args w, (callFunc g args).run Tryz.prog w = .ok (.enter g args) w) (hR : Rows w B 8 A (l.map Vd.cells)) (hB : B ≤ w.heap.size) (ll : l.length ≤ 9223372036854775807) (hP : ∀ d ∈ l, ∀ w1, Below w.heap.size w w1 → Calls Tryz.prog g (#[.agg #[.string d.name, .int .i64 d.ty.k, .int .i64 d.ty.lo, .int .i64 d.ty.hi, .string d.ty.name, .int .i64 d.init, .int .i64 d.dir, .int .i64 d.slot]] ++ cs) w1 fun e w2 => e = .returned (.bool (p d)) ∧ Below w1.heap.size w1 w2) :
    Calls Tryz.prog 46 #[.slice A l.length c, .func (.func g) #[] cs] w fun e w' => ∃ k : Int, e = .returned (.int .i64 k) ∧ decide (0 ≤ k) = l.any p ∧ Below w.heap.size w w' := by
  have HR := Aid.hid hR; have HP := Aid.hid hP; have HG := Aid.hid hG
  clear hR hP hG
  go_enter Tryz.func46, Tryz.ntmps46
  try simp only [List.append_eq, List.cons_append, List.nil_append]
  go_wp2_with fail
  go_loopw [8] (fun vi wr => ∃ k : Nat, vi = .int .i64 k ∧ k ≤ l.length ∧ Hid (∀ j, j < k → ∀ e, l[j]? = some e → p e = false) ∧ Below w.heap.size w wr) (fun vi _ => l.length - (intOf vi).toNat)
  case atStart => exact ⟨0, rfl, Nat.zero_le _, Aid.hid (fun j hj => by omega), Below.refl _ _⟩
  case round =>
    obtain ⟨k, rfl, hk, NO, hb⟩ := hrel
    by_cases hkl : k < l.length
    · obtain ⟨b, off, rfl, _, hc⟩ := (HR.out.below hb hB).at_map (by omega)
      obtain ⟨d, hd⟩ : ∃ d, l[k]? = some d := ⟨_, List.getElem?_eq_getElem hkl⟩
      have c0 := hc k d hd 0 _ rfl
      have c1 := hc k d hd 1 _ rfl
      have c2 := hc k d hd 2 _ rfl
      have c3 := hc k d hd 3 _ rfl
      have c4 := hc k d hd 4 _ rfl
      have c5 := hc k d hd 5 _ rfl
      have c6 := hc k d hd 6 _ rfl
      have c7 := hc k d hd 7 _ rfl
      simp only [Nat.add_zero] at c0
      have HD := Aid.hid hd
      have HC := Aid.hid (HP.out d (List.mem_of_getElem? hd) wr hb)
      clear hc hd
      obtain ⟨r, hr⟩ : ∃ r, p d = r := ⟨_, rfl⟩
      rw [hr] at HC
      have HR2 := Aid.hid hr
      clear hr
      go_wp2_with fail
      rw [HG.out]
      refine (HC.out).mono ?_; rintro e w' ⟨rfl, hb'⟩
      replace hb := hb.trans (hb'.mono hb.size)
      clear hb' HC c0 c1 c2 c3 c4 c5 c6 c7
      cases r
      · have NX : Hid (∀ j, j < k + 1 → ∀ e, l[j]? = some e → p e = false) := Aid.hid (fun j hj e he => by
          rcases Nat.lt_or_ge j k with h | h
          · exact NO.out j h e he
          · obtain rfl : j = k := by omega
            rw [HD.out] at he
            obtain rfl := Option.some.inj he
            exact HR2.out)
        go_wp2_with fail
        go_roundw
        case rel => exact ⟨k + 1, by go_num, by omega, NX, hb⟩
        case measure => simp [intOf]; omega
      · have E := Aid.hid (any_hit HD.out HR2.out)
        go_wp2_with fail
        go_ret
        exact ⟨k, rfl, by rw [E.out]; simp, hb⟩
    · have E := Aid.hid (any_miss (p := p) (l := l) (fun j hj => NO.out j (by omega)))
      go_wp2_with fail
      go_ret
      exact ⟨-1, rfl, by rw [E.out]; rfl, hb⟩
set_option maxRecDepth 100000 in
set_option maxHeartbeats 4000000 in
theorem hasV_is (l : List Vd) (A : Option Addr) (c B : Nat) (g : FuncId) (cs : Array Value) (p : Vd → Bool) (r : Bool) (w : World) (hr : l.any p = r) (hG : ∀ args w, (callFunc g args).run Tryz.prog w = .ok (.enter g args) w) (hR : Rows w B 8 A (l.map Vd.cells)) (hB : B ≤ w.heap.size) (ll : l.length ≤ 9223372036854775807) (hP : ∀ d ∈ l, ∀ w1, Below w.heap.size w w1 → Calls Tryz.prog g (#[.agg #[.string d.name, .int .i64 d.ty.k, .int .i64 d.ty.lo, .int .i64 d.ty.hi, .string d.ty.name, .int .i64 d.init, .int .i64 d.dir, .int .i64 d.slot]] ++ cs) w1 fun e w2 => e = .returned (.bool (p d)) ∧ Below w1.heap.size w1 w2) :
    Calls Tryz.prog 26 #[.slice A l.length c, .func (.func g) #[] cs] w fun e w' => e = .returned (.bool r) ∧ Below w.heap.size w w' := by
  have HR := Aid.hid hR; have HP := Aid.hid hP; have HE := Aid.hid hr
  clear hR hP hr
  go_enter Tryz.func26, Tryz.ntmps26
  go_wp2_with fail
  refine (indexV_is l A c B g cs p _ hG HR.out hB ll HP.out).mono ?_; rintro e w' ⟨k, rfl, hk, hb⟩
  rw [HE.out] at hk
  cases r <;> (go_wp2_with fail; go_ret; exact ⟨rfl, hb⟩)
set_option maxRecDepth 100000 in
set_option maxHeartbeats 4000000 in
theorem indexM_is (l : List Md) (A : Option Addr) (c B : Nat) (g : FuncId) (cs : Array Value) (p : Md → Bool) (w : World) (hG : ∀ args w, (callFunc g args).run Tryz.prog w = .ok (.enter g args) w) (hR : Rows w B 11 A (l.map Md.cells)) (hB : B ≤ w.heap.size) (ll : l.length ≤ 9223372036854775807) (hP : ∀ d ∈ l, ∀ w1, Below w.heap.size w w1 → Calls Tryz.prog g (#[.agg #[.string d.name, .bool d.over, .bool d.abs, .bool d.fin, .slice d.pA d.ps.length d.pc, .int .i64 d.res.k, .int .i64 d.res.lo, .int .i64 d.res.hi, .string d.res.name, .slice d.vA d.vs.length d.vc, .slice d.bA d.body.length d.bc]] ++ cs) w1 fun e w2 => e = .returned (.bool (p d)) ∧ Below w1.heap.size w1 w2) :
    Calls Tryz.prog 44 #[.slice A l.length c, .func (.func g) #[] cs] w fun e w' => ∃ k : Int, e = .returned (.int .i64 k) ∧ decide (0 ≤ k) = l.any p ∧ Below w.heap.size w w' := by
  have HR := Aid.hid hR; have HP := Aid.hid hP; have HG := Aid.hid hG
  clear hR hP hG
  go_enter Tryz.func44, Tryz.ntmps44
  try simp only [List.append_eq, List.cons_append, List.nil_append]
  go_wp2_with fail
  go_loopw [8] (fun vi wr => ∃ k : Nat, vi = .int .i64 k ∧ k ≤ l.length ∧ Hid (∀ j, j < k → ∀ e, l[j]? = some e → p e = false) ∧ Below w.heap.size w wr) (fun vi _ => l.length - (intOf vi).toNat)
  case atStart => exact ⟨0, rfl, Nat.zero_le _, Aid.hid (fun j hj => by omega), Below.refl _ _⟩
  case round =>
    obtain ⟨k, rfl, hk, NO, hb⟩ := hrel
    by_cases hkl : k < l.length
    · obtain ⟨b, off, rfl, _, hc⟩ := (HR.out.below hb hB).at_map (by omega)
      obtain ⟨d, hd⟩ : ∃ d, l[k]? = some d := ⟨_, List.getElem?_eq_getElem hkl⟩
      have c0 := hc k d hd 0 _ rfl
      have c1 := hc k d hd 1 _ rfl
      have c2 := hc k d hd 2 _ rfl
      have c3 := hc k d hd 3 _ rfl
      have c4 := hc k d hd 4 _ rfl
      have c5 := hc k d hd 5 _ rfl
      have c6 := hc k d hd 6 _ rfl
      have c7 := hc k d hd 7 _ rfl
      have c8 := hc k d hd 8 _ rfl
      have c9 := hc k d hd 9 _ rfl
      have c10 := hc k d hd 10 _ rfl
      simp only [Nat.add_zero] at c0
      have HD := Aid.hid hd
      have HC := Aid.hid (HP.out d (List.mem_of_getElem? hd) wr hb)
      clear hc hd
      obtain ⟨r, hr⟩ : ∃ r, p d = r := ⟨_, rfl⟩
      rw [hr] at HC
      have HR2 := Aid.hid hr
      clear hr
      go_wp2_with fail
      rw [HG.out]
      refine (HC.out).mono ?_; rintro e w' ⟨rfl, hb'⟩
      replace hb := hb.trans (hb'.mono hb.size)
      clear hb' HC c0 c1 c2 c3 c4 c5 c6 c7 c8 c9 c10
      cases r
      · have NX : Hid (∀ j, j < k + 1 → ∀ e, l[j]? = some e → p e = false) := Aid.hid (fun j hj e he => by
          rcases Nat.lt_or_ge j k with h | h
          · exact NO.out j h e he
          · obtain rfl : j = k := by omega
            rw [HD.out] at he
            obtain rfl := Option.some.inj he
            exact HR2.out)
        go_wp2_with fail
        go_roundw
        case rel => exact ⟨k + 1, by go_num, by omega, NX, hb⟩
        case measure => simp [intOf]; omega
      · have E := Aid.hid (any_hit HD.out HR2.out)
        go_wp2_with fail
        go_ret
        exact ⟨k, rfl, by rw [E.out]; simp, hb⟩
    · have E := Aid.hid (any_miss (p := p) (l := l) (fun j hj => NO.out j (by omega)))
      go_wp2_with fail
      go_ret
      exact ⟨-1, rfl, by rw [E.out]; rfl, hb⟩
set_option maxRecDepth 100000 in
set_option maxHeartbeats 4000000 in
theorem hasM_is (l : List Md) (A : Option Addr) (c B : Nat) (g : FuncId) (cs : Array Value) (p : Md → Bool) (r : Bool) (w : World) (hr : l.any p = r) (hG : ∀ args w, (callFunc g args).run Tryz.prog w = .ok (.enter g args) w) (hR : Rows w B 11 A (l.map Md.cells)) (hB : B ≤ w.heap.size) (ll : l.length ≤ 9223372036854775807) (hP : ∀ d ∈ l, ∀ w1, Below w.heap.size w w1 → Calls Tryz.prog g (#[.agg #[.string d.name, .bool d.over, .bool d.abs, .bool d.fin, .slice d.pA d.ps.length d.pc, .int .i64 d.res.k, .int .i64 d.res.lo, .int .i64 d.res.hi, .string d.res.name, .slice d.vA d.vs.length d.vc, .slice d.bA d.body.length d.bc]] ++ cs) w1 fun e w2 => e = .returned (.bool (p d)) ∧ Below w1.heap.size w1 w2) :
    Calls Tryz.prog 20 #[.slice A l.length c, .func (.func g) #[] cs] w fun e w' => e = .returned (.bool r) ∧ Below w.heap.size w w' := by
  have HR := Aid.hid hR; have HP := Aid.hid hP; have HE := Aid.hid hr
  clear hR hP hr
  go_enter Tryz.func20, Tryz.ntmps20
  go_wp2_with fail
  refine (indexM_is l A c B g cs p _ hG HR.out hB ll HP.out).mono ?_; rintro e w' ⟨k, rfl, hk, hb⟩
  rw [HE.out] at hk
  cases r <;> (go_wp2_with fail; go_ret; exact ⟨rfl, hb⟩)
set_option maxRecDepth 100000 in
set_option maxHeartbeats 4000000 in
theorem indexD_is (l : List Dk) (A : Option Addr) (c B : Nat) (g : FuncId) (cs : Array Value) (p : Dk → Bool) (w : World) (hG : ∀ args w, (callFunc g args).run Tryz.prog w = .ok (.enter g args) w) (hR : Rows w B 11 A (l.map Dk.cells)) (hB : B ≤ w.heap.size) (ll : l.length ≤ 9223372036854775807) (hP : ∀ d ∈ l, ∀ w1, Below w.heap.size w w1 → Calls Tryz.prog g (#[.agg #[.int .i64 d.kind, .string d.name, .string d.base, .slice d.fA d.faces.length d.fc, .bool d.abs, .bool d.fin, .slice d.vA d.vs.length d.vc, .slice d.mA d.ms.length d.mc, .slice d.bA d.body.length d.bc, .int .i64 d.every, .int .i64 d.first]] ++ cs) w1 fun e w2 => e = .returned (.bool (p d)) ∧ Below w1.heap.size w1 w2) :
    Calls Tryz.prog 22 #[.slice A l.length c, .func (.func g) #[] cs] w fun e w' => ∃ k : Int, e = .returned (.int .i64 k) ∧ decide (0 ≤ k) = l.any p ∧ Below w.heap.size w w' := by
  have HR := Aid.hid hR; have HP := Aid.hid hP; have HG := Aid.hid hG
  clear hR hP hG
  go_enter Tryz.func22, Tryz.ntmps22
  try simp only [List.append_eq, List.cons_append, List.nil_append]
  go_wp2_with fail
  go_loopw [8] (fun vi wr => ∃ k : Nat, vi = .int .i64 k ∧ k ≤ l.length ∧ Hid (∀ j, j < k → ∀ e, l[j]? = some e → p e = false) ∧ Below w.heap.size w wr) (fun vi _ => l.length - (intOf vi).toNat)
  case atStart => exact ⟨0, rfl, Nat.zero_le _, Aid.hid (fun j hj => by omega), Below.refl _ _⟩
  case round =>
    obtain ⟨k, rfl, hk, NO, hb⟩ := hrel
    by_cases hkl : k < l.length
    · obtain ⟨b, off, rfl, _, hc⟩ := (HR.out.below hb hB).at_map (by omega)
      obtain ⟨d, hd⟩ : ∃ d, l[k]? = some d := ⟨_, List.getElem?_eq_getElem hkl⟩
      have c0 := hc k d hd 0 _ rfl
      have c1 := hc k d hd 1 _ rfl
      have c2 := hc k d hd 2 _ rfl
      have c3 := hc k d hd 3 _ rfl
      have c4 := hc k d hd 4 _ rfl
      have c5 := hc k d hd 5 _ rfl
      have c6 := hc k d hd 6 _ rfl
      have c7 := hc k d hd 7 _ rfl
      have c8 := hc k d hd 8 _ rfl
      have c9 := hc k d hd 9 _ rfl
      have c10 := hc k d hd 10 _ rfl
      simp only [Nat.add_zero] at c0
      have HD := Aid.hid hd
      have HC := Aid.hid (HP.out d (List.mem_of_getElem? hd) wr hb)
      clear hc hd
      obtain ⟨r, hr⟩ : ∃ r, p d = r := ⟨_, rfl⟩
      rw [hr] at HC
      have HR2 := Aid.hid hr
      clear hr
      go_wp2_with fail
      rw [HG.out]
      refine (HC.out).mono ?_; rintro e w' ⟨rfl, hb'⟩
      replace hb := hb.trans (hb'.mono hb.size)
      clear hb' HC c0 c1 c2 c3 c4 c5 c6 c7 c8 c9 c10
      cases r
      · have NX : Hid (∀ j, j < k + 1 → ∀ e, l[j]? = some e → p e = false) := Aid.hid (fun j hj e he => by
          rcases Nat.lt_or_ge j k with h | h
          · exact NO.out j h e he
          · obtain rfl : j = k := by omega
            rw [HD.out] at he
            obtain rfl := Option.some.inj he
            exact HR2.out)
        go_wp2_with fail
        go_roundw
        case rel => exact ⟨k + 1, by go_num, by omega, NX, hb⟩
        case measure => simp [intOf]; omega
      · have E := Aid.hid (any_hit HD.out HR2.out)
        go_wp2_with fail
        go_ret
        exact ⟨k, rfl, by rw [E.out]; simp, hb⟩
    · have E := Aid.hid (any_miss (p := p) (l := l) (fun j hj => NO.out j (by omega)))
      go_wp2_with fail
      go_ret
      exact ⟨-1, rfl, by rw [E.out]; rfl, hb⟩
set_option maxRecDepth 100000 in
set_option maxHeartbeats 4000000 in
theorem hasD_is (l : List Dk) (A : Option Addr) (c B : Nat) (g : FuncId) (cs : Array Value) (p : Dk → Bool) (r : Bool) (w : World) (hr : l.any p = r) (hG : ∀ args w, (callFunc g args).run Tryz.prog w = .ok (.enter g args) w) (hR : Rows w B 11 A (l.map Dk.cells)) (hB : B ≤ w.heap.size) (ll : l.length ≤ 9223372036854775807) (hP : ∀ d ∈ l, ∀ w1, Below w.heap.size w w1 → Calls Tryz.prog g (#[.agg #[.int .i64 d.kind, .string d.name, .string d.base, .slice d.fA d.faces.length d.fc, .bool d.abs, .bool d.fin, .slice d.vA d.vs.length d.vc, .slice d.mA d.ms.length d.mc, .slice d.bA d.body.length d.bc, .int .i64 d.every, .int .i64 d.first]] ++ cs) w1 fun e w2 => e = .returned (.bool (p d)) ∧ Below w1.heap.size w1 w2) :
    Calls Tryz.prog 42 #[.slice A l.length c, .func (.func g) #[] cs] w fun e w' => e = .returned (.bool r) ∧ Below w.heap.size w w' := by
  have HR := Aid.hid hR; have HP := Aid.hid hP; have HE := Aid.hid hr
  clear hR hP hr
  go_enter Tryz.func42, Tryz.ntmps42
  go_wp2_with fail
  refine (indexD_is l A c B g cs p _ hG HR.out hB ll HP.out).mono ?_; rintro e w' ⟨k, rfl, hk, hb⟩
  rw [HE.out] at hk
  cases r <;> (go_wp2_with fail; go_ret; exact ⟨rfl, hb⟩)
end Go.Proofs.YtejifefgmlpclaaGreat
