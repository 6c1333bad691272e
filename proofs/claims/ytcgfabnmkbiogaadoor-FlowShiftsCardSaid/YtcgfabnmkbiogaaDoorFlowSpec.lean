/- Chapter 18 in plain Lean: how high a code's stack grows. -/
import Derived.Test.YtcgfabnmkbiogaaDoorFlImg
import Derived.Test.YtcgfabnmkbiogaaDoorOpParts
import Derived.Test.YtcgfabnmkbiogaaDoorOpSpec
import Derived.Lib.Strings
namespace Go.Proofs.YtcgfabnmkbiogaaDoor
open Go.RowKit

/-- The words that are used. -/
def Fl.e : ByteArray := ⟨#[]⟩
def Fl.i : ByteArray := ⟨#[105]⟩
def Fl.r : ByteArray := ⟨#[114]⟩
def Fl.ii : ByteArray := ⟨#[105, 105]⟩
def Fl.rr : ByteArray := ⟨#[114, 114]⟩
/-- A class. -/
def Fl.cls (x : Img) (n : Int) : Option Desc := if 0 ≤ n ∧ n < x.classes.length then x.classes[n.toNat]? else none
/-- Is a class another one, or does it come of it? -/
def Fl.comes (x : Img) (of : Int) : Nat → Int → Bool
  | 0, _ => false
  | f + 1, n => if n = of then true else match Fl.cls x n with
    | none => false
    | some d => Fl.comes x of f d.base
/-- The letters that an instruction looks at. -/
def Fl.slots (x : Img) (c : Cod) (k : Int) : ByteArray :=
  if k = 4 ∨ k = 5 ∨ k = 10 ∨ k = 11 then c.params ++ c.locals
  else if k = 6 ∨ k = 7 ∨ k = 12 ∨ k = 13 then x.globals
  else match Fl.cls x c.cls with
    | some d => d.fields
    | none => Fl.e
def Fl.ans (r : Bool) : ByteArray := if r then Fl.i else Fl.e
/-- What a sign takes and leaves, behind something. -/
noncomputable def Fl.sign (s : ByteArray) (ahead : ByteArray) : Option (ByteArray × ByteArray) :=
  match Op.parts s.data.toList with
  | (p, r, true) => some (ahead ++ ⟨p.toArray⟩, Fl.ans r)
  | (_, _, false) => none
noncomputable def Fl.sig (sigs : List ByteArray) (n : Int) (ahead : ByteArray) : Option (ByteArray × ByteArray) :=
  match sigs[n.toNat]? with
  | some s => Fl.sign s ahead
  | none => none
def Fl.sigOf (p : ByteArray) (r : Bool) : ByteArray := if r then p ++ ⟨#[62, 105]⟩ else p ++ ⟨#[62]⟩
noncomputable def Fl.called (x : Img) (c : Cod) (k a b : Int) : Option (ByteArray × ByteArray) :=
  if k = 23 then match x.codes[a.toNat]? with
    | none => none
    | some d => match Fl.cls x d.cls, Fl.cls x c.cls with
      | some _, some _ => if Fl.comes x d.cls (x.classes.length + 1) c.cls then Fl.sign (Fl.sigOf d.params d.ret) Fl.e else none
      | _, _ => none
  else if k = 24 then match Fl.cls x c.cls with
    | some d => Fl.sig d.sigs a Fl.e
    | none => none
  else if k = 25 then match Fl.cls x b with
    | some d => Fl.sig d.sigs a Fl.r
    | none => none
  else match x.faces[a.toNat]? with
    | some f => Fl.sig f.l b Fl.r
    | none => none
/-- What is taken and left by what moves a slot. -/
def Fl.moved (x : Img) (c : Cod) (k a : Int) : Option (ByteArray × ByteArray) :=
  if a < ((Fl.slots x c k).size : Int) then
    (if k = 4 ∨ k = 6 ∨ k = 8 then some (Fl.e, (Fl.slots x c k).extract a.toNat (a.toNat + 1)) else some ((Fl.slots x c k).extract a.toNat (a.toNat + 1), Fl.e))
  else none
/-- Are all slots of an array numbers? -/
def Fl.row (x : Img) (c : Cod) (k a b : Int) : Bool :=
  decide (a + b ≤ ((Fl.slots x c k).size : Int)) && decide (((((Fl.slots x c k).extract a.toNat (a.toNat + b.toNat)).data.toList.count 105 : Nat) : Int) = b)
/-- What an instruction takes and leaves. -/
noncomputable def Fl.effect (x : Img) (c : Cod) (k a b : Int) : Option (ByteArray × ByteArray) :=
  if k = 1 then some (Fl.e, Fl.i)
  else if k = 32 ∨ k = 33 then (if a < x.blocks.length then some (Fl.e, Fl.i) else none)
  else if k = 2 then some (Fl.e, Fl.r)
  else if k = 3 then (if 1 ≤ a ∧ a ≤ x.insts.length then some (Fl.e, Fl.r) else none)
  else if 4 ≤ k ∧ k ≤ 9 then Fl.moved x c k a
  else if k = 10 ∨ k = 12 ∨ k = 14 then (if Fl.row x c k a b then some (Fl.i, Fl.i) else none)
  else if k = 11 ∨ k = 13 ∨ k = 15 then (if Fl.row x c k a b then some (Fl.ii, Fl.e) else none)
  else if k = 16 then some (Fl.ii, Fl.i)
  else if k = 17 ∨ k = 18 ∨ k = 20 then some (Fl.i, Fl.i)
  else if k = 19 then some (Fl.rr, Fl.i)
  else if k = 22 then some (Fl.i, Fl.e)
  else if 23 ≤ k ∧ k ≤ 26 then Fl.called x c k a b
  else if k = 27 ∨ k = 28 then (if b < (if a = 1 then (x.faces.length : Int) else x.classes.length) then some (Fl.r, Fl.r) else none)
  else if k = 29 then (if c.ret then none else some (Fl.e, Fl.e))
  else if k = 30 then (if c.ret then some (Fl.i, Fl.e) else none)
  else if k = 31 then (if a < x.blocks.length then some (Fl.ii, Fl.e) else none)
  else some (Fl.e, Fl.e)
/-- How far the way has been gone: what is known; with which stack; what is still to do; how high it was. -/
structure FSt where
  kn : List Bool
  st : List ByteArray
  td : List Nat
  most : Int
/-- Goes on at an instruction, with a stack. -/
def FSt.reach (s : FSt) (i : Int) (t : ByteArray) : Option FSt :=
  if 0 ≤ i ∧ i < s.kn.length then
    match s.kn[i.toNat]? with
    | some true => if s.st[i.toNat]? = some t then some s else none
    | _ => some { s with kn := s.kn.set i.toNat true, st := s.st.set i.toNat t, td := s.td ++ [i.toNat] }
  else none
/-- What is left of a stack where something is taken off. -/
def Fl.cut (s t : ByteArray) : Option ByteArray := if Lib.hasSuffix s.data.toList t.data.toList then some ⟨(Lib.trimSuffix s.data.toList t.data.toList).toArray⟩ else none
/-- What is taken, at a stack: OpPop takes what is there. -/
def Fl.takes (k : Int) (t u : ByteArray) : ByteArray := if k = 34 ∧ t.size ≠ 0 then t.extract (t.size - 1) t.size else u
/-- What is left on the stack behind an instruction. -/
noncomputable def Fl.after (x : Img) (c : Cod) (o : Opr) (t : ByteArray) : Option ByteArray :=
  if Op.may o.k o.a o.b then match Fl.effect x c o.k o.a o.b with
    | none => none
    | some (takes, leaves) =>
      if o.k = 34 ∧ t.size = 0 then none
      else match Fl.cut t (Fl.takes o.k t takes) with
        | none => none
        | some r => some (r ++ leaves)
  else none
/-- Where the way goes on. -/
def FSt.go (s : FSt) (k a i : Int) (t : ByteArray) : Option FSt :=
  if k = 29 ∨ k = 30 then (if t.size = 0 then some s else none)
  else if k = 22 then match s.reach a t with
    | none => none
    | some s' => s'.reach (i + 1) t
  else if k = 21 then s.reach a t
  else s.reach (i + 1) t
/-- Goes along an instruction. -/
noncomputable def FSt.step (x : Img) (c : Cod) (s : FSt) (i : Nat) : Option FSt :=
  match c.ops[i]?, s.st[i]? with
  | some o, some t => match Fl.after x c o t with
    | none => none
    | some t' => if t'.size ≤ 10000 then FSt.go { s with most := max s.most t'.size } o.k o.a i t' else none
  | _, _ => none
/-- What it comes to. -/
inductive Runs (x : Img) (c : Cod) : FSt → Option Int → Prop
  | done {s : FSt} : s.td = [] → Runs x c s (some s.most)
  | wrong {s : FSt} {l : List Nat} {i : Nat} : s.td = l ++ [i] → FSt.step x c { s with td := l } i = none → Runs x c s none
  | more {s s' : FSt} {l : List Nat} {i : Nat} {r : Option Int} : s.td = l ++ [i] → FSt.step x c { s with td := l } i = some s' → Runs x c s' r → Runs x c s r
/-- The beginning. -/
def FSt.start (c : Cod) : FSt := ⟨List.replicate c.ops.length false, List.replicate c.ops.length Fl.e, [], 0⟩
/-- What Check says. -/
def Fl.Is (x : Img) (n : Int) (r : Option Int) : Prop :=
  (¬ (0 ≤ n ∧ n < x.codes.length) ∧ r = none) ∨ ∃ c, 0 ≤ n ∧ x.codes[n.toNat]? = some c ∧
    (((FSt.start c).reach 0 Fl.e = none ∧ r = none) ∨ ∃ s, (FSt.start c).reach 0 Fl.e = some s ∧ Runs x c s r)
theorem Runs.same {x : Img} {c : Cod} {s : FSt} {r r' : Option Int} (h : Runs x c s r) (k : Runs x c s r') : r = r' := by
  induction h generalizing r' with
  | done h1 =>
    cases k with
    | done _ => rfl
    | wrong h2 _ => rw [h1] at h2; simp at h2
    | more h2 _ _ => rw [h1] at h2; simp at h2
  | wrong h1 h2 =>
    cases k with
    | done h3 => rw [h3] at h1; simp at h1
    | wrong _ _ => rfl
    | more h3 h4 _ =>
      rw [h1] at h3
      obtain ⟨rfl, h5⟩ := List.append_inj' h3 rfl
      obtain rfl : _ = _ := by simpa using h5
      rw [h2] at h4; cases h4
  | more h1 h2 _ ih =>
    cases k with
    | done h3 => rw [h3] at h1; simp at h1
    | wrong h3 h4 =>
      rw [h1] at h3
      obtain ⟨rfl, h5⟩ := List.append_inj' h3 rfl
      obtain rfl : _ = _ := by simpa using h5
      rw [h2] at h4; cases h4
    | more h3 h4 h5 =>
      rw [h1] at h3
      obtain ⟨rfl, h6⟩ := List.append_inj' h3 rfl
      obtain rfl : _ = _ := by simpa using h6
      rw [h2] at h4
      obtain rfl : _ = _ := by simpa using h4
      exact ih h5
theorem Fl.Is.same {x : Img} {n : Int} {r r' : Option Int} (h : Fl.Is x n r) (k : Fl.Is x n r') : r = r' := by
  rcases h with ⟨h1, rfl⟩ | ⟨c, h0, h1, h2⟩ <;> rcases k with ⟨k1, rfl⟩ | ⟨d, k0, k1, k2⟩
  · rfl
  · exact absurd ⟨k0, by have := (List.getElem?_eq_some_iff.1 k1).1; omega⟩ h1
  · exact absurd ⟨h0, by have := (List.getElem?_eq_some_iff.1 h1).1; omega⟩ k1
  · rw [h1] at k1
    obtain rfl : c = d := by simpa using k1
    rcases h2 with ⟨h2, rfl⟩ | ⟨s, h2, h3⟩ <;> rcases k2 with ⟨k2, rfl⟩ | ⟨s', k2, k3⟩
    · rfl
    · rw [h2] at k2; cases k2
    · rw [h2] at k2; cases k2
    · rw [h2] at k2
      obtain rfl : s = s' := by simpa using k2
      exact h3.same k3
end Go.Proofs.YtcgfabnmkbiogaaDoor
