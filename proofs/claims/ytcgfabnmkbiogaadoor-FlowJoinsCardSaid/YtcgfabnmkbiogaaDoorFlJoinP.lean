/- FlowJoins, as a walk. -/
import Derived.Test.YtcgfabnmkbiogaaDoorFlPut
import Derived.LoopTactic
import Derived.WalkKit
import Derived.WalkSpells
import Derived.WalkLawsBesides
import Derived.LoopTactic
import Derived.Deep.QuietTactic
import Derived.BigQuiet
import Derived.Below
import Derived.Laws.ResultCell
import Derived.Laws.Tables
import Derived.Laws.Rows
import Derived.Deep.Cut
import Derived.KernelRfl
namespace Go.Proofs.YtcgfabnmkbiogaaDoor
open Go.RowKit

def jB (x : Int) (j : Nat) : Bool := Go.bits BinOp.and IntKind.i64 (x / 2 ^ j) 1 == 1
theorem put_jo (f : Nat → Bool) (k : Nat) : putOp (f k) = joOp f k := rfl
theorem put_lt (f : Nat → Bool) (k : Nat) : joLt f k ++ [putLt (f k)] = joLt f (k + 1) := by rw [joLt_succ]; rfl
def joGs (f : Nat → Bool) (k : Nat) : List Opr := (List.range k).map (joOp f)
theorem joGs_succ (f : Nat → Bool) (k : Nat) : joGs f (k + 1) = joGs f k ++ [joOp f k] := by unfold joGs; rw [List.range_succ, List.map_append]; rfl
theorem joGs_len (f : Nat → Bool) (k : Nat) : (joGs f k).length = k := by simp [joGs]
theorem joGs_at (f : Nat → Bool) {k j : Nat} (h : j < k) : (joGs f k)[j]? = some (joOp f j) := by simp [joGs, h]
def joHead (v : Int) : List Opr := [⟨1, 0, 0⟩, ⟨22, v, 0⟩]
def joPops (k : Nat) : List Opr := List.replicate k ⟨34, 0, 0⟩
theorem at_left {α : Type} {l m : List α} {i : Nat} {v : α} (h : l[i]? = some v) : (l ++ m)[i]? = some v := by
  rw [List.getElem?_append_left (List.getElem?_eq_some_iff.1 h).1]; exact h
theorem at_right {α : Type} {l m : List α} {i j : Nat} {v : α} (hi : i = l.length + j) (h : m[j]? = some v) : (l ++ m)[i]? = some v := by
  rw [hi, List.getElem?_append_right (Nat.le_add_right _ _), Nat.add_sub_cancel_left]; exact h
theorem set_mid {α : Type} (l m : List α) (y v : α) : (l ++ [y] ++ m).set l.length v = l ++ [v] ++ m := by
  induction l with
  | nil => rfl
  | cons a l ih => simp only [List.cons_append, List.length_cons, List.set_cons_succ] at ih ⊢; rw [ih]
theorem jo_at {c : Cod} {a b : Nat} {f g : Nat → Bool} {u v : Int} (hu : u = ((a + 3 : Nat) : Int)) (hv : v = ((a + 3 + b : Nat) : Int))
    (h : c.ops = joHead u ++ joGs f a ++ [⟨21, v, 0⟩] ++ joGs g b ++ joPops b ++ [⟨29, 0, 0⟩]) : JoAt c a b f g := by
  subst hu hv
  have e1 : (joHead ((a + 3 : Nat) : Int) ++ joGs f a).length = 2 + a := by rw [List.length_append, joGs_len]; rfl
  have e2 : (joHead ((a + 3 : Nat) : Int) ++ joGs f a ++ [(⟨21, ((a + 3 + b : Nat) : Int), 0⟩ : Opr)]).length = 3 + a := by rw [List.length_append, e1]; simp; omega
  have e3 : (joHead ((a + 3 : Nat) : Int) ++ joGs f a ++ [(⟨21, ((a + 3 + b : Nat) : Int), 0⟩ : Opr)] ++ joGs g b).length = 3 + a + b := by rw [List.length_append, e2, joGs_len]
  have e4 : (joHead ((a + 3 : Nat) : Int) ++ joGs f a ++ [(⟨21, ((a + 3 + b : Nat) : Int), 0⟩ : Opr)] ++ joGs g b ++ joPops b).length = 3 + a + b + b := by rw [List.length_append, e3]; simp [joPops]
  refine ⟨?_, ?_, ?_, ?_, ?_, ?_, ?_, ?_⟩ <;> rw [h]
  · rw [List.length_append, e4]; simp; omega
  · rfl
  · rfl
  · intro j hj
    exact at_left (at_left (at_left (at_left (at_right (l := joHead _) (by rfl) (joGs_at f hj)))))
  · exact at_left (at_left (at_left (at_right (j := 0) (by rw [e1]; omega) rfl)))
  · intro j hj
    exact at_left (at_left (at_right (j := j) (by rw [e2]; omega) (joGs_at g hj)))
  · intro j hj
    exact at_left (at_right (j := j) (by rw [e3]; omega) (by simp [joPops, hj]))
  · exact at_right (j := 0) (by rw [e4]; omega) rfl
end Go.Proofs.YtcgfabnmkbiogaaDoor
