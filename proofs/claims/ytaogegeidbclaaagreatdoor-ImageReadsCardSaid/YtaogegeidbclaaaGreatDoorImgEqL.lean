/- Two lists, place by place; two images: are they the same? In plain Lean. -/
import Derived.Test.YtaogegeidbclaaaGreatDoorImgLay
import Derived.WalkSpells
import Derived.WalkLawsBesides
import Derived.LoopTactic
import Derived.Deep.QuietTactic
import Derived.BigQuiet
import Derived.OwnWalk
namespace Go.Proofs.YtaogegeidbclaaaGreatDoor
open Go.RowKit

def eqAll {α : Type} (f : α → α → Bool) : List α → List α → Bool
  | [], [] => true
  | x :: xs, y :: ys => f x y && eqAll f xs ys
  | _, _ => false
/-- So far they are. -/
def EqTo {α : Type} (f : α → α → Bool) (xs ys : List α) (k : Nat) : Prop := ∀ j, j < k → ∀ x y, xs[j]? = some x → ys[j]? = some y → f x y = true
section
variable {α : Type} {f : α → α → Bool}
theorem EqTo.zero (xs ys : List α) : EqTo f xs ys 0 := fun _ h => absurd h (by omega)
theorem EqTo.next {xs ys : List α} {k : Nat} (h : EqTo f xs ys k) {x y : α} (hx : xs[k]? = some x) (hy : ys[k]? = some y) (hf : f x y = true) : EqTo f xs ys (k + 1) := fun j hj a b ha hb => by
  by_cases e : j = k
  · subst e
    rw [hx] at ha; rw [hy] at hb
    cases ha; cases hb; exact hf
  · exact h j (by omega) a b ha hb
theorem EqTo.all : ∀ {xs ys : List α}, xs.length = ys.length → EqTo f xs ys xs.length → eqAll f xs ys = true
  | [], [], _, _ => rfl
  | x :: xs, y :: ys, hl, h => by
    have h0 := h 0 (by simp) x y rfl rfl
    have h1 := EqTo.all (xs := xs) (ys := ys) (by simpa using hl) (fun j hj a b ha hb => h (j + 1) (by simpa using hj) a b (by simpa using ha) (by simpa using hb))
    simp [eqAll, h0, h1]
  | [], _ :: _, hl, _ => by simp at hl
  | _ :: _, [], hl, _ => by simp at hl
theorem eqAll_len : ∀ {xs ys : List α}, xs.length ≠ ys.length → eqAll f xs ys = false
  | [], [], h => absurd rfl h
  | x :: xs, y :: ys, h => by
    have := eqAll_len (xs := xs) (ys := ys) (by simpa using h)
    simp [eqAll, this]
  | [], _ :: _, _ => rfl
  | _ :: _, [], _ => rfl
theorem eqAll_no : ∀ {xs ys : List α} {k : Nat} {x y : α}, xs[k]? = some x → ys[k]? = some y → f x y = false → eqAll f xs ys = false
  | [], _, _, _, _, h, _, _ => by simp at h
  | _ :: _, [], _, _, _, _, h, _ => by simp at h
  | a :: xs, b :: ys, 0, x, y, h1, h2, hf => by
    simp at h1 h2; subst h1 h2; simp [eqAll, hf]
  | a :: xs, b :: ys, k + 1, x, y, h1, h2, hf => by
    have := eqAll_no (xs := xs) (ys := ys) (k := k) (by simpa using h1) (by simpa using h2) hf
    simp [eqAll, this]
theorem eqAll_refl (h : ∀ x, f x x = true) : ∀ xs : List α, eqAll f xs xs = true
  | [] => rfl
  | x :: xs => by simp [eqAll, h x, eqAll_refl h xs]
end
def Int.eqb (x y : Int) : Bool := decide (x = y)
def Txt.eqb (x y : ByteArray) : Bool := x.toList == y.toList
def Lnk.eqb (x y : Lnk) : Bool := decide (x.glob = y.glob) && decide (x.slot = y.slot) && decide (x.bool = y.bool)
def Opr.eqb (x y : Opr) : Bool := decide (x.k = y.k) && decide (x.a = y.a) && decide (x.b = y.b)
def Fc.eqb (x y : Fc) : Bool := eqAll Txt.eqb x.l y.l
def Tab.eqb (x y : Tab) : Bool := decide (x.face = y.face) && eqAll Int.eqb x.l y.l
def Desc.eqb (x y : Desc) : Bool := decide (x.base = y.base) && (x.fields.toList == y.fields.toList) && eqAll Int.eqb x.init y.init && eqAll Int.eqb x.vtab y.vtab && eqAll Txt.eqb x.sigs y.sigs && eqAll Tab.eqb x.tabs y.tabs
def Cod.eqb (x y : Cod) : Bool := decide (x.cls = y.cls) && (x.params.toList == y.params.toList) && (x.locals.toList == y.locals.toList) && decide (x.ret = y.ret) && decide (x.stack = y.stack) && eqAll Opr.eqb x.ops y.ops
/-- The two images, in their parts. -/
def Img.eqN (x y : Img) : Bool := eqAll Fc.eqb x.faces y.faces
def Img.eqT (x y : Img) : Bool := eqAll Int.eqb x.insts y.insts && (x.globals.toList == y.globals.toList) && eqAll Int.eqb x.init y.init && eqAll Int.eqb x.blocks y.blocks
def Img.eqL (x y : Img) : Bool := eqAll Lnk.eqb x.ins y.ins && eqAll Lnk.eqb x.outs y.outs && eqAll Opr.eqb x.jobs y.jobs
def Img.eqb (x y : Img) : Bool := Img.eqN x y && Img.eqT x y && Img.eqL x y && eqAll Desc.eqb x.classes y.classes && eqAll Cod.eqb x.codes y.codes && decide (x.d = y.d) && decide (x.w = y.w)
theorem Int.eqb_refl (x : Int) : Int.eqb x x = true := by simp [Int.eqb]
theorem Txt.eqb_refl (x : ByteArray) : Txt.eqb x x = true := by simp [Txt.eqb]
theorem Lnk.eqb_refl (x : Lnk) : Lnk.eqb x x = true := by simp [Lnk.eqb]
theorem Opr.eqb_refl (x : Opr) : Opr.eqb x x = true := by simp [Opr.eqb]
theorem Fc.eqb_refl (x : Fc) : Fc.eqb x x = true := eqAll_refl Txt.eqb_refl _
theorem Tab.eqb_refl (x : Tab) : Tab.eqb x x = true := by simp [Tab.eqb, eqAll_refl Int.eqb_refl]
theorem Desc.eqb_refl (x : Desc) : Desc.eqb x x = true := by simp [Desc.eqb, eqAll_refl Int.eqb_refl, eqAll_refl Txt.eqb_refl, eqAll_refl Tab.eqb_refl]
theorem Cod.eqb_refl (x : Cod) : Cod.eqb x x = true := by simp [Cod.eqb, eqAll_refl Opr.eqb_refl]
theorem Img.eqb_refl (x : Img) : Img.eqb x x = true := by
  simp [Img.eqb, Img.eqN, Img.eqT, Img.eqL, eqAll_refl Fc.eqb_refl, eqAll_refl Int.eqb_refl, eqAll_refl Lnk.eqb_refl, eqAll_refl Opr.eqb_refl, eqAll_refl Desc.eqb_refl, eqAll_refl Cod.eqb_refl]
def LBytes (w : World) (B : Nat) (A : Option Addr) (l : List Int) : Prop := l.length ≤ Lim ∧ Rows w B 1 A (l.map fun n => [Value.int .u8 n])
end Go.Proofs.YtaogegeidbclaaaGreatDoor
