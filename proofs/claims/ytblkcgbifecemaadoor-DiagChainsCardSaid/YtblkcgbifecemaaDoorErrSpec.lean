/- Errors as data: of package diag, others that wrap one, of errors.New; and how they lie in memory. -/
import Derived.Test.YtblkcgbifecemaaDoorProg
import Derived.Test.YtblkcgbifecemaaDoorAid
import Derived.WalkKit
import Derived.Below
namespace Go.Proofs.YtblkcgbifecemaaDoor
open Go.RowKit

/-- An error: none; one of package diag's (its block, code, place, what it wraps); another one that wraps one; one of errors.New's. -/
inductive Er where
  | nil
  | own (b : Nat) (c a : Int) (sub : Er)
  | other (sub : Er)
  | es (b : Nat) (s : ByteArray)
def Er.v : Er → Value
  | .nil => .nilIface
  | .own b _ _ _ => .iface 46 (.pointer (some ⟨b, 0, none⟩))
  | .other s => .iface 62 (.agg #[s.v])
  | .es b _ => .iface 65 (.pointer (some ⟨b, 0, none⟩))
def Er.At (w : World) : Er → Prop
  | .nil => True
  | .own b c a s => Aid.Has w b [.int .i64 c, .int .i64 a, s.v] 52 ∧ s.At w
  | .other s => s.At w
  | .es b s => Aid.Has w b [.string s] 67
theorem Er.At.below {w w' : World} {E : Er} (h : E.At w) (hb : Below w.heap.size w w') : E.At w' := by
  induction E with
  | nil => trivial
  | own b c a s ih => exact ⟨h.1.below hb h.1.lt, ih h.2⟩
  | other s ih => exact ih h
  | es b s => exact Aid.Has.below h hb (Aid.Has.lt h)
/-- How many errors it is. -/
def Er.deep : Er → Nat
  | .nil => 0
  | .own _ _ _ s => s.deep + 1
  | .other s => s.deep + 1
  | .es _ _ => 1
/-- Does it tell a code? -/
def Er.has (c : Int) : Er → Bool
  | .own _ k _ s => k == c || s.has c
  | .other s => s.has c
  | _ => false
/-- The first one of package diag's. -/
def Er.first : Er → Option (Nat × Int × Int × Er)
  | .own b c a s => some (b, c, a, s)
  | .other s => s.first
  | _ => none
/-- None of its blocks is b. -/
def Er.no (b : Nat) : Er → Prop
  | .own b' _ _ s => b' ≠ b ∧ s.no b
  | .other s => s.no b
  | .es b' _ => b' ≠ b
  | .nil => True
theorem Er.At.no {w : World} {b : Nat} (hb : w.heap.size ≤ b) {E : Er} (h : E.At w) : E.no b := by
  induction E with
  | nil => trivial
  | own b c a s ih => exact ⟨by have := h.1.lt; omega, ih h.2⟩
  | other s ih => exact ih h
  | es b s => have := Aid.Has.lt (show Aid.Has w _ _ _ from h); unfold Er.no; omega
end Go.Proofs.YtblkcgbifecemaaDoor
