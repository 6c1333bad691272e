/- New, Of, Wrap, and the methods of errors, as walks. -/
import Derived.Test.YtblkcgbifecemaaDoorErrSpec
import Derived.LaidEql
import Derived.Stop.Asserts
import Derived.Stop.IfaceNil
import Derived.RowKitTokens
import Derived.BigQuiet
import Derived.Deep.QuietTactic
namespace Go.Proofs.YtblkcgbifecemaaDoor
open Go.RowKit Go.Extern.Stop Go.Stop Go.Extern

theorem Er.compE : (Tryd.prog.info? 46).map (·.comparable) = some true := by kernel_rfl
theorem Er.sizeE : (Tryd.prog.info? 52).map (·.size) = some 3 := by kernel_rfl

set_option maxHeartbeats 400000 in
theorem new_any (c a : Int) (w : World) :
    Calls Tryd.prog 7 #[.int .i64 c, .int .i64 a] w fun e w' => e = .returned (Er.own w.heap.size c a .nil).v ∧ w' = w.alloc (.cells #[.int .i64 c, .int .i64 a, .nilIface] 52) := by
  go_enter Tryd.func7, Tryd.ntmps7
  go_wp2_with fail
  go_ret
  exact ⟨rfl, rfl⟩
theorem new_er (c a : Int) (w : World) :
    Calls Tryd.prog 7 #[.int .i64 c, .int .i64 a] w fun e w' => ∃ b, e = .returned (.iface 46 (.pointer (some ⟨b, 0, none⟩))) ∧ w.heap.size ≤ b ∧ (Er.own b c a .nil).At w' ∧ Below w.heap.size w w' :=
  (new_any c a w).mono fun _ _ ⟨he, hw⟩ => ⟨w.heap.size, he, Nat.le_refl _, ⟨hw ▸ Aid.Has.new w [.int .i64 c, .int .i64 a, .nilIface] _, trivial⟩, hw ▸ (Below.refl _ _).alloc (Nat.le_refl _) _⟩
theorem of_er (c : Int) (w : World) :
    Calls Tryd.prog 9 #[.int .i64 c] w fun e w' => ∃ b, e = .returned (.iface 46 (.pointer (some ⟨b, 0, none⟩))) ∧ w.heap.size ≤ b ∧ (Er.own b c (-1) .nil).At w' ∧ Below w.heap.size w w' := by
  go_enter Tryd.func9, Tryd.ntmps9
  go_wp2_with fail
  refine (new_er c (-1) w).mono ?_; rintro e w' ⟨b, rfl, h1, h2, h3⟩
  go_wp2_with fail
  go_ret
  exact ⟨b, rfl, h1, h2, h3⟩
theorem wrap_nil (c a : Int) (w : World) :
    Calls Tryd.prog 16 #[.nilIface, .int .i64 c, .int .i64 a] w fun e w' => e = .returned .nilIface ∧ w = w' := by
  go_enter Tryd.func16, Tryd.ntmps16
  go_wp2_with fail
  go_ret
  exact ⟨rfl, rfl⟩
theorem wrap_some (t : TypeId) (x : Value) (c a : Int) (w : World) :
    Calls Tryd.prog 16 #[.iface t x, .int .i64 c, .int .i64 a] w fun e w' => e = .returned (.iface 46 (.pointer (some ⟨w.heap.size, 0, none⟩))) ∧ w' = w.alloc (.cells #[.int .i64 c, .int .i64 a, .iface t x] 52) := by
  go_enter Tryd.func16, Tryd.ntmps16
  go_wp2_with fail
  go_ret
  exact ⟨rfl, rfl⟩
theorem unwrap_own (b : Nat) (c a : Int) (s : Er) (w : World) (h : (Er.own b c a s).At w) :
    Calls Tryd.prog 21 #[.pointer (some ⟨b, 0, none⟩)] w fun e w' => e = .returned s.v ∧ w = w' := by
  have q2 := h.1.cell 2 _ rfl
  have hlt := h.1.lt
  generalize s.v = x at q2 ⊢
  clear h
  go_enter Tryd.func21, Tryd.ntmps21
  go_wp2_with fail
  go_ret
  exact ⟨rfl, rfl⟩
theorem unwrap_none (w : World) :
    Calls Tryd.prog 21 #[.pointer none] w fun e w' => e = .returned .nilIface ∧ w = w' := by
  go_enter Tryd.func21, Tryd.ntmps21
  go_wp2_with fail
  go_ret
  exact ⟨rfl, rfl⟩
theorem unwrap_other (x : Value) (w : World) :
    Calls Tryd.prog 64 #[.agg #[x]] w fun e w' => e = .returned x ∧ Below w.heap.size w w' := by
  go_enter Tryd.func64, Tryd.ntmps64
  go_wp2_with fail
  go_ret
  exact ⟨rfl, (Below.refl _ _).alloc (Nat.le_refl _) _⟩
end Go.Proofs.YtblkcgbifecemaaDoor
