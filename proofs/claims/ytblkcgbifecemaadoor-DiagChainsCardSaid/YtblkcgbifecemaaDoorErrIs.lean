/- errors.Is over such errors, as a walk. -/
import Derived.Test.YtblkcgbifecemaaDoorErrA
import Derived.Deep.LoopGhost
import Derived.Outline
namespace Go.Proofs.YtblkcgbifecemaaDoor
open Go.RowKit Go.Extern.Stop Go.Stop Go.Extern

theorem below_drewN {B : Nat} {a w : World} (h : Below B a w) (n : Nat) : Below B a (w.drewN n) := ⟨h.os, h.tape, h.output, h.size, h.block⟩

/-! ### Closed facts: what the assertions and the calls through interfaces find -/
theorem Er.toE (v : Value) (xT : TypeId) (w : World) : (Instr.typeAssert (.iface 46 v) xT 46 true).run Tryd.prog w = .ok (.tuple #[v, .bool true]) w := by kernel_rfl
theorem Er.hasIsE (v : Value) (xT : TypeId) (w : World) : (Instr.typeAssert (.iface 46 v) xT 71 true).run Tryd.prog w = .ok (.tuple #[.iface 46 v, .bool true]) w := run_typeAssert_hasB Tryd.underlying71 (by kernel_rfl) v xT w
theorem Er.hasUnwrapE (v : Value) (xT : TypeId) (w : World) : (Instr.typeAssert (.iface 46 v) xT 63 true).run Tryd.prog w = .ok (.tuple #[.iface 46 v, .bool true]) w := run_typeAssert_hasB Tryd.underlying63 (by kernel_rfl) v xT w
theorem Er.noIsO (v : Value) (xT : TypeId) (w : World) : (Instr.typeAssert (.iface 62 v) xT 71 true).run Tryd.prog w = .ok (.tuple #[.nilIface, .bool false]) w := run_typeAssert_lacksB Tryd.underlying71 (by kernel_rfl) (by kernel_rfl) v xT w
theorem Er.hasUnwrapO (v : Value) (xT : TypeId) (w : World) : (Instr.typeAssert (.iface 62 v) xT 63 true).run Tryd.prog w = .ok (.tuple #[.iface 62 v, .bool true]) w := run_typeAssert_hasB Tryd.underlying63 (by kernel_rfl) v xT w
theorem Er.noIsS (v : Value) (xT : TypeId) (w : World) : (Instr.typeAssert (.iface 65 v) xT 71 true).run Tryd.prog w = .ok (.tuple #[.nilIface, .bool false]) w := run_typeAssert_lacksB Tryd.underlying71 (by kernel_rfl) (by kernel_rfl) v xT w
theorem Er.noUnwrapS (v : Value) (xT : TypeId) (w : World) : (Instr.typeAssert (.iface 65 v) xT 63 true).run Tryd.prog w = .ok (.tuple #[.nilIface, .bool false]) w := run_typeAssert_lacksB Tryd.underlying63 (by kernel_rfl) (by kernel_rfl) v xT w
theorem Er.noUnwrapsS (v : Value) (xT : TypeId) (w : World) : (Instr.typeAssert (.iface 65 v) xT 73 true).run Tryd.prog w = .ok (.tuple #[.nilIface, .bool false]) w := run_typeAssert_lacksB Tryd.underlying73 (by kernel_rfl) (by kernel_rfl) v xT w
theorem Er.mIs (n : Nat) (v : Value) (w : World) : (Go.method (n + 1) 46 v "Is").run Tryd.prog w = .ok (22, v) w := by kernel_rfl
theorem Er.mUnwrapE (n : Nat) (v : Value) (w : World) : (Go.method (n + 1) 46 v "Unwrap").run Tryd.prog w = .ok (21, v) w := by kernel_rfl
theorem Er.mUnwrapO (n : Nat) (x : Value) (w : World) : (Go.method (n + 1) 62 (.agg #[x]) "Unwrap").run Tryd.prog w = .ok (64, .agg #[x]) w := by kernel_rfl
theorem Er.callTypeOf (v : Value) (w : World) : (callFunc 23 #[.iface 46 v]).run Tryd.prog w = .ok (.value (.iface 69 (.agg #[.pointer (some ⟨4, 46, none⟩)]))) w := by kernel_rfl
theorem Er.callComparable (w : World) : (callFunc 68 #[.agg #[.pointer (some ⟨4, 46, none⟩)]]).run Tryd.prog w = .ok (.value (.bool true)) w := by kernel_rfl
theorem Er.mComparable (n : Nat) (h : Value) (w : World) : (Go.method (n + 1) 69 (.agg #[h]) "Comparable").run Tryd.prog w = .ok (68, .agg #[h]) w := by kernel_rfl

set_option maxRecDepth 100000 in
set_option maxHeartbeats 2000000 in
theorem is_own (b bt : Nat) (k a c : Int) (s : Er) (r : Bool) (w : World) (hr : (c == k) = r) (h : (Er.own b k a s).At w) (ht : (Er.own bt c (-1) .nil).At w) :
    Calls Tryd.prog 22 #[.pointer (some ⟨b, 0, none⟩), .iface 46 (.pointer (some ⟨bt, 0, none⟩))] w fun e w' => e = .returned (.bool r) ∧ ∃ n, w' = w.drewN n := by
  have ta := Er.toE
  have q0 := h.1.cell 0 _ rfl
  have t0 := ht.1.cell 0 _ rfl
  have t1 := ht.1.cell 1 _ rfl
  have t2 : w.cell? ⟨bt, 2, none⟩ = some .nilIface := ht.1.cell 2 _ rfl
  have hlt := h.1.lt
  have htl := ht.1.lt
  clear h ht
  cases r
  · go_enter Tryd.func22, Tryd.ntmps22
    try simp only [List.append_eq, List.cons_append, List.nil_append]
    go_wp2_with fail
    go_quiet (fail)
    go_wp2_with fail
    go_ret
    exact ⟨rfl, _, rfl⟩
  · obtain rfl : c = k := by simpa using hr
    go_enter Tryd.func22, Tryd.ntmps22
    try simp only [List.append_eq, List.cons_append, List.nil_append]
    go_wp2_with fail
    go_quiet (fail)
    go_wp2_with fail
    go_ret
    exact ⟨rfl, _, rfl⟩
end Go.Proofs.YtblkcgbifecemaaDoor
