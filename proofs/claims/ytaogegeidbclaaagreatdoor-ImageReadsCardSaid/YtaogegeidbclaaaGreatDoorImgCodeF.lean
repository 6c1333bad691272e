/- What code an error bears, by errors.As at an error of package diag. -/
import Derived.Test.YtaogegeidbclaaaGreatDoorImgRead
import Derived.LaidEql
import Derived.Stop.Asserts
import Derived.Stop.IfaceNil
import Derived.RowKitTokens
import Derived.BigQuiet
import Derived.Deep.QuietTactic
namespace Go.Proofs.YtaogegeidbclaaaGreatDoor
open Go.RowKit Go.Extern.Stop Go.Stop Go.Extern

theorem Er.callTypeOf (v : Value) (w : World) : (callFunc 111 #[.iface 113 v]).run Tryz.prog w = .ok (.value (.iface 158 (.agg #[.pointer (some ⟨1, 113, none⟩)]))) w := by kernel_rfl
theorem As.valueOfP (t : Addr) (w : World) : (callFunc 100 #[.iface 121 (.pointer (some t))]).run Tryz.prog w
    = .ok (.value (.agg #[.pointer (some ⟨1, 121, none⟩), .pointer (some ⟨w.heap.size, 0, none⟩), .int .u64 150])) (w.alloc (.cells #[.pointer (some t)] 121)) := by kernel_rfl
theorem As.typeP (a : Addr) (w : World) : (callFunc 101 #[.agg #[.pointer (some ⟨1, 121, none⟩), .pointer (some a), .int .u64 150]]).run Tryz.prog w
    = .ok (.value (.iface 158 (.agg #[.pointer (some ⟨1, 121, none⟩)]))) w := by kernel_rfl
theorem As.mKind (n : Nat) (h : Value) (w : World) : (Go.method (n + 1) 158 (.agg #[h]) "Kind").run Tryz.prog w = .ok (128, h) w := by kernel_rfl
theorem As.kindP (w : World) : (callFunc 128 #[.pointer (some ⟨1, 121, none⟩)]).run Tryz.prog w = .ok (.value (.int .u8 22)) w := by kernel_rfl
theorem As.kindE (w : World) : (callFunc 128 #[.pointer (some ⟨1, 113, none⟩)]).run Tryz.prog w = .ok (.value (.int .u8 22)) w := by kernel_rfl
theorem rlm (z : Sem Value) (f : TypeId → Addr → Nat → Nat → Sem Value) (v : Value) :
    ReflectliteValue.method z f #[v] = (do match ← ReflectliteValue.parts v with | none => z | some (t, a, fl) => f t a fl (fl % 32)) := rfl
theorem As.partsP (a : Addr) (w : World) : (ReflectliteValue.parts (.agg #[.pointer (some ⟨1, 121, none⟩), .pointer (some a), .int .u64 150])).run Tryz.prog w = .ok (some (121, a, 150)) w := by kernel_rfl
theorem As.isNilP (a p : Addr) (W : World) (ha : W.cell? a = some (.pointer (some p))) :
    (ReflectliteValue.method (ReflectliteValue.valueError "reflectlite.Value.IsNil" 0) ReflectliteValue.isNil #[.agg #[.pointer (some ⟨1, 121, none⟩), .pointer (some a), .int .u64 150]]).run Tryz.prog W = .ok (.bool false) W := by
  rw [rlm]
  simp only [Sem.run_bind, As.partsP, Result.andThen]
  simp [ReflectliteValue.isNil, loadVar, isAgg, underlying, Tryz.underlying121, ha, Result.andThen]
theorem As.mElem (n : Nat) (h : Value) (w : World) : (Go.method (n + 1) 158 (.agg #[h]) "Elem").run Tryz.prog w = .ok (139, .agg #[h]) w := by kernel_rfl
theorem As.mImplements (n : Nat) (h : Value) (w : World) : (Go.method (n + 1) 158 (.agg #[h]) "Implements").run Tryz.prog w = .ok (140, .agg #[h]) w := by kernel_rfl
theorem As.mAssignable (n : Nat) (h : Value) (w : World) : (Go.method (n + 1) 158 (.agg #[h]) "AssignableTo").run Tryz.prog w = .ok (137, .agg #[h]) w := by kernel_rfl
theorem As.elemP (w : World) : (callFunc 139 #[.agg #[.pointer (some ⟨1, 121, none⟩)]]).run Tryz.prog w = .ok (.value (.iface 158 (.agg #[.pointer (some ⟨1, 113, none⟩)]))) w := by kernel_rfl
theorem As.implementsE (w : World) : (callFunc 140 #[.agg #[.pointer (some ⟨1, 113, none⟩)], .iface 158 (.agg #[.pointer (some ⟨1, 34, none⟩)])]).run Tryz.prog w = .ok (.value (.bool true)) w := by kernel_rfl
theorem As.assignableE (w : World) : (callFunc 137 #[.agg #[.pointer (some ⟨1, 113, none⟩)], .iface 158 (.agg #[.pointer (some ⟨1, 113, none⟩)])]).run Tryz.prog w = .ok (.value (.bool true)) w := by kernel_rfl
theorem As.valueOfE (e : Addr) (w : World) : (callFunc 100 #[.iface 113 (.pointer (some e))]).run Tryz.prog w
    = .ok (.value (.agg #[.pointer (some ⟨1, 113, none⟩), .pointer (some ⟨w.heap.size, 0, none⟩), .int .u64 150])) (w.alloc (.cells #[.pointer (some e)] 113)) := by kernel_rfl
theorem As.elemOfP (w : World) : (Rtype.elem? 121).run Tryz.prog w = .ok (some 113) w := by kernel_rfl
theorem As.mkE (p : Addr) (w : World) : (ReflectliteValue.mk 113 p ReflectliteValue.flagAddr).run Tryz.prog w = .ok (.agg #[.pointer (some ⟨1, 113, none⟩), .pointer (some p), .int .u64 406]) w := by kernel_rfl
theorem As.elemVP (a p : Addr) (W : World) (ha : W.cell? a = some (.pointer (some p))) :
    (ReflectliteValue.method (ReflectliteValue.valueError "reflectlite.Value.Elem" 0) ReflectliteValue.elem #[.agg #[.pointer (some ⟨1, 121, none⟩), .pointer (some a), .int .u64 150]]).run Tryz.prog W
      = .ok (.agg #[.pointer (some ⟨1, 113, none⟩), .pointer (some p), .int .u64 406]) W := by
  rw [rlm]
  simp only [Sem.run_bind, As.partsP, Result.andThen]
  simp [ReflectliteValue.elem, loadVar, isAgg, underlying, Tryz.underlying121, ha, Result.andThen, As.elemOfP, As.mkE]
theorem rls (v x : Value) : ∃ s1 s2 s3 s4 s5 : String, ReflectliteValue.set #[v, x] = (do
    let (some (dst, a, fl), some (src, b, _)) := (← ReflectliteValue.parts v, ← ReflectliteValue.parts x)
      | unsupported (.noEntry s1)
    if fl / ReflectliteValue.flagAddr % 2 == 0 then unsupported (.noEntry s2)
    let val ← loadVar src b
    if ← Rtype.directlyAssignable dst src then storeVar dst a val
    else if ← Rtype.implements dst src then
      if (← Rtype.kind src) == 20 then
        match val with
        | .nilIface => unsupported (.noEntry s3)
        | _ => storeVar dst a val
      else storeVar dst a (.iface src val)
    else panicString (s4 ++ (← Rtype.spelt src) ++ s5 ++ (← Rtype.spelt dst))
    pure (.tuple #[])) := ⟨_, _, _, _, _, rfl⟩
theorem As.partsEa (a : Addr) (w : World) : (ReflectliteValue.parts (.agg #[.pointer (some ⟨1, 113, none⟩), .pointer (some a), .int .u64 406])).run Tryz.prog w = .ok (some (113, a, 406)) w := by kernel_rfl
theorem As.partsE (a : Addr) (w : World) : (ReflectliteValue.parts (.agg #[.pointer (some ⟨1, 113, none⟩), .pointer (some a), .int .u64 150])).run Tryz.prog w = .ok (some (113, a, 150)) w := by kernel_rfl
theorem As.directE (w : World) : (Rtype.directlyAssignable 113 113).run Tryz.prog w = .ok true w := by kernel_rfl
theorem As.setE (ta b e : Addr) (old : Value) (W : World) (hb : W.cell? b = some (.pointer (some e))) (ht : W.cell? ta = some old) (hf : W.frozen? ta = false) :
    (ReflectliteValue.set #[.agg #[.pointer (some ⟨1, 113, none⟩), .pointer (some ta), .int .u64 406], .agg #[.pointer (some ⟨1, 113, none⟩), .pointer (some b), .int .u64 150]]).run Tryz.prog W
      = .ok (.tuple #[]) (W.setCell ta (.pointer (some e))) := by
  obtain ⟨s1, s2, s3, s4, s5, hs⟩ := rls (.agg #[.pointer (some ⟨1, 113, none⟩), .pointer (some ta), .int .u64 406]) (.agg #[.pointer (some ⟨1, 113, none⟩), .pointer (some b), .int .u64 150])
  rw [hs]
  simp only [Sem.run_bind, As.partsEa, As.partsE, Result.andThen]
  simp [ReflectliteValue.flagAddr, loadVar, isAgg, underlying, Tryz.underlying113, hb, Result.andThen, As.directE, storeVar, Value.cells, storeCells, Addr.add]
  rw [run_store Tryz.prog W ta _ _ (by rfl)]
  simp [ht, hf]
/-- The library's errorType is what its initialiser lays. -/
def Door (w : World) : Prop := w.cell? ⟨0, 0, none⟩ = some (.iface 158 (.agg #[.pointer (some ⟨1, 34, none⟩)]))
theorem Door.lt {w : World} (h : Door w) : 0 < w.heap.size := by
  rcases Nat.lt_or_ge 0 w.heap.size with h1 | h1
  · exact h1
  · exfalso
    have h0 : w.heap[0]? = none := Array.getElem?_eq_none h1
    unfold Door at h
    simp [World.cell?, h0] at h
theorem Door.below {w w' : World} (h : Door w) (hb : Below w.heap.size w w') : Door w' := (hb.cell (p := ⟨0, 0, none⟩) h.lt).trans h

end Go.Proofs.YtaogegeidbclaaaGreatDoor
