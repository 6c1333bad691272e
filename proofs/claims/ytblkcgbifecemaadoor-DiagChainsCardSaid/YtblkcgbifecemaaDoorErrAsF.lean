/- What errors.As at a target of type **diag.Error asks of the model's entries: closed facts. -/
import Derived.Test.YtblkcgbifecemaaDoorErrIs2
namespace Go.Proofs.YtblkcgbifecemaaDoor
open Go.RowKit Go.Extern.Stop Go.Stop Go.Extern

theorem As.valueOfP (t : Addr) (w : World) : (callFunc 29 #[.iface 77 (.pointer (some t))]).run Tryd.prog w
    = .ok (.value (.agg #[.pointer (some ⟨4, 77, none⟩), .pointer (some ⟨w.heap.size, 0, none⟩), .int .u64 150])) (w.alloc (.cells #[.pointer (some t)] 77)) := by kernel_rfl
theorem As.typeP (a : Addr) (w : World) : (callFunc 30 #[.agg #[.pointer (some ⟨4, 77, none⟩), .pointer (some a), .int .u64 150]]).run Tryd.prog w
    = .ok (.value (.iface 69 (.agg #[.pointer (some ⟨4, 77, none⟩)]))) w := by kernel_rfl
theorem As.mKind (n : Nat) (h : Value) (w : World) : (Go.method (n + 1) 69 (.agg #[h]) "Kind").run Tryd.prog w = .ok (60, h) w := by kernel_rfl
theorem As.kindP (w : World) : (callFunc 60 #[.pointer (some ⟨4, 77, none⟩)]).run Tryd.prog w = .ok (.value (.int .u8 22)) w := by kernel_rfl
theorem As.kindE (w : World) : (callFunc 60 #[.pointer (some ⟨4, 46, none⟩)]).run Tryd.prog w = .ok (.value (.int .u8 22)) w := by kernel_rfl
theorem rlm (z : Sem Value) (f : TypeId → Addr → Nat → Nat → Sem Value) (v : Value) :
    ReflectliteValue.method z f #[v] = (do match ← ReflectliteValue.parts v with | none => z | some (t, a, fl) => f t a fl (fl % 32)) := rfl
theorem As.partsP (a : Addr) (w : World) : (ReflectliteValue.parts (.agg #[.pointer (some ⟨4, 77, none⟩), .pointer (some a), .int .u64 150])).run Tryd.prog w = .ok (some (77, a, 150)) w := by kernel_rfl
theorem As.isNilP (a p : Addr) (W : World) (ha : W.cell? a = some (.pointer (some p))) :
    (ReflectliteValue.method (ReflectliteValue.valueError "reflectlite.Value.IsNil" 0) ReflectliteValue.isNil #[.agg #[.pointer (some ⟨4, 77, none⟩), .pointer (some a), .int .u64 150]]).run Tryd.prog W = .ok (.bool false) W := by
  rw [rlm]
  simp only [Sem.run_bind, As.partsP, Result.andThen]
  simp [ReflectliteValue.isNil, loadVar, isAgg, underlying, Tryd.underlying77, ha, Result.andThen]
theorem As.mElem (n : Nat) (h : Value) (w : World) : (Go.method (n + 1) 69 (.agg #[h]) "Elem").run Tryd.prog w = .ok (69, .agg #[h]) w := by kernel_rfl
theorem As.mImplements (n : Nat) (h : Value) (w : World) : (Go.method (n + 1) 69 (.agg #[h]) "Implements").run Tryd.prog w = .ok (70, .agg #[h]) w := by kernel_rfl
theorem As.mAssignable (n : Nat) (h : Value) (w : World) : (Go.method (n + 1) 69 (.agg #[h]) "AssignableTo").run Tryd.prog w = .ok (67, .agg #[h]) w := by kernel_rfl
theorem As.elemP (w : World) : (callFunc 69 #[.agg #[.pointer (some ⟨4, 77, none⟩)]]).run Tryd.prog w = .ok (.value (.iface 69 (.agg #[.pointer (some ⟨4, 46, none⟩)]))) w := by kernel_rfl
theorem As.implementsE (w : World) : (callFunc 70 #[.agg #[.pointer (some ⟨4, 46, none⟩)], .iface 69 (.agg #[.pointer (some ⟨4, 23, none⟩)])]).run Tryd.prog w = .ok (.value (.bool true)) w := by kernel_rfl
theorem As.typeOfO (v : Value) (w : World) : (callFunc 23 #[.iface 62 v]).run Tryd.prog w = .ok (.value (.iface 69 (.agg #[.pointer (some ⟨4, 62, none⟩)]))) w := by kernel_rfl
theorem As.typeOfS (v : Value) (w : World) : (callFunc 23 #[.iface 65 v]).run Tryd.prog w = .ok (.value (.iface 69 (.agg #[.pointer (some ⟨4, 65, none⟩)]))) w := by kernel_rfl
theorem As.assignableE (w : World) : (callFunc 67 #[.agg #[.pointer (some ⟨4, 46, none⟩)], .iface 69 (.agg #[.pointer (some ⟨4, 46, none⟩)])]).run Tryd.prog w = .ok (.value (.bool true)) w := by kernel_rfl
theorem As.assignableO (w : World) : (callFunc 67 #[.agg #[.pointer (some ⟨4, 62, none⟩)], .iface 69 (.agg #[.pointer (some ⟨4, 46, none⟩)])]).run Tryd.prog w = .ok (.value (.bool false)) w := by kernel_rfl
theorem As.assignableS (w : World) : (callFunc 67 #[.agg #[.pointer (some ⟨4, 65, none⟩)], .iface 69 (.agg #[.pointer (some ⟨4, 46, none⟩)])]).run Tryd.prog w = .ok (.value (.bool false)) w := by kernel_rfl
theorem As.valueOfE (e : Addr) (w : World) : (callFunc 29 #[.iface 46 (.pointer (some e))]).run Tryd.prog w
    = .ok (.value (.agg #[.pointer (some ⟨4, 46, none⟩), .pointer (some ⟨w.heap.size, 0, none⟩), .int .u64 150])) (w.alloc (.cells #[.pointer (some e)] 46)) := by kernel_rfl
theorem As.elemOfP (w : World) : (Rtype.elem? 77).run Tryd.prog w = .ok (some 46) w := by kernel_rfl
theorem As.mkE (p : Addr) (w : World) : (ReflectliteValue.mk 46 p ReflectliteValue.flagAddr).run Tryd.prog w = .ok (.agg #[.pointer (some ⟨4, 46, none⟩), .pointer (some p), .int .u64 406]) w := by kernel_rfl
theorem As.elemVP (a p : Addr) (W : World) (ha : W.cell? a = some (.pointer (some p))) :
    (ReflectliteValue.method (ReflectliteValue.valueError "reflectlite.Value.Elem" 0) ReflectliteValue.elem #[.agg #[.pointer (some ⟨4, 77, none⟩), .pointer (some a), .int .u64 150]]).run Tryd.prog W
      = .ok (.agg #[.pointer (some ⟨4, 46, none⟩), .pointer (some p), .int .u64 406]) W := by
  rw [rlm]
  simp only [Sem.run_bind, As.partsP, Result.andThen]
  simp [ReflectliteValue.elem, loadVar, isAgg, underlying, Tryd.underlying77, ha, Result.andThen, As.elemOfP, As.mkE]
theorem rls (v x : Value) : ∃ s1 s2 s3 s4 s5 : String, ReflectliteValue.set #[v, x] = (do
    let (some (dst, a, fl), some (src, b, _)) := (← ReflectliteValue.parts v, ← ReflectliteValue.parts x)
      | unsupported (.noEntry s1)
    if fl / ReflectliteValue.flagAddr % 2 == 0 then unsupported (.noEntry s2)
    let val ← loadVar src b
    if ← Rtype.directlyAssignable dst src then storeVar dst a val
    else if ← Rtype.implements dst src then
      if (← Rtype.kind src) == 20 then
        match val with
        | .nilIface => unsupported (.noEntry s3)
        | _ => storeVar dst a val
      else storeVar dst a (.iface src val)
    else panicString (s4 ++ (← Rtype.spelt src) ++ s5 ++ (← Rtype.spelt dst))
    pure (.tuple #[])) := ⟨_, _, _, _, _, rfl⟩
theorem As.partsEa (a : Addr) (w : World) : (ReflectliteValue.parts (.agg #[.pointer (some ⟨4, 46, none⟩), .pointer (some a), .int .u64 406])).run Tryd.prog w = .ok (some (46, a, 406)) w := by kernel_rfl
theorem As.partsE (a : Addr) (w : World) : (ReflectliteValue.parts (.agg #[.pointer (some ⟨4, 46, none⟩), .pointer (some a), .int .u64 150])).run Tryd.prog w = .ok (some (46, a, 150)) w := by kernel_rfl
theorem As.directE (w : World) : (Rtype.directlyAssignable 46 46).run Tryd.prog w = .ok true w := by kernel_rfl
theorem As.setE (ta b e : Addr) (old : Value) (W : World) (hb : W.cell? b = some (.pointer (some e))) (ht : W.cell? ta = some old) (hf : W.frozen? ta = false) :
    (ReflectliteValue.set #[.agg #[.pointer (some ⟨4, 46, none⟩), .pointer (some ta), .int .u64 406], .agg #[.pointer (some ⟨4, 46, none⟩), .pointer (some b), .int .u64 150]]).run Tryd.prog W
      = .ok (.tuple #[]) (W.setCell ta (.pointer (some e))) := by
  obtain ⟨s1, s2, s3, s4, s5, hs⟩ := rls (.agg #[.pointer (some ⟨4, 46, none⟩), .pointer (some ta), .int .u64 406]) (.agg #[.pointer (some ⟨4, 46, none⟩), .pointer (some b), .int .u64 150])
  rw [hs]
  simp only [Sem.run_bind, As.partsEa, As.partsE, Result.andThen]
  simp [ReflectliteValue.flagAddr, loadVar, isAgg, underlying, Tryd.underlying46, hb, Result.andThen, As.directE, storeVar, Value.cells, storeCells, Addr.add]
  rw [run_store Tryd.prog W ta _ _ (by rfl)]
  simp [ht, hf]
theorem As.noAsO (v : Value) (xT : TypeId) (w : World) : (Instr.typeAssert (.iface 62 v) xT 98 true).run Tryd.prog w = .ok (.tuple #[.nilIface, .bool false]) w := run_typeAssert_lacksB Tryd.underlying98 (by kernel_rfl) (by kernel_rfl) v xT w
theorem As.noAsS (v : Value) (xT : TypeId) (w : World) : (Instr.typeAssert (.iface 65 v) xT 98 true).run Tryd.prog w = .ok (.tuple #[.nilIface, .bool false]) w := run_typeAssert_lacksB Tryd.underlying98 (by kernel_rfl) (by kernel_rfl) v xT w
end Go.Proofs.YtblkcgbifecemaaDoor
