/- diag.Find of an error of package diag, told by its cells alone. -/
import Derived.Test.YtmdhaelmblmldaaGreatDoorProg
import Derived.Test.YtmdhaelmblmldaaGreatDoorKg
import Derived.WalkKit
import Derived.Below
import Derived.LaidEql
import Derived.Stop.Asserts
import Derived.Stop.IfaceNil
import Derived.RowKitTokens
import Derived.BigQuiet
import Derived.Deep.QuietTactic
import Derived.Deep.LoopGhost
import Derived.Outline
namespace Go.Proofs.YtmdhaelmblmldaaGreatDoor
set_option linter.constructorNameAsVariable false
set_option linter.unusedVariables false
set_option linter.unusedSimpArgs false
open Go.RowKit Go.Extern.Stop Go.Stop Go.Extern
structure Tk.Has (w : World) (b o : Nat) (l : List Value) : Prop where
  lt : b < w.heap.size
  raw : ∃ cs e fz, w.heap[b]? = some (.cells cs e fz) ∧ ¬ (fz.1 ≤ o ∧ o < fz.2)
  cell : ∀ (i : Nat) (v : Value), l[i]? = some v → w.cell? ⟨b, o + i, none⟩ = some v
theorem Tk.Has.below {w w' : World} {b o : Nat} {l : List Value} (h : Tk.Has w b o l) (hb : Below w.heap.size w w') : Tk.Has w' b o l :=
  ⟨Nat.lt_of_lt_of_le h.lt hb.size, by obtain ⟨cs, e, fz, h1, h2⟩ := h.raw; exact ⟨cs, e, fz, by rw [hb.block b h.lt, h1], h2⟩, fun i v e => (hb.cell (p := ⟨b, o + i, none⟩) h.lt).trans (h.cell i v e)⟩
/-- An error: none, or one of package diag (where it lies, its code, its place). -/
inductive Er where
  | nil
  | own (b o : Nat) (c a : Int)
def Er.v : Er → Value
  | .nil => .nilIface
  | .own b o _ _ => .iface 82 (.pointer (some ⟨b, o, none⟩))
def Er.At (w : World) : Er → Prop
  | .nil => True
  | .own b o c a => Tk.Has w b o [.int .i64 c, .int .i64 a]
theorem Er.At.below {w w' : World} {E : Er} (h : E.At w) (hb : Below w.heap.size w w') : E.At w' := by
  cases E with
  | nil => trivial
  | own b o c a => exact Tk.Has.below h hb
def Er.deep : Er → Nat
  | .nil => 0
  | .own _ _ _ _ => 1
def Er.first : Er → Option (Nat × Nat × Int × Int)
  | .own b o c a => some (b, o, c, a)
  | _ => none
theorem below_drewN {B : Nat} {a w : World} (h : Below B a w) (n : Nat) : Below B a (w.drewN n) := ⟨h.os, h.tape, h.output, h.size, h.block⟩
theorem Er.iface_of {E : Er} (h : E ≠ .nil) : ∃ t x, E.v = .iface t x := by
  cases E with
  | nil => exact absurd rfl h
  | own b o c a => exact ⟨_, _, rfl⟩
theorem Er.hasUnwrapE (v : Value) (xT : TypeId) (w : World) : (Instr.typeAssert (.iface 82 v) xT 240 true).run Tryz.prog w = .ok (.tuple #[.iface 82 v, .bool true]) w := run_typeAssert_hasB Tryz.underlying240 (by kernel_rfl) v xT w
theorem Er.mUnwrapE (n : Nat) (v : Value) (w : World) : (Go.method (n + 1) 82 v "Unwrap").run Tryz.prog w = .ok (610, v) w := by kernel_rfl
theorem Er.callTypeOf (v : Value) (w : World) : (callFunc 112 #[.iface 82 v]).run Tryz.prog w = .ok (.value (.iface 232 (.agg #[.pointer (some ⟨12, 82, none⟩)]))) w := by kernel_rfl
theorem As.valueOfP (t : Addr) (w : World) : (callFunc 57 #[.iface 84 (.pointer (some t))]).run Tryz.prog w
    = .ok (.value (.agg #[.pointer (some ⟨12, 84, none⟩), .pointer (some ⟨w.heap.size, 0, none⟩), .int .u64 150])) (w.alloc (.cells #[.pointer (some t)] 84)) := by kernel_rfl
theorem As.typeP (a : Addr) (w : World) : (callFunc 58 #[.agg #[.pointer (some ⟨12, 84, none⟩), .pointer (some a), .int .u64 150]]).run Tryz.prog w
    = .ok (.value (.iface 232 (.agg #[.pointer (some ⟨12, 84, none⟩)]))) w := by kernel_rfl
theorem As.mKind (n : Nat) (h : Value) (w : World) : (Go.method (n + 1) 232 (.agg #[h]) "Kind").run Tryz.prog w = .ok (605, h) w := by kernel_rfl
theorem As.kindP (w : World) : (callFunc 605 #[.pointer (some ⟨12, 84, none⟩)]).run Tryz.prog w = .ok (.value (.int .u8 22)) w := by kernel_rfl
theorem As.kindE (w : World) : (callFunc 605 #[.pointer (some ⟨12, 82, none⟩)]).run Tryz.prog w = .ok (.value (.int .u8 22)) w := by kernel_rfl
theorem rlm (z : Sem Value) (f : TypeId → Addr → Nat → Nat → Sem Value) (v : Value) :
    ReflectliteValue.method z f #[v] = (do match ← ReflectliteValue.parts v with | none => z | some (t, a, fl) => f t a fl (fl % 32)) := rfl
theorem As.partsP (a : Addr) (w : World) : (ReflectliteValue.parts (.agg #[.pointer (some ⟨12, 84, none⟩), .pointer (some a), .int .u64 150])).run Tryz.prog w = .ok (some (84, a, 150)) w := by kernel_rfl
theorem As.isNilP (a p : Addr) (W : World) (ha : W.cell? a = some (.pointer (some p))) :
    (ReflectliteValue.method (ReflectliteValue.valueError "reflectlite.Value.IsNil" 0) ReflectliteValue.isNil #[.agg #[.pointer (some ⟨12, 84, none⟩), .pointer (some a), .int .u64 150]]).run Tryz.prog W = .ok (.bool false) W := by
  rw [rlm]
  simp only [Sem.run_bind, As.partsP, Result.andThen]
  simp [ReflectliteValue.isNil, loadVar, isAgg, underlying, Tryz.underlying84, ha, Result.andThen]
theorem As.mElem (n : Nat) (h : Value) (w : World) : (Go.method (n + 1) 232 (.agg #[h]) "Elem").run Tryz.prog w = .ok (619, .agg #[h]) w := by kernel_rfl
theorem As.mImplements (n : Nat) (h : Value) (w : World) : (Go.method (n + 1) 232 (.agg #[h]) "Implements").run Tryz.prog w = .ok (620, .agg #[h]) w := by kernel_rfl
theorem As.mAssignable (n : Nat) (h : Value) (w : World) : (Go.method (n + 1) 232 (.agg #[h]) "AssignableTo").run Tryz.prog w = .ok (617, .agg #[h]) w := by kernel_rfl
theorem As.elemP (w : World) : (callFunc 619 #[.agg #[.pointer (some ⟨12, 84, none⟩)]]).run Tryz.prog w = .ok (.value (.iface 232 (.agg #[.pointer (some ⟨12, 82, none⟩)]))) w := by kernel_rfl
theorem As.implementsE (w : World) : (callFunc 620 #[.agg #[.pointer (some ⟨12, 82, none⟩)], .iface 232 (.agg #[.pointer (some ⟨12, 56, none⟩)])]).run Tryz.prog w = .ok (.value (.bool true)) w := by kernel_rfl
theorem As.assignableE (w : World) : (callFunc 617 #[.agg #[.pointer (some ⟨12, 82, none⟩)], .iface 232 (.agg #[.pointer (some ⟨12, 82, none⟩)])]).run Tryz.prog w = .ok (.value (.bool true)) w := by kernel_rfl
theorem As.valueOfE (e : Addr) (w : World) : (callFunc 57 #[.iface 82 (.pointer (some e))]).run Tryz.prog w
    = .ok (.value (.agg #[.pointer (some ⟨12, 82, none⟩), .pointer (some ⟨w.heap.size, 0, none⟩), .int .u64 150])) (w.alloc (.cells #[.pointer (some e)] 82)) := by kernel_rfl
theorem As.elemOfP (w : World) : (Rtype.elem? 84).run Tryz.prog w = .ok (some 82) w := by kernel_rfl
theorem As.mkE (p : Addr) (w : World) : (ReflectliteValue.mk 82 p ReflectliteValue.flagAddr).run Tryz.prog w = .ok (.agg #[.pointer (some ⟨12, 82, none⟩), .pointer (some p), .int .u64 406]) w := by kernel_rfl
theorem As.elemVP (a p : Addr) (W : World) (ha : W.cell? a = some (.pointer (some p))) :
    (ReflectliteValue.method (ReflectliteValue.valueError "reflectlite.Value.Elem" 0) ReflectliteValue.elem #[.agg #[.pointer (some ⟨12, 84, none⟩), .pointer (some a), .int .u64 150]]).run Tryz.prog W
      = .ok (.agg #[.pointer (some ⟨12, 82, none⟩), .pointer (some p), .int .u64 406]) W := by
  rw [rlm]
  simp only [Sem.run_bind, As.partsP, Result.andThen]
  simp [ReflectliteValue.elem, loadVar, isAgg, underlying, Tryz.underlying84, ha, Result.andThen, As.elemOfP, As.mkE]
theorem rls (v x : Value) : ∃ s1 s2 s3 s4 s5 : String, ReflectliteValue.set #[v, x] = (do
    let (some (dst, a, fl), some (src, b, _)) := (← ReflectliteValue.parts v, ← ReflectliteValue.parts x)
      | unsupported (.noEntry s1)
    if fl / ReflectliteValue.flagAddr % 2 == 0 then unsupported (.noEntry s2)
    let val ← loadVar src b
    if ← Rtype.directlyAssignable dst src then storeVar dst a val
    else if ← Rtype.implements dst src then
      if (← Rtype.kind src) == 20 then
        match val with
        | .nilIface => unsupported (.noEntry s3)
        | _ => storeVar dst a val
      else storeVar dst a (.iface src val)
    else panicString (s4 ++ (← Rtype.spelt src) ++ s5 ++ (← Rtype.spelt dst))
    pure (.tuple #[])) := ⟨_, _, _, _, _, rfl⟩
theorem As.partsEa (a : Addr) (w : World) : (ReflectliteValue.parts (.agg #[.pointer (some ⟨12, 82, none⟩), .pointer (some a), .int .u64 406])).run Tryz.prog w = .ok (some (82, a, 406)) w := by kernel_rfl
theorem As.partsE (a : Addr) (w : World) : (ReflectliteValue.parts (.agg #[.pointer (some ⟨12, 82, none⟩), .pointer (some a), .int .u64 150])).run Tryz.prog w = .ok (some (82, a, 150)) w := by kernel_rfl
theorem As.directE (w : World) : (Rtype.directlyAssignable 82 82).run Tryz.prog w = .ok true w := by kernel_rfl
theorem As.setE (ta b e : Addr) (old : Value) (W : World) (hb : W.cell? b = some (.pointer (some e))) (ht : W.cell? ta = some old) (hf : W.frozen? ta = false) :
    (ReflectliteValue.set #[.agg #[.pointer (some ⟨12, 82, none⟩), .pointer (some ta), .int .u64 406], .agg #[.pointer (some ⟨12, 82, none⟩), .pointer (some b), .int .u64 150]]).run Tryz.prog W
      = .ok (.tuple #[]) (W.setCell ta (.pointer (some e))) := by
  obtain ⟨s1, s2, s3, s4, s5, hs⟩ := rls (.agg #[.pointer (some ⟨12, 82, none⟩), .pointer (some ta), .int .u64 406]) (.agg #[.pointer (some ⟨12, 82, none⟩), .pointer (some b), .int .u64 150])
  rw [hs]
  simp only [Sem.run_bind, As.partsEa, As.partsE, Result.andThen]
  simp [ReflectliteValue.flagAddr, loadVar, isAgg, underlying, Tryz.underlying82, hb, Result.andThen, As.directE, storeVar, Value.cells, storeCells, Addr.add]
  rw [run_store Tryz.prog W ta _ _ (by rfl)]
  simp [ht, hf]
/-- What errors.As leaves: the first of package diag's errors at the target; or none. -/
def As.Left (E : Er) (tb : Nat) (e : Ending) (w' : World) : Prop :=
  match E.first with
  | some (b, o, _, _) => e = .returned (.bool true) ∧ Aid.Has w' tb [.pointer (some ⟨b, o, none⟩)] 82
  | none => e = .returned (.bool false) ∧ Aid.Has w' tb [.pointer none] 82
set_option maxRecDepth 100000 in
set_option maxHeartbeats 4000000 in
theorem asLoop (E : Er) (tb vb : Nat) (W : World) (hn : E ≠ .nil) (hE : E.At W) (hT : Aid.Has W tb [.pointer none] 82) (hV : Aid.Has W vb [.pointer (some ⟨tb, 0, none⟩)] 84) :
    Calls Tryz.prog 60 #[E.v, .iface 84 (.pointer (some ⟨tb, 0, none⟩)), .agg #[.pointer (some ⟨12, 84, none⟩), .pointer (some ⟨vb, 0, none⟩), .int .u64 150], .iface 232 (.agg #[.pointer (some ⟨12, 82, none⟩)])] W
      fun e w' => As.Left E tb e w' ∧ Below tb W w' := by
  have h37 := @run_callFunc_extern Tryz.prog 113 _ (ReflectliteValue.method (ReflectliteValue.valueError "reflectlite.Value.Elem" 0) ReflectliteValue.elem) Tryz.func113 (by kernel_rfl) (by kernel_rfl) (by kernel_rfl) (by kernel_rfl)
  have h38 := @run_callFunc_extern Tryz.prog 114 _ ReflectliteValue.set Tryz.func114 (by kernel_rfl) (by kernel_rfl) (by kernel_rfl) (by kernel_rfl)
  have f1 := Er.callTypeOf
  have f4 := As.mAssignable
  have f5 := As.assignableE
  have f8 := As.valueOfE
  have g2 := Er.hasUnwrapE
  have g9 := Er.mUnwrapE
  have b0 : Below W.heap.size W (W.alloc (.cells #[.pointer (some ⟨12, 84, none⟩), .pointer (some ⟨vb, 0, none⟩), .int .u64 150] 138)) := (Below.refl _ _).alloc (Nat.le_refl _) _
  have bx := Aid.Has.new W [.pointer (some ⟨12, 84, none⟩), .pointer (some ⟨vb, 0, none⟩), .int .u64 150] 138
  have HE := Aid.hid (hE.below b0)
  have HT := Aid.hid (hT.below b0 hT.lt)
  have HV := Aid.hid (hV.below b0 hV.lt)
  have htl : tb < W.heap.size := hT.lt
  have hvl : vb < W.heap.size := hV.lt
  clear hE hT hV
  go_enter Tryz.func60, Tryz.ntmps60
  try simp only [List.append_eq, List.cons_append, List.nil_append]
  go_wp2_with fail
  obtain ⟨xb, hxb⟩ : ∃ xb, W.heap.size = xb := ⟨_, rfl⟩
  generalize W.alloc (.cells #[.pointer (some ⟨12, 84, none⟩), .pointer (some ⟨vb, 0, none⟩), .int .u64 150] 138) = W1 at *
  rw [hxb] at bx ⊢
  have HB := Aid.hid b0
  have HX := Aid.hid bx
  clear b0 bx
  go_loopg [0] (E.deep) (fun k v wr => ∃ E' : Er, v = E'.v ∧ E' ≠ .nil ∧ k = E'.deep ∧ Hid (E'.At wr) ∧ Hid (E'.first = E.first) ∧ Hid (Below W1.heap.size W1 wr))
  case atStart => exact ⟨E, rfl, hn, rfl, HE, Aid.hid rfl, Aid.hid (Below.refl _ _)⟩
  case round =>
    obtain ⟨E', rfl, hn', rfl, HA, HF, HR⟩ := hrel
    have hx := HX.out.below HR.out HX.out.lt
    have ht := HT.out.below HR.out HT.out.lt
    have hv := HV.out.below HR.out HV.out.lt
    have x0 := hx.cell 0 _ rfl
    have x1 := hx.cell 1 _ rfl
    have x2 := hx.cell 2 _ rfl
    have BT : Hid (Below tb W wr) := Aid.hid ((HB.out.mono (by omega)).trans (HR.out.mono (by have := HB.out.size; omega)))
    have HT2 := Aid.hid ht
    cases E' with
    | nil => exact absurd rfl hn'
    | own b o k a =>
      have el := As.elemVP ⟨vb, 0, none⟩ ⟨tb, 0, none⟩ wr (hv.cell 0 _ rfl)
      have st := As.setE ⟨tb, 0, none⟩ ⟨wr.heap.size, 0, none⟩ ⟨b, o, none⟩ (.pointer none) (wr.alloc (.cells #[.pointer (some ⟨b, o, none⟩)] 82))
        ((Aid.Has.new wr [.pointer (some ⟨b, o, none⟩)] 82).cell 0 _ rfl) ((ht.alloc _).cell 0 _ rfl) ((ht.alloc _).frozen 0)
      have F2 : Hid (E.first = some (b, o, k, a)) := Aid.hid (HF.out.symm.trans rfl)
      clear ht hv hx
      dsimp only [Er.v]
      go_wp2_with fail
      go_ret
      refine ⟨?_, (BT.out.alloc (by have := BT.out.size; omega) _).setCell (Nat.le_refl _) _⟩
      unfold As.Left
      rw [F2.out]
      exact ⟨rfl, ((HT2.out.alloc _).set 0 _)⟩
/-- The library's errorType is what its initialiser lays. -/
def Door (w : World) : Prop := w.cell? ⟨0, 0, none⟩ = some (.iface 232 (.agg #[.pointer (some ⟨12, 56, none⟩)]))
theorem Door.lt {w : World} (h : Door w) : 0 < w.heap.size := by
  rcases Nat.lt_or_ge 0 w.heap.size with h1 | h1
  · exact h1
  · exfalso
    have h0 : w.heap[0]? = none := Array.getElem?_eq_none h1
    unfold Door at h
    simp [World.cell?, h0] at h
theorem Door.below {w w' : World} (h : Door w) (hb : Below w.heap.size w w') : Door w' := (hb.cell (p := ⟨0, 0, none⟩) h.lt).trans h

set_option maxRecDepth 100000 in
set_option maxHeartbeats 4000000 in
theorem as_er (E : Er) (tb : Nat) (W : World) (hg : Door W) (hE : E.At W) (hT : Aid.Has W tb [.pointer none] 82) :
    Calls Tryz.prog 34 #[E.v, .iface 84 (.pointer (some ⟨tb, 0, none⟩))] W fun e w' => As.Left E tb e w' ∧ Below tb W w' := by
  by_cases hn : E = .nil
  · subst hn
    have HT := Aid.hid hT
    clear hg hE hT
    dsimp only [Er.v]
    go_enter Tryz.func34, Tryz.ntmps34
    go_wp2_with fail
    go_ret
    exact ⟨⟨rfl, HT.out⟩, Below.refl _ _⟩
  · have h31 := @run_callFunc_extern Tryz.prog 59 _ (ReflectliteValue.method (ReflectliteValue.valueError "reflectlite.Value.IsNil" 0) ReflectliteValue.isNil) Tryz.func59 (by kernel_rfl) (by kernel_rfl) (by kernel_rfl) (by kernel_rfl)
    have f1 := As.valueOfP
    have f2 := As.typeP
    have f3 := As.mKind
    have f4 := As.kindP
    have f5 := As.kindE
    have f6 := As.mElem
    have f7 := As.elemP
    have f8 := As.mImplements
    have f9 := As.implementsE
    obtain ⟨W2, hW2⟩ : ∃ W2, (W.alloc (.cells #[.pointer (some ⟨tb, 0, none⟩)] 84)).alloc (.cells #[.pointer (some ⟨12, 84, none⟩), .pointer (some ⟨W.heap.size, 0, none⟩), .int .u64 150] 138) = W2 := ⟨_, rfl⟩
    have b2 : Below W.heap.size W W2 := hW2 ▸ ((Below.refl _ _).alloc (Nat.le_refl _) _).alloc (by simp) _
    have v2 : Aid.Has W2 W.heap.size [.pointer (some ⟨tb, 0, none⟩)] 84 := hW2 ▸ (Aid.Has.new W [.pointer (some ⟨tb, 0, none⟩)] 84).alloc _
    have hc := asLoop E tb W.heap.size W2 hn (hE.below b2) (hT.below b2 hT.lt) v2
    have n8 := As.isNilP ⟨W.heap.size, 0, none⟩ ⟨tb, 0, none⟩ W2 (v2.cell 0 _ rfl)
    have g2 : W2.cell? ⟨0, 0, none⟩ = some (.iface 232 (.agg #[.pointer (some ⟨12, 56, none⟩)])) := hg.below b2
    rw [← hW2] at n8 g2
    have HC : Hid (Calls Tryz.prog 60 #[E.v, .iface 84 (.pointer (some ⟨tb, 0, none⟩)), .agg #[.pointer (some ⟨12, 84, none⟩), .pointer (some ⟨W.heap.size, 0, none⟩), .int .u64 150], .iface 232 (.agg #[.pointer (some ⟨12, 82, none⟩)])] W2
      fun e w' => As.Left E tb e w' ∧ Below tb W2 w') := Aid.hid hc
    have BT : Hid (Below tb W W2) := Aid.hid (b2.mono (by have := hT.lt; omega))
    have H2 := Aid.hid hW2
    clear hc b2 v2 hE hT hg hW2
    obtain ⟨t, x, hv⟩ := Er.iface_of hn
    rw [hv] at HC ⊢
    clear hn hv
    go_enter Tryz.func34, Tryz.ntmps34
    try simp only [List.append_eq, List.cons_append, List.nil_append]
    go_wp2_with fail
    rw [H2.out]
    refine HC.out.mono ?_; rintro e w' ⟨hl, hb⟩
    have BF := Aid.hid (BT.out.trans hb)
    clear n8 g2 hb
    cases hf : E.first with
    | none =>
      unfold As.Left at hl
      rw [hf] at hl
      obtain ⟨rfl, hh⟩ := hl
      have HH := Aid.hid hh
      have HF := Aid.hid hf
      clear hh hf
      dsimp only
      go_wp2_with fail
      go_ret
      refine ⟨?_, BF.out⟩
      unfold As.Left
      rw [HF.out]
      exact ⟨rfl, HH.out⟩
    | some q =>
      obtain ⟨b, o, k, a⟩ := q
      unfold As.Left at hl
      rw [hf] at hl
      obtain ⟨rfl, hh⟩ := hl
      have HH := Aid.hid hh
      have HF := Aid.hid hf
      clear hh hf
      dsimp only
      go_wp2_with fail
      go_ret
      refine ⟨?_, BF.out⟩
      unfold As.Left
      rw [HF.out]
      exact ⟨rfl, HH.out⟩
set_option maxRecDepth 100000 in
set_option maxHeartbeats 4000000 in
theorem first_none (E : Er) (w : World) (hf : E.first = none) (hg : Door w) (hE : E.At w) :
    Calls Tryz.prog 79 #[E.v] w fun e w' => e = .returned (.tuple #[.pointer none, .bool false]) ∧ Below w.heap.size w w' := by
  have b1 : Below w.heap.size w (w.alloc (.cells #[.pointer none] 82)) := (Below.refl _ _).alloc (Nat.le_refl _) _
  have hc := as_er E w.heap.size _ (hg.below b1) (hE.below b1) (Aid.Has.new w [.pointer none] 82)
  have B1 := Aid.hid b1
  have HF := Aid.hid hf
  clear b1 hf hg hE
  go_enter Tryz.func79, Tryz.ntmps79
  try simp only [List.append_eq, List.cons_append, List.nil_append]
  go_wp2_with fail
  refine hc.mono ?_; rintro e w' ⟨hl, hb⟩
  unfold As.Left at hl
  rw [HF.out] at hl
  obtain ⟨rfl, hh⟩ := hl
  have BF := Aid.hid (B1.out.trans hb)
  have q := hh.cell 0 _ rfl
  clear hc hh hb
  dsimp only
  go_wp2_with fail
  go_quiet (fail)
  go_wp2_with fail
  go_ret2
  exact ⟨rfl, below_drewN BF.out _⟩
set_option maxRecDepth 100000 in
set_option maxHeartbeats 4000000 in
theorem first_some (E : Er) (b o : Nat) (k a : Int) (w : World) (hf : E.first = some (b, o, k, a)) (hg : Door w) (hE : E.At w) :
    Calls Tryz.prog 79 #[E.v] w fun e w' => e = .returned (.tuple #[.pointer (some ⟨b, o, none⟩), .bool true]) ∧ Below w.heap.size w w' := by
  have b1 : Below w.heap.size w (w.alloc (.cells #[.pointer none] 82)) := (Below.refl _ _).alloc (Nat.le_refl _) _
  have hc := as_er E w.heap.size _ (hg.below b1) (hE.below b1) (Aid.Has.new w [.pointer none] 82)
  have B1 := Aid.hid b1
  have HF := Aid.hid hf
  clear b1 hf hg hE
  go_enter Tryz.func79, Tryz.ntmps79
  try simp only [List.append_eq, List.cons_append, List.nil_append]
  go_wp2_with fail
  refine hc.mono ?_; rintro e w' ⟨hl, hb⟩
  unfold As.Left at hl
  rw [HF.out] at hl
  obtain ⟨rfl, hh⟩ := hl
  have BF := Aid.hid (B1.out.trans hb)
  have q := hh.cell 0 _ rfl
  clear hc hh hb
  dsimp only
  go_wp2_with fail
  go_quiet (fail)
  go_wp2_with fail
  go_ret2
  exact ⟨rfl, below_drewN BF.out _⟩
theorem Er.first_at {E : Er} {w : World} {b o : Nat} {k a : Int} (hE : E.At w) (hf : E.first = some (b, o, k, a)) : Tk.Has w b o [.int .i64 k, .int .i64 a] := by
  cases E with
  | nil => cases hf
  | own b' o' c' a' =>
    unfold Er.first at hf
    simp only [Option.some.injEq, Prod.mk.injEq] at hf
    obtain ⟨rfl, rfl, rfl, rfl⟩ := hf
    exact hE
set_option maxHeartbeats 1000000 in
theorem find_none (E : Er) (w : World) (hf : E.first = none) (hg : Door w) (hE : E.At w) :
    Calls Tryz.prog 45 #[E.v] w fun e w' => e = .returned (.tuple #[.int .i64 0, .int .i64 0, .bool false]) ∧ Below w.heap.size w w' := by
  have hc := first_none E w hf hg hE
  clear hf hg hE
  go_enter Tryz.func45, Tryz.ntmps45
  try simp only [List.append_eq, List.cons_append, List.nil_append]
  go_wp2_with fail
  refine hc.mono ?_; rintro e w' ⟨rfl, hb⟩
  go_wp2_with fail
  go_ret3
  exact ⟨rfl, hb⟩
set_option maxHeartbeats 1000000 in
theorem find_some (E : Er) (b o : Nat) (k a : Int) (w : World) (hf : E.first = some (b, o, k, a)) (hg : Door w) (hE : E.At w) :
    Calls Tryz.prog 45 #[E.v] w fun e w' => e = .returned (.tuple #[.int .i64 k, .int .i64 a, .bool true]) ∧ Below w.heap.size w w' := by
  have hc := first_some E b o k a w hf hg hE
  have HA := Aid.hid (Er.first_at hE hf)
  clear hf hg hE
  go_enter Tryz.func45, Tryz.ntmps45
  try simp only [List.append_eq, List.cons_append, List.nil_append]
  go_wp2_with fail
  refine hc.mono ?_; rintro e w' ⟨rfl, hb⟩
  have h2 := HA.out.below hb
  have q0 : w'.cell? ⟨b, o, none⟩ = some (.int .i64 k) := h2.cell 0 _ rfl
  have q1 := h2.cell 1 _ rfl
  have hlt := h2.lt
  clear h2 hc
  dsimp only
  go_wp2_with fail
  go_quiet (fail)
  go_wp2_with fail
  go_ret3
  exact ⟨rfl, below_drewN hb _⟩
end Go.Proofs.YtmdhaelmblmldaaGreatDoor
