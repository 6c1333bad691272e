/- Codes and classes compared by the laws. -/
import Derived.Test.YtaogegeidbclaaaGreatDoorImgSame
import Derived.StillTailTactics
namespace Go.Proofs.YtaogegeidbclaaaGreatDoor
open Go.RowKit

theorem at_drew {w : World} {B : Nat} {A : Option Addr} {l : List Int} (h : LNums w B A l) (k : Nat) : LNums (w.drewN k) B A l := h
set_option maxRecDepth 100000 in
set_option maxHeartbeats 2000000 in
theorem sCode_is (B B' : Nat) (x y : Cod) (w : World) (hx : Cod.At w B x) (hy : Cod.At w B' y) (hB : B ≤ w.heap.size) (hB' : B' ≤ w.heap.size) :
    Calls Tryz.prog 42 #[.agg #[.int .i64 x.cls, .string x.params, .string x.locals, .bool x.ret, .int .i64 x.stack, .slice x.oA x.ops.length x.oc], .agg #[.int .i64 y.cls, .string y.params, .string y.locals, .bool y.ret, .int .i64 y.stack, .slice y.oA y.ops.length y.oc]] w fun e w' => e = .returned (.bool (Cod.eqb x y)) ∧ Below w.heap.size w w' := by
  obtain ⟨W, hW⟩ : ∃ W, ((w.alloc (.cells #[.int .i64 x.cls, .string x.params, .string x.locals, .bool x.ret, .int .i64 x.stack, .slice x.oA x.ops.length x.oc] 60)).alloc (.cells #[.int .i64 y.cls, .string y.params, .string y.locals, .bool y.ret, .int .i64 y.stack, .slice y.oA y.ops.length y.oc] 60)) = W := ⟨_, rfl⟩
  have hbx : Aid.Has W w.heap.size [.int .i64 x.cls, .string x.params, .string x.locals, .bool x.ret, .int .i64 x.stack, .slice x.oA x.ops.length x.oc] 60 := by subst hW; exact (Aid.Has.new w [.int .i64 x.cls, .string x.params, .string x.locals, .bool x.ret, .int .i64 x.stack, .slice x.oA x.ops.length x.oc] 60).alloc _
  have hby : Aid.Has W (w.heap.size + 1) [.int .i64 y.cls, .string y.params, .string y.locals, .bool y.ret, .int .i64 y.stack, .slice y.oA y.ops.length y.oc] 60 := by
    have := Aid.Has.new (w.alloc (.cells #[.int .i64 x.cls, .string x.params, .string x.locals, .bool x.ret, .int .i64 x.stack, .slice x.oA x.ops.length x.oc] 60)) [.int .i64 y.cls, .string y.params, .string y.locals, .bool y.ret, .int .i64 y.stack, .slice y.oA y.ops.length y.oc] 60
    rw [World.size_alloc] at this; subst hW; exact this
  have b0 : Below w.heap.size w W := by subst hW; exact ((Below.refl _ w).alloc (Nat.le_refl _) _).alloc (by simp) _
  have sz : w.heap.size ≤ W.heap.size := b0.size
  have B0 := Aid.hid b0
  have RX : Hid (∀ wr, Below W.heap.size W wr → Aid.Has wr w.heap.size [.int .i64 x.cls, .string x.params, .string x.locals, .bool x.ret, .int .i64 x.stack, .slice x.oA x.ops.length x.oc] 60 ∧ Cod.At wr B x) := Aid.hid fun wr hb => ⟨hbx.below hb hbx.lt, (hx.below b0 hB).below hb (Nat.le_trans hB sz)⟩
  have RY : Hid (∀ wr, Below W.heap.size W wr → Aid.Has wr (w.heap.size + 1) [.int .i64 y.cls, .string y.params, .string y.locals, .bool y.ret, .int .i64 y.stack, .slice y.oA y.ops.length y.oc] 60 ∧ Cod.At wr B' y) := Aid.hid fun wr hb => ⟨hby.below hb hby.lt, (hy.below b0 hB').below hb (Nat.le_trans hB' sz)⟩
  have SZ := Aid.hid sz
  have KW : Hid (Below W.heap.size W W) := Aid.hid (Below.refl _ _)
  have FB : Hid (∀ wr, Below W.heap.size W wr → Below w.heap.size w wr) := Aid.hid fun wr hb => b0.trans (hb.mono sz)
  clear hbx hby b0 sz hx hy B0
  by_cases e0 : x.cls = y.cls
  · have g0 : (x.cls == y.cls) = true := by simp [e0]
    have r0 : Hid (decide (x.cls = y.cls) = true) := Aid.hid (decide_eq_true e0)
    clear e0
    cases g1 : (x.params.toList == y.params.toList)
    case true =>
      have r1 : Hid ((x.params.toList == y.params.toList) = true) := Aid.hid g1
      cases g2 : (x.locals.toList == y.locals.toList)
      case true =>
        have r2 : Hid ((x.locals.toList == y.locals.toList) = true) := Aid.hid g2
        by_cases e3 : x.ret = y.ret
        · have g3 : (x.ret == y.ret) = true := by simp [e3]
          have r3 : Hid (decide (x.ret = y.ret) = true) := Aid.hid (decide_eq_true e3)
          clear e3
          by_cases e4 : x.stack = y.stack
          · have g4 : (x.stack == y.stack) = true := by simp [e4]
            have r4 : Hid (decide (x.stack = y.stack) = true) := Aid.hid (decide_eq_true e4)
            clear e4
            cases q5 : eqAll Opr.eqb x.ops y.ops
            case true =>
              have r5 : Hid (eqAll Opr.eqb x.ops y.ops = true) := Aid.hid q5
              clear q5
              have HE : Hid (Cod.eqb x y = true) := Aid.hid (by simp only [Cod.eqb, r0.out, r1.out, r2.out, r3.out, r4.out, r5.out]; rfl)
              have fx := RX.out _ KW.out
              have fy := RY.out _ KW.out
              have a0 := fx.1.cell 0 _ rfl
              have b0 := fy.1.cell 0 _ rfl
              have a1 := fx.1.cell 1 _ rfl
              have b1 := fy.1.cell 1 _ rfl
              have a2 := fx.1.cell 2 _ rfl
              have b2 := fy.1.cell 2 _ rfl
              have a3 := fx.1.cell 3 _ rfl
              have b3 := fy.1.cell 3 _ rfl
              have a4 := fx.1.cell 4 _ rfl
              have b4 := fy.1.cell 4 _ rfl
              have a5 := fx.1.cell 5 _ rfl
              have b5 := fy.1.cell 5 _ rfl
              have HC := Aid.hid ((sOps x.oA y.oA x.oc y.oc B B' x.ops y.ops _ (fx.2) (fy.2)).mono (fun e w' h => (⟨h.1.trans (by rw [r5.out]), drew_below h.2⟩ : e = .returned (.bool true) ∧ Below _ _ w')))
              clear fx fy
              subst hW
              go_enter Tryz.func42, Tryz.ntmps42
              try simp only [List.append_eq, List.cons_append, List.nil_append]
              go_wp2_with fail
              go_at_call 76
              refine HC.out.mono ?_
              rintro e w1 ⟨rfl, hb1⟩
              have KW := Aid.hid (KW.out.trans (hb1.mono KW.out.size))
              clear hb1 HC a0 b0 a1 b1 a2 b2 a3 b3 a4 b4 a5 b5
              have fx := RX.out _ KW.out
              have fy := RY.out _ KW.out
              have a0 := fx.1.cell 0 _ rfl
              have b0 := fy.1.cell 0 _ rfl
              have a1 := fx.1.cell 1 _ rfl
              have b1 := fy.1.cell 1 _ rfl
              have a2 := fx.1.cell 2 _ rfl
              have b2 := fy.1.cell 2 _ rfl
              have a3 := fx.1.cell 3 _ rfl
              have b3 := fy.1.cell 3 _ rfl
              have a4 := fx.1.cell 4 _ rfl
              have b4 := fy.1.cell 4 _ rfl
              have a5 := fx.1.cell 5 _ rfl
              have b5 := fy.1.cell 5 _ rfl
              clear fx fy
              go_wp2_with fail
              go_ret
              exact ⟨by rw [HE.out]; rfl, FB.out _ KW.out⟩
            case false =>
              have r5 : Hid (eqAll Opr.eqb x.ops y.ops = false) := Aid.hid q5
              clear q5
              have HE : Hid (Cod.eqb x y = false) := Aid.hid (by simp only [Cod.eqb, r0.out, r1.out, r2.out, r3.out, r4.out, r5.out]; rfl)
              have fx := RX.out _ KW.out
              have fy := RY.out _ KW.out
              have a0 := fx.1.cell 0 _ rfl
              have b0 := fy.1.cell 0 _ rfl
              have a1 := fx.1.cell 1 _ rfl
              have b1 := fy.1.cell 1 _ rfl
              have a2 := fx.1.cell 2 _ rfl
              have b2 := fy.1.cell 2 _ rfl
              have a3 := fx.1.cell 3 _ rfl
              have b3 := fy.1.cell 3 _ rfl
              have a4 := fx.1.cell 4 _ rfl
              have b4 := fy.1.cell 4 _ rfl
              have a5 := fx.1.cell 5 _ rfl
              have b5 := fy.1.cell 5 _ rfl
              have HC := Aid.hid ((sOps x.oA y.oA x.oc y.oc B B' x.ops y.ops _ (fx.2) (fy.2)).mono (fun e w' h => (⟨h.1.trans (by rw [r5.out]), drew_below h.2⟩ : e = .returned (.bool false) ∧ Below _ _ w')))
              clear fx fy
              subst hW
              go_enter Tryz.func42, Tryz.ntmps42
              try simp only [List.append_eq, List.cons_append, List.nil_append]
              go_wp2_with fail
              go_at_call 76
              refine HC.out.mono ?_
              rintro e w1 ⟨rfl, hb1⟩
              have KW := Aid.hid (KW.out.trans (hb1.mono KW.out.size))
              clear hb1 HC a0 b0 a1 b1 a2 b2 a3 b3 a4 b4 a5 b5
              have fx := RX.out _ KW.out
              have fy := RY.out _ KW.out
              have a0 := fx.1.cell 0 _ rfl
              have b0 := fy.1.cell 0 _ rfl
              have a1 := fx.1.cell 1 _ rfl
              have b1 := fy.1.cell 1 _ rfl
              have a2 := fx.1.cell 2 _ rfl
              have b2 := fy.1.cell 2 _ rfl
              have a3 := fx.1.cell 3 _ rfl
              have b3 := fy.1.cell 3 _ rfl
              have a4 := fx.1.cell 4 _ rfl
              have b4 := fy.1.cell 4 _ rfl
              have a5 := fx.1.cell 5 _ rfl
              have b5 := fy.1.cell 5 _ rfl
              clear fx fy
              go_wp2_with fail
              go_ret
              exact ⟨by rw [HE.out]; rfl, FB.out _ KW.out⟩
          · have g4 : (x.stack == y.stack) = false := by simpa using e4
            have r4 : Hid (decide (x.stack = y.stack) = false) := Aid.hid (decide_eq_false e4)
            clear e4
            have HE : Hid (Cod.eqb x y = false) := Aid.hid (by simp only [Cod.eqb, r0.out, r1.out, r2.out, r3.out, r4.out]; rfl)
            have fx := RX.out _ KW.out
            have fy := RY.out _ KW.out
            have a0 := fx.1.cell 0 _ rfl
            have b0 := fy.1.cell 0 _ rfl
            have a1 := fx.1.cell 1 _ rfl
            have b1 := fy.1.cell 1 _ rfl
            have a2 := fx.1.cell 2 _ rfl
            have b2 := fy.1.cell 2 _ rfl
            have a3 := fx.1.cell 3 _ rfl
            have b3 := fy.1.cell 3 _ rfl
            have a4 := fx.1.cell 4 _ rfl
            have b4 := fy.1.cell 4 _ rfl
            clear fx fy
            subst hW
            go_enter Tryz.func42, Tryz.ntmps42
            try simp only [List.append_eq, List.cons_append, List.nil_append]
            go_wp2_with fail
            go_ret
            exact ⟨by rw [HE.out]; rfl, FB.out _ KW.out⟩
        · have g3 : (x.ret == y.ret) = false := by simpa using e3
          have r3 : Hid (decide (x.ret = y.ret) = false) := Aid.hid (decide_eq_false e3)
          clear e3
          have HE : Hid (Cod.eqb x y = false) := Aid.hid (by simp only [Cod.eqb, r0.out, r1.out, r2.out, r3.out]; rfl)
          have fx := RX.out _ KW.out
          have fy := RY.out _ KW.out
          have a0 := fx.1.cell 0 _ rfl
          have b0 := fy.1.cell 0 _ rfl
          have a1 := fx.1.cell 1 _ rfl
          have b1 := fy.1.cell 1 _ rfl
          have a2 := fx.1.cell 2 _ rfl
          have b2 := fy.1.cell 2 _ rfl
          have a3 := fx.1.cell 3 _ rfl
          have b3 := fy.1.cell 3 _ rfl
          clear fx fy
          subst hW
          go_enter Tryz.func42, Tryz.ntmps42
          try simp only [List.append_eq, List.cons_append, List.nil_append]
          go_wp2_with fail
          go_ret
          exact ⟨by rw [HE.out]; rfl, FB.out _ KW.out⟩
      case false =>
        have r2 : Hid ((x.locals.toList == y.locals.toList) = false) := Aid.hid g2
        have HE : Hid (Cod.eqb x y = false) := Aid.hid (by simp only [Cod.eqb, r0.out, r1.out, r2.out]; rfl)
        have fx := RX.out _ KW.out
        have fy := RY.out _ KW.out
        have a0 := fx.1.cell 0 _ rfl
        have b0 := fy.1.cell 0 _ rfl
        have a1 := fx.1.cell 1 _ rfl
        have b1 := fy.1.cell 1 _ rfl
        have a2 := fx.1.cell 2 _ rfl
        have b2 := fy.1.cell 2 _ rfl
        clear fx fy
        subst hW
        go_enter Tryz.func42, Tryz.ntmps42
        try simp only [List.append_eq, List.cons_append, List.nil_append]
        go_wp2_with fail
        go_ret
        exact ⟨by rw [HE.out]; rfl, FB.out _ KW.out⟩
    case false =>
      have r1 : Hid ((x.params.toList == y.params.toList) = false) := Aid.hid g1
      have HE : Hid (Cod.eqb x y = false) := Aid.hid (by simp only [Cod.eqb, r0.out, r1.out]; rfl)
      have fx := RX.out _ KW.out
      have fy := RY.out _ KW.out
      have a0 := fx.1.cell 0 _ rfl
      have b0 := fy.1.cell 0 _ rfl
      have a1 := fx.1.cell 1 _ rfl
      have b1 := fy.1.cell 1 _ rfl
      clear fx fy
      subst hW
      go_enter Tryz.func42, Tryz.ntmps42
      try simp only [List.append_eq, List.cons_append, List.nil_append]
      go_wp2_with fail
      go_ret
      exact ⟨by rw [HE.out]; rfl, FB.out _ KW.out⟩
  · have g0 : (x.cls == y.cls) = false := by simpa using e0
    have r0 : Hid (decide (x.cls = y.cls) = false) := Aid.hid (decide_eq_false e0)
    clear e0
    have HE : Hid (Cod.eqb x y = false) := Aid.hid (by simp only [Cod.eqb, r0.out]; rfl)
    have fx := RX.out _ KW.out
    have fy := RY.out _ KW.out
    have a0 := fx.1.cell 0 _ rfl
    have b0 := fy.1.cell 0 _ rfl
    clear fx fy
    subst hW
    go_enter Tryz.func42, Tryz.ntmps42
    try simp only [List.append_eq, List.cons_append, List.nil_append]
    go_wp2_with fail
    go_ret
    exact ⟨by rw [HE.out]; rfl, FB.out _ KW.out⟩
set_option maxRecDepth 100000 in
set_option maxHeartbeats 2000000 in
theorem sDesc_is (B B' : Nat) (x y : Desc) (w : World) (hx : Desc.At w B x) (hy : Desc.At w B' y) (hB : B ≤ w.heap.size) (hB' : B' ≤ w.heap.size) :
    Calls Tryz.prog 75 #[.agg #[.int .i64 x.base, .string x.fields, .slice x.iA x.init.length x.ic, .slice x.vA x.vtab.length x.vc, .slice x.sA x.sigs.length x.sc, .slice x.tA x.tabs.length x.tc], .agg #[.int .i64 y.base, .string y.fields, .slice y.iA y.init.length y.ic, .slice y.vA y.vtab.length y.vc, .slice y.sA y.sigs.length y.sc, .slice y.tA y.tabs.length y.tc]] w fun e w' => e = .returned (.bool (Desc.eqb x y)) ∧ Below w.heap.size w w' := by
  obtain ⟨W, hW⟩ : ∃ W, ((w.alloc (.cells #[.int .i64 x.base, .string x.fields, .slice x.iA x.init.length x.ic, .slice x.vA x.vtab.length x.vc, .slice x.sA x.sigs.length x.sc, .slice x.tA x.tabs.length x.tc] 55)).alloc (.cells #[.int .i64 y.base, .string y.fields, .slice y.iA y.init.length y.ic, .slice y.vA y.vtab.length y.vc, .slice y.sA y.sigs.length y.sc, .slice y.tA y.tabs.length y.tc] 55)) = W := ⟨_, rfl⟩
  have hbx : Aid.Has W w.heap.size [.int .i64 x.base, .string x.fields, .slice x.iA x.init.length x.ic, .slice x.vA x.vtab.length x.vc, .slice x.sA x.sigs.length x.sc, .slice x.tA x.tabs.length x.tc] 55 := by subst hW; exact (Aid.Has.new w [.int .i64 x.base, .string x.fields, .slice x.iA x.init.length x.ic, .slice x.vA x.vtab.length x.vc, .slice x.sA x.sigs.length x.sc, .slice x.tA x.tabs.length x.tc] 55).alloc _
  have hby : Aid.Has W (w.heap.size + 1) [.int .i64 y.base, .string y.fields, .slice y.iA y.init.length y.ic, .slice y.vA y.vtab.length y.vc, .slice y.sA y.sigs.length y.sc, .slice y.tA y.tabs.length y.tc] 55 := by
    have := Aid.Has.new (w.alloc (.cells #[.int .i64 x.base, .string x.fields, .slice x.iA x.init.length x.ic, .slice x.vA x.vtab.length x.vc, .slice x.sA x.sigs.length x.sc, .slice x.tA x.tabs.length x.tc] 55)) [.int .i64 y.base, .string y.fields, .slice y.iA y.init.length y.ic, .slice y.vA y.vtab.length y.vc, .slice y.sA y.sigs.length y.sc, .slice y.tA y.tabs.length y.tc] 55
    rw [World.size_alloc] at this; subst hW; exact this
  have b0 : Below w.heap.size w W := by subst hW; exact ((Below.refl _ w).alloc (Nat.le_refl _) _).alloc (by simp) _
  have sz : w.heap.size ≤ W.heap.size := b0.size
  have B0 := Aid.hid b0
  have RX : Hid (∀ wr, Below W.heap.size W wr → Aid.Has wr w.heap.size [.int .i64 x.base, .string x.fields, .slice x.iA x.init.length x.ic, .slice x.vA x.vtab.length x.vc, .slice x.sA x.sigs.length x.sc, .slice x.tA x.tabs.length x.tc] 55 ∧ Desc.At wr B x) := Aid.hid fun wr hb => ⟨hbx.below hb hbx.lt, (hx.below b0 hB).below hb (Nat.le_trans hB sz)⟩
  have RY : Hid (∀ wr, Below W.heap.size W wr → Aid.Has wr (w.heap.size + 1) [.int .i64 y.base, .string y.fields, .slice y.iA y.init.length y.ic, .slice y.vA y.vtab.length y.vc, .slice y.sA y.sigs.length y.sc, .slice y.tA y.tabs.length y.tc] 55 ∧ Desc.At wr B' y) := Aid.hid fun wr hb => ⟨hby.below hb hby.lt, (hy.below b0 hB').below hb (Nat.le_trans hB' sz)⟩
  have SZ := Aid.hid sz
  have KW : Hid (Below W.heap.size W W) := Aid.hid (Below.refl _ _)
  have FB : Hid (∀ wr, Below W.heap.size W wr → Below w.heap.size w wr) := Aid.hid fun wr hb => b0.trans (hb.mono sz)
  clear hbx hby b0 sz hx hy B0
  by_cases e0 : x.base = y.base
  · have g0 : (x.base != y.base) = false := by simp [e0]
    have r0 : Hid (decide (x.base = y.base) = true) := Aid.hid (decide_eq_true e0)
    clear e0
    cases g1 : (x.fields.toList == y.fields.toList)
    case true =>
      have r1 : Hid ((x.fields.toList == y.fields.toList) = true) := Aid.hid g1
      cases q2 : eqAll Int.eqb x.init y.init
      case true =>
        have r2 : Hid (eqAll Int.eqb x.init y.init = true) := Aid.hid q2
        clear q2
        cases q3 : eqAll Int.eqb x.vtab y.vtab
        case true =>
          have r3 : Hid (eqAll Int.eqb x.vtab y.vtab = true) := Aid.hid q3
          clear q3
          cases q4 : eqAll Txt.eqb x.sigs y.sigs
          case true =>
            have r4 : Hid (eqAll Txt.eqb x.sigs y.sigs = true) := Aid.hid q4
            clear q4
            by_cases e5 : x.tabs.length = y.tabs.length
            · have g5 : ((x.tabs.length : Int) != (y.tabs.length : Int)) = false := by simp [e5]
              have r5 : Hid (x.tabs.length = y.tabs.length) := Aid.hid e5
              clear e5
              have fx := RX.out _ KW.out
              have fy := RY.out _ KW.out
              have a0 := fx.1.cell 0 _ rfl
              have b0 := fy.1.cell 0 _ rfl
              have a1 := fx.1.cell 1 _ rfl
              have b1 := fy.1.cell 1 _ rfl
              have a2 := fx.1.cell 2 _ rfl
              have b2 := fy.1.cell 2 _ rfl
              have a3 := fx.1.cell 3 _ rfl
              have b3 := fy.1.cell 3 _ rfl
              have a4 := fx.1.cell 4 _ rfl
              have b4 := fy.1.cell 4 _ rfl
              have a5 := fx.1.cell 5 _ rfl
              have b5 := fy.1.cell 5 _ rfl
              have HC := Aid.hid ((sInts x.iA y.iA x.ic y.ic B B' x.init y.init _ (fx.2.1) (fy.2.1)).mono (fun e w' h => (⟨h.1.trans (by rw [r2.out]), drew_below h.2⟩ : e = .returned (.bool true) ∧ Below _ _ w')))
              clear fx fy
              subst hW
              go_enter Tryz.func75, Tryz.ntmps75
              try simp only [List.append_eq, List.cons_append, List.nil_append]
              go_wp2_with fail
              go_at_call 72
              refine HC.out.mono ?_
              rintro e v1 ⟨rfl, hb1⟩
              have KW := Aid.hid (KW.out.trans (hb1.mono KW.out.size))
              clear hb1 HC a0 b0 a1 b1 a2 b2 a3 b3 a4 b4 a5 b5
              have fx := RX.out _ KW.out
              have fy := RY.out _ KW.out
              have a0 := fx.1.cell 0 _ rfl
              have b0 := fy.1.cell 0 _ rfl
              have a1 := fx.1.cell 1 _ rfl
              have b1 := fy.1.cell 1 _ rfl
              have a2 := fx.1.cell 2 _ rfl
              have b2 := fy.1.cell 2 _ rfl
              have a3 := fx.1.cell 3 _ rfl
              have b3 := fy.1.cell 3 _ rfl
              have a4 := fx.1.cell 4 _ rfl
              have b4 := fy.1.cell 4 _ rfl
              have a5 := fx.1.cell 5 _ rfl
              have b5 := fy.1.cell 5 _ rfl
              have HC := Aid.hid ((sInts x.vA y.vA x.vc y.vc B B' x.vtab y.vtab _ (fx.2.2.1) (fy.2.2.1)).mono (fun e w' h => (⟨h.1.trans (by rw [r3.out]), drew_below h.2⟩ : e = .returned (.bool true) ∧ Below _ _ w')))
              clear fx fy
              go_wp2_with fail
              go_at_call 72
              refine HC.out.mono ?_
              rintro e v2 ⟨rfl, hb2⟩
              have KW := Aid.hid (KW.out.trans (hb2.mono KW.out.size))
              clear hb2 HC a0 b0 a1 b1 a2 b2 a3 b3 a4 b4 a5 b5
              have fx := RX.out _ KW.out
              have fy := RY.out _ KW.out
              have a0 := fx.1.cell 0 _ rfl
              have b0 := fy.1.cell 0 _ rfl
              have a1 := fx.1.cell 1 _ rfl
              have b1 := fy.1.cell 1 _ rfl
              have a2 := fx.1.cell 2 _ rfl
              have b2 := fy.1.cell 2 _ rfl
              have a3 := fx.1.cell 3 _ rfl
              have b3 := fy.1.cell 3 _ rfl
              have a4 := fx.1.cell 4 _ rfl
              have b4 := fy.1.cell 4 _ rfl
              have a5 := fx.1.cell 5 _ rfl
              have b5 := fy.1.cell 5 _ rfl
              have HC := Aid.hid ((sTexts x.sA y.sA x.sc y.sc B B' x.sigs y.sigs _ (fx.2.2.2.1) (fy.2.2.2.1)).mono (fun e w' h => (⟨h.1.trans (by rw [r4.out]), drew_below h.2⟩ : e = .returned (.bool true) ∧ Below _ _ w')))
              clear fx fy
              go_wp2_with fail
              go_at_call 74
              refine HC.out.mono ?_
              rintro e v3 ⟨rfl, hb3⟩
              have KW := Aid.hid (KW.out.trans (hb3.mono KW.out.size))
              clear hb3 HC a0 b0 a1 b1 a2 b2 a3 b3 a4 b4 a5 b5
              have fx := RX.out _ KW.out
              have fy := RY.out _ KW.out
              have a0 := fx.1.cell 0 _ rfl
              have b0 := fy.1.cell 0 _ rfl
              have a1 := fx.1.cell 1 _ rfl
              have b1 := fy.1.cell 1 _ rfl
              have a2 := fx.1.cell 2 _ rfl
              have b2 := fy.1.cell 2 _ rfl
              have a3 := fx.1.cell 3 _ rfl
              have b3 := fy.1.cell 3 _ rfl
              have a4 := fx.1.cell 4 _ rfl
              have b4 := fy.1.cell 4 _ rfl
              have a5 := fx.1.cell 5 _ rfl
              have b5 := fy.1.cell 5 _ rfl
              clear fx fy
              have FIN : Hid (EqTo Tab.eqb x.tabs y.tabs x.tabs.length → eqAll Tab.eqb x.tabs y.tabs = true) := Aid.hid (fun h => EqTo.all r5.out h)
              have HLY : Hid (∀ k, k < x.tabs.length → ∃ z, y.tabs[k]? = some z) := Aid.hid (fun k h => ⟨_, List.getElem?_eq_getElem (by have := r5.out; omega)⟩)
              have ll : x.tabs.length ≤ 9223372036854775807 := ((RX.out _ KW.out).2.2.2.2).1
              go_wp2_with fail
              go_loopw [5] (fun i wr => ∃ k : Nat, i = .int .i64 k ∧ k ≤ x.tabs.length ∧ Hid (EqTo Tab.eqb x.tabs y.tabs k) ∧ Hid (Below ((w.alloc (.cells #[.int .i64 x.base, .string x.fields, .slice x.iA x.init.length x.ic, .slice x.vA x.vtab.length x.vc, .slice x.sA x.sigs.length x.sc, .slice x.tA x.tabs.length x.tc] 55)).alloc (.cells #[.int .i64 y.base, .string y.fields, .slice y.iA y.init.length y.ic, .slice y.vA y.vtab.length y.vc, .slice y.sA y.sigs.length y.sc, .slice y.tA y.tabs.length y.tc] 55)).heap.size ((w.alloc (.cells #[.int .i64 x.base, .string x.fields, .slice x.iA x.init.length x.ic, .slice x.vA x.vtab.length x.vc, .slice x.sA x.sigs.length x.sc, .slice x.tA x.tabs.length x.tc] 55)).alloc (.cells #[.int .i64 y.base, .string y.fields, .slice y.iA y.init.length y.ic, .slice y.vA y.vtab.length y.vc, .slice y.sA y.sigs.length y.sc, .slice y.tA y.tabs.length y.tc] 55)) wr)) (fun i _ => x.tabs.length - (intOf i).toNat)
              case atStart => exact ⟨0, rfl, Nat.zero_le _, Aid.hid (EqTo.zero _ _), KW⟩
              case round =>
                clear KW a0 b0 a1 b1 a2 b2 a3 b3 a4 b4 a5 b5
                obtain ⟨k, rfl, hk, EK, KW⟩ := hrel
                have fx := RX.out _ KW.out
                have fy := RY.out _ KW.out
                by_cases hlt : k < x.tabs.length
                · obtain ⟨p, hp⟩ : ∃ p, x.tabs[k]? = some p := ⟨_, List.getElem?_eq_getElem hlt⟩
                  obtain ⟨q, hq⟩ := HLY.out k hlt
                  have hlt2 : k < y.tabs.length := by have := r5.out; omega
                  obtain ⟨p1, o1, hA, hb1, hc1⟩ := Rows.get (fx.2.2.2.2).2.1 hp
                  obtain ⟨p2, o2, hA2, hb2, hc2⟩ := Rows.get (fy.2.2.2.2).2.1 hq
                  have sw := Nat.le_trans SZ.out KW.out.size
                  have lt1 : p1 < wr.heap.size := by omega
                  have lt2 : p2 < wr.heap.size := by omega
                  have XA := Aid.hid ((fx.2.2.2.2).2.2 p (List.mem_of_getElem? hp))
                  have YA := Aid.hid ((fy.2.2.2.2).2.2 q (List.mem_of_getElem? hq))
                  have NX : Hid (Tab.eqb p q = true → EqTo Tab.eqb x.tabs y.tabs (k + 1)) := Aid.hid (fun h => EqTo.next EK.out hp hq h)
                  have NE : Hid (Tab.eqb p q = false → eqAll Tab.eqb x.tabs y.tabs = false) := Aid.hid (fun h => eqAll_no hp hq h)
                  have a5 := fx.1.cell 5 _ rfl
                  have b5 := fy.1.cell 5 _ rfl
                  rw [hA] at a5
                  rw [hA2] at b5
                  have c0 := hc1 0 _ rfl
                  have d0 := hc2 0 _ rfl
                  have c1 := hc1 1 _ rfl
                  have d1 := hc2 1 _ rfl
                  simp only [Nat.mul_one, Nat.add_zero] at c0 d0
                  clear hc1 hc2 hA hA2 fx fy hp hq EK
                  have CQ : ∀ (r : Bool), eqAll Int.eqb p.l q.l = r → ∀ m, Calls Tryz.prog 72 #[.slice p.A p.l.length p.c, .slice q.A q.l.length q.c] (wr.drewN m) fun e w'' => e = .returned (.bool r) ∧ ∃ n, w'' = wr.drewN n := fun r hr m => Calls.quiet_of (hr ▸ sInts p.A q.A p.c q.c B B' p.l q.l (wr.drewN m) XA.out YA.out)
                  by_cases h1 : p.face = q.face
                  · have g1 : (p.face != q.face) = false := by simp [h1]
                    cases h2 : eqAll Int.eqb p.l q.l
                    case true =>
                      have NR := Aid.hid (NX.out (by simp [Tab.eqb, h1, h2]))
                      have CR := CQ _ h2
                      clear NX NE CQ h2 h1
                      go_wp2_with fail
                      go_quiet ((go_at_call 72; refine CR _))
                      go_wp2_with fail
                      have KD := Aid.hid (below_drewN' KW.out nq)
                      go_roundw
                      case rel => exact ⟨k + 1, by go_num, by omega, NR, KD⟩
                      case measure => simp [intOf]; omega
                    case false =>
                      have NR := Aid.hid (NE.out (by simp [Tab.eqb, h2]))
                      have CR := CQ _ h2
                      clear NX NE CQ h2 h1
                      go_wp2_with fail
                      go_quiet ((go_at_call 72; refine CR _))
                      go_wp2_with fail
                      have KD := Aid.hid (below_drewN' KW.out nq)
                      go_ret
                      exact ⟨by rw [show Desc.eqb x y = false by simp only [Desc.eqb, NR.out, Bool.and_false]]; rfl, FB.out _ KD.out⟩
                  · have g1 : (p.face != q.face) = true := by simpa using h1
                    have NR := Aid.hid (NE.out (by simp [Tab.eqb, h1]))
                    clear NX NE CQ h1
                    go_wp2_with fail
                    go_quiet (fail)
                    go_wp2_with fail
                    have KD := Aid.hid (below_drewN' KW.out nq)
                    go_ret
                    exact ⟨by rw [show Desc.eqb x y = false by simp only [Desc.eqb, NR.out, Bool.and_false]]; rfl, FB.out _ KD.out⟩
                · have ET : Hid (eqAll Tab.eqb x.tabs y.tabs = true) := Aid.hid (FIN.out (by have h := EK.out; rwa [show k = x.tabs.length by omega] at h))
                  have a5 := fx.1.cell 5 _ rfl
                  have b5 := fy.1.cell 5 _ rfl
                  clear fx fy FIN HLY EK ll
                  have HE : Hid (Desc.eqb x y = true) := Aid.hid (by simp only [Desc.eqb, r0.out, r1.out, r2.out, r3.out, r4.out, ET.out]; rfl)
                  go_wp2_with fail
                  go_ret
                  exact ⟨by rw [HE.out]; rfl, FB.out _ KW.out⟩
            · have g5 : ((x.tabs.length : Int) != (y.tabs.length : Int)) = true := by simpa using (by omega : ¬ (x.tabs.length : Int) = y.tabs.length)
              have r5 : Hid (eqAll Tab.eqb x.tabs y.tabs = false) := Aid.hid (eqAll_len e5)
              clear e5
              have fx := RX.out _ KW.out
              have fy := RY.out _ KW.out
              have a0 := fx.1.cell 0 _ rfl
              have b0 := fy.1.cell 0 _ rfl
              have a1 := fx.1.cell 1 _ rfl
              have b1 := fy.1.cell 1 _ rfl
              have a2 := fx.1.cell 2 _ rfl
              have b2 := fy.1.cell 2 _ rfl
              have a3 := fx.1.cell 3 _ rfl
              have b3 := fy.1.cell 3 _ rfl
              have a4 := fx.1.cell 4 _ rfl
              have b4 := fy.1.cell 4 _ rfl
              have a5 := fx.1.cell 5 _ rfl
              have b5 := fy.1.cell 5 _ rfl
              have HC := Aid.hid ((sInts x.iA y.iA x.ic y.ic B B' x.init y.init _ (fx.2.1) (fy.2.1)).mono (fun e w' h => (⟨h.1.trans (by rw [r2.out]), drew_below h.2⟩ : e = .returned (.bool true) ∧ Below _ _ w')))
              clear fx fy
              subst hW
              go_enter Tryz.func75, Tryz.ntmps75
              try simp only [List.append_eq, List.cons_append, List.nil_append]
              go_wp2_with fail
              go_at_call 72
              refine HC.out.mono ?_
              rintro e v1 ⟨rfl, hb1⟩
              have KW := Aid.hid (KW.out.trans (hb1.mono KW.out.size))
              clear hb1 HC a0 b0 a1 b1 a2 b2 a3 b3 a4 b4 a5 b5
              have fx := RX.out _ KW.out
              have fy := RY.out _ KW.out
              have a0 := fx.1.cell 0 _ rfl
              have b0 := fy.1.cell 0 _ rfl
              have a1 := fx.1.cell 1 _ rfl
              have b1 := fy.1.cell 1 _ rfl
              have a2 := fx.1.cell 2 _ rfl
              have b2 := fy.1.cell 2 _ rfl
              have a3 := fx.1.cell 3 _ rfl
              have b3 := fy.1.cell 3 _ rfl
              have a4 := fx.1.cell 4 _ rfl
              have b4 := fy.1.cell 4 _ rfl
              have a5 := fx.1.cell 5 _ rfl
              have b5 := fy.1.cell 5 _ rfl
              have HC := Aid.hid ((sInts x.vA y.vA x.vc y.vc B B' x.vtab y.vtab _ (fx.2.2.1) (fy.2.2.1)).mono (fun e w' h => (⟨h.1.trans (by rw [r3.out]), drew_below h.2⟩ : e = .returned (.bool true) ∧ Below _ _ w')))
              clear fx fy
              go_wp2_with fail
              go_at_call 72
              refine HC.out.mono ?_
              rintro e v2 ⟨rfl, hb2⟩
              have KW := Aid.hid (KW.out.trans (hb2.mono KW.out.size))
              clear hb2 HC a0 b0 a1 b1 a2 b2 a3 b3 a4 b4 a5 b5
              have fx := RX.out _ KW.out
              have fy := RY.out _ KW.out
              have a0 := fx.1.cell 0 _ rfl
              have b0 := fy.1.cell 0 _ rfl
              have a1 := fx.1.cell 1 _ rfl
              have b1 := fy.1.cell 1 _ rfl
              have a2 := fx.1.cell 2 _ rfl
              have b2 := fy.1.cell 2 _ rfl
              have a3 := fx.1.cell 3 _ rfl
              have b3 := fy.1.cell 3 _ rfl
              have a4 := fx.1.cell 4 _ rfl
              have b4 := fy.1.cell 4 _ rfl
              have a5 := fx.1.cell 5 _ rfl
              have b5 := fy.1.cell 5 _ rfl
              have HC := Aid.hid ((sTexts x.sA y.sA x.sc y.sc B B' x.sigs y.sigs _ (fx.2.2.2.1) (fy.2.2.2.1)).mono (fun e w' h => (⟨h.1.trans (by rw [r4.out]), drew_below h.2⟩ : e = .returned (.bool true) ∧ Below _ _ w')))
              clear fx fy
              go_wp2_with fail
              go_at_call 74
              refine HC.out.mono ?_
              rintro e v3 ⟨rfl, hb3⟩
              have KW := Aid.hid (KW.out.trans (hb3.mono KW.out.size))
              clear hb3 HC a0 b0 a1 b1 a2 b2 a3 b3 a4 b4 a5 b5
              have fx := RX.out _ KW.out
              have fy := RY.out _ KW.out
              have a0 := fx.1.cell 0 _ rfl
              have b0 := fy.1.cell 0 _ rfl
              have a1 := fx.1.cell 1 _ rfl
              have b1 := fy.1.cell 1 _ rfl
              have a2 := fx.1.cell 2 _ rfl
              have b2 := fy.1.cell 2 _ rfl
              have a3 := fx.1.cell 3 _ rfl
              have b3 := fy.1.cell 3 _ rfl
              have a4 := fx.1.cell 4 _ rfl
              have b4 := fy.1.cell 4 _ rfl
              have a5 := fx.1.cell 5 _ rfl
              have b5 := fy.1.cell 5 _ rfl
              clear fx fy
              have HE : Hid (Desc.eqb x y = false) := Aid.hid (by simp only [Desc.eqb, r0.out, r1.out, r2.out, r3.out, r4.out, r5.out, Bool.and_false, Bool.false_and])
              go_wp2_with fail
              go_ret
              exact ⟨by rw [HE.out]; rfl, FB.out _ KW.out⟩
          case false =>
            have r4 : Hid (eqAll Txt.eqb x.sigs y.sigs = false) := Aid.hid q4
            clear q4
            have fx := RX.out _ KW.out
            have fy := RY.out _ KW.out
            have a0 := fx.1.cell 0 _ rfl
            have b0 := fy.1.cell 0 _ rfl
            have a1 := fx.1.cell 1 _ rfl
            have b1 := fy.1.cell 1 _ rfl
            have a2 := fx.1.cell 2 _ rfl
            have b2 := fy.1.cell 2 _ rfl
            have a3 := fx.1.cell 3 _ rfl
            have b3 := fy.1.cell 3 _ rfl
            have a4 := fx.1.cell 4 _ rfl
            have b4 := fy.1.cell 4 _ rfl
            have HC := Aid.hid ((sInts x.iA y.iA x.ic y.ic B B' x.init y.init _ (fx.2.1) (fy.2.1)).mono (fun e w' h => (⟨h.1.trans (by rw [r2.out]), drew_below h.2⟩ : e = .returned (.bool true) ∧ Below _ _ w')))
            clear fx fy
            subst hW
            go_enter Tryz.func75, Tryz.ntmps75
            try simp only [List.append_eq, List.cons_append, List.nil_append]
            go_wp2_with fail
            go_at_call 72
            refine HC.out.mono ?_
            rintro e v1 ⟨rfl, hb1⟩
            have KW := Aid.hid (KW.out.trans (hb1.mono KW.out.size))
            clear hb1 HC a0 b0 a1 b1 a2 b2 a3 b3 a4 b4
            have fx := RX.out _ KW.out
            have fy := RY.out _ KW.out
            have a0 := fx.1.cell 0 _ rfl
            have b0 := fy.1.cell 0 _ rfl
            have a1 := fx.1.cell 1 _ rfl
            have b1 := fy.1.cell 1 _ rfl
            have a2 := fx.1.cell 2 _ rfl
            have b2 := fy.1.cell 2 _ rfl
            have a3 := fx.1.cell 3 _ rfl
            have b3 := fy.1.cell 3 _ rfl
            have a4 := fx.1.cell 4 _ rfl
            have b4 := fy.1.cell 4 _ rfl
            have HC := Aid.hid ((sInts x.vA y.vA x.vc y.vc B B' x.vtab y.vtab _ (fx.2.2.1) (fy.2.2.1)).mono (fun e w' h => (⟨h.1.trans (by rw [r3.out]), drew_below h.2⟩ : e = .returned (.bool true) ∧ Below _ _ w')))
            clear fx fy
            go_wp2_with fail
            go_at_call 72
            refine HC.out.mono ?_
            rintro e v2 ⟨rfl, hb2⟩
            have KW := Aid.hid (KW.out.trans (hb2.mono KW.out.size))
            clear hb2 HC a0 b0 a1 b1 a2 b2 a3 b3 a4 b4
            have fx := RX.out _ KW.out
            have fy := RY.out _ KW.out
            have a0 := fx.1.cell 0 _ rfl
            have b0 := fy.1.cell 0 _ rfl
            have a1 := fx.1.cell 1 _ rfl
            have b1 := fy.1.cell 1 _ rfl
            have a2 := fx.1.cell 2 _ rfl
            have b2 := fy.1.cell 2 _ rfl
            have a3 := fx.1.cell 3 _ rfl
            have b3 := fy.1.cell 3 _ rfl
            have a4 := fx.1.cell 4 _ rfl
            have b4 := fy.1.cell 4 _ rfl
            have HC := Aid.hid ((sTexts x.sA y.sA x.sc y.sc B B' x.sigs y.sigs _ (fx.2.2.2.1) (fy.2.2.2.1)).mono (fun e w' h => (⟨h.1.trans (by rw [r4.out]), drew_below h.2⟩ : e = .returned (.bool false) ∧ Below _ _ w')))
            clear fx fy
            go_wp2_with fail
            go_at_call 74
            refine HC.out.mono ?_
            rintro e v3 ⟨rfl, hb3⟩
            have KW := Aid.hid (KW.out.trans (hb3.mono KW.out.size))
            clear hb3 HC a0 b0 a1 b1 a2 b2 a3 b3 a4 b4
            have fx := RX.out _ KW.out
            have fy := RY.out _ KW.out
            have a0 := fx.1.cell 0 _ rfl
            have b0 := fy.1.cell 0 _ rfl
            have a1 := fx.1.cell 1 _ rfl
            have b1 := fy.1.cell 1 _ rfl
            have a2 := fx.1.cell 2 _ rfl
            have b2 := fy.1.cell 2 _ rfl
            have a3 := fx.1.cell 3 _ rfl
            have b3 := fy.1.cell 3 _ rfl
            have a4 := fx.1.cell 4 _ rfl
            have b4 := fy.1.cell 4 _ rfl
            clear fx fy
            have HE : Hid (Desc.eqb x y = false) := Aid.hid (by simp only [Desc.eqb, r0.out, r1.out, r2.out, r3.out, r4.out, Bool.and_false, Bool.false_and])
            go_wp2_with fail
            go_ret
            exact ⟨by rw [HE.out]; rfl, FB.out _ KW.out⟩
        case false =>
          have r3 : Hid (eqAll Int.eqb x.vtab y.vtab = false) := Aid.hid q3
          clear q3
          have fx := RX.out _ KW.out
          have fy := RY.out _ KW.out
          have a0 := fx.1.cell 0 _ rfl
          have b0 := fy.1.cell 0 _ rfl
          have a1 := fx.1.cell 1 _ rfl
          have b1 := fy.1.cell 1 _ rfl
          have a2 := fx.1.cell 2 _ rfl
          have b2 := fy.1.cell 2 _ rfl
          have a3 := fx.1.cell 3 _ rfl
          have b3 := fy.1.cell 3 _ rfl
          have HC := Aid.hid ((sInts x.iA y.iA x.ic y.ic B B' x.init y.init _ (fx.2.1) (fy.2.1)).mono (fun e w' h => (⟨h.1.trans (by rw [r2.out]), drew_below h.2⟩ : e = .returned (.bool true) ∧ Below _ _ w')))
          clear fx fy
          subst hW
          go_enter Tryz.func75, Tryz.ntmps75
          try simp only [List.append_eq, List.cons_append, List.nil_append]
          go_wp2_with fail
          go_at_call 72
          refine HC.out.mono ?_
          rintro e v1 ⟨rfl, hb1⟩
          have KW := Aid.hid (KW.out.trans (hb1.mono KW.out.size))
          clear hb1 HC a0 b0 a1 b1 a2 b2 a3 b3
          have fx := RX.out _ KW.out
          have fy := RY.out _ KW.out
          have a0 := fx.1.cell 0 _ rfl
          have b0 := fy.1.cell 0 _ rfl
          have a1 := fx.1.cell 1 _ rfl
          have b1 := fy.1.cell 1 _ rfl
          have a2 := fx.1.cell 2 _ rfl
          have b2 := fy.1.cell 2 _ rfl
          have a3 := fx.1.cell 3 _ rfl
          have b3 := fy.1.cell 3 _ rfl
          have HC := Aid.hid ((sInts x.vA y.vA x.vc y.vc B B' x.vtab y.vtab _ (fx.2.2.1) (fy.2.2.1)).mono (fun e w' h => (⟨h.1.trans (by rw [r3.out]), drew_below h.2⟩ : e = .returned (.bool false) ∧ Below _ _ w')))
          clear fx fy
          go_wp2_with fail
          go_at_call 72
          refine HC.out.mono ?_
          rintro e v2 ⟨rfl, hb2⟩
          have KW := Aid.hid (KW.out.trans (hb2.mono KW.out.size))
          clear hb2 HC a0 b0 a1 b1 a2 b2 a3 b3
          have fx := RX.out _ KW.out
          have fy := RY.out _ KW.out
          have a0 := fx.1.cell 0 _ rfl
          have b0 := fy.1.cell 0 _ rfl
          have a1 := fx.1.cell 1 _ rfl
          have b1 := fy.1.cell 1 _ rfl
          have a2 := fx.1.cell 2 _ rfl
          have b2 := fy.1.cell 2 _ rfl
          have a3 := fx.1.cell 3 _ rfl
          have b3 := fy.1.cell 3 _ rfl
          clear fx fy
          have HE : Hid (Desc.eqb x y = false) := Aid.hid (by simp only [Desc.eqb, r0.out, r1.out, r2.out, r3.out, Bool.and_false, Bool.false_and])
          go_wp2_with fail
          go_ret
          exact ⟨by rw [HE.out]; rfl, FB.out _ KW.out⟩
      case false =>
        have r2 : Hid (eqAll Int.eqb x.init y.init = false) := Aid.hid q2
        clear q2
        have fx := RX.out _ KW.out
        have fy := RY.out _ KW.out
        have a0 := fx.1.cell 0 _ rfl
        have b0 := fy.1.cell 0 _ rfl
        have a1 := fx.1.cell 1 _ rfl
        have b1 := fy.1.cell 1 _ rfl
        have a2 := fx.1.cell 2 _ rfl
        have b2 := fy.1.cell 2 _ rfl
        have HC := Aid.hid ((sInts x.iA y.iA x.ic y.ic B B' x.init y.init _ (fx.2.1) (fy.2.1)).mono (fun e w' h => (⟨h.1.trans (by rw [r2.out]), drew_below h.2⟩ : e = .returned (.bool false) ∧ Below _ _ w')))
        clear fx fy
        subst hW
        go_enter Tryz.func75, Tryz.ntmps75
        try simp only [List.append_eq, List.cons_append, List.nil_append]
        go_wp2_with fail
        go_at_call 72
        refine HC.out.mono ?_
        rintro e v1 ⟨rfl, hb1⟩
        have KW := Aid.hid (KW.out.trans (hb1.mono KW.out.size))
        clear hb1 HC a0 b0 a1 b1 a2 b2
        have fx := RX.out _ KW.out
        have fy := RY.out _ KW.out
        have a0 := fx.1.cell 0 _ rfl
        have b0 := fy.1.cell 0 _ rfl
        have a1 := fx.1.cell 1 _ rfl
        have b1 := fy.1.cell 1 _ rfl
        have a2 := fx.1.cell 2 _ rfl
        have b2 := fy.1.cell 2 _ rfl
        clear fx fy
        have HE : Hid (Desc.eqb x y = false) := Aid.hid (by simp only [Desc.eqb, r0.out, r1.out, r2.out, Bool.and_false, Bool.false_and])
        go_wp2_with fail
        go_ret
        exact ⟨by rw [HE.out]; rfl, FB.out _ KW.out⟩
    case false =>
      have r1 : Hid ((x.fields.toList == y.fields.toList) = false) := Aid.hid g1
      have fx := RX.out _ KW.out
      have fy := RY.out _ KW.out
      have a0 := fx.1.cell 0 _ rfl
      have b0 := fy.1.cell 0 _ rfl
      have a1 := fx.1.cell 1 _ rfl
      have b1 := fy.1.cell 1 _ rfl
      clear fx fy
      subst hW
      go_enter Tryz.func75, Tryz.ntmps75
      try simp only [List.append_eq, List.cons_append, List.nil_append]
      have HE : Hid (Desc.eqb x y = false) := Aid.hid (by simp only [Desc.eqb, r0.out, r1.out, Bool.and_false, Bool.false_and])
      go_wp2_with fail
      go_ret
      exact ⟨by rw [HE.out]; rfl, FB.out _ KW.out⟩
  · have g0 : (x.base != y.base) = true := by simpa using e0
    have r0 : Hid (decide (x.base = y.base) = false) := Aid.hid (decide_eq_false e0)
    clear e0
    have fx := RX.out _ KW.out
    have fy := RY.out _ KW.out
    have a0 := fx.1.cell 0 _ rfl
    have b0 := fy.1.cell 0 _ rfl
    clear fx fy
    subst hW
    go_enter Tryz.func75, Tryz.ntmps75
    try simp only [List.append_eq, List.cons_append, List.nil_append]
    have HE : Hid (Desc.eqb x y = false) := Aid.hid (by simp only [Desc.eqb, r0.out, Bool.and_false, Bool.false_and])
    go_wp2_with fail
    go_ret
    exact ⟨by rw [HE.out]; rfl, FB.out _ KW.out⟩
end Go.Proofs.YtaogegeidbclaaaGreatDoor
