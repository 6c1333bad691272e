/- Tables, classes, codes, lists of them: compared by the program. -/
import Derived.Test.YtaogegeidbclaaaGreatDoorImgEqA
namespace Go.Proofs.YtaogegeidbclaaaGreatDoor
open Go.RowKit

theorem drew_below {w w' : World} (h : ∃ n, w' = w.drewN n) : Below w.heap.size w w' := by
  obtain ⟨n, rfl⟩ := h; exact below_drewN' (Below.refl _ _) n
set_option maxRecDepth 100000 in
set_option maxHeartbeats 2000000 in
theorem sameTable_is (B B' : Nat) (x y : Tab) (w : World) (hx : Tab.At w B x) (hy : Tab.At w B' y) (hB : B ≤ w.heap.size) (hB' : B' ≤ w.heap.size) :
    Calls Tryz.prog 70 #[.agg #[.int .i64 x.face, .slice x.A x.l.length x.c], .agg #[.int .i64 y.face, .slice y.A y.l.length y.c]] w fun e w' => e = .returned (.bool (Tab.eqb x y)) ∧ Below w.heap.size w w' := by
  obtain ⟨W, hW⟩ : ∃ W, ((w.alloc (.cells #[.int .i64 x.face, .slice x.A x.l.length x.c] 57)).alloc (.cells #[.int .i64 y.face, .slice y.A y.l.length y.c] 57)) = W := ⟨_, rfl⟩
  have hbx : Aid.Has W w.heap.size [.int .i64 x.face, .slice x.A x.l.length x.c] 57 := by subst hW; exact (Aid.Has.new w [.int .i64 x.face, .slice x.A x.l.length x.c] 57).alloc _
  have hby : Aid.Has W (w.heap.size + 1) [.int .i64 y.face, .slice y.A y.l.length y.c] 57 := by
    have := Aid.Has.new (w.alloc (.cells #[.int .i64 x.face, .slice x.A x.l.length x.c] 57)) [.int .i64 y.face, .slice y.A y.l.length y.c] 57
    rw [World.size_alloc] at this; subst hW; exact this
  have b0 : Below w.heap.size w W := by subst hW; exact ((Below.refl _ w).alloc (Nat.le_refl _) _).alloc (by simp) _
  have sz : w.heap.size ≤ W.heap.size := b0.size
  have B0 := Aid.hid b0
  have RX : Hid (∀ wr, Below W.heap.size W wr → Aid.Has wr w.heap.size [.int .i64 x.face, .slice x.A x.l.length x.c] 57 ∧ Tab.At wr B x) := Aid.hid fun wr hb => ⟨hbx.below hb hbx.lt, (hx.below b0 hB).below hb (Nat.le_trans hB sz)⟩
  have RY : Hid (∀ wr, Below W.heap.size W wr → Aid.Has wr (w.heap.size + 1) [.int .i64 y.face, .slice y.A y.l.length y.c] 57 ∧ Tab.At wr B' y) := Aid.hid fun wr hb => ⟨hby.below hb hby.lt, (hy.below b0 hB').below hb (Nat.le_trans hB' sz)⟩
  have SZ := Aid.hid sz
  have KW : Hid (Below W.heap.size W W) := Aid.hid (Below.refl _ _)
  have FB : Hid (∀ wr, Below W.heap.size W wr → Below w.heap.size w wr) := Aid.hid fun wr hb => b0.trans (hb.mono sz)
  clear hbx hby b0 sz hx hy B0
  by_cases e0 : x.face = y.face
  · have g0 : (x.face == y.face) = true := by simp [e0]
    have r0 : Hid (decide (x.face = y.face) = true) := Aid.hid (decide_eq_true e0)
    clear e0
    cases q1 : eqAll Int.eqb x.l y.l
    case true =>
      have r1 : Hid (eqAll Int.eqb x.l y.l = true) := Aid.hid q1
      clear q1
      have HE : Hid (Tab.eqb x y = true) := Aid.hid (by simp only [Tab.eqb, r0.out, r1.out]; rfl)
      have fx := RX.out _ KW.out
      have fy := RY.out _ KW.out
      have a0 := fx.1.cell 0 _ rfl
      have b0 := fy.1.cell 0 _ rfl
      have a1 := fx.1.cell 1 _ rfl
      have b1 := fy.1.cell 1 _ rfl
      have HC := Aid.hid ((eqInts x.A y.A x.c y.c B B' x.l y.l _ (fx.2) (fy.2)).mono (fun e w' h => (⟨h.1.trans (by rw [r1.out]), drew_below h.2⟩ : e = .returned (.bool true) ∧ Below _ _ w')))
      clear fx fy
      subst hW
      go_enter Tryz.func70, Tryz.ntmps70
      try simp only [List.append_eq, List.cons_append, List.nil_append]
      go_wp2_with fail
      go_at_call 34
      refine HC.out.mono ?_
      rintro e w1 ⟨rfl, hb1⟩
      have KW := Aid.hid (KW.out.trans (hb1.mono KW.out.size))
      clear hb1 HC a0 b0 a1 b1
      have fx := RX.out _ KW.out
      have fy := RY.out _ KW.out
      have a0 := fx.1.cell 0 _ rfl
      have b0 := fy.1.cell 0 _ rfl
      have a1 := fx.1.cell 1 _ rfl
      have b1 := fy.1.cell 1 _ rfl
      clear fx fy
      go_wp2_with fail
      go_ret
      exact ⟨by rw [HE.out]; rfl, FB.out _ KW.out⟩
    case false =>
      have r1 : Hid (eqAll Int.eqb x.l y.l = false) := Aid.hid q1
      clear q1
      have HE : Hid (Tab.eqb x y = false) := Aid.hid (by simp only [Tab.eqb, r0.out, r1.out]; rfl)
      have fx := RX.out _ KW.out
      have fy := RY.out _ KW.out
      have a0 := fx.1.cell 0 _ rfl
      have b0 := fy.1.cell 0 _ rfl
      have a1 := fx.1.cell 1 _ rfl
      have b1 := fy.1.cell 1 _ rfl
      have HC := Aid.hid ((eqInts x.A y.A x.c y.c B B' x.l y.l _ (fx.2) (fy.2)).mono (fun e w' h => (⟨h.1.trans (by rw [r1.out]), drew_below h.2⟩ : e = .returned (.bool false) ∧ Below _ _ w')))
      clear fx fy
      subst hW
      go_enter Tryz.func70, Tryz.ntmps70
      try simp only [List.append_eq, List.cons_append, List.nil_append]
      go_wp2_with fail
      go_at_call 34
      refine HC.out.mono ?_
      rintro e w1 ⟨rfl, hb1⟩
      have KW := Aid.hid (KW.out.trans (hb1.mono KW.out.size))
      clear hb1 HC a0 b0 a1 b1
      have fx := RX.out _ KW.out
      have fy := RY.out _ KW.out
      have a0 := fx.1.cell 0 _ rfl
      have b0 := fy.1.cell 0 _ rfl
      have a1 := fx.1.cell 1 _ rfl
      have b1 := fy.1.cell 1 _ rfl
      clear fx fy
      go_wp2_with fail
      go_ret
      exact ⟨by rw [HE.out]; rfl, FB.out _ KW.out⟩
  · have g0 : (x.face == y.face) = false := by simpa using e0
    have r0 : Hid (decide (x.face = y.face) = false) := Aid.hid (decide_eq_false e0)
    clear e0
    have HE : Hid (Tab.eqb x y = false) := Aid.hid (by simp only [Tab.eqb, r0.out]; rfl)
    have fx := RX.out _ KW.out
    have fy := RY.out _ KW.out
    have a0 := fx.1.cell 0 _ rfl
    have b0 := fy.1.cell 0 _ rfl
    clear fx fy
    subst hW
    go_enter Tryz.func70, Tryz.ntmps70
    try simp only [List.append_eq, List.cons_append, List.nil_append]
    go_wp2_with fail
    go_ret
    exact ⟨by rw [HE.out]; rfl, FB.out _ KW.out⟩
set_option maxRecDepth 100000 in
set_option maxHeartbeats 2000000 in
theorem eqTabs (A C : Option Addr) (c d B B' : Nat) (xs ys : List Tab) (w : World) (hx : LTabs w B A xs) (hy : LTabs w B' C ys) (hB : B ≤ w.heap.size) (hB' : B' ≤ w.heap.size) :
    Calls Tryz.prog 69 #[.slice A xs.length c, .slice C ys.length d, .func (.func 70) #[] #[]] w fun e w' => e = .returned (.bool (eqAll Tab.eqb xs ys)) ∧ Below w.heap.size w w' := by
  have lx : xs.length ≤ 9223372036854775807 := hx.1
  have HX := Aid.hid hx; have HY := Aid.hid hy
  clear hx hy
  by_cases hl : xs.length = ys.length
  · have FIN : Hid (EqTo Tab.eqb xs ys xs.length → eqAll Tab.eqb xs ys = true) := Aid.hid (fun h => EqTo.all hl h)
    have HLY : Hid (∀ k, k < xs.length → ∃ y, ys[k]? = some y) := Aid.hid (fun k h => ⟨_, List.getElem?_eq_getElem (by omega)⟩)
    go_enter Tryz.func69, Tryz.ntmps69
    try simp only [List.append_eq, List.cons_append, List.nil_append]
    rw [← hl]
    clear hl
    go_wp2_with fail
    go_loopw [17] (fun i wr => ∃ k : Nat, i = .int .i64 k ∧ k ≤ xs.length ∧ Hid (EqTo Tab.eqb xs ys k) ∧ Hid (Below w.heap.size w wr)) (fun i _ => xs.length - (intOf i).toNat)
    case atStart => exact ⟨0, rfl, Nat.zero_le _, Aid.hid (EqTo.zero _ _), Aid.hid (Below.refl _ _)⟩
    case round =>
      obtain ⟨k, rfl, hk, E, HK⟩ := hrel
      by_cases hlt : k < xs.length
      · obtain ⟨x, hx⟩ : ∃ x, xs[k]? = some x := ⟨_, List.getElem?_eq_getElem hlt⟩
        obtain ⟨y, hy⟩ := HLY.out k hlt
        have hxw := HX.out.below HK.out hB
        have hyw := HY.out.below HK.out hB'
        obtain ⟨b1, o1, rfl, hb1, hc1⟩ := Rows.get hxw.2.1 hx
        obtain ⟨b2, o2, rfl, hb2, hc2⟩ := Rows.get hyw.2.1 hy
        have hs := HK.out.size
        have lb2 : b2 < wr.heap.size := by omega
        have lb1 : b1 < wr.heap.size := by omega
        have XA := Aid.hid (hxw.2.2 x (List.mem_of_getElem? hx))
        have YA := Aid.hid (hyw.2.2 y (List.mem_of_getElem? hy))
        have NX : Hid (Tab.eqb x y = true → EqTo Tab.eqb xs ys (k + 1)) := Aid.hid (fun h => EqTo.next E.out hx hy h)
        have NE : Hid (Tab.eqb x y = false → eqAll Tab.eqb xs ys = false) := Aid.hid (fun h => eqAll_no hx hy h)
        have a0 := hc1 0 _ rfl
        have d0 := hc2 0 _ rfl
        have a1 := hc1 1 _ rfl
        have d1 := hc2 1 _ rfl
        simp only [Nat.mul_one, Nat.add_zero] at a0 d0
        have k2 : Below wr.heap.size wr ((wr.alloc (.cells #[.int .i64 x.face, .slice x.A x.l.length x.c] 57)).alloc (.cells #[.int .i64 y.face, .slice y.A y.l.length y.c] 57)) := ((Below.refl _ wr).alloc (Nat.le_refl _) _).alloc (by simp) _
        have HC := Aid.hid (sameTable_is B B' x y ((wr.alloc (.cells #[.int .i64 x.face, .slice x.A x.l.length x.c] 57)).alloc (.cells #[.int .i64 y.face, .slice y.A y.l.length y.c] 57)) (XA.out.below k2 (Nat.le_trans hB hs)) (YA.out.below k2 (Nat.le_trans hB' hs)) (Nat.le_trans hB (Nat.le_trans hs k2.size)) (Nat.le_trans hB' (Nat.le_trans hs k2.size)))
        have K1 := Aid.hid (HK.out.trans (k2.mono hs))
        clear k2
        clear hc1 hc2 E hx hy hxw hyw
        go_wp2_with fail
        go_at_call 70
        refine HC.out.mono ?_
        rintro e w5 ⟨rfl, hb5⟩
        have K2 := Aid.hid (K1.out.trans (hb5.mono K1.out.size))
        clear hb5 HC
        cases hr : Tab.eqb x y
        · have NR := Aid.hid (NE.out hr)
          clear NX NE hr
          go_wp2_with fail
          go_ret
          exact ⟨by rw [NR.out]; rfl, K2.out⟩
        · have NR := Aid.hid (NX.out hr)
          clear NX NE hr
          go_wp2_with fail
          go_roundw
          case rel => exact ⟨k + 1, by go_num, by omega, NR, K2⟩
          case measure => simp [intOf]; omega
      · go_wp2_with fail
        go_ret
        exact ⟨Aid.ret_bool (by
          have h := E.out
          rw [show k = xs.length by omega] at h
          exact (FIN.out h).symm), HK.out⟩
  · have hl2 : ((xs.length : Int) != (ys.length : Int)) = true := by simpa using (by omega : ¬ (xs.length : Int) = ys.length)
    have E := Aid.hid (eqAll_len (f := Tab.eqb) hl)
    go_enter Tryz.func69, Tryz.ntmps69
    try simp only [List.append_eq, List.cons_append, List.nil_append]
    go_wp2_with fail
    go_ret
    exact ⟨by rw [E.out]; rfl, Below.refl _ _⟩
set_option maxRecDepth 100000 in
set_option maxHeartbeats 2000000 in
theorem sameDesc_is (B B' : Nat) (x y : Desc) (w : World) (hx : Desc.At w B x) (hy : Desc.At w B' y) (hB : B ≤ w.heap.size) (hB' : B' ≤ w.heap.size) :
    Calls Tryz.prog 38 #[.agg #[.int .i64 x.base, .string x.fields, .slice x.iA x.init.length x.ic, .slice x.vA x.vtab.length x.vc, .slice x.sA x.sigs.length x.sc, .slice x.tA x.tabs.length x.tc], .agg #[.int .i64 y.base, .string y.fields, .slice y.iA y.init.length y.ic, .slice y.vA y.vtab.length y.vc, .slice y.sA y.sigs.length y.sc, .slice y.tA y.tabs.length y.tc]] w fun e w' => e = .returned (.bool (Desc.eqb x y)) ∧ Below w.heap.size w w' := by
  obtain ⟨W, hW⟩ : ∃ W, ((w.alloc (.cells #[.int .i64 x.base, .string x.fields, .slice x.iA x.init.length x.ic, .slice x.vA x.vtab.length x.vc, .slice x.sA x.sigs.length x.sc, .slice x.tA x.tabs.length x.tc] 55)).alloc (.cells #[.int .i64 y.base, .string y.fields, .slice y.iA y.init.length y.ic, .slice y.vA y.vtab.length y.vc, .slice y.sA y.sigs.length y.sc, .slice y.tA y.tabs.length y.tc] 55)) = W := ⟨_, rfl⟩
  have hbx : Aid.Has W w.heap.size [.int .i64 x.base, .string x.fields, .slice x.iA x.init.length x.ic, .slice x.vA x.vtab.length x.vc, .slice x.sA x.sigs.length x.sc, .slice x.tA x.tabs.length x.tc] 55 := by subst hW; exact (Aid.Has.new w [.int .i64 x.base, .string x.fields, .slice x.iA x.init.length x.ic, .slice x.vA x.vtab.length x.vc, .slice x.sA x.sigs.length x.sc, .slice x.tA x.tabs.length x.tc] 55).alloc _
  have hby : Aid.Has W (w.heap.size + 1) [.int .i64 y.base, .string y.fields, .slice y.iA y.init.length y.ic, .slice y.vA y.vtab.length y.vc, .slice y.sA y.sigs.length y.sc, .slice y.tA y.tabs.length y.tc] 55 := by
    have := Aid.Has.new (w.alloc (.cells #[.int .i64 x.base, .string x.fields, .slice x.iA x.init.length x.ic, .slice x.vA x.vtab.length x.vc, .slice x.sA x.sigs.length x.sc, .slice x.tA x.tabs.length x.tc] 55)) [.int .i64 y.base, .string y.fields, .slice y.iA y.init.length y.ic, .slice y.vA y.vtab.length y.vc, .slice y.sA y.sigs.length y.sc, .slice y.tA y.tabs.length y.tc] 55
    rw [World.size_alloc] at this; subst hW; exact this
  have b0 : Below w.heap.size w W := by subst hW; exact ((Below.refl _ w).alloc (Nat.le_refl _) _).alloc (by simp) _
  have sz : w.heap.size ≤ W.heap.size := b0.size
  have B0 := Aid.hid b0
  have RX : Hid (∀ wr, Below W.heap.size W wr → Aid.Has wr w.heap.size [.int .i64 x.base, .string x.fields, .slice x.iA x.init.length x.ic, .slice x.vA x.vtab.length x.vc, .slice x.sA x.sigs.length x.sc, .slice x.tA x.tabs.length x.tc] 55 ∧ Desc.At wr B x) := Aid.hid fun wr hb => ⟨hbx.below hb hbx.lt, (hx.below b0 hB).below hb (Nat.le_trans hB sz)⟩
  have RY : Hid (∀ wr, Below W.heap.size W wr → Aid.Has wr (w.heap.size + 1) [.int .i64 y.base, .string y.fields, .slice y.iA y.init.length y.ic, .slice y.vA y.vtab.length y.vc, .slice y.sA y.sigs.length y.sc, .slice y.tA y.tabs.length y.tc] 55 ∧ Desc.At wr B' y) := Aid.hid fun wr hb => ⟨hby.below hb hby.lt, (hy.below b0 hB').below hb (Nat.le_trans hB' sz)⟩
  have SZ := Aid.hid sz
  have KW : Hid (Below W.heap.size W W) := Aid.hid (Below.refl _ _)
  have FB : Hid (∀ wr, Below W.heap.size W wr → Below w.heap.size w wr) := Aid.hid fun wr hb => b0.trans (hb.mono sz)
  clear hbx hby b0 sz hx hy B0
  by_cases e0 : x.base = y.base
  · have g0 : (x.base == y.base) = true := by simp [e0]
    have r0 : Hid (decide (x.base = y.base) = true) := Aid.hid (decide_eq_true e0)
    clear e0
    cases g1 : (x.fields.toList == y.fields.toList)
    case true =>
      have r1 : Hid ((x.fields.toList == y.fields.toList) = true) := Aid.hid g1
      cases q2 : eqAll Int.eqb x.init y.init
      case true =>
        have r2 : Hid (eqAll Int.eqb x.init y.init = true) := Aid.hid q2
        clear q2
        cases q3 : eqAll Int.eqb x.vtab y.vtab
        case true =>
          have r3 : Hid (eqAll Int.eqb x.vtab y.vtab = true) := Aid.hid q3
          clear q3
          cases q4 : eqAll Txt.eqb x.sigs y.sigs
          case true =>
            have r4 : Hid (eqAll Txt.eqb x.sigs y.sigs = true) := Aid.hid q4
            clear q4
            cases q5 : eqAll Tab.eqb x.tabs y.tabs
            case true =>
              have r5 : Hid (eqAll Tab.eqb x.tabs y.tabs = true) := Aid.hid q5
              clear q5
              have HE : Hid (Desc.eqb x y = true) := Aid.hid (by simp only [Desc.eqb, r0.out, r1.out, r2.out, r3.out, r4.out, r5.out]; rfl)
              have fx := RX.out _ KW.out
              have fy := RY.out _ KW.out
              have a0 := fx.1.cell 0 _ rfl
              have b0 := fy.1.cell 0 _ rfl
              have a1 := fx.1.cell 1 _ rfl
              have b1 := fy.1.cell 1 _ rfl
              have a2 := fx.1.cell 2 _ rfl
              have b2 := fy.1.cell 2 _ rfl
              have a3 := fx.1.cell 3 _ rfl
              have b3 := fy.1.cell 3 _ rfl
              have a4 := fx.1.cell 4 _ rfl
              have b4 := fy.1.cell 4 _ rfl
              have a5 := fx.1.cell 5 _ rfl
              have b5 := fy.1.cell 5 _ rfl
              have HC := Aid.hid ((eqInts x.iA y.iA x.ic y.ic B B' x.init y.init _ (fx.2.1) (fy.2.1)).mono (fun e w' h => (⟨h.1.trans (by rw [r2.out]), drew_below h.2⟩ : e = .returned (.bool true) ∧ Below _ _ w')))
              clear fx fy
              subst hW
              go_enter Tryz.func38, Tryz.ntmps38
              try simp only [List.append_eq, List.cons_append, List.nil_append]
              go_wp2_with fail
              go_at_call 34
              refine HC.out.mono ?_
              rintro e w1 ⟨rfl, hb1⟩
              have KW := Aid.hid (KW.out.trans (hb1.mono KW.out.size))
              clear hb1 HC a0 b0 a1 b1 a2 b2 a3 b3 a4 b4 a5 b5
              have fx := RX.out _ KW.out
              have fy := RY.out _ KW.out
              have a0 := fx.1.cell 0 _ rfl
              have b0 := fy.1.cell 0 _ rfl
              have a1 := fx.1.cell 1 _ rfl
              have b1 := fy.1.cell 1 _ rfl
              have a2 := fx.1.cell 2 _ rfl
              have b2 := fy.1.cell 2 _ rfl
              have a3 := fx.1.cell 3 _ rfl
              have b3 := fy.1.cell 3 _ rfl
              have a4 := fx.1.cell 4 _ rfl
              have b4 := fy.1.cell 4 _ rfl
              have a5 := fx.1.cell 5 _ rfl
              have b5 := fy.1.cell 5 _ rfl
              have HC := Aid.hid ((eqInts x.vA y.vA x.vc y.vc B B' x.vtab y.vtab _ (fx.2.2.1) (fy.2.2.1)).mono (fun e w' h => (⟨h.1.trans (by rw [r3.out]), drew_below h.2⟩ : e = .returned (.bool true) ∧ Below _ _ w')))
              clear fx fy
              go_wp2_with fail
              go_at_call 34
              refine HC.out.mono ?_
              rintro e w2 ⟨rfl, hb2⟩
              have KW := Aid.hid (KW.out.trans (hb2.mono KW.out.size))
              clear hb2 HC a0 b0 a1 b1 a2 b2 a3 b3 a4 b4 a5 b5
              have fx := RX.out _ KW.out
              have fy := RY.out _ KW.out
              have a0 := fx.1.cell 0 _ rfl
              have b0 := fy.1.cell 0 _ rfl
              have a1 := fx.1.cell 1 _ rfl
              have b1 := fy.1.cell 1 _ rfl
              have a2 := fx.1.cell 2 _ rfl
              have b2 := fy.1.cell 2 _ rfl
              have a3 := fx.1.cell 3 _ rfl
              have b3 := fy.1.cell 3 _ rfl
              have a4 := fx.1.cell 4 _ rfl
              have b4 := fy.1.cell 4 _ rfl
              have a5 := fx.1.cell 5 _ rfl
              have b5 := fy.1.cell 5 _ rfl
              have HC := Aid.hid ((eqTexts x.sA y.sA x.sc y.sc B B' x.sigs y.sigs _ (fx.2.2.2.1) (fy.2.2.2.1)).mono (fun e w' h => (⟨h.1.trans (by rw [r4.out]), drew_below h.2⟩ : e = .returned (.bool true) ∧ Below _ _ w')))
              clear fx fy
              go_wp2_with fail
              go_at_call 33
              refine HC.out.mono ?_
              rintro e w3 ⟨rfl, hb3⟩
              have KW := Aid.hid (KW.out.trans (hb3.mono KW.out.size))
              clear hb3 HC a0 b0 a1 b1 a2 b2 a3 b3 a4 b4 a5 b5
              have fx := RX.out _ KW.out
              have fy := RY.out _ KW.out
              have a0 := fx.1.cell 0 _ rfl
              have b0 := fy.1.cell 0 _ rfl
              have a1 := fx.1.cell 1 _ rfl
              have b1 := fy.1.cell 1 _ rfl
              have a2 := fx.1.cell 2 _ rfl
              have b2 := fy.1.cell 2 _ rfl
              have a3 := fx.1.cell 3 _ rfl
              have b3 := fy.1.cell 3 _ rfl
              have a4 := fx.1.cell 4 _ rfl
              have b4 := fy.1.cell 4 _ rfl
              have a5 := fx.1.cell 5 _ rfl
              have b5 := fy.1.cell 5 _ rfl
              have HC := Aid.hid ((eqTabs x.tA y.tA x.tc y.tc B B' x.tabs y.tabs _ (fx.2.2.2.2) (fy.2.2.2.2) (Nat.le_trans hB (Nat.le_trans SZ.out KW.out.size)) (Nat.le_trans hB' (Nat.le_trans SZ.out KW.out.size))).mono (fun e w' h => (⟨h.1.trans (by rw [r5.out]), h.2⟩ : e = .returned (.bool true) ∧ Below _ _ w')))
              clear fx fy
              go_wp2_with fail
              go_at_call 69
              refine HC.out.mono ?_
              rintro e w4 ⟨rfl, hb4⟩
              have KW := Aid.hid (KW.out.trans (hb4.mono KW.out.size))
              clear hb4 HC a0 b0 a1 b1 a2 b2 a3 b3 a4 b4 a5 b5
              have fx := RX.out _ KW.out
              have fy := RY.out _ KW.out
              have a0 := fx.1.cell 0 _ rfl
              have b0 := fy.1.cell 0 _ rfl
              have a1 := fx.1.cell 1 _ rfl
              have b1 := fy.1.cell 1 _ rfl
              have a2 := fx.1.cell 2 _ rfl
              have b2 := fy.1.cell 2 _ rfl
              have a3 := fx.1.cell 3 _ rfl
              have b3 := fy.1.cell 3 _ rfl
              have a4 := fx.1.cell 4 _ rfl
              have b4 := fy.1.cell 4 _ rfl
              have a5 := fx.1.cell 5 _ rfl
              have b5 := fy.1.cell 5 _ rfl
              clear fx fy
              go_wp2_with fail
              go_ret
              exact ⟨by rw [HE.out]; rfl, FB.out _ KW.out⟩
            case false =>
              have r5 : Hid (eqAll Tab.eqb x.tabs y.tabs = false) := Aid.hid q5
              clear q5
              have HE : Hid (Desc.eqb x y = false) := Aid.hid (by simp only [Desc.eqb, r0.out, r1.out, r2.out, r3.out, r4.out, r5.out]; rfl)
              have fx := RX.out _ KW.out
              have fy := RY.out _ KW.out
              have a0 := fx.1.cell 0 _ rfl
              have b0 := fy.1.cell 0 _ rfl
              have a1 := fx.1.cell 1 _ rfl
              have b1 := fy.1.cell 1 _ rfl
              have a2 := fx.1.cell 2 _ rfl
              have b2 := fy.1.cell 2 _ rfl
              have a3 := fx.1.cell 3 _ rfl
              have b3 := fy.1.cell 3 _ rfl
              have a4 := fx.1.cell 4 _ rfl
              have b4 := fy.1.cell 4 _ rfl
              have a5 := fx.1.cell 5 _ rfl
              have b5 := fy.1.cell 5 _ rfl
              have HC := Aid.hid ((eqInts x.iA y.iA x.ic y.ic B B' x.init y.init _ (fx.2.1) (fy.2.1)).mono (fun e w' h => (⟨h.1.trans (by rw [r2.out]), drew_below h.2⟩ : e = .returned (.bool true) ∧ Below _ _ w')))
              clear fx fy
              subst hW
              go_enter Tryz.func38, Tryz.ntmps38
              try simp only [List.append_eq, List.cons_append, List.nil_append]
              go_wp2_with fail
              go_at_call 34
              refine HC.out.mono ?_
              rintro e w1 ⟨rfl, hb1⟩
              have KW := Aid.hid (KW.out.trans (hb1.mono KW.out.size))
              clear hb1 HC a0 b0 a1 b1 a2 b2 a3 b3 a4 b4 a5 b5
              have fx := RX.out _ KW.out
              have fy := RY.out _ KW.out
              have a0 := fx.1.cell 0 _ rfl
              have b0 := fy.1.cell 0 _ rfl
              have a1 := fx.1.cell 1 _ rfl
              have b1 := fy.1.cell 1 _ rfl
              have a2 := fx.1.cell 2 _ rfl
              have b2 := fy.1.cell 2 _ rfl
              have a3 := fx.1.cell 3 _ rfl
              have b3 := fy.1.cell 3 _ rfl
              have a4 := fx.1.cell 4 _ rfl
              have b4 := fy.1.cell 4 _ rfl
              have a5 := fx.1.cell 5 _ rfl
              have b5 := fy.1.cell 5 _ rfl
              have HC := Aid.hid ((eqInts x.vA y.vA x.vc y.vc B B' x.vtab y.vtab _ (fx.2.2.1) (fy.2.2.1)).mono (fun e w' h => (⟨h.1.trans (by rw [r3.out]), drew_below h.2⟩ : e = .returned (.bool true) ∧ Below _ _ w')))
              clear fx fy
              go_wp2_with fail
              go_at_call 34
              refine HC.out.mono ?_
              rintro e w2 ⟨rfl, hb2⟩
              have KW := Aid.hid (KW.out.trans (hb2.mono KW.out.size))
              clear hb2 HC a0 b0 a1 b1 a2 b2 a3 b3 a4 b4 a5 b5
              have fx := RX.out _ KW.out
              have fy := RY.out _ KW.out
              have a0 := fx.1.cell 0 _ rfl
              have b0 := fy.1.cell 0 _ rfl
              have a1 := fx.1.cell 1 _ rfl
              have b1 := fy.1.cell 1 _ rfl
              have a2 := fx.1.cell 2 _ rfl
              have b2 := fy.1.cell 2 _ rfl
              have a3 := fx.1.cell 3 _ rfl
              have b3 := fy.1.cell 3 _ rfl
              have a4 := fx.1.cell 4 _ rfl
              have b4 := fy.1.cell 4 _ rfl
              have a5 := fx.1.cell 5 _ rfl
              have b5 := fy.1.cell 5 _ rfl
              have HC := Aid.hid ((eqTexts x.sA y.sA x.sc y.sc B B' x.sigs y.sigs _ (fx.2.2.2.1) (fy.2.2.2.1)).mono (fun e w' h => (⟨h.1.trans (by rw [r4.out]), drew_below h.2⟩ : e = .returned (.bool true) ∧ Below _ _ w')))
              clear fx fy
              go_wp2_with fail
              go_at_call 33
              refine HC.out.mono ?_
              rintro e w3 ⟨rfl, hb3⟩
              have KW := Aid.hid (KW.out.trans (hb3.mono KW.out.size))
              clear hb3 HC a0 b0 a1 b1 a2 b2 a3 b3 a4 b4 a5 b5
              have fx := RX.out _ KW.out
              have fy := RY.out _ KW.out
              have a0 := fx.1.cell 0 _ rfl
              have b0 := fy.1.cell 0 _ rfl
              have a1 := fx.1.cell 1 _ rfl
              have b1 := fy.1.cell 1 _ rfl
              have a2 := fx.1.cell 2 _ rfl
              have b2 := fy.1.cell 2 _ rfl
              have a3 := fx.1.cell 3 _ rfl
              have b3 := fy.1.cell 3 _ rfl
              have a4 := fx.1.cell 4 _ rfl
              have b4 := fy.1.cell 4 _ rfl
              have a5 := fx.1.cell 5 _ rfl
              have b5 := fy.1.cell 5 _ rfl
              have HC := Aid.hid ((eqTabs x.tA y.tA x.tc y.tc B B' x.tabs y.tabs _ (fx.2.2.2.2) (fy.2.2.2.2) (Nat.le_trans hB (Nat.le_trans SZ.out KW.out.size)) (Nat.le_trans hB' (Nat.le_trans SZ.out KW.out.size))).mono (fun e w' h => (⟨h.1.trans (by rw [r5.out]), h.2⟩ : e = .returned (.bool false) ∧ Below _ _ w')))
              clear fx fy
              go_wp2_with fail
              go_at_call 69
              refine HC.out.mono ?_
              rintro e w4 ⟨rfl, hb4⟩
              have KW := Aid.hid (KW.out.trans (hb4.mono KW.out.size))
              clear hb4 HC a0 b0 a1 b1 a2 b2 a3 b3 a4 b4 a5 b5
              have fx := RX.out _ KW.out
              have fy := RY.out _ KW.out
              have a0 := fx.1.cell 0 _ rfl
              have b0 := fy.1.cell 0 _ rfl
              have a1 := fx.1.cell 1 _ rfl
              have b1 := fy.1.cell 1 _ rfl
              have a2 := fx.1.cell 2 _ rfl
              have b2 := fy.1.cell 2 _ rfl
              have a3 := fx.1.cell 3 _ rfl
              have b3 := fy.1.cell 3 _ rfl
              have a4 := fx.1.cell 4 _ rfl
              have b4 := fy.1.cell 4 _ rfl
              have a5 := fx.1.cell 5 _ rfl
              have b5 := fy.1.cell 5 _ rfl
              clear fx fy
              go_wp2_with fail
              go_ret
              exact ⟨by rw [HE.out]; rfl, FB.out _ KW.out⟩
          case false =>
            have r4 : Hid (eqAll Txt.eqb x.sigs y.sigs = false) := Aid.hid q4
            clear q4
            have HE : Hid (Desc.eqb x y = false) := Aid.hid (by simp only [Desc.eqb, r0.out, r1.out, r2.out, r3.out, r4.out]; rfl)
            have fx := RX.out _ KW.out
            have fy := RY.out _ KW.out
            have a0 := fx.1.cell 0 _ rfl
            have b0 := fy.1.cell 0 _ rfl
            have a1 := fx.1.cell 1 _ rfl
            have b1 := fy.1.cell 1 _ rfl
            have a2 := fx.1.cell 2 _ rfl
            have b2 := fy.1.cell 2 _ rfl
            have a3 := fx.1.cell 3 _ rfl
            have b3 := fy.1.cell 3 _ rfl
            have a4 := fx.1.cell 4 _ rfl
            have b4 := fy.1.cell 4 _ rfl
            have HC := Aid.hid ((eqInts x.iA y.iA x.ic y.ic B B' x.init y.init _ (fx.2.1) (fy.2.1)).mono (fun e w' h => (⟨h.1.trans (by rw [r2.out]), drew_below h.2⟩ : e = .returned (.bool true) ∧ Below _ _ w')))
            clear fx fy
            subst hW
            go_enter Tryz.func38, Tryz.ntmps38
            try simp only [List.append_eq, List.cons_append, List.nil_append]
            go_wp2_with fail
            go_at_call 34
            refine HC.out.mono ?_
            rintro e w1 ⟨rfl, hb1⟩
            have KW := Aid.hid (KW.out.trans (hb1.mono KW.out.size))
            clear hb1 HC a0 b0 a1 b1 a2 b2 a3 b3 a4 b4
            have fx := RX.out _ KW.out
            have fy := RY.out _ KW.out
            have a0 := fx.1.cell 0 _ rfl
            have b0 := fy.1.cell 0 _ rfl
            have a1 := fx.1.cell 1 _ rfl
            have b1 := fy.1.cell 1 _ rfl
            have a2 := fx.1.cell 2 _ rfl
            have b2 := fy.1.cell 2 _ rfl
            have a3 := fx.1.cell 3 _ rfl
            have b3 := fy.1.cell 3 _ rfl
            have a4 := fx.1.cell 4 _ rfl
            have b4 := fy.1.cell 4 _ rfl
            have HC := Aid.hid ((eqInts x.vA y.vA x.vc y.vc B B' x.vtab y.vtab _ (fx.2.2.1) (fy.2.2.1)).mono (fun e w' h => (⟨h.1.trans (by rw [r3.out]), drew_below h.2⟩ : e = .returned (.bool true) ∧ Below _ _ w')))
            clear fx fy
            go_wp2_with fail
            go_at_call 34
            refine HC.out.mono ?_
            rintro e w2 ⟨rfl, hb2⟩
            have KW := Aid.hid (KW.out.trans (hb2.mono KW.out.size))
            clear hb2 HC a0 b0 a1 b1 a2 b2 a3 b3 a4 b4
            have fx := RX.out _ KW.out
            have fy := RY.out _ KW.out
            have a0 := fx.1.cell 0 _ rfl
            have b0 := fy.1.cell 0 _ rfl
            have a1 := fx.1.cell 1 _ rfl
            have b1 := fy.1.cell 1 _ rfl
            have a2 := fx.1.cell 2 _ rfl
            have b2 := fy.1.cell 2 _ rfl
            have a3 := fx.1.cell 3 _ rfl
            have b3 := fy.1.cell 3 _ rfl
            have a4 := fx.1.cell 4 _ rfl
            have b4 := fy.1.cell 4 _ rfl
            have HC := Aid.hid ((eqTexts x.sA y.sA x.sc y.sc B B' x.sigs y.sigs _ (fx.2.2.2.1) (fy.2.2.2.1)).mono (fun e w' h => (⟨h.1.trans (by rw [r4.out]), drew_below h.2⟩ : e = .returned (.bool false) ∧ Below _ _ w')))
            clear fx fy
            go_wp2_with fail
            go_at_call 33
            refine HC.out.mono ?_
            rintro e w3 ⟨rfl, hb3⟩
            have KW := Aid.hid (KW.out.trans (hb3.mono KW.out.size))
            clear hb3 HC a0 b0 a1 b1 a2 b2 a3 b3 a4 b4
            have fx := RX.out _ KW.out
            have fy := RY.out _ KW.out
            have a0 := fx.1.cell 0 _ rfl
            have b0 := fy.1.cell 0 _ rfl
            have a1 := fx.1.cell 1 _ rfl
            have b1 := fy.1.cell 1 _ rfl
            have a2 := fx.1.cell 2 _ rfl
            have b2 := fy.1.cell 2 _ rfl
            have a3 := fx.1.cell 3 _ rfl
            have b3 := fy.1.cell 3 _ rfl
            have a4 := fx.1.cell 4 _ rfl
            have b4 := fy.1.cell 4 _ rfl
            clear fx fy
            go_wp2_with fail
            go_ret
            exact ⟨by rw [HE.out]; rfl, FB.out _ KW.out⟩
        case false =>
          have r3 : Hid (eqAll Int.eqb x.vtab y.vtab = false) := Aid.hid q3
          clear q3
          have HE : Hid (Desc.eqb x y = false) := Aid.hid (by simp only [Desc.eqb, r0.out, r1.out, r2.out, r3.out]; rfl)
          have fx := RX.out _ KW.out
          have fy := RY.out _ KW.out
          have a0 := fx.1.cell 0 _ rfl
          have b0 := fy.1.cell 0 _ rfl
          have a1 := fx.1.cell 1 _ rfl
          have b1 := fy.1.cell 1 _ rfl
          have a2 := fx.1.cell 2 _ rfl
          have b2 := fy.1.cell 2 _ rfl
          have a3 := fx.1.cell 3 _ rfl
          have b3 := fy.1.cell 3 _ rfl
          have HC := Aid.hid ((eqInts x.iA y.iA x.ic y.ic B B' x.init y.init _ (fx.2.1) (fy.2.1)).mono (fun e w' h => (⟨h.1.trans (by rw [r2.out]), drew_below h.2⟩ : e = .returned (.bool true) ∧ Below _ _ w')))
          clear fx fy
          subst hW
          go_enter Tryz.func38, Tryz.ntmps38
          try simp only [List.append_eq, List.cons_append, List.nil_append]
          go_wp2_with fail
          go_at_call 34
          refine HC.out.mono ?_
          rintro e w1 ⟨rfl, hb1⟩
          have KW := Aid.hid (KW.out.trans (hb1.mono KW.out.size))
          clear hb1 HC a0 b0 a1 b1 a2 b2 a3 b3
          have fx := RX.out _ KW.out
          have fy := RY.out _ KW.out
          have a0 := fx.1.cell 0 _ rfl
          have b0 := fy.1.cell 0 _ rfl
          have a1 := fx.1.cell 1 _ rfl
          have b1 := fy.1.cell 1 _ rfl
          have a2 := fx.1.cell 2 _ rfl
          have b2 := fy.1.cell 2 _ rfl
          have a3 := fx.1.cell 3 _ rfl
          have b3 := fy.1.cell 3 _ rfl
          have HC := Aid.hid ((eqInts x.vA y.vA x.vc y.vc B B' x.vtab y.vtab _ (fx.2.2.1) (fy.2.2.1)).mono (fun e w' h => (⟨h.1.trans (by rw [r3.out]), drew_below h.2⟩ : e = .returned (.bool false) ∧ Below _ _ w')))
          clear fx fy
          go_wp2_with fail
          go_at_call 34
          refine HC.out.mono ?_
          rintro e w2 ⟨rfl, hb2⟩
          have KW := Aid.hid (KW.out.trans (hb2.mono KW.out.size))
          clear hb2 HC a0 b0 a1 b1 a2 b2 a3 b3
          have fx := RX.out _ KW.out
          have fy := RY.out _ KW.out
          have a0 := fx.1.cell 0 _ rfl
          have b0 := fy.1.cell 0 _ rfl
          have a1 := fx.1.cell 1 _ rfl
          have b1 := fy.1.cell 1 _ rfl
          have a2 := fx.1.cell 2 _ rfl
          have b2 := fy.1.cell 2 _ rfl
          have a3 := fx.1.cell 3 _ rfl
          have b3 := fy.1.cell 3 _ rfl
          clear fx fy
          go_wp2_with fail
          go_ret
          exact ⟨by rw [HE.out]; rfl, FB.out _ KW.out⟩
      case false =>
        have r2 : Hid (eqAll Int.eqb x.init y.init = false) := Aid.hid q2
        clear q2
        have HE : Hid (Desc.eqb x y = false) := Aid.hid (by simp only [Desc.eqb, r0.out, r1.out, r2.out]; rfl)
        have fx := RX.out _ KW.out
        have fy := RY.out _ KW.out
        have a0 := fx.1.cell 0 _ rfl
        have b0 := fy.1.cell 0 _ rfl
        have a1 := fx.1.cell 1 _ rfl
        have b1 := fy.1.cell 1 _ rfl
        have a2 := fx.1.cell 2 _ rfl
        have b2 := fy.1.cell 2 _ rfl
        have HC := Aid.hid ((eqInts x.iA y.iA x.ic y.ic B B' x.init y.init _ (fx.2.1) (fy.2.1)).mono (fun e w' h => (⟨h.1.trans (by rw [r2.out]), drew_below h.2⟩ : e = .returned (.bool false) ∧ Below _ _ w')))
        clear fx fy
        subst hW
        go_enter Tryz.func38, Tryz.ntmps38
        try simp only [List.append_eq, List.cons_append, List.nil_append]
        go_wp2_with fail
        go_at_call 34
        refine HC.out.mono ?_
        rintro e w1 ⟨rfl, hb1⟩
        have KW := Aid.hid (KW.out.trans (hb1.mono KW.out.size))
        clear hb1 HC a0 b0 a1 b1 a2 b2
        have fx := RX.out _ KW.out
        have fy := RY.out _ KW.out
        have a0 := fx.1.cell 0 _ rfl
        have b0 := fy.1.cell 0 _ rfl
        have a1 := fx.1.cell 1 _ rfl
        have b1 := fy.1.cell 1 _ rfl
        have a2 := fx.1.cell 2 _ rfl
        have b2 := fy.1.cell 2 _ rfl
        clear fx fy
        go_wp2_with fail
        go_ret
        exact ⟨by rw [HE.out]; rfl, FB.out _ KW.out⟩
    case false =>
      have r1 : Hid ((x.fields.toList == y.fields.toList) = false) := Aid.hid g1
      have HE : Hid (Desc.eqb x y = false) := Aid.hid (by simp only [Desc.eqb, r0.out, r1.out]; rfl)
      have fx := RX.out _ KW.out
      have fy := RY.out _ KW.out
      have a0 := fx.1.cell 0 _ rfl
      have b0 := fy.1.cell 0 _ rfl
      have a1 := fx.1.cell 1 _ rfl
      have b1 := fy.1.cell 1 _ rfl
      clear fx fy
      subst hW
      go_enter Tryz.func38, Tryz.ntmps38
      try simp only [List.append_eq, List.cons_append, List.nil_append]
      go_wp2_with fail
      go_ret
      exact ⟨by rw [HE.out]; rfl, FB.out _ KW.out⟩
  · have g0 : (x.base == y.base) = false := by simpa using e0
    have r0 : Hid (decide (x.base = y.base) = false) := Aid.hid (decide_eq_false e0)
    clear e0
    have HE : Hid (Desc.eqb x y = false) := Aid.hid (by simp only [Desc.eqb, r0.out]; rfl)
    have fx := RX.out _ KW.out
    have fy := RY.out _ KW.out
    have a0 := fx.1.cell 0 _ rfl
    have b0 := fy.1.cell 0 _ rfl
    clear fx fy
    subst hW
    go_enter Tryz.func38, Tryz.ntmps38
    try simp only [List.append_eq, List.cons_append, List.nil_append]
    go_wp2_with fail
    go_ret
    exact ⟨by rw [HE.out]; rfl, FB.out _ KW.out⟩
set_option maxRecDepth 100000 in
set_option maxHeartbeats 2000000 in
theorem sameCode_is (B B' : Nat) (x y : Cod) (w : World) (hx : Cod.At w B x) (hy : Cod.At w B' y) (hB : B ≤ w.heap.size) (hB' : B' ≤ w.heap.size) :
    Calls Tryz.prog 40 #[.agg #[.int .i64 x.cls, .string x.params, .string x.locals, .bool x.ret, .int .i64 x.stack, .slice x.oA x.ops.length x.oc], .agg #[.int .i64 y.cls, .string y.params, .string y.locals, .bool y.ret, .int .i64 y.stack, .slice y.oA y.ops.length y.oc]] w fun e w' => e = .returned (.bool (Cod.eqb x y)) ∧ Below w.heap.size w w' := by
  obtain ⟨W, hW⟩ : ∃ W, ((w.alloc (.cells #[.int .i64 x.cls, .string x.params, .string x.locals, .bool x.ret, .int .i64 x.stack, .slice x.oA x.ops.length x.oc] 60)).alloc (.cells #[.int .i64 y.cls, .string y.params, .string y.locals, .bool y.ret, .int .i64 y.stack, .slice y.oA y.ops.length y.oc] 60)) = W := ⟨_, rfl⟩
  have hbx : Aid.Has W w.heap.size [.int .i64 x.cls, .string x.params, .string x.locals, .bool x.ret, .int .i64 x.stack, .slice x.oA x.ops.length x.oc] 60 := by subst hW; exact (Aid.Has.new w [.int .i64 x.cls, .string x.params, .string x.locals, .bool x.ret, .int .i64 x.stack, .slice x.oA x.ops.length x.oc] 60).alloc _
  have hby : Aid.Has W (w.heap.size + 1) [.int .i64 y.cls, .string y.params, .string y.locals, .bool y.ret, .int .i64 y.stack, .slice y.oA y.ops.length y.oc] 60 := by
    have := Aid.Has.new (w.alloc (.cells #[.int .i64 x.cls, .string x.params, .string x.locals, .bool x.ret, .int .i64 x.stack, .slice x.oA x.ops.length x.oc] 60)) [.int .i64 y.cls, .string y.params, .string y.locals, .bool y.ret, .int .i64 y.stack, .slice y.oA y.ops.length y.oc] 60
    rw [World.size_alloc] at this; subst hW; exact this
  have b0 : Below w.heap.size w W := by subst hW; exact ((Below.refl _ w).alloc (Nat.le_refl _) _).alloc (by simp) _
  have sz : w.heap.size ≤ W.heap.size := b0.size
  have B0 := Aid.hid b0
  have RX : Hid (∀ wr, Below W.heap.size W wr → Aid.Has wr w.heap.size [.int .i64 x.cls, .string x.params, .string x.locals, .bool x.ret, .int .i64 x.stack, .slice x.oA x.ops.length x.oc] 60 ∧ Cod.At wr B x) := Aid.hid fun wr hb => ⟨hbx.below hb hbx.lt, (hx.below b0 hB).below hb (Nat.le_trans hB sz)⟩
  have RY : Hid (∀ wr, Below W.heap.size W wr → Aid.Has wr (w.heap.size + 1) [.int .i64 y.cls, .string y.params, .string y.locals, .bool y.ret, .int .i64 y.stack, .slice y.oA y.ops.length y.oc] 60 ∧ Cod.At wr B' y) := Aid.hid fun wr hb => ⟨hby.below hb hby.lt, (hy.below b0 hB').below hb (Nat.le_trans hB' sz)⟩
  have SZ := Aid.hid sz
  have KW : Hid (Below W.heap.size W W) := Aid.hid (Below.refl _ _)
  have FB : Hid (∀ wr, Below W.heap.size W wr → Below w.heap.size w wr) := Aid.hid fun wr hb => b0.trans (hb.mono sz)
  clear hbx hby b0 sz hx hy B0
  by_cases e0 : x.cls = y.cls
  · have g0 : (x.cls == y.cls) = true := by simp [e0]
    have r0 : Hid (decide (x.cls = y.cls) = true) := Aid.hid (decide_eq_true e0)
    clear e0
    cases g1 : (x.params.toList == y.params.toList)
    case true =>
      have r1 : Hid ((x.params.toList == y.params.toList) = true) := Aid.hid g1
      cases g2 : (x.locals.toList == y.locals.toList)
      case true =>
        have r2 : Hid ((x.locals.toList == y.locals.toList) = true) := Aid.hid g2
        by_cases e3 : x.ret = y.ret
        · have g3 : (x.ret == y.ret) = true := by simp [e3]
          have r3 : Hid (decide (x.ret = y.ret) = true) := Aid.hid (decide_eq_true e3)
          clear e3
          by_cases e4 : x.stack = y.stack
          · have g4 : (x.stack == y.stack) = true := by simp [e4]
            have r4 : Hid (decide (x.stack = y.stack) = true) := Aid.hid (decide_eq_true e4)
            clear e4
            cases q5 : eqAll Opr.eqb x.ops y.ops
            case true =>
              have r5 : Hid (eqAll Opr.eqb x.ops y.ops = true) := Aid.hid q5
              clear q5
              have HE : Hid (Cod.eqb x y = true) := Aid.hid (by simp only [Cod.eqb, r0.out, r1.out, r2.out, r3.out, r4.out, r5.out]; rfl)
              have fx := RX.out _ KW.out
              have fy := RY.out _ KW.out
              have a0 := fx.1.cell 0 _ rfl
              have b0 := fy.1.cell 0 _ rfl
              have a1 := fx.1.cell 1 _ rfl
              have b1 := fy.1.cell 1 _ rfl
              have a2 := fx.1.cell 2 _ rfl
              have b2 := fy.1.cell 2 _ rfl
              have a3 := fx.1.cell 3 _ rfl
              have b3 := fy.1.cell 3 _ rfl
              have a4 := fx.1.cell 4 _ rfl
              have b4 := fy.1.cell 4 _ rfl
              have a5 := fx.1.cell 5 _ rfl
              have b5 := fy.1.cell 5 _ rfl
              have HC := Aid.hid ((eqOps x.oA y.oA x.oc y.oc B B' x.ops y.ops _ (fx.2) (fy.2)).mono (fun e w' h => (⟨h.1.trans (by rw [r5.out]), drew_below h.2⟩ : e = .returned (.bool true) ∧ Below _ _ w')))
              clear fx fy
              subst hW
              go_enter Tryz.func40, Tryz.ntmps40
              try simp only [List.append_eq, List.cons_append, List.nil_append]
              go_wp2_with fail
              go_at_call 71
              refine HC.out.mono ?_
              rintro e w1 ⟨rfl, hb1⟩
              have KW := Aid.hid (KW.out.trans (hb1.mono KW.out.size))
              clear hb1 HC a0 b0 a1 b1 a2 b2 a3 b3 a4 b4 a5 b5
              have fx := RX.out _ KW.out
              have fy := RY.out _ KW.out
              have a0 := fx.1.cell 0 _ rfl
              have b0 := fy.1.cell 0 _ rfl
              have a1 := fx.1.cell 1 _ rfl
              have b1 := fy.1.cell 1 _ rfl
              have a2 := fx.1.cell 2 _ rfl
              have b2 := fy.1.cell 2 _ rfl
              have a3 := fx.1.cell 3 _ rfl
              have b3 := fy.1.cell 3 _ rfl
              have a4 := fx.1.cell 4 _ rfl
              have b4 := fy.1.cell 4 _ rfl
              have a5 := fx.1.cell 5 _ rfl
              have b5 := fy.1.cell 5 _ rfl
              clear fx fy
              go_wp2_with fail
              go_ret
              exact ⟨by rw [HE.out]; rfl, FB.out _ KW.out⟩
            case false =>
              have r5 : Hid (eqAll Opr.eqb x.ops y.ops = false) := Aid.hid q5
              clear q5
              have HE : Hid (Cod.eqb x y = false) := Aid.hid (by simp only [Cod.eqb, r0.out, r1.out, r2.out, r3.out, r4.out, r5.out]; rfl)
              have fx := RX.out _ KW.out
              have fy := RY.out _ KW.out
              have a0 := fx.1.cell 0 _ rfl
              have b0 := fy.1.cell 0 _ rfl
              have a1 := fx.1.cell 1 _ rfl
              have b1 := fy.1.cell 1 _ rfl
              have a2 := fx.1.cell 2 _ rfl
              have b2 := fy.1.cell 2 _ rfl
              have a3 := fx.1.cell 3 _ rfl
              have b3 := fy.1.cell 3 _ rfl
              have a4 := fx.1.cell 4 _ rfl
              have b4 := fy.1.cell 4 _ rfl
              have a5 := fx.1.cell 5 _ rfl
              have b5 := fy.1.cell 5 _ rfl
              have HC := Aid.hid ((eqOps x.oA y.oA x.oc y.oc B B' x.ops y.ops _ (fx.2) (fy.2)).mono (fun e w' h => (⟨h.1.trans (by rw [r5.out]), drew_below h.2⟩ : e = .returned (.bool false) ∧ Below _ _ w')))
              clear fx fy
              subst hW
              go_enter Tryz.func40, Tryz.ntmps40
              try simp only [List.append_eq, List.cons_append, List.nil_append]
              go_wp2_with fail
              go_at_call 71
              refine HC.out.mono ?_
              rintro e w1 ⟨rfl, hb1⟩
              have KW := Aid.hid (KW.out.trans (hb1.mono KW.out.size))
              clear hb1 HC a0 b0 a1 b1 a2 b2 a3 b3 a4 b4 a5 b5
              have fx := RX.out _ KW.out
              have fy := RY.out _ KW.out
              have a0 := fx.1.cell 0 _ rfl
              have b0 := fy.1.cell 0 _ rfl
              have a1 := fx.1.cell 1 _ rfl
              have b1 := fy.1.cell 1 _ rfl
              have a2 := fx.1.cell 2 _ rfl
              have b2 := fy.1.cell 2 _ rfl
              have a3 := fx.1.cell 3 _ rfl
              have b3 := fy.1.cell 3 _ rfl
              have a4 := fx.1.cell 4 _ rfl
              have b4 := fy.1.cell 4 _ rfl
              have a5 := fx.1.cell 5 _ rfl
              have b5 := fy.1.cell 5 _ rfl
              clear fx fy
              go_wp2_with fail
              go_ret
              exact ⟨by rw [HE.out]; rfl, FB.out _ KW.out⟩
          · have g4 : (x.stack == y.stack) = false := by simpa using e4
            have r4 : Hid (decide (x.stack = y.stack) = false) := Aid.hid (decide_eq_false e4)
            clear e4
            have HE : Hid (Cod.eqb x y = false) := Aid.hid (by simp only [Cod.eqb, r0.out, r1.out, r2.out, r3.out, r4.out]; rfl)
            have fx := RX.out _ KW.out
            have fy := RY.out _ KW.out
            have a0 := fx.1.cell 0 _ rfl
            have b0 := fy.1.cell 0 _ rfl
            have a1 := fx.1.cell 1 _ rfl
            have b1 := fy.1.cell 1 _ rfl
            have a2 := fx.1.cell 2 _ rfl
            have b2 := fy.1.cell 2 _ rfl
            have a3 := fx.1.cell 3 _ rfl
            have b3 := fy.1.cell 3 _ rfl
            have a4 := fx.1.cell 4 _ rfl
            have b4 := fy.1.cell 4 _ rfl
            clear fx fy
            subst hW
            go_enter Tryz.func40, Tryz.ntmps40
            try simp only [List.append_eq, List.cons_append, List.nil_append]
            go_wp2_with fail
            go_ret
            exact ⟨by rw [HE.out]; rfl, FB.out _ KW.out⟩
        · have g3 : (x.ret == y.ret) = false := by simpa using e3
          have r3 : Hid (decide (x.ret = y.ret) = false) := Aid.hid (decide_eq_false e3)
          clear e3
          have HE : Hid (Cod.eqb x y = false) := Aid.hid (by simp only [Cod.eqb, r0.out, r1.out, r2.out, r3.out]; rfl)
          have fx := RX.out _ KW.out
          have fy := RY.out _ KW.out
          have a0 := fx.1.cell 0 _ rfl
          have b0 := fy.1.cell 0 _ rfl
          have a1 := fx.1.cell 1 _ rfl
          have b1 := fy.1.cell 1 _ rfl
          have a2 := fx.1.cell 2 _ rfl
          have b2 := fy.1.cell 2 _ rfl
          have a3 := fx.1.cell 3 _ rfl
          have b3 := fy.1.cell 3 _ rfl
          clear fx fy
          subst hW
          go_enter Tryz.func40, Tryz.ntmps40
          try simp only [List.append_eq, List.cons_append, List.nil_append]
          go_wp2_with fail
          go_ret
          exact ⟨by rw [HE.out]; rfl, FB.out _ KW.out⟩
      case false =>
        have r2 : Hid ((x.locals.toList == y.locals.toList) = false) := Aid.hid g2
        have HE : Hid (Cod.eqb x y = false) := Aid.hid (by simp only [Cod.eqb, r0.out, r1.out, r2.out]; rfl)
        have fx := RX.out _ KW.out
        have fy := RY.out _ KW.out
        have a0 := fx.1.cell 0 _ rfl
        have b0 := fy.1.cell 0 _ rfl
        have a1 := fx.1.cell 1 _ rfl
        have b1 := fy.1.cell 1 _ rfl
        have a2 := fx.1.cell 2 _ rfl
        have b2 := fy.1.cell 2 _ rfl
        clear fx fy
        subst hW
        go_enter Tryz.func40, Tryz.ntmps40
        try simp only [List.append_eq, List.cons_append, List.nil_append]
        go_wp2_with fail
        go_ret
        exact ⟨by rw [HE.out]; rfl, FB.out _ KW.out⟩
    case false =>
      have r1 : Hid ((x.params.toList == y.params.toList) = false) := Aid.hid g1
      have HE : Hid (Cod.eqb x y = false) := Aid.hid (by simp only [Cod.eqb, r0.out, r1.out]; rfl)
      have fx := RX.out _ KW.out
      have fy := RY.out _ KW.out
      have a0 := fx.1.cell 0 _ rfl
      have b0 := fy.1.cell 0 _ rfl
      have a1 := fx.1.cell 1 _ rfl
      have b1 := fy.1.cell 1 _ rfl
      clear fx fy
      subst hW
      go_enter Tryz.func40, Tryz.ntmps40
      try simp only [List.append_eq, List.cons_append, List.nil_append]
      go_wp2_with fail
      go_ret
      exact ⟨by rw [HE.out]; rfl, FB.out _ KW.out⟩
  · have g0 : (x.cls == y.cls) = false := by simpa using e0
    have r0 : Hid (decide (x.cls = y.cls) = false) := Aid.hid (decide_eq_false e0)
    clear e0
    have HE : Hid (Cod.eqb x y = false) := Aid.hid (by simp only [Cod.eqb, r0.out]; rfl)
    have fx := RX.out _ KW.out
    have fy := RY.out _ KW.out
    have a0 := fx.1.cell 0 _ rfl
    have b0 := fy.1.cell 0 _ rfl
    clear fx fy
    subst hW
    go_enter Tryz.func40, Tryz.ntmps40
    try simp only [List.append_eq, List.cons_append, List.nil_append]
    go_wp2_with fail
    go_ret
    exact ⟨by rw [HE.out]; rfl, FB.out _ KW.out⟩
end Go.Proofs.YtaogegeidbclaaaGreatDoor
