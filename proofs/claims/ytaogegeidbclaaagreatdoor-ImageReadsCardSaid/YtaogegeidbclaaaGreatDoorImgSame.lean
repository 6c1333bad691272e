/- Two images compared by the program: Same. -/
import Derived.Test.YtaogegeidbclaaaGreatDoorImgEqB
import Derived.Deep.Cut
namespace Go.Proofs.YtaogegeidbclaaaGreatDoor
open Go.RowKit

set_option maxRecDepth 100000 in
set_option maxHeartbeats 2000000 in
theorem fcSame_is (B B' : Nat) (x y : Fc) (w : World) (hx : Fc.At w B x) (hy : Fc.At w B' y) (hB : B ≤ w.heap.size) (hB' : B' ≤ w.heap.size) :
    Calls Tryz.prog 32 #[.slice x.A x.l.length x.c, .slice y.A y.l.length y.c] w fun e w' => e = .returned (.bool (Fc.eqb x y)) ∧ Below w.heap.size w w' := by
  have HC := Aid.hid (eqTexts x.A y.A x.c y.c B B' x.l y.l w hx hy)
  clear hx hy
  go_enter Tryz.func32, Tryz.ntmps32
  try simp only [List.append_eq, List.cons_append, List.nil_append]
  go_wp2_with fail
  go_at_call 33
  refine HC.out.mono ?_
  rintro e w1 ⟨rfl, hb⟩
  have HB := Aid.hid (drew_below hb)
  clear hb
  go_wp2_with fail
  go_ret
  exact ⟨rfl, HB.out⟩
set_option maxRecDepth 100000 in
set_option maxHeartbeats 2000000 in
theorem eqFaces (A C : Option Addr) (c d B B' : Nat) (xs ys : List Fc) (w : World) (hx : LFcs w B A xs) (hy : LFcs w B' C ys) (hB : B ≤ w.heap.size) (hB' : B' ≤ w.heap.size) :
    Calls Tryz.prog 31 #[.slice A xs.length c, .slice C ys.length d, .func (.func 32) #[] #[]] w fun e w' => e = .returned (.bool (eqAll Fc.eqb xs ys)) ∧ Below w.heap.size w w' := by
  have lx : xs.length ≤ 9223372036854775807 := hx.1
  have HX := Aid.hid hx; have HY := Aid.hid hy
  clear hx hy
  by_cases hl : xs.length = ys.length
  · have FIN : Hid (EqTo Fc.eqb xs ys xs.length → eqAll Fc.eqb xs ys = true) := Aid.hid (fun h => EqTo.all hl h)
    have HLY : Hid (∀ k, k < xs.length → ∃ y, ys[k]? = some y) := Aid.hid (fun k h => ⟨_, List.getElem?_eq_getElem (by omega)⟩)
    go_enter Tryz.func31, Tryz.ntmps31
    try simp only [List.append_eq, List.cons_append, List.nil_append]
    rw [← hl]
    clear hl
    go_wp2_with fail
    go_loopw [17] (fun i wr => ∃ k : Nat, i = .int .i64 k ∧ k ≤ xs.length ∧ Hid (EqTo Fc.eqb xs ys k) ∧ Hid (Below w.heap.size w wr)) (fun i _ => xs.length - (intOf i).toNat)
    case atStart => exact ⟨0, rfl, Nat.zero_le _, Aid.hid (EqTo.zero _ _), Aid.hid (Below.refl _ _)⟩
    case round =>
      obtain ⟨k, rfl, hk, E, HK⟩ := hrel
      by_cases hlt : k < xs.length
      · obtain ⟨x, hx⟩ : ∃ x, xs[k]? = some x := ⟨_, List.getElem?_eq_getElem hlt⟩
        obtain ⟨y, hy⟩ := HLY.out k hlt
        have hxw := HX.out.below HK.out hB
        have hyw := HY.out.below HK.out hB'
        obtain ⟨b1, o1, rfl, hb1, hc1⟩ := Rows.get hxw.2.1 hx
        obtain ⟨b2, o2, rfl, hb2, hc2⟩ := Rows.get hyw.2.1 hy
        have hs := HK.out.size
        have lb2 : b2 < wr.heap.size := by omega
        have lb1 : b1 < wr.heap.size := by omega
        have XA := Aid.hid (hxw.2.2 x (List.mem_of_getElem? hx))
        have YA := Aid.hid (hyw.2.2 y (List.mem_of_getElem? hy))
        have NX : Hid (Fc.eqb x y = true → EqTo Fc.eqb xs ys (k + 1)) := Aid.hid (fun h => EqTo.next E.out hx hy h)
        have NE : Hid (Fc.eqb x y = false → eqAll Fc.eqb xs ys = false) := Aid.hid (fun h => eqAll_no hx hy h)
        have a0 := hc1 0 _ rfl
        have d0 := hc2 0 _ rfl
        simp only [Nat.mul_one, Nat.add_zero] at a0 d0
        have HC := Aid.hid (fcSame_is B B' x y wr XA.out YA.out (Nat.le_trans hB hs) (Nat.le_trans hB' hs))
        have K1 := HK
        clear hc1 hc2 E hx hy hxw hyw
        go_wp2_with fail
        go_at_call 32
        refine HC.out.mono ?_
        rintro e w5 ⟨rfl, hb5⟩
        have K2 := Aid.hid (K1.out.trans (hb5.mono K1.out.size))
        clear hb5 HC
        cases hr : Fc.eqb x y
        · have NR := Aid.hid (NE.out hr)
          clear NX NE hr
          go_wp2_with fail
          go_ret
          exact ⟨by rw [NR.out]; rfl, K2.out⟩
        · have NR := Aid.hid (NX.out hr)
          clear NX NE hr
          go_wp2_with fail
          go_roundw
          case rel => exact ⟨k + 1, by go_num, by omega, NR, K2⟩
          case measure => simp [intOf]; omega
      · go_wp2_with fail
        go_ret
        exact ⟨Aid.ret_bool (by
          have h := E.out
          rw [show k = xs.length by omega] at h
          exact (FIN.out h).symm), HK.out⟩
  · have hl2 : ((xs.length : Int) != (ys.length : Int)) = true := by simpa using (by omega : ¬ (xs.length : Int) = ys.length)
    have E := Aid.hid (eqAll_len (f := Fc.eqb) hl)
    go_enter Tryz.func31, Tryz.ntmps31
    try simp only [List.append_eq, List.cons_append, List.nil_append]
    go_wp2_with fail
    go_ret
    exact ⟨by rw [E.out]; rfl, Below.refl _ _⟩
set_option maxRecDepth 100000 in
set_option maxHeartbeats 2000000 in
theorem eqDescs (A C : Option Addr) (c d B B' : Nat) (xs ys : List Desc) (w : World) (hx : LDescs w B A xs) (hy : LDescs w B' C ys) (hB : B ≤ w.heap.size) (hB' : B' ≤ w.heap.size) :
    Calls Tryz.prog 37 #[.slice A xs.length c, .slice C ys.length d, .func (.func 38) #[] #[]] w fun e w' => e = .returned (.bool (eqAll Desc.eqb xs ys)) ∧ Below w.heap.size w w' := by
  have lx : xs.length ≤ 9223372036854775807 := hx.1
  have HX := Aid.hid hx; have HY := Aid.hid hy
  clear hx hy
  by_cases hl : xs.length = ys.length
  · have FIN : Hid (EqTo Desc.eqb xs ys xs.length → eqAll Desc.eqb xs ys = true) := Aid.hid (fun h => EqTo.all hl h)
    have HLY : Hid (∀ k, k < xs.length → ∃ y, ys[k]? = some y) := Aid.hid (fun k h => ⟨_, List.getElem?_eq_getElem (by omega)⟩)
    go_enter Tryz.func37, Tryz.ntmps37
    try simp only [List.append_eq, List.cons_append, List.nil_append]
    rw [← hl]
    clear hl
    go_wp2_with fail
    go_loopw [17] (fun i wr => ∃ k : Nat, i = .int .i64 k ∧ k ≤ xs.length ∧ Hid (EqTo Desc.eqb xs ys k) ∧ Hid (Below w.heap.size w wr)) (fun i _ => xs.length - (intOf i).toNat)
    case atStart => exact ⟨0, rfl, Nat.zero_le _, Aid.hid (EqTo.zero _ _), Aid.hid (Below.refl _ _)⟩
    case round =>
      obtain ⟨k, rfl, hk, E, HK⟩ := hrel
      by_cases hlt : k < xs.length
      · obtain ⟨x, hx⟩ : ∃ x, xs[k]? = some x := ⟨_, List.getElem?_eq_getElem hlt⟩
        obtain ⟨y, hy⟩ := HLY.out k hlt
        have hxw := HX.out.below HK.out hB
        have hyw := HY.out.below HK.out hB'
        obtain ⟨b1, o1, rfl, hb1, hc1⟩ := Rows.get hxw.2.1 hx
        obtain ⟨b2, o2, rfl, hb2, hc2⟩ := Rows.get hyw.2.1 hy
        have hs := HK.out.size
        have lb2 : b2 < wr.heap.size := by omega
        have lb1 : b1 < wr.heap.size := by omega
        have XA := Aid.hid (hxw.2.2 x (List.mem_of_getElem? hx))
        have YA := Aid.hid (hyw.2.2 y (List.mem_of_getElem? hy))
        have NX : Hid (Desc.eqb x y = true → EqTo Desc.eqb xs ys (k + 1)) := Aid.hid (fun h => EqTo.next E.out hx hy h)
        have NE : Hid (Desc.eqb x y = false → eqAll Desc.eqb xs ys = false) := Aid.hid (fun h => eqAll_no hx hy h)
        have a0 := hc1 0 _ rfl
        have d0 := hc2 0 _ rfl
        have a1 := hc1 1 _ rfl
        have d1 := hc2 1 _ rfl
        have a2 := hc1 2 _ rfl
        have d2 := hc2 2 _ rfl
        have a3 := hc1 3 _ rfl
        have d3 := hc2 3 _ rfl
        have a4 := hc1 4 _ rfl
        have d4 := hc2 4 _ rfl
        have a5 := hc1 5 _ rfl
        have d5 := hc2 5 _ rfl
        simp only [Nat.mul_one, Nat.add_zero] at a0 d0
        have k2 : Below wr.heap.size wr ((wr.alloc (.cells #[.int .i64 x.base, .string x.fields, .slice x.iA x.init.length x.ic, .slice x.vA x.vtab.length x.vc, .slice x.sA x.sigs.length x.sc, .slice x.tA x.tabs.length x.tc] 55)).alloc (.cells #[.int .i64 y.base, .string y.fields, .slice y.iA y.init.length y.ic, .slice y.vA y.vtab.length y.vc, .slice y.sA y.sigs.length y.sc, .slice y.tA y.tabs.length y.tc] 55)) := ((Below.refl _ wr).alloc (Nat.le_refl _) _).alloc (by simp) _
        have HC := Aid.hid (sameDesc_is B B' x y ((wr.alloc (.cells #[.int .i64 x.base, .string x.fields, .slice x.iA x.init.length x.ic, .slice x.vA x.vtab.length x.vc, .slice x.sA x.sigs.length x.sc, .slice x.tA x.tabs.length x.tc] 55)).alloc (.cells #[.int .i64 y.base, .string y.fields, .slice y.iA y.init.length y.ic, .slice y.vA y.vtab.length y.vc, .slice y.sA y.sigs.length y.sc, .slice y.tA y.tabs.length y.tc] 55)) (XA.out.below k2 (Nat.le_trans hB hs)) (YA.out.below k2 (Nat.le_trans hB' hs)) (Nat.le_trans hB (Nat.le_trans hs k2.size)) (Nat.le_trans hB' (Nat.le_trans hs k2.size)))
        have K1 := Aid.hid (HK.out.trans (k2.mono hs))
        clear k2
        clear hc1 hc2 E hx hy hxw hyw
        go_wp2_with fail
        go_at_call 38
        refine HC.out.mono ?_
        rintro e w5 ⟨rfl, hb5⟩
        have K2 := Aid.hid (K1.out.trans (hb5.mono K1.out.size))
        clear hb5 HC
        cases hr : Desc.eqb x y
        · have NR := Aid.hid (NE.out hr)
          clear NX NE hr
          go_wp2_with fail
          go_ret
          exact ⟨by rw [NR.out]; rfl, K2.out⟩
        · have NR := Aid.hid (NX.out hr)
          clear NX NE hr
          go_wp2_with fail
          go_roundw
          case rel => exact ⟨k + 1, by go_num, by omega, NR, K2⟩
          case measure => simp [intOf]; omega
      · go_wp2_with fail
        go_ret
        exact ⟨Aid.ret_bool (by
          have h := E.out
          rw [show k = xs.length by omega] at h
          exact (FIN.out h).symm), HK.out⟩
  · have hl2 : ((xs.length : Int) != (ys.length : Int)) = true := by simpa using (by omega : ¬ (xs.length : Int) = ys.length)
    have E := Aid.hid (eqAll_len (f := Desc.eqb) hl)
    go_enter Tryz.func37, Tryz.ntmps37
    try simp only [List.append_eq, List.cons_append, List.nil_append]
    go_wp2_with fail
    go_ret
    exact ⟨by rw [E.out]; rfl, Below.refl _ _⟩
set_option maxRecDepth 100000 in
set_option maxHeartbeats 2000000 in
theorem eqCods (A C : Option Addr) (c d B B' : Nat) (xs ys : List Cod) (w : World) (hx : LCods w B A xs) (hy : LCods w B' C ys) (hB : B ≤ w.heap.size) (hB' : B' ≤ w.heap.size) :
    Calls Tryz.prog 39 #[.slice A xs.length c, .slice C ys.length d, .func (.func 40) #[] #[]] w fun e w' => e = .returned (.bool (eqAll Cod.eqb xs ys)) ∧ Below w.heap.size w w' := by
  have lx : xs.length ≤ 9223372036854775807 := hx.1
  have HX := Aid.hid hx; have HY := Aid.hid hy
  clear hx hy
  by_cases hl : xs.length = ys.length
  · have FIN : Hid (EqTo Cod.eqb xs ys xs.length → eqAll Cod.eqb xs ys = true) := Aid.hid (fun h => EqTo.all hl h)
    have HLY : Hid (∀ k, k < xs.length → ∃ y, ys[k]? = some y) := Aid.hid (fun k h => ⟨_, List.getElem?_eq_getElem (by omega)⟩)
    go_enter Tryz.func39, Tryz.ntmps39
    try simp only [List.append_eq, List.cons_append, List.nil_append]
    rw [← hl]
    clear hl
    go_wp2_with fail
    go_loopw [17] (fun i wr => ∃ k : Nat, i = .int .i64 k ∧ k ≤ xs.length ∧ Hid (EqTo Cod.eqb xs ys k) ∧ Hid (Below w.heap.size w wr)) (fun i _ => xs.length - (intOf i).toNat)
    case atStart => exact ⟨0, rfl, Nat.zero_le _, Aid.hid (EqTo.zero _ _), Aid.hid (Below.refl _ _)⟩
    case round =>
      obtain ⟨k, rfl, hk, E, HK⟩ := hrel
      by_cases hlt : k < xs.length
      · obtain ⟨x, hx⟩ : ∃ x, xs[k]? = some x := ⟨_, List.getElem?_eq_getElem hlt⟩
        obtain ⟨y, hy⟩ := HLY.out k hlt
        have hxw := HX.out.below HK.out hB
        have hyw := HY.out.below HK.out hB'
        obtain ⟨b1, o1, rfl, hb1, hc1⟩ := Rows.get hxw.2.1 hx
        obtain ⟨b2, o2, rfl, hb2, hc2⟩ := Rows.get hyw.2.1 hy
        have hs := HK.out.size
        have lb2 : b2 < wr.heap.size := by omega
        have lb1 : b1 < wr.heap.size := by omega
        have XA := Aid.hid (hxw.2.2 x (List.mem_of_getElem? hx))
        have YA := Aid.hid (hyw.2.2 y (List.mem_of_getElem? hy))
        have NX : Hid (Cod.eqb x y = true → EqTo Cod.eqb xs ys (k + 1)) := Aid.hid (fun h => EqTo.next E.out hx hy h)
        have NE : Hid (Cod.eqb x y = false → eqAll Cod.eqb xs ys = false) := Aid.hid (fun h => eqAll_no hx hy h)
        have a0 := hc1 0 _ rfl
        have d0 := hc2 0 _ rfl
        have a1 := hc1 1 _ rfl
        have d1 := hc2 1 _ rfl
        have a2 := hc1 2 _ rfl
        have d2 := hc2 2 _ rfl
        have a3 := hc1 3 _ rfl
        have d3 := hc2 3 _ rfl
        have a4 := hc1 4 _ rfl
        have d4 := hc2 4 _ rfl
        have a5 := hc1 5 _ rfl
        have d5 := hc2 5 _ rfl
        simp only [Nat.mul_one, Nat.add_zero] at a0 d0
        have k2 : Below wr.heap.size wr ((wr.alloc (.cells #[.int .i64 x.cls, .string x.params, .string x.locals, .bool x.ret, .int .i64 x.stack, .slice x.oA x.ops.length x.oc] 60)).alloc (.cells #[.int .i64 y.cls, .string y.params, .string y.locals, .bool y.ret, .int .i64 y.stack, .slice y.oA y.ops.length y.oc] 60)) := ((Below.refl _ wr).alloc (Nat.le_refl _) _).alloc (by simp) _
        have HC := Aid.hid (sameCode_is B B' x y ((wr.alloc (.cells #[.int .i64 x.cls, .string x.params, .string x.locals, .bool x.ret, .int .i64 x.stack, .slice x.oA x.ops.length x.oc] 60)).alloc (.cells #[.int .i64 y.cls, .string y.params, .string y.locals, .bool y.ret, .int .i64 y.stack, .slice y.oA y.ops.length y.oc] 60)) (XA.out.below k2 (Nat.le_trans hB hs)) (YA.out.below k2 (Nat.le_trans hB' hs)) (Nat.le_trans hB (Nat.le_trans hs k2.size)) (Nat.le_trans hB' (Nat.le_trans hs k2.size)))
        have K1 := Aid.hid (HK.out.trans (k2.mono hs))
        clear k2
        clear hc1 hc2 E hx hy hxw hyw
        go_wp2_with fail
        go_at_call 40
        refine HC.out.mono ?_
        rintro e w5 ⟨rfl, hb5⟩
        have K2 := Aid.hid (K1.out.trans (hb5.mono K1.out.size))
        clear hb5 HC
        cases hr : Cod.eqb x y
        · have NR := Aid.hid (NE.out hr)
          clear NX NE hr
          go_wp2_with fail
          go_ret
          exact ⟨by rw [NR.out]; rfl, K2.out⟩
        · have NR := Aid.hid (NX.out hr)
          clear NX NE hr
          go_wp2_with fail
          go_roundw
          case rel => exact ⟨k + 1, by go_num, by omega, NR, K2⟩
          case measure => simp [intOf]; omega
      · go_wp2_with fail
        go_ret
        exact ⟨Aid.ret_bool (by
          have h := E.out
          rw [show k = xs.length by omega] at h
          exact (FIN.out h).symm), HK.out⟩
  · have hl2 : ((xs.length : Int) != (ys.length : Int)) = true := by simpa using (by omega : ¬ (xs.length : Int) = ys.length)
    have E := Aid.hid (eqAll_len (f := Cod.eqb) hl)
    go_enter Tryz.func39, Tryz.ntmps39
    try simp only [List.append_eq, List.cons_append, List.nil_append]
    go_wp2_with fail
    go_ret
    exact ⟨by rw [E.out]; rfl, Below.refl _ _⟩
set_option maxRecDepth 100000 in
set_option maxHeartbeats 2000000 in
theorem same_is (B B' : Nat) (x y : Img) (w : World) (hx : Img.At w B x) (hy : Img.At w B' y) (hB : B ≤ w.heap.size) (hB' : B' ≤ w.heap.size) :
    Calls Tryz.prog 12 #[.agg #[.slice x.fA x.faces.length x.fc, .slice x.cA x.classes.length x.cc, .slice x.dA x.codes.length x.dc, .slice x.nA x.insts.length x.nc, .string x.globals, .slice x.iA x.init.length x.ic, .slice x.bA x.blocks.length x.bc, .slice x.xA x.ins.length x.xc, .slice x.oA x.outs.length x.oc, .slice x.jA x.jobs.length x.jc, .int .i64 x.d, .int .i64 x.w], .agg #[.slice y.fA y.faces.length y.fc, .slice y.cA y.classes.length y.cc, .slice y.dA y.codes.length y.dc, .slice y.nA y.insts.length y.nc, .string y.globals, .slice y.iA y.init.length y.ic, .slice y.bA y.blocks.length y.bc, .slice y.xA y.ins.length y.xc, .slice y.oA y.outs.length y.oc, .slice y.jA y.jobs.length y.jc, .int .i64 y.d, .int .i64 y.w]] w fun e w' => e = .returned (.bool (Img.eqb x y)) ∧ Below w.heap.size w w' := by
  obtain ⟨W, hW⟩ : ∃ W, ((w.alloc (.cells #[.slice x.fA x.faces.length x.fc, .slice x.cA x.classes.length x.cc, .slice x.dA x.codes.length x.dc, .slice x.nA x.insts.length x.nc, .string x.globals, .slice x.iA x.init.length x.ic, .slice x.bA x.blocks.length x.bc, .slice x.xA x.ins.length x.xc, .slice x.oA x.outs.length x.oc, .slice x.jA x.jobs.length x.jc, .int .i64 x.d, .int .i64 x.w] 29)).alloc (.cells #[.slice y.fA y.faces.length y.fc, .slice y.cA y.classes.length y.cc, .slice y.dA y.codes.length y.dc, .slice y.nA y.insts.length y.nc, .string y.globals, .slice y.iA y.init.length y.ic, .slice y.bA y.blocks.length y.bc, .slice y.xA y.ins.length y.xc, .slice y.oA y.outs.length y.oc, .slice y.jA y.jobs.length y.jc, .int .i64 y.d, .int .i64 y.w] 29)) = W := ⟨_, rfl⟩
  have hbx : Aid.Has W w.heap.size [.slice x.fA x.faces.length x.fc, .slice x.cA x.classes.length x.cc, .slice x.dA x.codes.length x.dc, .slice x.nA x.insts.length x.nc, .string x.globals, .slice x.iA x.init.length x.ic, .slice x.bA x.blocks.length x.bc, .slice x.xA x.ins.length x.xc, .slice x.oA x.outs.length x.oc, .slice x.jA x.jobs.length x.jc, .int .i64 x.d, .int .i64 x.w] 29 := by subst hW; exact (Aid.Has.new w [.slice x.fA x.faces.length x.fc, .slice x.cA x.classes.length x.cc, .slice x.dA x.codes.length x.dc, .slice x.nA x.insts.length x.nc, .string x.globals, .slice x.iA x.init.length x.ic, .slice x.bA x.blocks.length x.bc, .slice x.xA x.ins.length x.xc, .slice x.oA x.outs.length x.oc, .slice x.jA x.jobs.length x.jc, .int .i64 x.d, .int .i64 x.w] 29).alloc _
  have hby : Aid.Has W (w.heap.size + 1) [.slice y.fA y.faces.length y.fc, .slice y.cA y.classes.length y.cc, .slice y.dA y.codes.length y.dc, .slice y.nA y.insts.length y.nc, .string y.globals, .slice y.iA y.init.length y.ic, .slice y.bA y.blocks.length y.bc, .slice y.xA y.ins.length y.xc, .slice y.oA y.outs.length y.oc, .slice y.jA y.jobs.length y.jc, .int .i64 y.d, .int .i64 y.w] 29 := by
    have := Aid.Has.new (w.alloc (.cells #[.slice x.fA x.faces.length x.fc, .slice x.cA x.classes.length x.cc, .slice x.dA x.codes.length x.dc, .slice x.nA x.insts.length x.nc, .string x.globals, .slice x.iA x.init.length x.ic, .slice x.bA x.blocks.length x.bc, .slice x.xA x.ins.length x.xc, .slice x.oA x.outs.length x.oc, .slice x.jA x.jobs.length x.jc, .int .i64 x.d, .int .i64 x.w] 29)) [.slice y.fA y.faces.length y.fc, .slice y.cA y.classes.length y.cc, .slice y.dA y.codes.length y.dc, .slice y.nA y.insts.length y.nc, .string y.globals, .slice y.iA y.init.length y.ic, .slice y.bA y.blocks.length y.bc, .slice y.xA y.ins.length y.xc, .slice y.oA y.outs.length y.oc, .slice y.jA y.jobs.length y.jc, .int .i64 y.d, .int .i64 y.w] 29
    rw [World.size_alloc] at this; subst hW; exact this
  have b0 : Below w.heap.size w W := by subst hW; exact ((Below.refl _ w).alloc (Nat.le_refl _) _).alloc (by simp) _
  have sz : w.heap.size ≤ W.heap.size := b0.size
  have B0 := Aid.hid b0
  have RX : Hid (∀ wr, Below W.heap.size W wr → Aid.Has wr w.heap.size [.slice x.fA x.faces.length x.fc, .slice x.cA x.classes.length x.cc, .slice x.dA x.codes.length x.dc, .slice x.nA x.insts.length x.nc, .string x.globals, .slice x.iA x.init.length x.ic, .slice x.bA x.blocks.length x.bc, .slice x.xA x.ins.length x.xc, .slice x.oA x.outs.length x.oc, .slice x.jA x.jobs.length x.jc, .int .i64 x.d, .int .i64 x.w] 29 ∧ Img.At wr B x) := Aid.hid fun wr hb => ⟨hbx.below hb hbx.lt, (hx.below b0 hB).below hb (Nat.le_trans hB sz)⟩
  have RY : Hid (∀ wr, Below W.heap.size W wr → Aid.Has wr (w.heap.size + 1) [.slice y.fA y.faces.length y.fc, .slice y.cA y.classes.length y.cc, .slice y.dA y.codes.length y.dc, .slice y.nA y.insts.length y.nc, .string y.globals, .slice y.iA y.init.length y.ic, .slice y.bA y.blocks.length y.bc, .slice y.xA y.ins.length y.xc, .slice y.oA y.outs.length y.oc, .slice y.jA y.jobs.length y.jc, .int .i64 y.d, .int .i64 y.w] 29 ∧ Img.At wr B' y) := Aid.hid fun wr hb => ⟨hby.below hb hby.lt, (hy.below b0 hB').below hb (Nat.le_trans hB' sz)⟩
  have SZ := Aid.hid sz
  have KW : Hid (Below W.heap.size W W) := Aid.hid (Below.refl _ _)
  have FB : Hid (∀ wr, Below W.heap.size W wr → Below w.heap.size w wr) := Aid.hid fun wr hb => b0.trans (hb.mono sz)
  clear hbx hby b0 sz hx hy B0
  have fx := RX.out _ KW.out
  have fy := RY.out _ KW.out
  have a0 := fx.1.cell 0 _ rfl
  have b0 := fy.1.cell 0 _ rfl
  have HC := Aid.hid (eqFaces x.fA y.fA x.fc y.fc B B' x.faces y.faces _ (fx.2.faces) (fy.2.faces) (Nat.le_trans hB (Nat.le_trans SZ.out KW.out.size)) (Nat.le_trans hB' (Nat.le_trans SZ.out KW.out.size)))
  clear fx fy
  subst hW
  go_enter Tryz.func12, Tryz.ntmps12
  try simp only [List.append_eq, List.cons_append, List.nil_append]
  go_wp2_with fail
  go_at_call 31
  refine HC.out.mono ?_
  rintro e w1 ⟨rfl, hb⟩
  have KW := Aid.hid (KW.out.trans (hb.mono KW.out.size))
  clear hb HC a0 b0
  have EN : Hid (eqAll Fc.eqb x.faces y.faces = Img.eqN x y) := Aid.hid rfl
  rw [EN.out]
  go_upto_region 2 with fail
  go_cut [6] from 13 (fun v wx => v = .bool (Img.eqT x y) ∧ Hid (Below ((w.alloc (.cells #[.slice x.fA x.faces.length x.fc, .slice x.cA x.classes.length x.cc, .slice x.dA x.codes.length x.dc, .slice x.nA x.insts.length x.nc, .string x.globals, .slice x.iA x.init.length x.ic, .slice x.bA x.blocks.length x.bc, .slice x.xA x.ins.length x.xc, .slice x.oA x.outs.length x.oc, .slice x.jA x.jobs.length x.jc, .int .i64 x.d, .int .i64 x.w] 29)).alloc (.cells #[.slice y.fA y.faces.length y.fc, .slice y.cA y.classes.length y.cc, .slice y.dA y.codes.length y.dc, .slice y.nA y.insts.length y.nc, .string y.globals, .slice y.iA y.init.length y.ic, .slice y.bA y.blocks.length y.bc, .slice y.xA y.ins.length y.xc, .slice y.oA y.outs.length y.oc, .slice y.jA y.jobs.length y.jc, .int .i64 y.d, .int .i64 y.w] 29)).heap.size ((w.alloc (.cells #[.slice x.fA x.faces.length x.fc, .slice x.cA x.classes.length x.cc, .slice x.dA x.codes.length x.dc, .slice x.nA x.insts.length x.nc, .string x.globals, .slice x.iA x.init.length x.ic, .slice x.bA x.blocks.length x.bc, .slice x.xA x.ins.length x.xc, .slice x.oA x.outs.length x.oc, .slice x.jA x.jobs.length x.jc, .int .i64 x.d, .int .i64 x.w] 29)).alloc (.cells #[.slice y.fA y.faces.length y.fc, .slice y.cA y.classes.length y.cc, .slice y.dA y.codes.length y.dc, .slice y.nA y.insts.length y.nc, .string y.globals, .slice y.iA y.init.length y.ic, .slice y.bA y.blocks.length y.bc, .slice y.xA y.ins.length y.xc, .slice y.oA y.outs.length y.oc, .slice y.jA y.jobs.length y.jc, .int .i64 y.d, .int .i64 y.w] 29)) wx))
  case first =>
    cases q0 : eqAll Int.eqb x.insts y.insts
    case true =>
      have r0 : Hid (eqAll Int.eqb x.insts y.insts = true) := Aid.hid q0
      clear q0
      cases g1 : (x.globals.toList == y.globals.toList)
      case true =>
        have r1 : Hid ((x.globals.toList == y.globals.toList) = true) := Aid.hid g1
        cases q2 : eqAll Int.eqb x.init y.init
        case true =>
          have r2 : Hid (eqAll Int.eqb x.init y.init = true) := Aid.hid q2
          clear q2
          cases q3 : eqAll Int.eqb x.blocks y.blocks
          case true =>
            have r3 : Hid (eqAll Int.eqb x.blocks y.blocks = true) := Aid.hid q3
            clear q3
            have HE : Hid (Img.eqT x y = true) := Aid.hid (by simp only [Img.eqT, r0.out, r1.out, r2.out, r3.out]; rfl)
            have fx := RX.out _ KW.out
            have fy := RY.out _ KW.out
            have a3 := fx.1.cell 3 _ rfl
            have b3 := fy.1.cell 3 _ rfl
            have a4 := fx.1.cell 4 _ rfl
            have b4 := fy.1.cell 4 _ rfl
            have a5 := fx.1.cell 5 _ rfl
            have b5 := fy.1.cell 5 _ rfl
            have a6 := fx.1.cell 6 _ rfl
            have b6 := fy.1.cell 6 _ rfl
            have HC := Aid.hid ((eqInts x.nA y.nA x.nc y.nc B B' x.insts y.insts _ (fx.2.insts) (fy.2.insts)).mono (fun e w' h => (⟨h.1.trans (by rw [r0.out]), drew_below h.2⟩ : e = .returned (.bool true) ∧ Below _ _ w')))
            clear fx fy
            go_wp2_with fail
            go_at_call 34
            refine HC.out.mono ?_
            rintro e v1 ⟨rfl, hb1⟩
            have KW := Aid.hid (KW.out.trans (hb1.mono KW.out.size))
            clear hb1 HC a3 b3 a4 b4 a5 b5 a6 b6
            have fx := RX.out _ KW.out
            have fy := RY.out _ KW.out
            have a3 := fx.1.cell 3 _ rfl
            have b3 := fy.1.cell 3 _ rfl
            have a4 := fx.1.cell 4 _ rfl
            have b4 := fy.1.cell 4 _ rfl
            have a5 := fx.1.cell 5 _ rfl
            have b5 := fy.1.cell 5 _ rfl
            have a6 := fx.1.cell 6 _ rfl
            have b6 := fy.1.cell 6 _ rfl
            have HC := Aid.hid ((eqInts x.iA y.iA x.ic y.ic B B' x.init y.init _ (fx.2.init) (fy.2.init)).mono (fun e w' h => (⟨h.1.trans (by rw [r2.out]), drew_below h.2⟩ : e = .returned (.bool true) ∧ Below _ _ w')))
            clear fx fy
            go_wp2_with fail
            go_at_call 34
            refine HC.out.mono ?_
            rintro e v2 ⟨rfl, hb2⟩
            have KW := Aid.hid (KW.out.trans (hb2.mono KW.out.size))
            clear hb2 HC a3 b3 a4 b4 a5 b5 a6 b6
            have fx := RX.out _ KW.out
            have fy := RY.out _ KW.out
            have a3 := fx.1.cell 3 _ rfl
            have b3 := fy.1.cell 3 _ rfl
            have a4 := fx.1.cell 4 _ rfl
            have b4 := fy.1.cell 4 _ rfl
            have a5 := fx.1.cell 5 _ rfl
            have b5 := fy.1.cell 5 _ rfl
            have a6 := fx.1.cell 6 _ rfl
            have b6 := fy.1.cell 6 _ rfl
            have HC := Aid.hid ((eqInts x.bA y.bA x.bc y.bc B B' x.blocks y.blocks _ (fx.2.blocks) (fy.2.blocks)).mono (fun e w' h => (⟨h.1.trans (by rw [r3.out]), drew_below h.2⟩ : e = .returned (.bool true) ∧ Below _ _ w')))
            clear fx fy
            go_wp2_with fail
            go_at_call 34
            refine HC.out.mono ?_
            rintro e v3 ⟨rfl, hb3⟩
            have KW := Aid.hid (KW.out.trans (hb3.mono KW.out.size))
            clear hb3 HC a3 b3 a4 b4 a5 b5 a6 b6
            have fx := RX.out _ KW.out
            have fy := RY.out _ KW.out
            have a3 := fx.1.cell 3 _ rfl
            have b3 := fy.1.cell 3 _ rfl
            have a4 := fx.1.cell 4 _ rfl
            have b4 := fy.1.cell 4 _ rfl
            have a5 := fx.1.cell 5 _ rfl
            have b5 := fy.1.cell 5 _ rfl
            have a6 := fx.1.cell 6 _ rfl
            have b6 := fy.1.cell 6 _ rfl
            clear fx fy
            go_wp2_with fail
            go_meet
            exact ⟨by rw [HE.out], KW⟩
          case false =>
            have r3 : Hid (eqAll Int.eqb x.blocks y.blocks = false) := Aid.hid q3
            clear q3
            have HE : Hid (Img.eqT x y = false) := Aid.hid (by simp only [Img.eqT, r0.out, r1.out, r2.out, r3.out]; rfl)
            have fx := RX.out _ KW.out
            have fy := RY.out _ KW.out
            have a3 := fx.1.cell 3 _ rfl
            have b3 := fy.1.cell 3 _ rfl
            have a4 := fx.1.cell 4 _ rfl
            have b4 := fy.1.cell 4 _ rfl
            have a5 := fx.1.cell 5 _ rfl
            have b5 := fy.1.cell 5 _ rfl
            have a6 := fx.1.cell 6 _ rfl
            have b6 := fy.1.cell 6 _ rfl
            have HC := Aid.hid ((eqInts x.nA y.nA x.nc y.nc B B' x.insts y.insts _ (fx.2.insts) (fy.2.insts)).mono (fun e w' h => (⟨h.1.trans (by rw [r0.out]), drew_below h.2⟩ : e = .returned (.bool true) ∧ Below _ _ w')))
            clear fx fy
            go_wp2_with fail
            go_at_call 34
            refine HC.out.mono ?_
            rintro e v1 ⟨rfl, hb1⟩
            have KW := Aid.hid (KW.out.trans (hb1.mono KW.out.size))
            clear hb1 HC a3 b3 a4 b4 a5 b5 a6 b6
            have fx := RX.out _ KW.out
            have fy := RY.out _ KW.out
            have a3 := fx.1.cell 3 _ rfl
            have b3 := fy.1.cell 3 _ rfl
            have a4 := fx.1.cell 4 _ rfl
            have b4 := fy.1.cell 4 _ rfl
            have a5 := fx.1.cell 5 _ rfl
            have b5 := fy.1.cell 5 _ rfl
            have a6 := fx.1.cell 6 _ rfl
            have b6 := fy.1.cell 6 _ rfl
            have HC := Aid.hid ((eqInts x.iA y.iA x.ic y.ic B B' x.init y.init _ (fx.2.init) (fy.2.init)).mono (fun e w' h => (⟨h.1.trans (by rw [r2.out]), drew_below h.2⟩ : e = .returned (.bool true) ∧ Below _ _ w')))
            clear fx fy
            go_wp2_with fail
            go_at_call 34
            refine HC.out.mono ?_
            rintro e v2 ⟨rfl, hb2⟩
            have KW := Aid.hid (KW.out.trans (hb2.mono KW.out.size))
            clear hb2 HC a3 b3 a4 b4 a5 b5 a6 b6
            have fx := RX.out _ KW.out
            have fy := RY.out _ KW.out
            have a3 := fx.1.cell 3 _ rfl
            have b3 := fy.1.cell 3 _ rfl
            have a4 := fx.1.cell 4 _ rfl
            have b4 := fy.1.cell 4 _ rfl
            have a5 := fx.1.cell 5 _ rfl
            have b5 := fy.1.cell 5 _ rfl
            have a6 := fx.1.cell 6 _ rfl
            have b6 := fy.1.cell 6 _ rfl
            have HC := Aid.hid ((eqInts x.bA y.bA x.bc y.bc B B' x.blocks y.blocks _ (fx.2.blocks) (fy.2.blocks)).mono (fun e w' h => (⟨h.1.trans (by rw [r3.out]), drew_below h.2⟩ : e = .returned (.bool false) ∧ Below _ _ w')))
            clear fx fy
            go_wp2_with fail
            go_at_call 34
            refine HC.out.mono ?_
            rintro e v3 ⟨rfl, hb3⟩
            have KW := Aid.hid (KW.out.trans (hb3.mono KW.out.size))
            clear hb3 HC a3 b3 a4 b4 a5 b5 a6 b6
            have fx := RX.out _ KW.out
            have fy := RY.out _ KW.out
            have a3 := fx.1.cell 3 _ rfl
            have b3 := fy.1.cell 3 _ rfl
            have a4 := fx.1.cell 4 _ rfl
            have b4 := fy.1.cell 4 _ rfl
            have a5 := fx.1.cell 5 _ rfl
            have b5 := fy.1.cell 5 _ rfl
            have a6 := fx.1.cell 6 _ rfl
            have b6 := fy.1.cell 6 _ rfl
            clear fx fy
            go_wp2_with fail
            go_meet
            exact ⟨by rw [HE.out], KW⟩
        case false =>
          have r2 : Hid (eqAll Int.eqb x.init y.init = false) := Aid.hid q2
          clear q2
          have HE : Hid (Img.eqT x y = false) := Aid.hid (by simp only [Img.eqT, r0.out, r1.out, r2.out]; rfl)
          have fx := RX.out _ KW.out
          have fy := RY.out _ KW.out
          have a3 := fx.1.cell 3 _ rfl
          have b3 := fy.1.cell 3 _ rfl
          have a4 := fx.1.cell 4 _ rfl
          have b4 := fy.1.cell 4 _ rfl
          have a5 := fx.1.cell 5 _ rfl
          have b5 := fy.1.cell 5 _ rfl
          have HC := Aid.hid ((eqInts x.nA y.nA x.nc y.nc B B' x.insts y.insts _ (fx.2.insts) (fy.2.insts)).mono (fun e w' h => (⟨h.1.trans (by rw [r0.out]), drew_below h.2⟩ : e = .returned (.bool true) ∧ Below _ _ w')))
          clear fx fy
          go_wp2_with fail
          go_at_call 34
          refine HC.out.mono ?_
          rintro e v1 ⟨rfl, hb1⟩
          have KW := Aid.hid (KW.out.trans (hb1.mono KW.out.size))
          clear hb1 HC a3 b3 a4 b4 a5 b5
          have fx := RX.out _ KW.out
          have fy := RY.out _ KW.out
          have a3 := fx.1.cell 3 _ rfl
          have b3 := fy.1.cell 3 _ rfl
          have a4 := fx.1.cell 4 _ rfl
          have b4 := fy.1.cell 4 _ rfl
          have a5 := fx.1.cell 5 _ rfl
          have b5 := fy.1.cell 5 _ rfl
          have HC := Aid.hid ((eqInts x.iA y.iA x.ic y.ic B B' x.init y.init _ (fx.2.init) (fy.2.init)).mono (fun e w' h => (⟨h.1.trans (by rw [r2.out]), drew_below h.2⟩ : e = .returned (.bool false) ∧ Below _ _ w')))
          clear fx fy
          go_wp2_with fail
          go_at_call 34
          refine HC.out.mono ?_
          rintro e v2 ⟨rfl, hb2⟩
          have KW := Aid.hid (KW.out.trans (hb2.mono KW.out.size))
          clear hb2 HC a3 b3 a4 b4 a5 b5
          have fx := RX.out _ KW.out
          have fy := RY.out _ KW.out
          have a3 := fx.1.cell 3 _ rfl
          have b3 := fy.1.cell 3 _ rfl
          have a4 := fx.1.cell 4 _ rfl
          have b4 := fy.1.cell 4 _ rfl
          have a5 := fx.1.cell 5 _ rfl
          have b5 := fy.1.cell 5 _ rfl
          clear fx fy
          go_wp2_with fail
          go_meet
          exact ⟨by rw [HE.out], KW⟩
      case false =>
        have r1 : Hid ((x.globals.toList == y.globals.toList) = false) := Aid.hid g1
        have HE : Hid (Img.eqT x y = false) := Aid.hid (by simp only [Img.eqT, r0.out, r1.out]; rfl)
        have fx := RX.out _ KW.out
        have fy := RY.out _ KW.out
        have a3 := fx.1.cell 3 _ rfl
        have b3 := fy.1.cell 3 _ rfl
        have a4 := fx.1.cell 4 _ rfl
        have b4 := fy.1.cell 4 _ rfl
        have HC := Aid.hid ((eqInts x.nA y.nA x.nc y.nc B B' x.insts y.insts _ (fx.2.insts) (fy.2.insts)).mono (fun e w' h => (⟨h.1.trans (by rw [r0.out]), drew_below h.2⟩ : e = .returned (.bool true) ∧ Below _ _ w')))
        clear fx fy
        go_wp2_with fail
        go_at_call 34
        refine HC.out.mono ?_
        rintro e v1 ⟨rfl, hb1⟩
        have KW := Aid.hid (KW.out.trans (hb1.mono KW.out.size))
        clear hb1 HC a3 b3 a4 b4
        have fx := RX.out _ KW.out
        have fy := RY.out _ KW.out
        have a3 := fx.1.cell 3 _ rfl
        have b3 := fy.1.cell 3 _ rfl
        have a4 := fx.1.cell 4 _ rfl
        have b4 := fy.1.cell 4 _ rfl
        clear fx fy
        go_wp2_with fail
        go_meet
        exact ⟨by rw [HE.out], KW⟩
    case false =>
      have r0 : Hid (eqAll Int.eqb x.insts y.insts = false) := Aid.hid q0
      clear q0
      have HE : Hid (Img.eqT x y = false) := Aid.hid (by simp only [Img.eqT, r0.out]; rfl)
      have fx := RX.out _ KW.out
      have fy := RY.out _ KW.out
      have a3 := fx.1.cell 3 _ rfl
      have b3 := fy.1.cell 3 _ rfl
      have HC := Aid.hid ((eqInts x.nA y.nA x.nc y.nc B B' x.insts y.insts _ (fx.2.insts) (fy.2.insts)).mono (fun e w' h => (⟨h.1.trans (by rw [r0.out]), drew_below h.2⟩ : e = .returned (.bool false) ∧ Below _ _ w')))
      clear fx fy
      go_wp2_with fail
      go_at_call 34
      refine HC.out.mono ?_
      rintro e v1 ⟨rfl, hb1⟩
      have KW := Aid.hid (KW.out.trans (hb1.mono KW.out.size))
      clear hb1 HC a3 b3
      have fx := RX.out _ KW.out
      have fy := RY.out _ KW.out
      have a3 := fx.1.cell 3 _ rfl
      have b3 := fy.1.cell 3 _ rfl
      clear fx fy
      go_wp2_with fail
      go_meet
      exact ⟨by rw [HE.out], KW⟩
  case rest =>
    obtain ⟨rfl, KV⟩ := hcut
    have KW := KV
    clear KV
    go_upto_region 3 with fail
    go_cut [7] from 39 (fun v wx => v = .bool (Img.eqL x y) ∧ Hid (Below ((w.alloc (.cells #[.slice x.fA x.faces.length x.fc, .slice x.cA x.classes.length x.cc, .slice x.dA x.codes.length x.dc, .slice x.nA x.insts.length x.nc, .string x.globals, .slice x.iA x.init.length x.ic, .slice x.bA x.blocks.length x.bc, .slice x.xA x.ins.length x.xc, .slice x.oA x.outs.length x.oc, .slice x.jA x.jobs.length x.jc, .int .i64 x.d, .int .i64 x.w] 29)).alloc (.cells #[.slice y.fA y.faces.length y.fc, .slice y.cA y.classes.length y.cc, .slice y.dA y.codes.length y.dc, .slice y.nA y.insts.length y.nc, .string y.globals, .slice y.iA y.init.length y.ic, .slice y.bA y.blocks.length y.bc, .slice y.xA y.ins.length y.xc, .slice y.oA y.outs.length y.oc, .slice y.jA y.jobs.length y.jc, .int .i64 y.d, .int .i64 y.w] 29)).heap.size ((w.alloc (.cells #[.slice x.fA x.faces.length x.fc, .slice x.cA x.classes.length x.cc, .slice x.dA x.codes.length x.dc, .slice x.nA x.insts.length x.nc, .string x.globals, .slice x.iA x.init.length x.ic, .slice x.bA x.blocks.length x.bc, .slice x.xA x.ins.length x.xc, .slice x.oA x.outs.length x.oc, .slice x.jA x.jobs.length x.jc, .int .i64 x.d, .int .i64 x.w] 29)).alloc (.cells #[.slice y.fA y.faces.length y.fc, .slice y.cA y.classes.length y.cc, .slice y.dA y.codes.length y.dc, .slice y.nA y.insts.length y.nc, .string y.globals, .slice y.iA y.init.length y.ic, .slice y.bA y.blocks.length y.bc, .slice y.xA y.ins.length y.xc, .slice y.oA y.outs.length y.oc, .slice y.jA y.jobs.length y.jc, .int .i64 y.d, .int .i64 y.w] 29)) wx))
    case first =>
      cases q0 : eqAll Lnk.eqb x.ins y.ins
      case true =>
        have r0 : Hid (eqAll Lnk.eqb x.ins y.ins = true) := Aid.hid q0
        clear q0
        cases q1 : eqAll Lnk.eqb x.outs y.outs
        case true =>
          have r1 : Hid (eqAll Lnk.eqb x.outs y.outs = true) := Aid.hid q1
          clear q1
          cases q2 : eqAll Opr.eqb x.jobs y.jobs
          case true =>
            have r2 : Hid (eqAll Opr.eqb x.jobs y.jobs = true) := Aid.hid q2
            clear q2
            have HE : Hid (Img.eqL x y = true) := Aid.hid (by simp only [Img.eqL, r0.out, r1.out, r2.out]; rfl)
            have fx := RX.out _ KW.out
            have fy := RY.out _ KW.out
            have a7 := fx.1.cell 7 _ rfl
            have b7 := fy.1.cell 7 _ rfl
            have a8 := fx.1.cell 8 _ rfl
            have b8 := fy.1.cell 8 _ rfl
            have a9 := fx.1.cell 9 _ rfl
            have b9 := fy.1.cell 9 _ rfl
            have HC := Aid.hid ((eqLinks x.xA y.xA x.xc y.xc B B' x.ins y.ins _ (fx.2.ins) (fy.2.ins)).mono (fun e w' h => (⟨h.1.trans (by rw [r0.out]), drew_below h.2⟩ : e = .returned (.bool true) ∧ Below _ _ w')))
            clear fx fy
            go_wp2_with fail
            go_at_call 35
            refine HC.out.mono ?_
            rintro e v1 ⟨rfl, hb1⟩
            have KW := Aid.hid (KW.out.trans (hb1.mono KW.out.size))
            clear hb1 HC a7 b7 a8 b8 a9 b9
            have fx := RX.out _ KW.out
            have fy := RY.out _ KW.out
            have a7 := fx.1.cell 7 _ rfl
            have b7 := fy.1.cell 7 _ rfl
            have a8 := fx.1.cell 8 _ rfl
            have b8 := fy.1.cell 8 _ rfl
            have a9 := fx.1.cell 9 _ rfl
            have b9 := fy.1.cell 9 _ rfl
            have HC := Aid.hid ((eqLinks x.oA y.oA x.oc y.oc B B' x.outs y.outs _ (fx.2.outs) (fy.2.outs)).mono (fun e w' h => (⟨h.1.trans (by rw [r1.out]), drew_below h.2⟩ : e = .returned (.bool true) ∧ Below _ _ w')))
            clear fx fy
            go_wp2_with fail
            go_at_call 35
            refine HC.out.mono ?_
            rintro e v2 ⟨rfl, hb2⟩
            have KW := Aid.hid (KW.out.trans (hb2.mono KW.out.size))
            clear hb2 HC a7 b7 a8 b8 a9 b9
            have fx := RX.out _ KW.out
            have fy := RY.out _ KW.out
            have a7 := fx.1.cell 7 _ rfl
            have b7 := fy.1.cell 7 _ rfl
            have a8 := fx.1.cell 8 _ rfl
            have b8 := fy.1.cell 8 _ rfl
            have a9 := fx.1.cell 9 _ rfl
            have b9 := fy.1.cell 9 _ rfl
            have HC := Aid.hid ((eqJobs x.jA y.jA x.jc y.jc B B' x.jobs y.jobs _ (fx.2.jobs) (fy.2.jobs)).mono (fun e w' h => (⟨h.1.trans (by rw [r2.out]), drew_below h.2⟩ : e = .returned (.bool true) ∧ Below _ _ w')))
            clear fx fy
            go_wp2_with fail
            go_at_call 36
            refine HC.out.mono ?_
            rintro e v3 ⟨rfl, hb3⟩
            have KW := Aid.hid (KW.out.trans (hb3.mono KW.out.size))
            clear hb3 HC a7 b7 a8 b8 a9 b9
            have fx := RX.out _ KW.out
            have fy := RY.out _ KW.out
            have a7 := fx.1.cell 7 _ rfl
            have b7 := fy.1.cell 7 _ rfl
            have a8 := fx.1.cell 8 _ rfl
            have b8 := fy.1.cell 8 _ rfl
            have a9 := fx.1.cell 9 _ rfl
            have b9 := fy.1.cell 9 _ rfl
            clear fx fy
            go_wp2_with fail
            go_meet
            exact ⟨by rw [HE.out], KW⟩
          case false =>
            have r2 : Hid (eqAll Opr.eqb x.jobs y.jobs = false) := Aid.hid q2
            clear q2
            have HE : Hid (Img.eqL x y = false) := Aid.hid (by simp only [Img.eqL, r0.out, r1.out, r2.out]; rfl)
            have fx := RX.out _ KW.out
            have fy := RY.out _ KW.out
            have a7 := fx.1.cell 7 _ rfl
            have b7 := fy.1.cell 7 _ rfl
            have a8 := fx.1.cell 8 _ rfl
            have b8 := fy.1.cell 8 _ rfl
            have a9 := fx.1.cell 9 _ rfl
            have b9 := fy.1.cell 9 _ rfl
            have HC := Aid.hid ((eqLinks x.xA y.xA x.xc y.xc B B' x.ins y.ins _ (fx.2.ins) (fy.2.ins)).mono (fun e w' h => (⟨h.1.trans (by rw [r0.out]), drew_below h.2⟩ : e = .returned (.bool true) ∧ Below _ _ w')))
            clear fx fy
            go_wp2_with fail
            go_at_call 35
            refine HC.out.mono ?_
            rintro e v1 ⟨rfl, hb1⟩
            have KW := Aid.hid (KW.out.trans (hb1.mono KW.out.size))
            clear hb1 HC a7 b7 a8 b8 a9 b9
            have fx := RX.out _ KW.out
            have fy := RY.out _ KW.out
            have a7 := fx.1.cell 7 _ rfl
            have b7 := fy.1.cell 7 _ rfl
            have a8 := fx.1.cell 8 _ rfl
            have b8 := fy.1.cell 8 _ rfl
            have a9 := fx.1.cell 9 _ rfl
            have b9 := fy.1.cell 9 _ rfl
            have HC := Aid.hid ((eqLinks x.oA y.oA x.oc y.oc B B' x.outs y.outs _ (fx.2.outs) (fy.2.outs)).mono (fun e w' h => (⟨h.1.trans (by rw [r1.out]), drew_below h.2⟩ : e = .returned (.bool true) ∧ Below _ _ w')))
            clear fx fy
            go_wp2_with fail
            go_at_call 35
            refine HC.out.mono ?_
            rintro e v2 ⟨rfl, hb2⟩
            have KW := Aid.hid (KW.out.trans (hb2.mono KW.out.size))
            clear hb2 HC a7 b7 a8 b8 a9 b9
            have fx := RX.out _ KW.out
            have fy := RY.out _ KW.out
            have a7 := fx.1.cell 7 _ rfl
            have b7 := fy.1.cell 7 _ rfl
            have a8 := fx.1.cell 8 _ rfl
            have b8 := fy.1.cell 8 _ rfl
            have a9 := fx.1.cell 9 _ rfl
            have b9 := fy.1.cell 9 _ rfl
            have HC := Aid.hid ((eqJobs x.jA y.jA x.jc y.jc B B' x.jobs y.jobs _ (fx.2.jobs) (fy.2.jobs)).mono (fun e w' h => (⟨h.1.trans (by rw [r2.out]), drew_below h.2⟩ : e = .returned (.bool false) ∧ Below _ _ w')))
            clear fx fy
            go_wp2_with fail
            go_at_call 36
            refine HC.out.mono ?_
            rintro e v3 ⟨rfl, hb3⟩
            have KW := Aid.hid (KW.out.trans (hb3.mono KW.out.size))
            clear hb3 HC a7 b7 a8 b8 a9 b9
            have fx := RX.out _ KW.out
            have fy := RY.out _ KW.out
            have a7 := fx.1.cell 7 _ rfl
            have b7 := fy.1.cell 7 _ rfl
            have a8 := fx.1.cell 8 _ rfl
            have b8 := fy.1.cell 8 _ rfl
            have a9 := fx.1.cell 9 _ rfl
            have b9 := fy.1.cell 9 _ rfl
            clear fx fy
            go_wp2_with fail
            go_meet
            exact ⟨by rw [HE.out], KW⟩
        case false =>
          have r1 : Hid (eqAll Lnk.eqb x.outs y.outs = false) := Aid.hid q1
          clear q1
          have HE : Hid (Img.eqL x y = false) := Aid.hid (by simp only [Img.eqL, r0.out, r1.out]; rfl)
          have fx := RX.out _ KW.out
          have fy := RY.out _ KW.out
          have a7 := fx.1.cell 7 _ rfl
          have b7 := fy.1.cell 7 _ rfl
          have a8 := fx.1.cell 8 _ rfl
          have b8 := fy.1.cell 8 _ rfl
          have HC := Aid.hid ((eqLinks x.xA y.xA x.xc y.xc B B' x.ins y.ins _ (fx.2.ins) (fy.2.ins)).mono (fun e w' h => (⟨h.1.trans (by rw [r0.out]), drew_below h.2⟩ : e = .returned (.bool true) ∧ Below _ _ w')))
          clear fx fy
          go_wp2_with fail
          go_at_call 35
          refine HC.out.mono ?_
          rintro e v1 ⟨rfl, hb1⟩
          have KW := Aid.hid (KW.out.trans (hb1.mono KW.out.size))
          clear hb1 HC a7 b7 a8 b8
          have fx := RX.out _ KW.out
          have fy := RY.out _ KW.out
          have a7 := fx.1.cell 7 _ rfl
          have b7 := fy.1.cell 7 _ rfl
          have a8 := fx.1.cell 8 _ rfl
          have b8 := fy.1.cell 8 _ rfl
          have HC := Aid.hid ((eqLinks x.oA y.oA x.oc y.oc B B' x.outs y.outs _ (fx.2.outs) (fy.2.outs)).mono (fun e w' h => (⟨h.1.trans (by rw [r1.out]), drew_below h.2⟩ : e = .returned (.bool false) ∧ Below _ _ w')))
          clear fx fy
          go_wp2_with fail
          go_at_call 35
          refine HC.out.mono ?_
          rintro e v2 ⟨rfl, hb2⟩
          have KW := Aid.hid (KW.out.trans (hb2.mono KW.out.size))
          clear hb2 HC a7 b7 a8 b8
          have fx := RX.out _ KW.out
          have fy := RY.out _ KW.out
          have a7 := fx.1.cell 7 _ rfl
          have b7 := fy.1.cell 7 _ rfl
          have a8 := fx.1.cell 8 _ rfl
          have b8 := fy.1.cell 8 _ rfl
          clear fx fy
          go_wp2_with fail
          go_meet
          exact ⟨by rw [HE.out], KW⟩
      case false =>
        have r0 : Hid (eqAll Lnk.eqb x.ins y.ins = false) := Aid.hid q0
        clear q0
        have HE : Hid (Img.eqL x y = false) := Aid.hid (by simp only [Img.eqL, r0.out]; rfl)
        have fx := RX.out _ KW.out
        have fy := RY.out _ KW.out
        have a7 := fx.1.cell 7 _ rfl
        have b7 := fy.1.cell 7 _ rfl
        have HC := Aid.hid ((eqLinks x.xA y.xA x.xc y.xc B B' x.ins y.ins _ (fx.2.ins) (fy.2.ins)).mono (fun e w' h => (⟨h.1.trans (by rw [r0.out]), drew_below h.2⟩ : e = .returned (.bool false) ∧ Below _ _ w')))
        clear fx fy
        go_wp2_with fail
        go_at_call 35
        refine HC.out.mono ?_
        rintro e v1 ⟨rfl, hb1⟩
        have KW := Aid.hid (KW.out.trans (hb1.mono KW.out.size))
        clear hb1 HC a7 b7
        have fx := RX.out _ KW.out
        have fy := RY.out _ KW.out
        have a7 := fx.1.cell 7 _ rfl
        have b7 := fy.1.cell 7 _ rfl
        clear fx fy
        go_wp2_with fail
        go_meet
        exact ⟨by rw [HE.out], KW⟩
    case rest =>
      obtain ⟨rfl, KV⟩ := hcut
      have KW := KV
      clear KV
      cases q0 : Img.eqN x y
      case true =>
        have r0 : Hid (Img.eqN x y = true) := Aid.hid q0
        clear q0
        cases q1 : Img.eqT x y
        case true =>
          have r1 : Hid (Img.eqT x y = true) := Aid.hid q1
          clear q1
          cases q2 : Img.eqL x y
          case true =>
            have r2 : Hid (Img.eqL x y = true) := Aid.hid q2
            clear q2
            cases q3 : eqAll Desc.eqb x.classes y.classes
            case true =>
              have r3 : Hid (eqAll Desc.eqb x.classes y.classes = true) := Aid.hid q3
              clear q3
              cases q4 : eqAll Cod.eqb x.codes y.codes
              case true =>
                have r4 : Hid (eqAll Cod.eqb x.codes y.codes = true) := Aid.hid q4
                clear q4
                by_cases e5 : x.d = y.d
                · have g5 : (x.d == y.d) = true := by simp [e5]
                  have r5 : Hid (decide (x.d = y.d) = true) := Aid.hid (decide_eq_true e5)
                  clear e5
                  by_cases e6 : x.w = y.w
                  · have g6 : (x.w == y.w) = true := by simp [e6]
                    have r6 : Hid (decide (x.w = y.w) = true) := Aid.hid (decide_eq_true e6)
                    clear e6
                    have HE : Hid (Img.eqb x y = true) := Aid.hid (by simp only [Img.eqb, r0.out, r1.out, r2.out, r3.out, r4.out, r5.out, r6.out]; rfl)
                    have fx := RX.out _ KW.out
                    have fy := RY.out _ KW.out
                    have a1 := fx.1.cell 1 _ rfl
                    have b1 := fy.1.cell 1 _ rfl
                    have a2 := fx.1.cell 2 _ rfl
                    have b2 := fy.1.cell 2 _ rfl
                    have a10 := fx.1.cell 10 _ rfl
                    have b10 := fy.1.cell 10 _ rfl
                    have a11 := fx.1.cell 11 _ rfl
                    have b11 := fy.1.cell 11 _ rfl
                    have HC := Aid.hid ((eqDescs x.cA y.cA x.cc y.cc B B' x.classes y.classes _ (fx.2.classes) (fy.2.classes) (Nat.le_trans hB (Nat.le_trans SZ.out KW.out.size)) (Nat.le_trans hB' (Nat.le_trans SZ.out KW.out.size))).mono (fun e w' h => (⟨h.1.trans (by rw [r3.out]), h.2⟩ : e = .returned (.bool true) ∧ Below _ _ w')))
                    clear fx fy
                    go_wp2_with fail
                    go_at_call 37
                    refine HC.out.mono ?_
                    rintro e v1 ⟨rfl, hb1⟩
                    have KW := Aid.hid (KW.out.trans (hb1.mono KW.out.size))
                    clear hb1 HC a1 b1 a2 b2 a10 b10 a11 b11
                    have fx := RX.out _ KW.out
                    have fy := RY.out _ KW.out
                    have a1 := fx.1.cell 1 _ rfl
                    have b1 := fy.1.cell 1 _ rfl
                    have a2 := fx.1.cell 2 _ rfl
                    have b2 := fy.1.cell 2 _ rfl
                    have a10 := fx.1.cell 10 _ rfl
                    have b10 := fy.1.cell 10 _ rfl
                    have a11 := fx.1.cell 11 _ rfl
                    have b11 := fy.1.cell 11 _ rfl
                    have HC := Aid.hid ((eqCods x.dA y.dA x.dc y.dc B B' x.codes y.codes _ (fx.2.codes) (fy.2.codes) (Nat.le_trans hB (Nat.le_trans SZ.out KW.out.size)) (Nat.le_trans hB' (Nat.le_trans SZ.out KW.out.size))).mono (fun e w' h => (⟨h.1.trans (by rw [r4.out]), h.2⟩ : e = .returned (.bool true) ∧ Below _ _ w')))
                    clear fx fy
                    go_wp2_with fail
                    go_at_call 39
                    refine HC.out.mono ?_
                    rintro e v2 ⟨rfl, hb2⟩
                    have KW := Aid.hid (KW.out.trans (hb2.mono KW.out.size))
                    clear hb2 HC a1 b1 a2 b2 a10 b10 a11 b11
                    have fx := RX.out _ KW.out
                    have fy := RY.out _ KW.out
                    have a1 := fx.1.cell 1 _ rfl
                    have b1 := fy.1.cell 1 _ rfl
                    have a2 := fx.1.cell 2 _ rfl
                    have b2 := fy.1.cell 2 _ rfl
                    have a10 := fx.1.cell 10 _ rfl
                    have b10 := fy.1.cell 10 _ rfl
                    have a11 := fx.1.cell 11 _ rfl
                    have b11 := fy.1.cell 11 _ rfl
                    clear fx fy
                    go_wp2_with fail
                    go_ret
                    exact ⟨by rw [HE.out]; rfl, FB.out _ KW.out⟩
                  · have g6 : (x.w == y.w) = false := by simpa using e6
                    have r6 : Hid (decide (x.w = y.w) = false) := Aid.hid (decide_eq_false e6)
                    clear e6
                    have HE : Hid (Img.eqb x y = false) := Aid.hid (by simp only [Img.eqb, r0.out, r1.out, r2.out, r3.out, r4.out, r5.out, r6.out]; rfl)
                    have fx := RX.out _ KW.out
                    have fy := RY.out _ KW.out
                    have a1 := fx.1.cell 1 _ rfl
                    have b1 := fy.1.cell 1 _ rfl
                    have a2 := fx.1.cell 2 _ rfl
                    have b2 := fy.1.cell 2 _ rfl
                    have a10 := fx.1.cell 10 _ rfl
                    have b10 := fy.1.cell 10 _ rfl
                    have a11 := fx.1.cell 11 _ rfl
                    have b11 := fy.1.cell 11 _ rfl
                    have HC := Aid.hid ((eqDescs x.cA y.cA x.cc y.cc B B' x.classes y.classes _ (fx.2.classes) (fy.2.classes) (Nat.le_trans hB (Nat.le_trans SZ.out KW.out.size)) (Nat.le_trans hB' (Nat.le_trans SZ.out KW.out.size))).mono (fun e w' h => (⟨h.1.trans (by rw [r3.out]), h.2⟩ : e = .returned (.bool true) ∧ Below _ _ w')))
                    clear fx fy
                    go_wp2_with fail
                    go_at_call 37
                    refine HC.out.mono ?_
                    rintro e v1 ⟨rfl, hb1⟩
                    have KW := Aid.hid (KW.out.trans (hb1.mono KW.out.size))
                    clear hb1 HC a1 b1 a2 b2 a10 b10 a11 b11
                    have fx := RX.out _ KW.out
                    have fy := RY.out _ KW.out
                    have a1 := fx.1.cell 1 _ rfl
                    have b1 := fy.1.cell 1 _ rfl
                    have a2 := fx.1.cell 2 _ rfl
                    have b2 := fy.1.cell 2 _ rfl
                    have a10 := fx.1.cell 10 _ rfl
                    have b10 := fy.1.cell 10 _ rfl
                    have a11 := fx.1.cell 11 _ rfl
                    have b11 := fy.1.cell 11 _ rfl
                    have HC := Aid.hid ((eqCods x.dA y.dA x.dc y.dc B B' x.codes y.codes _ (fx.2.codes) (fy.2.codes) (Nat.le_trans hB (Nat.le_trans SZ.out KW.out.size)) (Nat.le_trans hB' (Nat.le_trans SZ.out KW.out.size))).mono (fun e w' h => (⟨h.1.trans (by rw [r4.out]), h.2⟩ : e = .returned (.bool true) ∧ Below _ _ w')))
                    clear fx fy
                    go_wp2_with fail
                    go_at_call 39
                    refine HC.out.mono ?_
                    rintro e v2 ⟨rfl, hb2⟩
                    have KW := Aid.hid (KW.out.trans (hb2.mono KW.out.size))
                    clear hb2 HC a1 b1 a2 b2 a10 b10 a11 b11
                    have fx := RX.out _ KW.out
                    have fy := RY.out _ KW.out
                    have a1 := fx.1.cell 1 _ rfl
                    have b1 := fy.1.cell 1 _ rfl
                    have a2 := fx.1.cell 2 _ rfl
                    have b2 := fy.1.cell 2 _ rfl
                    have a10 := fx.1.cell 10 _ rfl
                    have b10 := fy.1.cell 10 _ rfl
                    have a11 := fx.1.cell 11 _ rfl
                    have b11 := fy.1.cell 11 _ rfl
                    clear fx fy
                    go_wp2_with fail
                    go_ret
                    exact ⟨by rw [HE.out]; rfl, FB.out _ KW.out⟩
                · have g5 : (x.d == y.d) = false := by simpa using e5
                  have r5 : Hid (decide (x.d = y.d) = false) := Aid.hid (decide_eq_false e5)
                  clear e5
                  have HE : Hid (Img.eqb x y = false) := Aid.hid (by simp only [Img.eqb, r0.out, r1.out, r2.out, r3.out, r4.out, r5.out]; rfl)
                  have fx := RX.out _ KW.out
                  have fy := RY.out _ KW.out
                  have a1 := fx.1.cell 1 _ rfl
                  have b1 := fy.1.cell 1 _ rfl
                  have a2 := fx.1.cell 2 _ rfl
                  have b2 := fy.1.cell 2 _ rfl
                  have a10 := fx.1.cell 10 _ rfl
                  have b10 := fy.1.cell 10 _ rfl
                  have HC := Aid.hid ((eqDescs x.cA y.cA x.cc y.cc B B' x.classes y.classes _ (fx.2.classes) (fy.2.classes) (Nat.le_trans hB (Nat.le_trans SZ.out KW.out.size)) (Nat.le_trans hB' (Nat.le_trans SZ.out KW.out.size))).mono (fun e w' h => (⟨h.1.trans (by rw [r3.out]), h.2⟩ : e = .returned (.bool true) ∧ Below _ _ w')))
                  clear fx fy
                  go_wp2_with fail
                  go_at_call 37
                  refine HC.out.mono ?_
                  rintro e v1 ⟨rfl, hb1⟩
                  have KW := Aid.hid (KW.out.trans (hb1.mono KW.out.size))
                  clear hb1 HC a1 b1 a2 b2 a10 b10
                  have fx := RX.out _ KW.out
                  have fy := RY.out _ KW.out
                  have a1 := fx.1.cell 1 _ rfl
                  have b1 := fy.1.cell 1 _ rfl
                  have a2 := fx.1.cell 2 _ rfl
                  have b2 := fy.1.cell 2 _ rfl
                  have a10 := fx.1.cell 10 _ rfl
                  have b10 := fy.1.cell 10 _ rfl
                  have HC := Aid.hid ((eqCods x.dA y.dA x.dc y.dc B B' x.codes y.codes _ (fx.2.codes) (fy.2.codes) (Nat.le_trans hB (Nat.le_trans SZ.out KW.out.size)) (Nat.le_trans hB' (Nat.le_trans SZ.out KW.out.size))).mono (fun e w' h => (⟨h.1.trans (by rw [r4.out]), h.2⟩ : e = .returned (.bool true) ∧ Below _ _ w')))
                  clear fx fy
                  go_wp2_with fail
                  go_at_call 39
                  refine HC.out.mono ?_
                  rintro e v2 ⟨rfl, hb2⟩
                  have KW := Aid.hid (KW.out.trans (hb2.mono KW.out.size))
                  clear hb2 HC a1 b1 a2 b2 a10 b10
                  have fx := RX.out _ KW.out
                  have fy := RY.out _ KW.out
                  have a1 := fx.1.cell 1 _ rfl
                  have b1 := fy.1.cell 1 _ rfl
                  have a2 := fx.1.cell 2 _ rfl
                  have b2 := fy.1.cell 2 _ rfl
                  have a10 := fx.1.cell 10 _ rfl
                  have b10 := fy.1.cell 10 _ rfl
                  clear fx fy
                  go_wp2_with fail
                  go_ret
                  exact ⟨by rw [HE.out]; rfl, FB.out _ KW.out⟩
              case false =>
                have r4 : Hid (eqAll Cod.eqb x.codes y.codes = false) := Aid.hid q4
                clear q4
                have HE : Hid (Img.eqb x y = false) := Aid.hid (by simp only [Img.eqb, r0.out, r1.out, r2.out, r3.out, r4.out]; rfl)
                have fx := RX.out _ KW.out
                have fy := RY.out _ KW.out
                have a1 := fx.1.cell 1 _ rfl
                have b1 := fy.1.cell 1 _ rfl
                have a2 := fx.1.cell 2 _ rfl
                have b2 := fy.1.cell 2 _ rfl
                have HC := Aid.hid ((eqDescs x.cA y.cA x.cc y.cc B B' x.classes y.classes _ (fx.2.classes) (fy.2.classes) (Nat.le_trans hB (Nat.le_trans SZ.out KW.out.size)) (Nat.le_trans hB' (Nat.le_trans SZ.out KW.out.size))).mono (fun e w' h => (⟨h.1.trans (by rw [r3.out]), h.2⟩ : e = .returned (.bool true) ∧ Below _ _ w')))
                clear fx fy
                go_wp2_with fail
                go_at_call 37
                refine HC.out.mono ?_
                rintro e v1 ⟨rfl, hb1⟩
                have KW := Aid.hid (KW.out.trans (hb1.mono KW.out.size))
                clear hb1 HC a1 b1 a2 b2
                have fx := RX.out _ KW.out
                have fy := RY.out _ KW.out
                have a1 := fx.1.cell 1 _ rfl
                have b1 := fy.1.cell 1 _ rfl
                have a2 := fx.1.cell 2 _ rfl
                have b2 := fy.1.cell 2 _ rfl
                have HC := Aid.hid ((eqCods x.dA y.dA x.dc y.dc B B' x.codes y.codes _ (fx.2.codes) (fy.2.codes) (Nat.le_trans hB (Nat.le_trans SZ.out KW.out.size)) (Nat.le_trans hB' (Nat.le_trans SZ.out KW.out.size))).mono (fun e w' h => (⟨h.1.trans (by rw [r4.out]), h.2⟩ : e = .returned (.bool false) ∧ Below _ _ w')))
                clear fx fy
                go_wp2_with fail
                go_at_call 39
                refine HC.out.mono ?_
                rintro e v2 ⟨rfl, hb2⟩
                have KW := Aid.hid (KW.out.trans (hb2.mono KW.out.size))
                clear hb2 HC a1 b1 a2 b2
                have fx := RX.out _ KW.out
                have fy := RY.out _ KW.out
                have a1 := fx.1.cell 1 _ rfl
                have b1 := fy.1.cell 1 _ rfl
                have a2 := fx.1.cell 2 _ rfl
                have b2 := fy.1.cell 2 _ rfl
                clear fx fy
                go_wp2_with fail
                go_ret
                exact ⟨by rw [HE.out]; rfl, FB.out _ KW.out⟩
            case false =>
              have r3 : Hid (eqAll Desc.eqb x.classes y.classes = false) := Aid.hid q3
              clear q3
              have HE : Hid (Img.eqb x y = false) := Aid.hid (by simp only [Img.eqb, r0.out, r1.out, r2.out, r3.out]; rfl)
              have fx := RX.out _ KW.out
              have fy := RY.out _ KW.out
              have a1 := fx.1.cell 1 _ rfl
              have b1 := fy.1.cell 1 _ rfl
              have HC := Aid.hid ((eqDescs x.cA y.cA x.cc y.cc B B' x.classes y.classes _ (fx.2.classes) (fy.2.classes) (Nat.le_trans hB (Nat.le_trans SZ.out KW.out.size)) (Nat.le_trans hB' (Nat.le_trans SZ.out KW.out.size))).mono (fun e w' h => (⟨h.1.trans (by rw [r3.out]), h.2⟩ : e = .returned (.bool false) ∧ Below _ _ w')))
              clear fx fy
              go_wp2_with fail
              go_at_call 37
              refine HC.out.mono ?_
              rintro e v1 ⟨rfl, hb1⟩
              have KW := Aid.hid (KW.out.trans (hb1.mono KW.out.size))
              clear hb1 HC a1 b1
              have fx := RX.out _ KW.out
              have fy := RY.out _ KW.out
              have a1 := fx.1.cell 1 _ rfl
              have b1 := fy.1.cell 1 _ rfl
              clear fx fy
              go_wp2_with fail
              go_ret
              exact ⟨by rw [HE.out]; rfl, FB.out _ KW.out⟩
          case false =>
            have r2 : Hid (Img.eqL x y = false) := Aid.hid q2
            clear q2
            have HE : Hid (Img.eqb x y = false) := Aid.hid (by simp only [Img.eqb, r0.out, r1.out, r2.out]; rfl)
            have fx := RX.out _ KW.out
            have fy := RY.out _ KW.out
            clear fx fy
            go_wp2_with fail
            go_ret
            exact ⟨by rw [HE.out]; rfl, FB.out _ KW.out⟩
        case false =>
          have r1 : Hid (Img.eqT x y = false) := Aid.hid q1
          clear q1
          have HE : Hid (Img.eqb x y = false) := Aid.hid (by simp only [Img.eqb, r0.out, r1.out]; rfl)
          have fx := RX.out _ KW.out
          have fy := RY.out _ KW.out
          clear fx fy
          go_wp2_with fail
          go_ret
          exact ⟨by rw [HE.out]; rfl, FB.out _ KW.out⟩
      case false =>
        have r0 : Hid (Img.eqN x y = false) := Aid.hid q0
        clear q0
        have HE : Hid (Img.eqb x y = false) := Aid.hid (by simp only [Img.eqb, r0.out]; rfl)
        have fx := RX.out _ KW.out
        have fy := RY.out _ KW.out
        clear fx fy
        go_wp2_with fail
        go_ret
        exact ⟨by rw [HE.out]; rfl, FB.out _ KW.out⟩
end Go.Proofs.YtaogegeidbclaaaGreatDoor
