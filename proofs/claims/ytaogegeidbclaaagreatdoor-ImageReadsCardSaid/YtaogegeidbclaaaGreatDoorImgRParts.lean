/- The document's writer: a class, a code. -/
import Derived.Test.YtaogegeidbclaaaGreatDoorImgRLists
namespace Go.Proofs.YtaogegeidbclaaaGreatDoor
open Go.RowKit

set_option maxRecDepth 100000 in
set_option maxHeartbeats 1000000 in
theorem rdesc_is (p : Nat) (X : Desc) (s : Pc) (w : World) (hw : Wt.Is w 68 p s) (hx : Desc.At w p X) (lb : (s ++ Pc.desc X).b.length ≤ 100000000000000) :
    Calls Tryz.prog 25 #[.pointer (some ⟨p, 0, none⟩), .agg #[.int .i64 X.base, .string X.fields, .slice X.iA X.init.length X.ic, .slice X.vA X.vtab.length X.vc, .slice X.sA X.sigs.length X.sc, .slice X.tA X.tabs.length X.tc]] w fun e w' => e = .returned (.tuple #[]) ∧ Wt.Is w' 68 p (s ++ Pc.desc X) ∧ Wt.Kp p w w' := by
  have hp := hw.lt
  obtain ⟨W, hW⟩ : ∃ W, (w.alloc (.cells #[.int .i64 X.base, .string X.fields, .slice X.iA X.init.length X.ic, .slice X.vA X.vtab.length X.vc, .slice X.sA X.sigs.length X.sc, .slice X.tA X.tabs.length X.tc] 55)) = W := ⟨_, rfl⟩
  have hb0 : Aid.Has W w.heap.size [.int .i64 X.base, .string X.fields, .slice X.iA X.init.length X.ic, .slice X.vA X.vtab.length X.vc, .slice X.sA X.sigs.length X.sc, .slice X.tA X.tabs.length X.tc] 55 := by subst hW; exact Aid.Has.new w [.int .i64 X.base, .string X.fields, .slice X.iA X.init.length X.ic, .slice X.vA X.vtab.length X.vc, .slice X.sA X.sigs.length X.sc, .slice X.tA X.tabs.length X.tc] 55
  have k0 : Wt.Kp p w W := by subst hW; exact (Wt.Kp.refl p w).alloc (by omega) _
  have i0 : Wt.Is W 68 p s := by subst hW; exact hw.alloc _
  have LB : ∀ t : Pc, t.b.length ≤ (s ++ Pc.desc X).b.length → t.b.length ≤ 100000000000000 := fun t h => Nat.le_trans h lb
  have HX := Aid.hid hx
  have K0 := Aid.hid k0
  have HB := Aid.hid hb0
  have HI := Aid.hid i0
  have HK := Aid.hid (Wt.Kp.refl p W)
  have HP := Aid.hid hp
  clear hw lb hx k0 hb0 i0 hp
  have RB : Hid (∀ wr, Wt.Kp p W wr → Aid.Has wr w.heap.size [.int .i64 X.base, .string X.fields, .slice X.iA X.init.length X.ic, .slice X.vA X.vtab.length X.vc, .slice X.sA X.sigs.length X.sc, .slice X.tA X.tabs.length X.tc] 55) := fun wr k => k.2 _ _ _ (by have := HP.out; omega) (by decide) HB.out
  have RX : Hid (∀ wr, Wt.Kp p W wr → Desc.At wr p X) := fun wr k => HX.out.below (K0.out.trans k).1 (Nat.le_refl p)
  clear HB HX
  have hbk := RB.out _ HK.out
  have c0 := hbk.cell 0 _ rfl
  clear hbk
  have HC := Aid.hid (rnum_is p X.base _ _ HI.out (LB (s ++ Pc.num X.base) (by (try simp only [Pc.desc, Pc.list, Pc.len]) <;> omega)))
  have HK1 := HK
  clear HI HK
  subst hW
  go_enter Tryz.func25, Tryz.ntmps25
  try simp only [List.append_eq, List.cons_append, List.nil_append]
  go_wp2_with fail
  go_at_call 29
  refine HC.out.mono ?_
  rintro e w1 ⟨rfl, h2, h3⟩
  have HI := Aid.hid h2
  have HK := Aid.hid (HK1.out.trans h3)
  clear h2 h3 HC HK1 c0
  have hbk := RB.out _ HK.out
  have c1 := hbk.cell 1 _ rfl
  clear hbk
  have HC := Aid.hid (rtext_is p X.fields _ _ HI.out (LB (s ++ Pc.num X.base ++ Pc.text X.fields) (by (try simp only [Pc.desc, Pc.list, Pc.len]) <;> omega)))
  have HK1 := HK
  clear HI HK
  go_wp2_with fail
  go_at_call 22
  refine HC.out.mono ?_
  rintro e w2 ⟨rfl, h2, h3⟩
  have HI := Aid.hid h2
  have HK := Aid.hid (HK1.out.trans h3)
  clear h2 h3 HC HK1 c1
  have hbk := RB.out _ HK.out
  have c2 := hbk.cell 2 _ rfl
  clear hbk
  have HC := Aid.hid (rnums_is p X.iA X.ic X.init _ _ HI.out ((RX.out _ HK.out).1) (LB (s ++ Pc.num X.base ++ Pc.text X.fields ++ Pc.ints X.init) (by (try simp only [Pc.desc, Pc.list, Pc.len]) <;> omega)))
  have HK1 := HK
  clear HI HK
  go_wp2_with fail
  go_at_call 27
  refine HC.out.mono ?_
  rintro e w3 ⟨rfl, h2, h3⟩
  have HI := Aid.hid h2
  have HK := Aid.hid (HK1.out.trans h3)
  clear h2 h3 HC HK1 c2
  have hbk := RB.out _ HK.out
  have c3 := hbk.cell 3 _ rfl
  clear hbk
  have HC := Aid.hid (rnums_is p X.vA X.vc X.vtab _ _ HI.out ((RX.out _ HK.out).2.1) (LB (s ++ Pc.num X.base ++ Pc.text X.fields ++ Pc.ints X.init ++ Pc.ints X.vtab) (by (try simp only [Pc.desc, Pc.list, Pc.len]) <;> omega)))
  have HK1 := HK
  clear HI HK
  go_wp2_with fail
  go_at_call 27
  refine HC.out.mono ?_
  rintro e w4 ⟨rfl, h2, h3⟩
  have HI := Aid.hid h2
  have HK := Aid.hid (HK1.out.trans h3)
  clear h2 h3 HC HK1 c3
  have hbk := RB.out _ HK.out
  have c4 := hbk.cell 4 _ rfl
  clear hbk
  have HC := Aid.hid (rtexts_is p X.sA X.sc X.sigs _ _ HI.out ((RX.out _ HK.out).2.2.1) (LB (s ++ Pc.num X.base ++ Pc.text X.fields ++ Pc.ints X.init ++ Pc.ints X.vtab ++ Pc.texts X.sigs) (by (try simp only [Pc.desc, Pc.list, Pc.len]) <;> omega)))
  have HK1 := HK
  clear HI HK
  go_wp2_with fail
  go_at_call 24
  refine HC.out.mono ?_
  rintro e w5 ⟨rfl, h2, h3⟩
  have HI := Aid.hid h2
  have HK := Aid.hid (HK1.out.trans h3)
  clear h2 h3 HC HK1 c4
  have hbk := RB.out _ HK.out
  have c5 := hbk.cell 5 _ rfl
  clear hbk
  have HC := Aid.hid (rmany_is p _ _ _ HI.out (LB (s ++ Pc.num X.base ++ Pc.text X.fields ++ Pc.ints X.init ++ Pc.ints X.vtab ++ Pc.texts X.sigs ++ Pc.many X.tabs.length) (by (try simp only [Pc.desc, Pc.list, Pc.len]) <;> omega)))
  have HK1 := HK
  clear HI HK
  go_wp2_with fail
  go_at_call 23
  refine HC.out.mono ?_
  rintro e w6 ⟨rfl, h2, h3⟩
  have HI := Aid.hid h2
  have HK := Aid.hid (HK1.out.trans h3)
  clear h2 h3 HC HK1 c5
  have SZ : Hid ((s ++ Pc.num X.base ++ Pc.text X.fields ++ Pc.ints X.init ++ Pc.ints X.vtab ++ Pc.texts X.sigs).b.length + (Pc.list Pc.tab X.tabs).b.length ≤ 100000000000000) := Aid.hid (by have := LB (s ++ Pc.num X.base ++ Pc.text X.fields ++ Pc.ints X.init ++ Pc.ints X.vtab ++ Pc.texts X.sigs ++ Pc.list Pc.tab X.tabs) (by (try simp only [Pc.desc, Pc.list, Pc.len]) <;> omega); rwa [Pc.len] at this)
  have ll : X.tabs.length ≤ 9223372036854775807 := ((RX.out _ HK.out).2.2.2).1
  have HKB := HK
  have hbk := RB.out _ HK.out
  have c5 := hbk.cell 5 _ rfl
  clear hbk
  go_wp2_with fail
  go_loopw [4] (fun vi wr => ∃ k : Nat, vi = .int .i64 k ∧ k ≤ X.tabs.length ∧ Hid (Wt.Is wr 68 p (Pc.upto Pc.tab (s ++ Pc.num X.base ++ Pc.text X.fields ++ Pc.ints X.init ++ Pc.ints X.vtab ++ Pc.texts X.sigs) X.tabs k)) ∧ Hid (Wt.Kp p (w.alloc (.cells #[.int .i64 X.base, .string X.fields, .slice X.iA X.init.length X.ic, .slice X.vA X.vtab.length X.vc, .slice X.sA X.sigs.length X.sc, .slice X.tA X.tabs.length X.tc] 55)) wr)) (fun vi _ => X.tabs.length - (intOf vi).toNat)
  case atStart => exact ⟨0, rfl, Nat.zero_le _, Aid.hid (by rw [Pc.upto_zero]; exact HI.out), HK⟩
  case round =>
    clear HI HK HKB c5
    obtain ⟨k, rfl, hk, HI, HK⟩ := hrel
    by_cases hlt : k < X.tabs.length
    · obtain ⟨x, hx⟩ : ∃ x, X.tabs[k]? = some x := ⟨_, List.getElem?_eq_getElem hlt⟩
      have hlw := (RX.out _ HK.out).2.2.2
      obtain ⟨b, off, hA, hbp, hc⟩ := Rows.get hlw.2.1 hx
      have HA := Aid.hid hA
      clear hA
      have x0 := hc 0 _ rfl
      have x1 := hc 1 _ rfl
      simp only [Nat.mul_one, Nat.add_zero] at x0
      have hp := HI.out.lt
      have HXA := Aid.hid (hlw.2.2 x (List.mem_of_getElem? hx))
      have HK0 := HK
      have lx := Pc.upto_lt Pc.tab (s ++ Pc.num X.base ++ Pc.text X.fields ++ Pc.ints X.init ++ Pc.ints X.vtab ++ Pc.texts X.sigs) X.tabs k x hx
      have LBX : ∀ t : Pc, t.b.length ≤ (Pc.upto Pc.tab (s ++ Pc.num X.base ++ Pc.text X.fields ++ Pc.ints X.init ++ Pc.ints X.vtab ++ Pc.texts X.sigs) X.tabs k ++ Pc.tab x).b.length → t.b.length ≤ 100000000000000 := fun t h => Nat.le_trans (Nat.le_trans h lx) (by rw [Pc.len]; exact SZ.out)
      have NX : Hid (Pc.upto Pc.tab (s ++ Pc.num X.base ++ Pc.text X.fields ++ Pc.ints X.init ++ Pc.ints X.vtab ++ Pc.texts X.sigs) X.tabs (k + 1) = Pc.upto Pc.tab (s ++ Pc.num X.base ++ Pc.text X.fields ++ Pc.ints X.init ++ Pc.ints X.vtab ++ Pc.texts X.sigs) X.tabs k ++ Pc.num x.face ++ Pc.ints x.l) := Aid.hid (by rw [Pc.upto_next Pc.tab _ X.tabs k x hx] <;> simp only [Pc.tab, Pc.assoc])
      clear hc hx hlw lx
      have hbk := RB.out _ HK.out
      have c5 := hbk.cell 5 _ rfl
      rw [HA.out] at c5
      clear hbk
      have HC := Aid.hid (rnum_is p x.face _ _ HI.out (LBX (Pc.upto Pc.tab (s ++ Pc.num X.base ++ Pc.text X.fields ++ Pc.ints X.init ++ Pc.ints X.vtab ++ Pc.texts X.sigs) X.tabs k ++ Pc.num x.face) (by (try simp only [Pc.tab, Pc.len]) <;> omega)))
      have HK1 := HK
      clear HI HK
      go_wp2_with fail
      go_at_call 29
      refine HC.out.mono ?_
      rintro e w7 ⟨rfl, h2, h3⟩
      have H0K := Aid.hid h3
      have x1 := (h3.1.cell (p := ⟨b, off + k * 2 + 1, none⟩) hbp).trans x1
      have HI := Aid.hid h2
      have HK := Aid.hid (HK1.out.trans h3)
      clear h2 h3 HC HK1 c5
      have h0k := H0K.out.1
      have hbk := RB.out _ HK.out
      have c5 := hbk.cell 5 _ rfl
      rw [HA.out] at c5
      clear hbk
      have HC := Aid.hid (rnums_is p x.A x.c x.l _ _ HI.out (HXA.out.below h0k (Nat.le_refl p)) (LBX (Pc.upto Pc.tab (s ++ Pc.num X.base ++ Pc.text X.fields ++ Pc.ints X.init ++ Pc.ints X.vtab ++ Pc.texts X.sigs) X.tabs k ++ Pc.num x.face ++ Pc.ints x.l) (by (try simp only [Pc.tab, Pc.len]) <;> omega)))
      clear h0k
      have HK1 := HK
      clear HI HK
      go_wp2_with fail
      go_at_call 27
      refine HC.out.mono ?_
      rintro e w8 ⟨rfl, h2, h3⟩
      have HI := Aid.hid h2
      have HK := Aid.hid (HK1.out.trans h3)
      clear h2 h3 HC HK1 c5
      go_wp2_with fail
      go_roundw
      case rel => exact ⟨k + 1, by go_num, by omega, Aid.hid (by rw [NX.out]; exact HI.out), HK⟩
      case measure => simp [intOf]; omega
    · have hE := Pc.upto_end Pc.tab (s ++ Pc.num X.base ++ Pc.text X.fields ++ Pc.ints X.init ++ Pc.ints X.vtab ++ Pc.texts X.sigs) X.tabs k (by omega)
      have hI := HI.out
      rw [hE] at hI
      have HI2 := Aid.hid hI
      clear hI HI hE
      have HI := HI2
      clear HI2 SZ ll hk
      have EQ : s ++ Pc.num X.base ++ Pc.text X.fields ++ Pc.ints X.init ++ Pc.ints X.vtab ++ Pc.texts X.sigs ++ Pc.list Pc.tab X.tabs = s ++ Pc.desc X := by simp only [Pc.desc, Pc.assoc]
      have hI := HI.out
      rw [EQ] at hI
      clear EQ
      have HJ := Aid.hid hI
      clear hI HI
      have hbk := RB.out _ HK.out
      have c5 := hbk.cell 5 _ rfl
      clear hbk
      go_wp2_with fail
      go_end0
      exact ⟨rfl, HJ.out, K0.out.trans HK.out⟩
set_option maxRecDepth 100000 in
set_option maxHeartbeats 1000000 in
theorem rcod_is (p : Nat) (X : Cod) (s : Pc) (w : World) (hw : Wt.Is w 68 p s) (hx : Cod.At w p X) (lb : (s ++ Pc.cod X).b.length ≤ 100000000000000) :
    Calls Tryz.prog 26 #[.pointer (some ⟨p, 0, none⟩), .agg #[.int .i64 X.cls, .string X.params, .string X.locals, .bool X.ret, .int .i64 X.stack, .slice X.oA X.ops.length X.oc]] w fun e w' => e = .returned (.tuple #[]) ∧ Wt.Is w' 68 p (s ++ Pc.cod X) ∧ Wt.Kp p w w' := by
  have hp := hw.lt
  obtain ⟨W, hW⟩ : ∃ W, (w.alloc (.cells #[.int .i64 X.cls, .string X.params, .string X.locals, .bool X.ret, .int .i64 X.stack, .slice X.oA X.ops.length X.oc] 60)) = W := ⟨_, rfl⟩
  have hb0 : Aid.Has W w.heap.size [.int .i64 X.cls, .string X.params, .string X.locals, .bool X.ret, .int .i64 X.stack, .slice X.oA X.ops.length X.oc] 60 := by subst hW; exact Aid.Has.new w [.int .i64 X.cls, .string X.params, .string X.locals, .bool X.ret, .int .i64 X.stack, .slice X.oA X.ops.length X.oc] 60
  have k0 : Wt.Kp p w W := by subst hW; exact (Wt.Kp.refl p w).alloc (by omega) _
  have i0 : Wt.Is W 68 p s := by subst hW; exact hw.alloc _
  have LB : ∀ t : Pc, t.b.length ≤ (s ++ Pc.cod X).b.length → t.b.length ≤ 100000000000000 := fun t h => Nat.le_trans h lb
  have HX := Aid.hid hx
  have K0 := Aid.hid k0
  have HB := Aid.hid hb0
  have HI := Aid.hid i0
  have HK := Aid.hid (Wt.Kp.refl p W)
  have HP := Aid.hid hp
  clear hw lb hx k0 hb0 i0 hp
  have RB : Hid (∀ wr, Wt.Kp p W wr → Aid.Has wr w.heap.size [.int .i64 X.cls, .string X.params, .string X.locals, .bool X.ret, .int .i64 X.stack, .slice X.oA X.ops.length X.oc] 60) := fun wr k => k.2 _ _ _ (by have := HP.out; omega) (by decide) HB.out
  have RX : Hid (∀ wr, Wt.Kp p W wr → Cod.At wr p X) := fun wr k => HX.out.below (K0.out.trans k).1 (Nat.le_refl p)
  clear HB HX
  have hbk := RB.out _ HK.out
  have c0 := hbk.cell 0 _ rfl
  clear hbk
  have HC := Aid.hid (rnum_is p X.cls _ _ HI.out (LB (s ++ Pc.num X.cls) (by (try simp only [Pc.cod, Pc.list, Pc.len]) <;> omega)))
  have HK1 := HK
  clear HI HK
  subst hW
  go_enter Tryz.func26, Tryz.ntmps26
  try simp only [List.append_eq, List.cons_append, List.nil_append]
  go_wp2_with fail
  go_at_call 29
  refine HC.out.mono ?_
  rintro e w1 ⟨rfl, h2, h3⟩
  have HI := Aid.hid h2
  have HK := Aid.hid (HK1.out.trans h3)
  clear h2 h3 HC HK1 c0
  have hbk := RB.out _ HK.out
  have c1 := hbk.cell 1 _ rfl
  clear hbk
  have HC := Aid.hid (rtext_is p X.params _ _ HI.out (LB (s ++ Pc.num X.cls ++ Pc.text X.params) (by (try simp only [Pc.cod, Pc.list, Pc.len]) <;> omega)))
  have HK1 := HK
  clear HI HK
  go_wp2_with fail
  go_at_call 22
  refine HC.out.mono ?_
  rintro e w2 ⟨rfl, h2, h3⟩
  have HI := Aid.hid h2
  have HK := Aid.hid (HK1.out.trans h3)
  clear h2 h3 HC HK1 c1
  have hbk := RB.out _ HK.out
  have c2 := hbk.cell 2 _ rfl
  clear hbk
  have HC := Aid.hid (rtext_is p X.locals _ _ HI.out (LB (s ++ Pc.num X.cls ++ Pc.text X.params ++ Pc.text X.locals) (by (try simp only [Pc.cod, Pc.list, Pc.len]) <;> omega)))
  have HK1 := HK
  clear HI HK
  go_wp2_with fail
  go_at_call 22
  refine HC.out.mono ?_
  rintro e w3 ⟨rfl, h2, h3⟩
  have HI := Aid.hid h2
  have HK := Aid.hid (HK1.out.trans h3)
  clear h2 h3 HC HK1 c2
  have hbk := RB.out _ HK.out
  have c3 := hbk.cell 3 _ rfl
  clear hbk
  have HC := Aid.hid (rflag_is p X.ret _ _ HI.out (LB (s ++ Pc.num X.cls ++ Pc.text X.params ++ Pc.text X.locals ++ Pc.flag X.ret) (by (try simp only [Pc.cod, Pc.list, Pc.len]) <;> omega)))
  have HK1 := HK
  clear HI HK
  go_wp2_with fail
  go_at_call 67
  refine HC.out.mono ?_
  rintro e w4 ⟨rfl, h2, h3⟩
  have HI := Aid.hid h2
  have HK := Aid.hid (HK1.out.trans h3)
  clear h2 h3 HC HK1 c3
  have hbk := RB.out _ HK.out
  have c4 := hbk.cell 4 _ rfl
  clear hbk
  have HC := Aid.hid (rnum_is p X.stack _ _ HI.out (LB (s ++ Pc.num X.cls ++ Pc.text X.params ++ Pc.text X.locals ++ Pc.flag X.ret ++ Pc.num X.stack) (by (try simp only [Pc.cod, Pc.list, Pc.len]) <;> omega)))
  have HK1 := HK
  clear HI HK
  go_wp2_with fail
  go_at_call 29
  refine HC.out.mono ?_
  rintro e w5 ⟨rfl, h2, h3⟩
  have HI := Aid.hid h2
  have HK := Aid.hid (HK1.out.trans h3)
  clear h2 h3 HC HK1 c4
  have hbk := RB.out _ HK.out
  have c5 := hbk.cell 5 _ rfl
  clear hbk
  have HC := Aid.hid (rmany_is p _ _ _ HI.out (LB (s ++ Pc.num X.cls ++ Pc.text X.params ++ Pc.text X.locals ++ Pc.flag X.ret ++ Pc.num X.stack ++ Pc.many X.ops.length) (by (try simp only [Pc.cod, Pc.list, Pc.len]) <;> omega)))
  have HK1 := HK
  clear HI HK
  go_wp2_with fail
  go_at_call 23
  refine HC.out.mono ?_
  rintro e w6 ⟨rfl, h2, h3⟩
  have HI := Aid.hid h2
  have HK := Aid.hid (HK1.out.trans h3)
  clear h2 h3 HC HK1 c5
  have SZ : Hid ((s ++ Pc.num X.cls ++ Pc.text X.params ++ Pc.text X.locals ++ Pc.flag X.ret ++ Pc.num X.stack).b.length + (Pc.list Pc.op X.ops).b.length ≤ 100000000000000) := Aid.hid (by have := LB (s ++ Pc.num X.cls ++ Pc.text X.params ++ Pc.text X.locals ++ Pc.flag X.ret ++ Pc.num X.stack ++ Pc.list Pc.op X.ops) (by (try simp only [Pc.cod, Pc.list, Pc.len]) <;> omega); rwa [Pc.len] at this)
  have ll : X.ops.length ≤ 9223372036854775807 := (RX.out _ HK.out).1
  have HKB := HK
  have hbk := RB.out _ HK.out
  have c5 := hbk.cell 5 _ rfl
  clear hbk
  go_wp2_with fail
  go_loopw [4] (fun vi wr => ∃ k : Nat, vi = .int .i64 k ∧ k ≤ X.ops.length ∧ Hid (Wt.Is wr 68 p (Pc.upto Pc.op (s ++ Pc.num X.cls ++ Pc.text X.params ++ Pc.text X.locals ++ Pc.flag X.ret ++ Pc.num X.stack) X.ops k)) ∧ Hid (Wt.Kp p (w.alloc (.cells #[.int .i64 X.cls, .string X.params, .string X.locals, .bool X.ret, .int .i64 X.stack, .slice X.oA X.ops.length X.oc] 60)) wr)) (fun vi _ => X.ops.length - (intOf vi).toNat)
  case atStart => exact ⟨0, rfl, Nat.zero_le _, Aid.hid (by rw [Pc.upto_zero]; exact HI.out), HK⟩
  case round =>
    clear HI HK HKB c5
    obtain ⟨k, rfl, hk, HI, HK⟩ := hrel
    by_cases hlt : k < X.ops.length
    · obtain ⟨x, hx⟩ : ∃ x, X.ops[k]? = some x := ⟨_, List.getElem?_eq_getElem hlt⟩
      have hlw := RX.out _ HK.out
      obtain ⟨b, off, hA, hbp, hc⟩ := Rows.get hlw.2 hx
      have HA := Aid.hid hA
      clear hA
      have x0 := hc 0 _ rfl
      have x1 := hc 1 _ rfl
      have x2 := hc 2 _ rfl
      simp only [Nat.mul_one, Nat.add_zero] at x0
      have hp := HI.out.lt
      have lx := Pc.upto_lt Pc.op (s ++ Pc.num X.cls ++ Pc.text X.params ++ Pc.text X.locals ++ Pc.flag X.ret ++ Pc.num X.stack) X.ops k x hx
      have LBX : ∀ t : Pc, t.b.length ≤ (Pc.upto Pc.op (s ++ Pc.num X.cls ++ Pc.text X.params ++ Pc.text X.locals ++ Pc.flag X.ret ++ Pc.num X.stack) X.ops k ++ Pc.op x).b.length → t.b.length ≤ 100000000000000 := fun t h => Nat.le_trans (Nat.le_trans h lx) (by rw [Pc.len]; exact SZ.out)
      have NX : Hid (Pc.upto Pc.op (s ++ Pc.num X.cls ++ Pc.text X.params ++ Pc.text X.locals ++ Pc.flag X.ret ++ Pc.num X.stack) X.ops (k + 1) = Pc.upto Pc.op (s ++ Pc.num X.cls ++ Pc.text X.params ++ Pc.text X.locals ++ Pc.flag X.ret ++ Pc.num X.stack) X.ops k ++ Pc.num x.k ++ Pc.num x.a ++ Pc.num x.b) := Aid.hid (by rw [Pc.upto_next Pc.op _ X.ops k x hx] <;> simp only [Pc.op_eq, Pc.assoc])
      clear hc hx hlw lx
      have hbk := RB.out _ HK.out
      have c5 := hbk.cell 5 _ rfl
      rw [HA.out] at c5
      clear hbk
      have HC := Aid.hid (rnum_is p x.k _ _ HI.out (LBX (Pc.upto Pc.op (s ++ Pc.num X.cls ++ Pc.text X.params ++ Pc.text X.locals ++ Pc.flag X.ret ++ Pc.num X.stack) X.ops k ++ Pc.num x.k) (by (try simp only [Pc.op_eq, Pc.len]) <;> omega)))
      have HK1 := HK
      clear HI HK
      go_wp2_with fail
      go_at_call 29
      refine HC.out.mono ?_
      rintro e w7 ⟨rfl, h2, h3⟩
      have x1 := (h3.1.cell (p := ⟨b, off + k * 3 + 1, none⟩) hbp).trans x1
      have x2 := (h3.1.cell (p := ⟨b, off + k * 3 + 2, none⟩) hbp).trans x2
      have HI := Aid.hid h2
      have HK := Aid.hid (HK1.out.trans h3)
      clear h2 h3 HC HK1 c5
      have hbk := RB.out _ HK.out
      have c5 := hbk.cell 5 _ rfl
      rw [HA.out] at c5
      clear hbk
      have HC := Aid.hid (rnum_is p x.a _ _ HI.out (LBX (Pc.upto Pc.op (s ++ Pc.num X.cls ++ Pc.text X.params ++ Pc.text X.locals ++ Pc.flag X.ret ++ Pc.num X.stack) X.ops k ++ Pc.num x.k ++ Pc.num x.a) (by (try simp only [Pc.op_eq, Pc.len]) <;> omega)))
      have HK1 := HK
      clear HI HK
      go_wp2_with fail
      go_at_call 29
      refine HC.out.mono ?_
      rintro e w8 ⟨rfl, h2, h3⟩
      have x2 := (h3.1.cell (p := ⟨b, off + k * 3 + 2, none⟩) hbp).trans x2
      have HI := Aid.hid h2
      have HK := Aid.hid (HK1.out.trans h3)
      clear h2 h3 HC HK1 c5
      have hbk := RB.out _ HK.out
      have c5 := hbk.cell 5 _ rfl
      rw [HA.out] at c5
      clear hbk
      have HC := Aid.hid (rnum_is p x.b _ _ HI.out (LBX (Pc.upto Pc.op (s ++ Pc.num X.cls ++ Pc.text X.params ++ Pc.text X.locals ++ Pc.flag X.ret ++ Pc.num X.stack) X.ops k ++ Pc.num x.k ++ Pc.num x.a ++ Pc.num x.b) (by (try simp only [Pc.op_eq, Pc.len]) <;> omega)))
      have HK1 := HK
      clear HI HK
      go_wp2_with fail
      go_at_call 29
      refine HC.out.mono ?_
      rintro e w9 ⟨rfl, h2, h3⟩
      have HI := Aid.hid h2
      have HK := Aid.hid (HK1.out.trans h3)
      clear h2 h3 HC HK1 c5
      go_wp2_with fail
      go_roundw
      case rel => exact ⟨k + 1, by go_num, by omega, Aid.hid (by rw [NX.out]; exact HI.out), HK⟩
      case measure => simp [intOf]; omega
    · have hE := Pc.upto_end Pc.op (s ++ Pc.num X.cls ++ Pc.text X.params ++ Pc.text X.locals ++ Pc.flag X.ret ++ Pc.num X.stack) X.ops k (by omega)
      have hI := HI.out
      rw [hE] at hI
      have HI2 := Aid.hid hI
      clear hI HI hE
      have HI := HI2
      clear HI2 SZ ll hk
      have EQ : s ++ Pc.num X.cls ++ Pc.text X.params ++ Pc.text X.locals ++ Pc.flag X.ret ++ Pc.num X.stack ++ Pc.list Pc.op X.ops = s ++ Pc.cod X := by simp only [Pc.cod, Pc.assoc]
      have hI := HI.out
      rw [EQ] at hI
      clear EQ
      have HJ := Aid.hid hI
      clear hI HI
      have hbk := RB.out _ HK.out
      have c5 := hbk.cell 5 _ rfl
      clear hbk
      go_wp2_with fail
      go_end0
      exact ⟨rfl, HJ.out, K0.out.trans HK.out⟩
end Go.Proofs.YtaogegeidbclaaaGreatDoor
