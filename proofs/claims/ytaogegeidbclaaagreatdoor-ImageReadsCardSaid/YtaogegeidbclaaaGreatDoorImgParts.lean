/- The parts of an image, and the image: laid. -/
import Derived.Test.YtaogegeidbclaaaGreatDoorImgLists
namespace Go.Proofs.YtaogegeidbclaaaGreatDoor
open Go.RowKit

set_option maxRecDepth 100000 in
set_option maxHeartbeats 1000000 in
theorem wtab_is (p : Nat) (x : Tab) (s : Pc) (w : World) (hw : Wt.Is w 63 p s) (hx : Tab.At w p x) (lb : (s ++ Pc.tab x).b.length ≤ 100000000000000) :
    Calls Tryz.prog 94 #[.pointer (some ⟨p, 0, none⟩), .agg #[.int .i64 x.face, .slice x.A x.l.length x.c]] w fun e w' => e = .returned (.tuple #[]) ∧ Wt.Is w' 63 p (s ++ Pc.tab x) ∧ Wt.Kp p w w' := by
  have hp := hw.lt
  obtain ⟨W, hW⟩ : ∃ W, (w.alloc (.cells #[.int .i64 x.face, .slice x.A x.l.length x.c] 57)) = W := ⟨_, rfl⟩
  have hb0 : Aid.Has W w.heap.size [.int .i64 x.face, .slice x.A x.l.length x.c] 57 := by subst hW; exact Aid.Has.new w [.int .i64 x.face, .slice x.A x.l.length x.c] 57
  have k0 : Wt.Kp p w W := by subst hW; exact ((Wt.Kp.refl p w).alloc (by omega) _)
  have i0 : Wt.Is W 63 p s := by subst hW; exact (hw.alloc _)
  have lb0 : Hid ((s ++ Pc.num x.face).b.length ≤ 100000000000000) := Aid.hid (by simp only [Pc.tab, Pc.len] at lb ⊢; omega)
  have lb1 : Hid ((s ++ Pc.num x.face ++ Pc.ints x.l).b.length ≤ 100000000000000) := Aid.hid (by simp only [Pc.tab, Pc.len] at lb ⊢; omega)
  have EQ : Hid (s ++ Pc.num x.face ++ Pc.ints x.l = s ++ Pc.tab x) := Aid.hid (by simp only [Pc.tab, Pc.assoc])
  have hmf : ∀ (fn : Fn) (first cap : Array Value) (w : World), (Instr.makeFunc fn first cap).run Tryz.prog w = .ok (.func fn first cap) w := fun _ _ _ _ => rfl
  have HP := Aid.hid hp
  have HX := Aid.hid hx
  have K0 := Aid.hid k0
  have HB := Aid.hid hb0
  have HI := Aid.hid i0
  have HK := Aid.hid (Wt.Kp.refl p W)
  clear hw lb hp k0 hb0 i0 hx
  have RB : Hid (∀ wr, Wt.Kp p W wr → Aid.Has wr w.heap.size [.int .i64 x.face, .slice x.A x.l.length x.c] 57) := fun wr k => k.2 _ _ _ (by have := HP.out; omega) (by decide) HB.out
  have RX : Hid (∀ wr, Wt.Kp p W wr → Tab.At wr p x) := fun wr k => HX.out.below (K0.out.trans k).1 (Nat.le_refl p)
  clear HB HX
  have hbk := RB.out W HK.out
  have c0 := hbk.cell 0 _ rfl
  clear hbk
  have hxk := RX.out W HK.out
  have N0 : Wt.Kp p W (W.alloc (.cells #[.int .i64 x.face] 3)) := (Wt.Kp.refl p W).alloc (by have := HI.out.lt; omega) _
  have HN := Aid.hid (wnum_pc p (some ⟨W.heap.size, 0, none⟩) 1 [x.face] _ _ (HI.out.alloc (.cells #[.int .i64 x.face] 3)) (Wt.ints_new [x.face] HI.out.lt) (by simp) (by have := lb0.out; rw [Pc.len] at this; exact this))
  have HK1 := Aid.hid (HK.out.trans N0)
  clear N0 HK HI hxk
  go_enter Tryz.func94, Tryz.ntmps94
  try simp only [List.append_eq, List.cons_append, List.nil_append]
  subst hW
  try simp only [World.size_alloc] at HN
  go_wp2_with fail
  go_at_call 66
  refine HN.out.mono ?_
  rintro e w1 ⟨rfl, h2, h3⟩
  have h2 : Wt.Is w1 63 p (s ++ Pc.num x.face) := by first | exact h2 | (rw [Pc.nums_one] at h2; exact h2)
  have HI := Aid.hid h2
  have HK := Aid.hid (HK1.out.trans h3)
  clear h2 h3 HN HK1 c0
  have hbk := RB.out w1 HK.out
  have c1 := hbk.cell 1 _ rfl
  clear hbk
  have hxk := RX.out w1 HK.out
  have HN := Aid.hid (wints_is p x.A x.c x.l _ w1 HI.out (hxk) lb1.out)
  have HK1 := HK
  clear HK HI hxk
  go_wp2_with fail
  go_at_call 61
  refine HN.out.mono ?_
  rintro e w2 ⟨rfl, h2, h3⟩
  have HI := Aid.hid h2
  have HK := Aid.hid (HK1.out.trans h3)
  clear h2 h3 HN HK1 c1
  have hE := EQ.out
  have hI := HI.out
  rw [hE] at hI
  have HJ := Aid.hid hI
  clear hI hE
  go_wp2_with fail
  go_end0
  exact ⟨rfl, HJ.out, K0.out.trans HK.out⟩
set_option maxRecDepth 100000 in
set_option maxHeartbeats 1000000 in
theorem wlist_tab (p : Nat) (A : Option Addr) (c : Nat) (l : List Tab) (s : Pc) (w : World) (hw : Wt.Is w 63 p s) (hl : LTabs w p A l) (lb : (s ++ Pc.list Pc.tab l).b.length ≤ 100000000000000) :
    Calls Tryz.prog 93 #[.pointer (some ⟨p, 0, none⟩), .slice A l.length c, .func (.func 94) #[.pointer (some ⟨p, 0, none⟩)] #[]] w fun e w' => e = .returned (.tuple #[]) ∧ Wt.Is w' 63 p (s ++ Pc.list Pc.tab l) ∧ Wt.Kp p w w' := by
  have lm := Pc.list_many Pc.tab s l
  have HW := Aid.hid hw
  have LB := Aid.hid lb
  have ll : l.length ≤ 9223372036854775807 := hl.1
  have HL := Aid.hid hl
  clear hw lb hl
  go_enter Tryz.func93, Tryz.ntmps93
  try simp only [List.append_eq, List.cons_append, List.nil_append]
  go_wp2_with fail
  go_at_call 91
  refine (wmany_is p _ s w HW.out (by have := LB.out; omega)).mono ?_
  rintro e w1 ⟨rfl, h2, h3⟩
  have HI1 := Aid.hid h2
  have HK1 := Aid.hid h3
  clear h2 h3 lm
  go_wp2_with fail
  go_loopw [14] (fun vi wr => ∃ k : Nat, vi = .int .i64 k ∧ k ≤ l.length ∧ Hid (Wt.Is wr 63 p (Pc.upto Pc.tab s l k)) ∧ Hid (Wt.Kp p w wr)) (fun vi _ => l.length - (intOf vi).toNat)
  case atStart => exact ⟨0, rfl, Nat.zero_le _, Aid.hid (by rw [Pc.upto_zero]; exact HI1.out), HK1⟩
  case round =>
    obtain ⟨k, rfl, hk, HI, HK⟩ := hrel
    by_cases hlt : k < l.length
    · obtain ⟨x, hx⟩ : ∃ x, l[k]? = some x := ⟨_, List.getElem?_eq_getElem hlt⟩
      have hlw := HL.out.below HK.out.1 (Nat.le_refl p)
      obtain ⟨b, off, rfl, hbp, hc⟩ := Rows.get hlw.2.1 hx
      have x0 := hc 0 _ rfl
      simp only [Nat.mul_one, Nat.add_zero] at x0
      have x1 := hc 1 _ rfl
      have hp := HI.out.lt
      have hxa := hlw.2.2 x (List.mem_of_getElem? hx)
      have lx := Pc.upto_lt Pc.tab s l k x hx
      have NX : Hid (Pc.upto Pc.tab s l (k + 1) = Pc.upto Pc.tab s l k ++ Pc.tab x) := Aid.hid (Pc.upto_next Pc.tab s l k x hx)
      have HXA := Aid.hid hxa
      clear hc hx hlw hxa
      go_wp2_with fail
      go_at_call 94
      have W0 : Wt.Kp p wr (wr.alloc (.cells #[.int .i64 x.face, .slice x.A x.l.length x.c] 57)) := (Wt.Kp.refl p wr).alloc (by omega) _
      refine (wtab_is p x (Pc.upto Pc.tab s l k) _ (HI.out.alloc _) (HXA.out.below W0.1 (Nat.le_refl p)) (by have := LB.out; omega)).mono ?_
      rintro e w2 ⟨rfl, h2, h3⟩
      have HI2 := Aid.hid h2
      have HK2 := Aid.hid ((HK.out.trans W0).trans h3)
      clear h2 h3
      go_wp2_with fail
      go_roundw
      case rel => exact ⟨k + 1, by go_num, by omega, Aid.hid (by rw [NX.out]; exact HI2.out), HK2⟩
      case measure => simp [intOf]; omega
    · have hE := Pc.upto_end Pc.tab s l k (by omega)
      go_wp2_with fail
      go_end0
      exact ⟨rfl, by rw [← hE]; exact HI.out, HK.out⟩
set_option maxRecDepth 100000 in
set_option maxHeartbeats 1000000 in
theorem wopc_is (p q : Nat) (x : Opr) (s : Pc) (w : World) (hw : Wt.Is w 63 p s) (hq : Aid.Has w q [.pointer (some ⟨p, 0, none⟩)] 61) (lb : (s ++ Pc.op x).b.length ≤ 100000000000000) :
    Calls Tryz.prog 97 #[.agg #[.int .i64 x.k, .int .i64 x.a, .int .i64 x.b], .pointer (some ⟨q, 0, none⟩)] w fun e w' => e = .returned (.tuple #[]) ∧ Wt.Is w' 63 p (s ++ (Pc.op x)) ∧ Wt.Kp p w w' := by
  have hp := hw.lt
  have c0 := hq.cell 0 _ rfl
  have lb' : s.b.length + 12 ≤ 100000000000000 := by rw [Pc.len] at lb; exact lb
  have hb := Aid.Has.new w [.int .i64 x.k, .int .i64 x.a, .int .i64 x.b] 118
  have b0 := hb.cell 0 _ rfl
  have b1 := hb.cell 1 _ rfl
  have b2 := hb.cell 2 _ rfl
  have c1 := (hq.alloc (.cells #[.int .i64 x.k, .int .i64 x.a, .int .i64 x.b] 118)).cell 0 _ rfl
  have HN := Aid.hid (wnum_pc p (some ⟨(w.alloc (.cells #[.int .i64 x.k, .int .i64 x.a, .int .i64 x.b] 118)).heap.size, 0, none⟩) 3 [x.k, x.a, x.b] s _ ((hw.alloc (.cells #[.int .i64 x.k, .int .i64 x.a, .int .i64 x.b] 118)).alloc _) (Wt.ints_new [x.k, x.a, x.b] (by simp; omega)) (by simp) (by simpa using lb'))
  have HK := Aid.hid (((Wt.Kp.refl p w).alloc (by omega) (.cells #[.int .i64 x.k, .int .i64 x.a, .int .i64 x.b] 118)).alloc (by simp; omega) (.cells #[.int .i64 x.k, .int .i64 x.a, .int .i64 x.b] 3))
  simp only [World.size_alloc] at HN
  clear hb
  clear hw hq lb lb'
  go_enter Tryz.func97, Tryz.ntmps97
  try simp only [List.append_eq, List.cons_append, List.nil_append]
  go_wp2_with fail
  go_at_call 66
  refine HN.out.mono ?_
  rintro e w2 ⟨rfl, h2, h3⟩
  have h2 : Wt.Is w2 63 p (s ++ Pc.op x) := h2
  have h4 := HK.out.trans h3
  go_wp2_with fail
  go_end0
  exact ⟨rfl, h2, h4⟩
set_option maxRecDepth 100000 in
set_option maxHeartbeats 1000000 in
theorem wlist_op (p : Nat) (q : Nat) (A : Option Addr) (c : Nat) (l : List Opr) (s : Pc) (w : World) (hw : Wt.Is w 63 p s) (hq : Aid.Has w q [.pointer (some ⟨p, 0, none⟩)] 61) (hqp : q ≠ p) (hl : LOps w p A l) (lb : (s ++ Pc.list Pc.op l).b.length ≤ 100000000000000) :
    Calls Tryz.prog 96 #[.pointer (some ⟨p, 0, none⟩), .slice A l.length c, .func (.func 97) #[] #[.pointer (some ⟨q, 0, none⟩)]] w fun e w' => e = .returned (.tuple #[]) ∧ Wt.Is w' 63 p (s ++ Pc.list Pc.op l) ∧ Wt.Kp p w w' := by
  have lm := Pc.list_many Pc.op s l
  have HW := Aid.hid hw
  have LB := Aid.hid lb
  have ll : l.length ≤ 9223372036854775807 := hl.1
  have HL := Aid.hid hl
  have HQ0 := Aid.hid hq
  clear hw lb hl hq
  go_enter Tryz.func96, Tryz.ntmps96
  try simp only [List.append_eq, List.cons_append, List.nil_append]
  go_wp2_with fail
  go_at_call 91
  refine (wmany_is p _ s w HW.out (by have := LB.out; omega)).mono ?_
  rintro e w1 ⟨rfl, h2, h3⟩
  have HI1 := Aid.hid h2
  have HK1 := Aid.hid h3
  clear h2 h3 lm
  go_wp2_with fail
  go_loopw [14] (fun vi wr => ∃ k : Nat, vi = .int .i64 k ∧ k ≤ l.length ∧ Hid (Wt.Is wr 63 p (Pc.upto Pc.op s l k)) ∧ Hid (Wt.Kp p w wr)) (fun vi _ => l.length - (intOf vi).toNat)
  case atStart => exact ⟨0, rfl, Nat.zero_le _, Aid.hid (by rw [Pc.upto_zero]; exact HI1.out), HK1⟩
  case round =>
    obtain ⟨k, rfl, hk, HI, HK⟩ := hrel
    by_cases hlt : k < l.length
    · obtain ⟨x, hx⟩ : ∃ x, l[k]? = some x := ⟨_, List.getElem?_eq_getElem hlt⟩
      have hlw := HL.out.below HK.out.1 (Nat.le_refl p)
      obtain ⟨b, off, rfl, hbp, hc⟩ := Rows.get hlw.2 hx
      have x0 := hc 0 _ rfl
      simp only [Nat.mul_one, Nat.add_zero] at x0
      have x1 := hc 1 _ rfl
      have x2 := hc 2 _ rfl
      have hp := HI.out.lt
      have HQ := HK.out.2 q _ _ hqp (by decide) HQ0.out
      have lx := Pc.upto_lt Pc.op s l k x hx
      have NX : Hid (Pc.upto Pc.op s l (k + 1) = Pc.upto Pc.op s l k ++ Pc.op x) := Aid.hid (Pc.upto_next Pc.op s l k x hx)
      clear hc hx hlw
      go_wp2_with fail
      go_at_call 97
      have W0 : Wt.Kp p wr (wr.alloc (.cells #[.int .i64 x.k, .int .i64 x.a, .int .i64 x.b] 118)) := (Wt.Kp.refl p wr).alloc (by omega) _
      refine (wopc_is p q x (Pc.upto Pc.op s l k) _ (HI.out.alloc _) (W0.2 q _ _ hqp (by decide) HQ) (by have := LB.out; omega)).mono ?_
      rintro e w2 ⟨rfl, h2, h3⟩
      have HI2 := Aid.hid h2
      have HK2 := Aid.hid ((HK.out.trans W0).trans h3)
      clear h2 h3
      go_wp2_with fail
      go_roundw
      case rel => exact ⟨k + 1, by go_num, by omega, Aid.hid (by rw [NX.out]; exact HI2.out), HK2⟩
      case measure => simp [intOf]; omega
    · have hE := Pc.upto_end Pc.op s l k (by omega)
      go_wp2_with fail
      go_end0
      exact ⟨rfl, by rw [← hE]; exact HI.out, HK.out⟩
set_option maxRecDepth 100000 in
set_option maxHeartbeats 1000000 in
theorem wdesc_is (p : Nat) (x : Desc) (s : Pc) (w : World) (hw : Wt.Is w 63 p s) (hx : Desc.At w p x) (lb : (s ++ Pc.desc x).b.length ≤ 100000000000000) :
    Calls Tryz.prog 58 #[.pointer (some ⟨p, 0, none⟩), .agg #[.int .i64 x.base, .string x.fields, .slice x.iA x.init.length x.ic, .slice x.vA x.vtab.length x.vc, .slice x.sA x.sigs.length x.sc, .slice x.tA x.tabs.length x.tc]] w fun e w' => e = .returned (.tuple #[]) ∧ Wt.Is w' 63 p (s ++ Pc.desc x) ∧ Wt.Kp p w w' := by
  have hp := hw.lt
  obtain ⟨W, hW⟩ : ∃ W, (w.alloc (.cells #[.int .i64 x.base, .string x.fields, .slice x.iA x.init.length x.ic, .slice x.vA x.vtab.length x.vc, .slice x.sA x.sigs.length x.sc, .slice x.tA x.tabs.length x.tc] 55)) = W := ⟨_, rfl⟩
  have hb0 : Aid.Has W w.heap.size [.int .i64 x.base, .string x.fields, .slice x.iA x.init.length x.ic, .slice x.vA x.vtab.length x.vc, .slice x.sA x.sigs.length x.sc, .slice x.tA x.tabs.length x.tc] 55 := by subst hW; exact Aid.Has.new w [.int .i64 x.base, .string x.fields, .slice x.iA x.init.length x.ic, .slice x.vA x.vtab.length x.vc, .slice x.sA x.sigs.length x.sc, .slice x.tA x.tabs.length x.tc] 55
  have k0 : Wt.Kp p w W := by subst hW; exact ((Wt.Kp.refl p w).alloc (by omega) _)
  have i0 : Wt.Is W 63 p s := by subst hW; exact (hw.alloc _)
  have lb0 : Hid ((s ++ Pc.num x.base).b.length ≤ 100000000000000) := Aid.hid (by simp only [Pc.desc, Pc.len] at lb ⊢; omega)
  have lb1 : Hid ((s ++ Pc.num x.base ++ Pc.text x.fields).b.length ≤ 100000000000000) := Aid.hid (by simp only [Pc.desc, Pc.len] at lb ⊢; omega)
  have lb2 : Hid ((s ++ Pc.num x.base ++ Pc.text x.fields ++ Pc.ints x.init).b.length ≤ 100000000000000) := Aid.hid (by simp only [Pc.desc, Pc.len] at lb ⊢; omega)
  have lb3 : Hid ((s ++ Pc.num x.base ++ Pc.text x.fields ++ Pc.ints x.init ++ Pc.ints x.vtab).b.length ≤ 100000000000000) := Aid.hid (by simp only [Pc.desc, Pc.len] at lb ⊢; omega)
  have lb4 : Hid ((s ++ Pc.num x.base ++ Pc.text x.fields ++ Pc.ints x.init ++ Pc.ints x.vtab ++ Pc.texts x.sigs).b.length ≤ 100000000000000) := Aid.hid (by simp only [Pc.desc, Pc.len] at lb ⊢; omega)
  have lb5 : Hid ((s ++ Pc.num x.base ++ Pc.text x.fields ++ Pc.ints x.init ++ Pc.ints x.vtab ++ Pc.texts x.sigs ++ Pc.list Pc.tab x.tabs).b.length ≤ 100000000000000) := Aid.hid (by simp only [Pc.desc, Pc.len] at lb ⊢; omega)
  have EQ : Hid (s ++ Pc.num x.base ++ Pc.text x.fields ++ Pc.ints x.init ++ Pc.ints x.vtab ++ Pc.texts x.sigs ++ Pc.list Pc.tab x.tabs = s ++ Pc.desc x) := Aid.hid (by simp only [Pc.desc, Pc.assoc])
  have hmf : ∀ (fn : Fn) (first cap : Array Value) (w : World), (Instr.makeFunc fn first cap).run Tryz.prog w = .ok (.func fn first cap) w := fun _ _ _ _ => rfl
  have HP := Aid.hid hp
  have HX := Aid.hid hx
  have K0 := Aid.hid k0
  have HB := Aid.hid hb0
  have HI := Aid.hid i0
  have HK := Aid.hid (Wt.Kp.refl p W)
  clear hw lb hp k0 hb0 i0 hx
  have RB : Hid (∀ wr, Wt.Kp p W wr → Aid.Has wr w.heap.size [.int .i64 x.base, .string x.fields, .slice x.iA x.init.length x.ic, .slice x.vA x.vtab.length x.vc, .slice x.sA x.sigs.length x.sc, .slice x.tA x.tabs.length x.tc] 55) := fun wr k => k.2 _ _ _ (by have := HP.out; omega) (by decide) HB.out
  have RX : Hid (∀ wr, Wt.Kp p W wr → Desc.At wr p x) := fun wr k => HX.out.below (K0.out.trans k).1 (Nat.le_refl p)
  clear HB HX
  have hbk := RB.out W HK.out
  have c0 := hbk.cell 0 _ rfl
  clear hbk
  have hxk := RX.out W HK.out
  have N0 : Wt.Kp p W (W.alloc (.cells #[.int .i64 x.base] 3)) := (Wt.Kp.refl p W).alloc (by have := HI.out.lt; omega) _
  have HN := Aid.hid (wnum_pc p (some ⟨W.heap.size, 0, none⟩) 1 [x.base] _ _ (HI.out.alloc (.cells #[.int .i64 x.base] 3)) (Wt.ints_new [x.base] HI.out.lt) (by simp) (by have := lb0.out; rw [Pc.len] at this; exact this))
  have HK1 := Aid.hid (HK.out.trans N0)
  clear N0 HK HI hxk
  go_enter Tryz.func58, Tryz.ntmps58
  try simp only [List.append_eq, List.cons_append, List.nil_append]
  subst hW
  try simp only [World.size_alloc] at HN
  go_wp2_with fail
  go_at_call 66
  refine HN.out.mono ?_
  rintro e w1 ⟨rfl, h2, h3⟩
  have h2 : Wt.Is w1 63 p (s ++ Pc.num x.base) := by first | exact h2 | (rw [Pc.nums_one] at h2; exact h2)
  have HI := Aid.hid h2
  have HK := Aid.hid (HK1.out.trans h3)
  clear h2 h3 HN HK1 c0
  have hbk := RB.out w1 HK.out
  have c1 := hbk.cell 1 _ rfl
  clear hbk
  have hxk := RX.out w1 HK.out
  have HN := Aid.hid (wtext_is p x.fields _ w1 HI.out lb1.out)
  have HK1 := HK
  clear HK HI hxk
  go_wp2_with fail
  go_at_call 54
  refine HN.out.mono ?_
  rintro e w2 ⟨rfl, h2, h3⟩
  have HI := Aid.hid h2
  have HK := Aid.hid (HK1.out.trans h3)
  clear h2 h3 HN HK1 c1
  have hbk := RB.out w2 HK.out
  have c2 := hbk.cell 2 _ rfl
  clear hbk
  have hxk := RX.out w2 HK.out
  have HN := Aid.hid (wints_is p x.iA x.ic x.init _ w2 HI.out (hxk.1) lb2.out)
  have HK1 := HK
  clear HK HI hxk
  go_wp2_with fail
  go_at_call 61
  refine HN.out.mono ?_
  rintro e w3 ⟨rfl, h2, h3⟩
  have HI := Aid.hid h2
  have HK := Aid.hid (HK1.out.trans h3)
  clear h2 h3 HN HK1 c2
  have hbk := RB.out w3 HK.out
  have c3 := hbk.cell 3 _ rfl
  clear hbk
  have hxk := RX.out w3 HK.out
  have HN := Aid.hid (wints_is p x.vA x.vc x.vtab _ w3 HI.out (hxk.2.1) lb3.out)
  have HK1 := HK
  clear HK HI hxk
  go_wp2_with fail
  go_at_call 61
  refine HN.out.mono ?_
  rintro e w4 ⟨rfl, h2, h3⟩
  have HI := Aid.hid h2
  have HK := Aid.hid (HK1.out.trans h3)
  clear h2 h3 HN HK1 c3
  have hbk := RB.out w4 HK.out
  have c4 := hbk.cell 4 _ rfl
  clear hbk
  have hxk := RX.out w4 HK.out
  have HN := Aid.hid (wtexts_is p x.sA x.sc x.sigs _ w4 HI.out (hxk.2.2.1) lb4.out)
  have HK1 := HK
  clear HK HI hxk
  go_wp2_with fail
  go_at_call 56
  refine HN.out.mono ?_
  rintro e w5 ⟨rfl, h2, h3⟩
  have HI := Aid.hid h2
  have HK := Aid.hid (HK1.out.trans h3)
  clear h2 h3 HN HK1 c4
  have hbk := RB.out w5 HK.out
  have c5 := hbk.cell 5 _ rfl
  clear hbk
  have hxk := RX.out w5 HK.out
  have HN := Aid.hid (wlist_tab p x.tA x.tc x.tabs _ w5 HI.out (hxk.2.2.2) lb5.out)
  have HK1 := HK
  clear HK HI hxk
  go_wp2_with fail
  go_at_call 93
  refine HN.out.mono ?_
  rintro e w6 ⟨rfl, h2, h3⟩
  have HI := Aid.hid h2
  have HK := Aid.hid (HK1.out.trans h3)
  clear h2 h3 HN HK1 c5
  have hE := EQ.out
  have hI := HI.out
  rw [hE] at hI
  have HJ := Aid.hid hI
  clear hI hE
  go_wp2_with fail
  go_end0
  exact ⟨rfl, HJ.out, K0.out.trans HK.out⟩
set_option maxRecDepth 100000 in
set_option maxHeartbeats 1000000 in
theorem wcod_is (p : Nat) (x : Cod) (s : Pc) (w : World) (hw : Wt.Is w 63 p s) (hx : Cod.At w p x) (lb : (s ++ Pc.cod x).b.length ≤ 100000000000000) :
    Calls Tryz.prog 60 #[.pointer (some ⟨p, 0, none⟩), .agg #[.int .i64 x.cls, .string x.params, .string x.locals, .bool x.ret, .int .i64 x.stack, .slice x.oA x.ops.length x.oc]] w fun e w' => e = .returned (.tuple #[]) ∧ Wt.Is w' 63 p (s ++ Pc.cod x) ∧ Wt.Kp p w w' := by
  have hp := hw.lt
  obtain ⟨W, hW⟩ : ∃ W, ((w.alloc (.cells #[.pointer (some ⟨p, 0, none⟩)] 61)).alloc (.cells #[.int .i64 x.cls, .string x.params, .string x.locals, .bool x.ret, .int .i64 x.stack, .slice x.oA x.ops.length x.oc] 60)) = W := ⟨_, rfl⟩
  have hq0 : Aid.Has W w.heap.size [.pointer (some ⟨p, 0, none⟩)] 61 := by subst hW; exact (Aid.Has.new w [.pointer (some ⟨p, 0, none⟩)] 61).alloc _
  have hb0 : Aid.Has W (w.heap.size + 1) [.int .i64 x.cls, .string x.params, .string x.locals, .bool x.ret, .int .i64 x.stack, .slice x.oA x.ops.length x.oc] 60 := by have := Aid.Has.new (w.alloc (.cells #[.pointer (some ⟨p, 0, none⟩)] 61)) [.int .i64 x.cls, .string x.params, .string x.locals, .bool x.ret, .int .i64 x.stack, .slice x.oA x.ops.length x.oc] 60; rw [World.size_alloc] at this; subst hW; exact this
  have k0 : Wt.Kp p w W := by subst hW; exact (((Wt.Kp.refl p w).alloc (by omega) _).alloc (by simp only [World.size_alloc]; omega) _)
  have i0 : Wt.Is W 63 p s := by subst hW; exact ((hw.alloc _).alloc _)
  have lb0 : Hid ((s ++ Pc.num x.cls).b.length ≤ 100000000000000) := Aid.hid (by simp only [Pc.cod, Pc.len] at lb ⊢; omega)
  have lb1 : Hid ((s ++ Pc.num x.cls ++ Pc.text x.params).b.length ≤ 100000000000000) := Aid.hid (by simp only [Pc.cod, Pc.len] at lb ⊢; omega)
  have lb2 : Hid ((s ++ Pc.num x.cls ++ Pc.text x.params ++ Pc.text x.locals).b.length ≤ 100000000000000) := Aid.hid (by simp only [Pc.cod, Pc.len] at lb ⊢; omega)
  have lb3 : Hid ((s ++ Pc.num x.cls ++ Pc.text x.params ++ Pc.text x.locals ++ Pc.flag x.ret).b.length ≤ 100000000000000) := Aid.hid (by simp only [Pc.cod, Pc.len] at lb ⊢; omega)
  have lb4 : Hid ((s ++ Pc.num x.cls ++ Pc.text x.params ++ Pc.text x.locals ++ Pc.flag x.ret ++ Pc.num x.stack).b.length ≤ 100000000000000) := Aid.hid (by simp only [Pc.cod, Pc.len] at lb ⊢; omega)
  have lb5 : Hid ((s ++ Pc.num x.cls ++ Pc.text x.params ++ Pc.text x.locals ++ Pc.flag x.ret ++ Pc.num x.stack ++ Pc.list Pc.op x.ops).b.length ≤ 100000000000000) := Aid.hid (by simp only [Pc.cod, Pc.len] at lb ⊢; omega)
  have EQ : Hid (s ++ Pc.num x.cls ++ Pc.text x.params ++ Pc.text x.locals ++ Pc.flag x.ret ++ Pc.num x.stack ++ Pc.list Pc.op x.ops = s ++ Pc.cod x) := Aid.hid (by simp only [Pc.cod, Pc.assoc])
  have hmf : ∀ (fn : Fn) (first cap : Array Value) (w : World), (Instr.makeFunc fn first cap).run Tryz.prog w = .ok (.func fn first cap) w := fun _ _ _ _ => rfl
  have HP := Aid.hid hp
  have HX := Aid.hid hx
  have K0 := Aid.hid k0
  have HB := Aid.hid hb0
  have HQ := Aid.hid hq0
  have HI := Aid.hid i0
  have HK := Aid.hid (Wt.Kp.refl p W)
  clear hw lb hp k0 hb0 i0 hx hq0
  have RB : Hid (∀ wr, Wt.Kp p W wr → Aid.Has wr (w.heap.size + 1) [.int .i64 x.cls, .string x.params, .string x.locals, .bool x.ret, .int .i64 x.stack, .slice x.oA x.ops.length x.oc] 60) := fun wr k => k.2 _ _ _ (by have := HP.out; omega) (by decide) HB.out
  have RQ : Hid (∀ wr, Wt.Kp p W wr → Aid.Has wr w.heap.size [.pointer (some ⟨p, 0, none⟩)] 61) := fun wr k => k.2 _ _ _ (by have := HP.out; omega) (by decide) HQ.out
  have RX : Hid (∀ wr, Wt.Kp p W wr → Cod.At wr p x) := fun wr k => HX.out.below (K0.out.trans k).1 (Nat.le_refl p)
  clear HB HQ HX
  have hbk := RB.out W HK.out
  have c0 := hbk.cell 0 _ rfl
  clear hbk
  have q0 := (RQ.out W HK.out).cell 0 _ rfl
  have hxk := RX.out W HK.out
  have N0 : Wt.Kp p W (W.alloc (.cells #[.int .i64 x.cls] 3)) := (Wt.Kp.refl p W).alloc (by have := HI.out.lt; omega) _
  have HN := Aid.hid (wnum_pc p (some ⟨W.heap.size, 0, none⟩) 1 [x.cls] _ _ (HI.out.alloc (.cells #[.int .i64 x.cls] 3)) (Wt.ints_new [x.cls] HI.out.lt) (by simp) (by have := lb0.out; rw [Pc.len] at this; exact this))
  have HK1 := Aid.hid (HK.out.trans N0)
  clear N0 HK HI hxk
  go_enter Tryz.func60, Tryz.ntmps60
  try simp only [List.append_eq, List.cons_append, List.nil_append]
  subst hW
  try simp only [World.size_alloc] at HN
  go_wp2_with fail
  go_at_call 66
  refine HN.out.mono ?_
  rintro e w1 ⟨rfl, h2, h3⟩
  have h2 : Wt.Is w1 63 p (s ++ Pc.num x.cls) := by first | exact h2 | (rw [Pc.nums_one] at h2; exact h2)
  have HI := Aid.hid h2
  have HK := Aid.hid (HK1.out.trans h3)
  clear h2 h3 HN HK1 c0 q0
  have hbk := RB.out w1 HK.out
  have c1 := hbk.cell 1 _ rfl
  clear hbk
  have q0 := (RQ.out w1 HK.out).cell 0 _ rfl
  have hxk := RX.out w1 HK.out
  have HN := Aid.hid (wtext_is p x.params _ w1 HI.out lb1.out)
  have HK1 := HK
  clear HK HI hxk
  go_wp2_with fail
  go_at_call 54
  refine HN.out.mono ?_
  rintro e w2 ⟨rfl, h2, h3⟩
  have HI := Aid.hid h2
  have HK := Aid.hid (HK1.out.trans h3)
  clear h2 h3 HN HK1 c1 q0
  have hbk := RB.out w2 HK.out
  have c2 := hbk.cell 2 _ rfl
  clear hbk
  have q0 := (RQ.out w2 HK.out).cell 0 _ rfl
  have hxk := RX.out w2 HK.out
  have HN := Aid.hid (wtext_is p x.locals _ w2 HI.out lb2.out)
  have HK1 := HK
  clear HK HI hxk
  go_wp2_with fail
  go_at_call 54
  refine HN.out.mono ?_
  rintro e w3 ⟨rfl, h2, h3⟩
  have HI := Aid.hid h2
  have HK := Aid.hid (HK1.out.trans h3)
  clear h2 h3 HN HK1 c2 q0
  have hbk := RB.out w3 HK.out
  have c3 := hbk.cell 3 _ rfl
  clear hbk
  have q0 := (RQ.out w3 HK.out).cell 0 _ rfl
  have hxk := RX.out w3 HK.out
  have HN := Aid.hid (wyes_is p x.ret _ w3 HI.out lb3.out)
  have HK1 := HK
  clear HK HI hxk
  go_wp2_with fail
  go_at_call 95
  refine HN.out.mono ?_
  rintro e w4 ⟨rfl, h2, h3⟩
  have HI := Aid.hid h2
  have HK := Aid.hid (HK1.out.trans h3)
  clear h2 h3 HN HK1 c3 q0
  have hbk := RB.out w4 HK.out
  have c4 := hbk.cell 4 _ rfl
  clear hbk
  have q0 := (RQ.out w4 HK.out).cell 0 _ rfl
  have hxk := RX.out w4 HK.out
  have N0 : Wt.Kp p w4 (w4.alloc (.cells #[.int .i64 x.stack] 3)) := (Wt.Kp.refl p w4).alloc (by have := HI.out.lt; omega) _
  have HN := Aid.hid (wnum_pc p (some ⟨w4.heap.size, 0, none⟩) 1 [x.stack] _ _ (HI.out.alloc (.cells #[.int .i64 x.stack] 3)) (Wt.ints_new [x.stack] HI.out.lt) (by simp) (by have := lb4.out; rw [Pc.len] at this; exact this))
  have HK1 := Aid.hid (HK.out.trans N0)
  clear N0 HK HI hxk
  go_wp2_with fail
  go_at_call 66
  refine HN.out.mono ?_
  rintro e w5 ⟨rfl, h2, h3⟩
  have h2 : Wt.Is w5 63 p (s ++ Pc.num x.cls ++ Pc.text x.params ++ Pc.text x.locals ++ Pc.flag x.ret ++ Pc.num x.stack) := by first | exact h2 | (rw [Pc.nums_one] at h2; exact h2)
  have HI := Aid.hid h2
  have HK := Aid.hid (HK1.out.trans h3)
  clear h2 h3 HN HK1 c4 q0
  have hbk := RB.out w5 HK.out
  have c5 := hbk.cell 5 _ rfl
  clear hbk
  have q0 := (RQ.out w5 HK.out).cell 0 _ rfl
  have hxk := RX.out w5 HK.out
  have HN := Aid.hid (wlist_op p w.heap.size x.oA x.oc x.ops _ w5 HI.out (RQ.out w5 HK.out) (by have := HP.out; omega) (hxk) lb5.out)
  have HK1 := HK
  clear HK HI hxk
  go_wp2_with fail
  go_at_call 96
  refine HN.out.mono ?_
  rintro e w6 ⟨rfl, h2, h3⟩
  have HI := Aid.hid h2
  have HK := Aid.hid (HK1.out.trans h3)
  clear h2 h3 HN HK1 c5 q0
  have hE := EQ.out
  have hI := HI.out
  rw [hE] at hI
  have HJ := Aid.hid hI
  clear hI hE
  go_wp2_with fail
  go_end0
  exact ⟨rfl, HJ.out, K0.out.trans HK.out⟩
set_option maxRecDepth 100000 in
set_option maxHeartbeats 1000000 in
theorem wlnk_is (p : Nat) (x : Lnk) (s : Pc) (w : World) (hw : Wt.Is w 63 p s) (lb : (s ++ Pc.lnk x).b.length ≤ 100000000000000) :
    Calls Tryz.prog 63 #[.pointer (some ⟨p, 0, none⟩), .agg #[.int .i64 x.glob, .int .i64 x.slot, .bool x.bool]] w fun e w' => e = .returned (.tuple #[]) ∧ Wt.Is w' 63 p (s ++ Pc.lnk x) ∧ Wt.Kp p w w' := by
  have hp := hw.lt
  obtain ⟨W, hW⟩ : ∃ W, (w.alloc (.cells #[.int .i64 x.glob, .int .i64 x.slot, .bool x.bool] 85)) = W := ⟨_, rfl⟩
  have hb0 : Aid.Has W w.heap.size [.int .i64 x.glob, .int .i64 x.slot, .bool x.bool] 85 := by subst hW; exact Aid.Has.new w [.int .i64 x.glob, .int .i64 x.slot, .bool x.bool] 85
  have k0 : Wt.Kp p w W := by subst hW; exact ((Wt.Kp.refl p w).alloc (by omega) _)
  have i0 : Wt.Is W 63 p s := by subst hW; exact (hw.alloc _)
  have lb0 : Hid ((s ++ Pc.nums [x.glob, x.slot]).b.length ≤ 100000000000000) := Aid.hid (by simp only [Pc.lnk, Pc.len] at lb ⊢; omega)
  have lb1 : Hid ((s ++ Pc.nums [x.glob, x.slot] ++ Pc.flag x.bool).b.length ≤ 100000000000000) := Aid.hid (by simp only [Pc.lnk, Pc.len] at lb ⊢; omega)
  have EQ : Hid (s ++ Pc.nums [x.glob, x.slot] ++ Pc.flag x.bool = s ++ Pc.lnk x) := Aid.hid (by simp only [Pc.lnk, Pc.assoc])
  have hmf : ∀ (fn : Fn) (first cap : Array Value) (w : World), (Instr.makeFunc fn first cap).run Tryz.prog w = .ok (.func fn first cap) w := fun _ _ _ _ => rfl
  have HP := Aid.hid hp
  have K0 := Aid.hid k0
  have HB := Aid.hid hb0
  have HI := Aid.hid i0
  have HK := Aid.hid (Wt.Kp.refl p W)
  clear hw lb hp k0 hb0 i0
  have RB : Hid (∀ wr, Wt.Kp p W wr → Aid.Has wr w.heap.size [.int .i64 x.glob, .int .i64 x.slot, .bool x.bool] 85) := fun wr k => k.2 _ _ _ (by have := HP.out; omega) (by decide) HB.out
  clear HB
  have hbk := RB.out W HK.out
  have c0 := hbk.cell 0 _ rfl
  have c1 := hbk.cell 1 _ rfl
  clear hbk
  have N0 : Wt.Kp p W (W.alloc (.cells #[.int .i64 x.glob, .int .i64 x.slot] 3)) := (Wt.Kp.refl p W).alloc (by have := HI.out.lt; omega) _
  have HN := Aid.hid (wnum_pc p (some ⟨W.heap.size, 0, none⟩) 2 [x.glob, x.slot] _ _ (HI.out.alloc (.cells #[.int .i64 x.glob, .int .i64 x.slot] 3)) (Wt.ints_new [x.glob, x.slot] HI.out.lt) (by simp) (by have := lb0.out; rw [Pc.len] at this; exact this))
  have HK1 := Aid.hid (HK.out.trans N0)
  clear N0 HK HI
  go_enter Tryz.func63, Tryz.ntmps63
  try simp only [List.append_eq, List.cons_append, List.nil_append]
  subst hW
  try simp only [World.size_alloc] at HN
  go_wp2_with fail
  go_at_call 66
  refine HN.out.mono ?_
  rintro e w1 ⟨rfl, h2, h3⟩
  have h2 : Wt.Is w1 63 p (s ++ Pc.nums [x.glob, x.slot]) := by first | exact h2 | (rw [Pc.nums_one] at h2; exact h2)
  have HI := Aid.hid h2
  have HK := Aid.hid (HK1.out.trans h3)
  clear h2 h3 HN HK1 c0 c1
  have hbk := RB.out w1 HK.out
  have c2 := hbk.cell 2 _ rfl
  clear hbk
  have HN := Aid.hid (wyes_is p x.bool _ w1 HI.out lb1.out)
  have HK1 := HK
  clear HK HI
  go_wp2_with fail
  go_at_call 95
  refine HN.out.mono ?_
  rintro e w2 ⟨rfl, h2, h3⟩
  have HI := Aid.hid h2
  have HK := Aid.hid (HK1.out.trans h3)
  clear h2 h3 HN HK1 c2
  have hE := EQ.out
  have hI := HI.out
  rw [hE] at hI
  have HJ := Aid.hid hI
  clear hI hE
  go_wp2_with fail
  go_end0
  exact ⟨rfl, HJ.out, K0.out.trans HK.out⟩
end Go.Proofs.YtaogegeidbclaaaGreatDoor
