/- An image: laid. -/
import Derived.Test.YtaogegeidbclaaaGreatDoorImgParts
namespace Go.Proofs.YtaogegeidbclaaaGreatDoor
open Go.RowKit

set_option maxRecDepth 100000 in
set_option maxHeartbeats 1000000 in
theorem wlist_fc (p : Nat) (A : Option Addr) (c : Nat) (l : List Fc) (s : Pc) (w : World) (hw : Wt.Is w 63 p s) (hl : LFcs w p A l) (lb : (s ++ Pc.list Pc.fc l).b.length ≤ 100000000000000) :
    Calls Tryz.prog 55 #[.pointer (some ⟨p, 0, none⟩), .slice A l.length c, .func (.func 56) #[.pointer (some ⟨p, 0, none⟩)] #[]] w fun e w' => e = .returned (.tuple #[]) ∧ Wt.Is w' 63 p (s ++ Pc.list Pc.fc l) ∧ Wt.Kp p w w' := by
  have lm := Pc.list_many Pc.fc s l
  have HW := Aid.hid hw
  have LB := Aid.hid lb
  have ll : l.length ≤ 9223372036854775807 := hl.1
  have HL := Aid.hid hl
  clear hw lb hl
  go_enter Tryz.func55, Tryz.ntmps55
  try simp only [List.append_eq, List.cons_append, List.nil_append]
  go_wp2_with fail
  go_at_call 91
  refine (wmany_is p _ s w HW.out (by have := LB.out; omega)).mono ?_
  rintro e w1 ⟨rfl, h2, h3⟩
  have HI1 := Aid.hid h2
  have HK1 := Aid.hid h3
  clear h2 h3 lm
  go_wp2_with fail
  go_loopw [14] (fun vi wr => ∃ k : Nat, vi = .int .i64 k ∧ k ≤ l.length ∧ Hid (Wt.Is wr 63 p (Pc.upto Pc.fc s l k)) ∧ Hid (Wt.Kp p w wr)) (fun vi _ => l.length - (intOf vi).toNat)
  case atStart => exact ⟨0, rfl, Nat.zero_le _, Aid.hid (by rw [Pc.upto_zero]; exact HI1.out), HK1⟩
  case round =>
    obtain ⟨k, rfl, hk, HI, HK⟩ := hrel
    by_cases hlt : k < l.length
    · obtain ⟨x, hx⟩ : ∃ x, l[k]? = some x := ⟨_, List.getElem?_eq_getElem hlt⟩
      have hlw := HL.out.below HK.out.1 (Nat.le_refl p)
      obtain ⟨b, off, rfl, hbp, hc⟩ := Rows.get hlw.2.1 hx
      have x0 := hc 0 _ rfl
      simp only [Nat.mul_one, Nat.add_zero] at x0
      have hp := HI.out.lt
      have hxa := hlw.2.2 x (List.mem_of_getElem? hx)
      have lx := Pc.upto_lt Pc.fc s l k x hx
      have NX : Hid (Pc.upto Pc.fc s l (k + 1) = Pc.upto Pc.fc s l k ++ Pc.fc x) := Aid.hid (Pc.upto_next Pc.fc s l k x hx)
      have HXA := Aid.hid hxa
      clear hc hx hlw hxa
      go_wp2_with fail
      go_at_call 56
      refine (wfc_is p x (Pc.upto Pc.fc s l k) _ HI.out HXA.out (by have := LB.out; omega)).mono ?_
      rintro e w2 ⟨rfl, h2, h3⟩
      have HI2 := Aid.hid h2
      have HK2 := Aid.hid (HK.out.trans h3)
      clear h2 h3
      go_wp2_with fail
      go_roundw
      case rel => exact ⟨k + 1, by go_num, by omega, Aid.hid (by rw [NX.out]; exact HI2.out), HK2⟩
      case measure => simp [intOf]; omega
    · have hE := Pc.upto_end Pc.fc s l k (by omega)
      go_wp2_with fail
      go_end0
      exact ⟨rfl, by rw [← hE]; exact HI.out, HK.out⟩
set_option maxRecDepth 100000 in
set_option maxHeartbeats 1000000 in
theorem wlist_desc (p : Nat) (A : Option Addr) (c : Nat) (l : List Desc) (s : Pc) (w : World) (hw : Wt.Is w 63 p s) (hl : LDescs w p A l) (lb : (s ++ Pc.list Pc.desc l).b.length ≤ 100000000000000) :
    Calls Tryz.prog 57 #[.pointer (some ⟨p, 0, none⟩), .slice A l.length c, .func (.func 58) #[.pointer (some ⟨p, 0, none⟩)] #[]] w fun e w' => e = .returned (.tuple #[]) ∧ Wt.Is w' 63 p (s ++ Pc.list Pc.desc l) ∧ Wt.Kp p w w' := by
  have lm := Pc.list_many Pc.desc s l
  have HW := Aid.hid hw
  have LB := Aid.hid lb
  have ll : l.length ≤ 9223372036854775807 := hl.1
  have HL := Aid.hid hl
  clear hw lb hl
  go_enter Tryz.func57, Tryz.ntmps57
  try simp only [List.append_eq, List.cons_append, List.nil_append]
  go_wp2_with fail
  go_at_call 91
  refine (wmany_is p _ s w HW.out (by have := LB.out; omega)).mono ?_
  rintro e w1 ⟨rfl, h2, h3⟩
  have HI1 := Aid.hid h2
  have HK1 := Aid.hid h3
  clear h2 h3 lm
  go_wp2_with fail
  go_loopw [14] (fun vi wr => ∃ k : Nat, vi = .int .i64 k ∧ k ≤ l.length ∧ Hid (Wt.Is wr 63 p (Pc.upto Pc.desc s l k)) ∧ Hid (Wt.Kp p w wr)) (fun vi _ => l.length - (intOf vi).toNat)
  case atStart => exact ⟨0, rfl, Nat.zero_le _, Aid.hid (by rw [Pc.upto_zero]; exact HI1.out), HK1⟩
  case round =>
    obtain ⟨k, rfl, hk, HI, HK⟩ := hrel
    by_cases hlt : k < l.length
    · obtain ⟨x, hx⟩ : ∃ x, l[k]? = some x := ⟨_, List.getElem?_eq_getElem hlt⟩
      have hlw := HL.out.below HK.out.1 (Nat.le_refl p)
      obtain ⟨b, off, rfl, hbp, hc⟩ := Rows.get hlw.2.1 hx
      have x0 := hc 0 _ rfl
      simp only [Nat.mul_one, Nat.add_zero] at x0
      have x1 := hc 1 _ rfl
      have x2 := hc 2 _ rfl
      have x3 := hc 3 _ rfl
      have x4 := hc 4 _ rfl
      have x5 := hc 5 _ rfl
      have hp := HI.out.lt
      have hxa := hlw.2.2 x (List.mem_of_getElem? hx)
      have lx := Pc.upto_lt Pc.desc s l k x hx
      have NX : Hid (Pc.upto Pc.desc s l (k + 1) = Pc.upto Pc.desc s l k ++ Pc.desc x) := Aid.hid (Pc.upto_next Pc.desc s l k x hx)
      have HXA := Aid.hid hxa
      clear hc hx hlw hxa
      go_wp2_with fail
      go_at_call 58
      have W0 : Wt.Kp p wr (wr.alloc (.cells #[.int .i64 x.base, .string x.fields, .slice x.iA x.init.length x.ic, .slice x.vA x.vtab.length x.vc, .slice x.sA x.sigs.length x.sc, .slice x.tA x.tabs.length x.tc] 55)) := (Wt.Kp.refl p wr).alloc (by omega) _
      refine (wdesc_is p x (Pc.upto Pc.desc s l k) _ (HI.out.alloc _) (HXA.out.below W0.1 (Nat.le_refl p)) (by have := LB.out; omega)).mono ?_
      rintro e w2 ⟨rfl, h2, h3⟩
      have HI2 := Aid.hid h2
      have HK2 := Aid.hid ((HK.out.trans W0).trans h3)
      clear h2 h3
      go_wp2_with fail
      go_roundw
      case rel => exact ⟨k + 1, by go_num, by omega, Aid.hid (by rw [NX.out]; exact HI2.out), HK2⟩
      case measure => simp [intOf]; omega
    · have hE := Pc.upto_end Pc.desc s l k (by omega)
      go_wp2_with fail
      go_end0
      exact ⟨rfl, by rw [← hE]; exact HI.out, HK.out⟩
set_option maxRecDepth 100000 in
set_option maxHeartbeats 1000000 in
theorem wlist_cod (p : Nat) (A : Option Addr) (c : Nat) (l : List Cod) (s : Pc) (w : World) (hw : Wt.Is w 63 p s) (hl : LCods w p A l) (lb : (s ++ Pc.list Pc.cod l).b.length ≤ 100000000000000) :
    Calls Tryz.prog 59 #[.pointer (some ⟨p, 0, none⟩), .slice A l.length c, .func (.func 60) #[.pointer (some ⟨p, 0, none⟩)] #[]] w fun e w' => e = .returned (.tuple #[]) ∧ Wt.Is w' 63 p (s ++ Pc.list Pc.cod l) ∧ Wt.Kp p w w' := by
  have lm := Pc.list_many Pc.cod s l
  have HW := Aid.hid hw
  have LB := Aid.hid lb
  have ll : l.length ≤ 9223372036854775807 := hl.1
  have HL := Aid.hid hl
  clear hw lb hl
  go_enter Tryz.func59, Tryz.ntmps59
  try simp only [List.append_eq, List.cons_append, List.nil_append]
  go_wp2_with fail
  go_at_call 91
  refine (wmany_is p _ s w HW.out (by have := LB.out; omega)).mono ?_
  rintro e w1 ⟨rfl, h2, h3⟩
  have HI1 := Aid.hid h2
  have HK1 := Aid.hid h3
  clear h2 h3 lm
  go_wp2_with fail
  go_loopw [14] (fun vi wr => ∃ k : Nat, vi = .int .i64 k ∧ k ≤ l.length ∧ Hid (Wt.Is wr 63 p (Pc.upto Pc.cod s l k)) ∧ Hid (Wt.Kp p w wr)) (fun vi _ => l.length - (intOf vi).toNat)
  case atStart => exact ⟨0, rfl, Nat.zero_le _, Aid.hid (by rw [Pc.upto_zero]; exact HI1.out), HK1⟩
  case round =>
    obtain ⟨k, rfl, hk, HI, HK⟩ := hrel
    by_cases hlt : k < l.length
    · obtain ⟨x, hx⟩ : ∃ x, l[k]? = some x := ⟨_, List.getElem?_eq_getElem hlt⟩
      have hlw := HL.out.below HK.out.1 (Nat.le_refl p)
      obtain ⟨b, off, rfl, hbp, hc⟩ := Rows.get hlw.2.1 hx
      have x0 := hc 0 _ rfl
      simp only [Nat.mul_one, Nat.add_zero] at x0
      have x1 := hc 1 _ rfl
      have x2 := hc 2 _ rfl
      have x3 := hc 3 _ rfl
      have x4 := hc 4 _ rfl
      have x5 := hc 5 _ rfl
      have hp := HI.out.lt
      have hxa := hlw.2.2 x (List.mem_of_getElem? hx)
      have lx := Pc.upto_lt Pc.cod s l k x hx
      have NX : Hid (Pc.upto Pc.cod s l (k + 1) = Pc.upto Pc.cod s l k ++ Pc.cod x) := Aid.hid (Pc.upto_next Pc.cod s l k x hx)
      have HXA := Aid.hid hxa
      clear hc hx hlw hxa
      go_wp2_with fail
      go_at_call 60
      have W0 : Wt.Kp p wr (wr.alloc (.cells #[.int .i64 x.cls, .string x.params, .string x.locals, .bool x.ret, .int .i64 x.stack, .slice x.oA x.ops.length x.oc] 60)) := (Wt.Kp.refl p wr).alloc (by omega) _
      refine (wcod_is p x (Pc.upto Pc.cod s l k) _ (HI.out.alloc _) (HXA.out.below W0.1 (Nat.le_refl p)) (by have := LB.out; omega)).mono ?_
      rintro e w2 ⟨rfl, h2, h3⟩
      have HI2 := Aid.hid h2
      have HK2 := Aid.hid ((HK.out.trans W0).trans h3)
      clear h2 h3
      go_wp2_with fail
      go_roundw
      case rel => exact ⟨k + 1, by go_num, by omega, Aid.hid (by rw [NX.out]; exact HI2.out), HK2⟩
      case measure => simp [intOf]; omega
    · have hE := Pc.upto_end Pc.cod s l k (by omega)
      go_wp2_with fail
      go_end0
      exact ⟨rfl, by rw [← hE]; exact HI.out, HK.out⟩
set_option maxRecDepth 100000 in
set_option maxHeartbeats 1000000 in
theorem wlist_lnk (p : Nat) (A : Option Addr) (c : Nat) (l : List Lnk) (s : Pc) (w : World) (hw : Wt.Is w 63 p s) (hl : LLnks w p A l) (lb : (s ++ Pc.list Pc.lnk l).b.length ≤ 100000000000000) :
    Calls Tryz.prog 62 #[.pointer (some ⟨p, 0, none⟩), .slice A l.length c, .func (.func 63) #[.pointer (some ⟨p, 0, none⟩)] #[]] w fun e w' => e = .returned (.tuple #[]) ∧ Wt.Is w' 63 p (s ++ Pc.list Pc.lnk l) ∧ Wt.Kp p w w' := by
  have lm := Pc.list_many Pc.lnk s l
  have HW := Aid.hid hw
  have LB := Aid.hid lb
  have ll : l.length ≤ 9223372036854775807 := hl.1
  have HL := Aid.hid hl
  clear hw lb hl
  go_enter Tryz.func62, Tryz.ntmps62
  try simp only [List.append_eq, List.cons_append, List.nil_append]
  go_wp2_with fail
  go_at_call 91
  refine (wmany_is p _ s w HW.out (by have := LB.out; omega)).mono ?_
  rintro e w1 ⟨rfl, h2, h3⟩
  have HI1 := Aid.hid h2
  have HK1 := Aid.hid h3
  clear h2 h3 lm
  go_wp2_with fail
  go_loopw [14] (fun vi wr => ∃ k : Nat, vi = .int .i64 k ∧ k ≤ l.length ∧ Hid (Wt.Is wr 63 p (Pc.upto Pc.lnk s l k)) ∧ Hid (Wt.Kp p w wr)) (fun vi _ => l.length - (intOf vi).toNat)
  case atStart => exact ⟨0, rfl, Nat.zero_le _, Aid.hid (by rw [Pc.upto_zero]; exact HI1.out), HK1⟩
  case round =>
    obtain ⟨k, rfl, hk, HI, HK⟩ := hrel
    by_cases hlt : k < l.length
    · obtain ⟨x, hx⟩ : ∃ x, l[k]? = some x := ⟨_, List.getElem?_eq_getElem hlt⟩
      have hlw := HL.out.below HK.out.1 (Nat.le_refl p)
      obtain ⟨b, off, rfl, hbp, hc⟩ := Rows.get hlw.2 hx
      have x0 := hc 0 _ rfl
      simp only [Nat.mul_one, Nat.add_zero] at x0
      have x1 := hc 1 _ rfl
      have x2 := hc 2 _ rfl
      have hp := HI.out.lt
      have lx := Pc.upto_lt Pc.lnk s l k x hx
      have NX : Hid (Pc.upto Pc.lnk s l (k + 1) = Pc.upto Pc.lnk s l k ++ Pc.lnk x) := Aid.hid (Pc.upto_next Pc.lnk s l k x hx)
      clear hc hx hlw
      go_wp2_with fail
      go_at_call 63
      have W0 : Wt.Kp p wr (wr.alloc (.cells #[.int .i64 x.glob, .int .i64 x.slot, .bool x.bool] 85)) := (Wt.Kp.refl p wr).alloc (by omega) _
      refine (wlnk_is p x (Pc.upto Pc.lnk s l k) _ (HI.out.alloc _) (by have := LB.out; omega)).mono ?_
      rintro e w2 ⟨rfl, h2, h3⟩
      have HI2 := Aid.hid h2
      have HK2 := Aid.hid ((HK.out.trans W0).trans h3)
      clear h2 h3
      go_wp2_with fail
      go_roundw
      case rel => exact ⟨k + 1, by go_num, by omega, Aid.hid (by rw [NX.out]; exact HI2.out), HK2⟩
      case measure => simp [intOf]; omega
    · have hE := Pc.upto_end Pc.lnk s l k (by omega)
      go_wp2_with fail
      go_end0
      exact ⟨rfl, by rw [← hE]; exact HI.out, HK.out⟩
set_option maxRecDepth 100000 in
set_option maxHeartbeats 1000000 in
theorem wjobc_is (p q : Nat) (x : Opr) (s : Pc) (w : World) (hw : Wt.Is w 63 p s) (hq : Aid.Has w q [.pointer (some ⟨p, 0, none⟩)] 61) (lb : (s ++ Pc.op x).b.length ≤ 100000000000000) :
    Calls Tryz.prog 65 #[.agg #[.int .i64 x.k, .int .i64 x.a, .int .i64 x.b], .pointer (some ⟨q, 0, none⟩)] w fun e w' => e = .returned (.tuple #[]) ∧ Wt.Is w' 63 p (s ++ (Pc.op x)) ∧ Wt.Kp p w w' := by
  have hp := hw.lt
  have c0 := hq.cell 0 _ rfl
  have lb' : s.b.length + 12 ≤ 100000000000000 := by rw [Pc.len] at lb; exact lb
  have hb := Aid.Has.new w [.int .i64 x.k, .int .i64 x.a, .int .i64 x.b] 77
  have b0 := hb.cell 0 _ rfl
  have b1 := hb.cell 1 _ rfl
  have b2 := hb.cell 2 _ rfl
  have c1 := (hq.alloc (.cells #[.int .i64 x.k, .int .i64 x.a, .int .i64 x.b] 77)).cell 0 _ rfl
  have HN := Aid.hid (wnum_pc p (some ⟨(w.alloc (.cells #[.int .i64 x.k, .int .i64 x.a, .int .i64 x.b] 77)).heap.size, 0, none⟩) 3 [x.k, x.a, x.b] s _ ((hw.alloc (.cells #[.int .i64 x.k, .int .i64 x.a, .int .i64 x.b] 77)).alloc _) (Wt.ints_new [x.k, x.a, x.b] (by simp; omega)) (by simp) (by simpa using lb'))
  have HK := Aid.hid (((Wt.Kp.refl p w).alloc (by omega) (.cells #[.int .i64 x.k, .int .i64 x.a, .int .i64 x.b] 77)).alloc (by simp; omega) (.cells #[.int .i64 x.k, .int .i64 x.a, .int .i64 x.b] 3))
  simp only [World.size_alloc] at HN
  clear hb
  clear hw hq lb lb'
  go_enter Tryz.func65, Tryz.ntmps65
  try simp only [List.append_eq, List.cons_append, List.nil_append]
  go_wp2_with fail
  go_at_call 66
  refine HN.out.mono ?_
  rintro e w2 ⟨rfl, h2, h3⟩
  have h2 : Wt.Is w2 63 p (s ++ Pc.op x) := h2
  have h4 := HK.out.trans h3
  go_wp2_with fail
  go_end0
  exact ⟨rfl, h2, h4⟩
set_option maxRecDepth 100000 in
set_option maxHeartbeats 1000000 in
theorem wlist_job (p : Nat) (q : Nat) (A : Option Addr) (c : Nat) (l : List Opr) (s : Pc) (w : World) (hw : Wt.Is w 63 p s) (hq : Aid.Has w q [.pointer (some ⟨p, 0, none⟩)] 61) (hqp : q ≠ p) (hl : LOps w p A l) (lb : (s ++ Pc.list Pc.op l).b.length ≤ 100000000000000) :
    Calls Tryz.prog 64 #[.pointer (some ⟨p, 0, none⟩), .slice A l.length c, .func (.func 65) #[] #[.pointer (some ⟨q, 0, none⟩)]] w fun e w' => e = .returned (.tuple #[]) ∧ Wt.Is w' 63 p (s ++ Pc.list Pc.op l) ∧ Wt.Kp p w w' := by
  have lm := Pc.list_many Pc.op s l
  have HW := Aid.hid hw
  have LB := Aid.hid lb
  have ll : l.length ≤ 9223372036854775807 := hl.1
  have HL := Aid.hid hl
  have HQ0 := Aid.hid hq
  clear hw lb hl hq
  go_enter Tryz.func64, Tryz.ntmps64
  try simp only [List.append_eq, List.cons_append, List.nil_append]
  go_wp2_with fail
  go_at_call 91
  refine (wmany_is p _ s w HW.out (by have := LB.out; omega)).mono ?_
  rintro e w1 ⟨rfl, h2, h3⟩
  have HI1 := Aid.hid h2
  have HK1 := Aid.hid h3
  clear h2 h3 lm
  go_wp2_with fail
  go_loopw [14] (fun vi wr => ∃ k : Nat, vi = .int .i64 k ∧ k ≤ l.length ∧ Hid (Wt.Is wr 63 p (Pc.upto Pc.op s l k)) ∧ Hid (Wt.Kp p w wr)) (fun vi _ => l.length - (intOf vi).toNat)
  case atStart => exact ⟨0, rfl, Nat.zero_le _, Aid.hid (by rw [Pc.upto_zero]; exact HI1.out), HK1⟩
  case round =>
    obtain ⟨k, rfl, hk, HI, HK⟩ := hrel
    by_cases hlt : k < l.length
    · obtain ⟨x, hx⟩ : ∃ x, l[k]? = some x := ⟨_, List.getElem?_eq_getElem hlt⟩
      have hlw := HL.out.below HK.out.1 (Nat.le_refl p)
      obtain ⟨b, off, rfl, hbp, hc⟩ := Rows.get hlw.2 hx
      have x0 := hc 0 _ rfl
      simp only [Nat.mul_one, Nat.add_zero] at x0
      have x1 := hc 1 _ rfl
      have x2 := hc 2 _ rfl
      have hp := HI.out.lt
      have HQ := HK.out.2 q _ _ hqp (by decide) HQ0.out
      have lx := Pc.upto_lt Pc.op s l k x hx
      have NX : Hid (Pc.upto Pc.op s l (k + 1) = Pc.upto Pc.op s l k ++ Pc.op x) := Aid.hid (Pc.upto_next Pc.op s l k x hx)
      clear hc hx hlw
      go_wp2_with fail
      go_at_call 65
      have W0 : Wt.Kp p wr (wr.alloc (.cells #[.int .i64 x.k, .int .i64 x.a, .int .i64 x.b] 77)) := (Wt.Kp.refl p wr).alloc (by omega) _
      refine (wjobc_is p q x (Pc.upto Pc.op s l k) _ (HI.out.alloc _) (W0.2 q _ _ hqp (by decide) HQ) (by have := LB.out; omega)).mono ?_
      rintro e w2 ⟨rfl, h2, h3⟩
      have HI2 := Aid.hid h2
      have HK2 := Aid.hid ((HK.out.trans W0).trans h3)
      clear h2 h3
      go_wp2_with fail
      go_roundw
      case rel => exact ⟨k + 1, by go_num, by omega, Aid.hid (by rw [NX.out]; exact HI2.out), HK2⟩
      case measure => simp [intOf]; omega
    · have hE := Pc.upto_end Pc.op s l k (by omega)
      go_wp2_with fail
      go_end0
      exact ⟨rfl, by rw [← hE]; exact HI.out, HK.out⟩
set_option maxRecDepth 100000 in
set_option maxHeartbeats 1000000 in
theorem wimg_is (p : Nat) (x : Img) (s : Pc) (w : World) (hw : Wt.Is w 63 p s) (hx : Img.At w p x) (lb : (s ++ Pc.img x).b.length ≤ 100000000000000) :
    Calls Tryz.prog 20 #[.pointer (some ⟨p, 0, none⟩), .agg #[.slice x.fA x.faces.length x.fc, .slice x.cA x.classes.length x.cc, .slice x.dA x.codes.length x.dc, .slice x.nA x.insts.length x.nc, .string x.globals, .slice x.iA x.init.length x.ic, .slice x.bA x.blocks.length x.bc, .slice x.xA x.ins.length x.xc, .slice x.oA x.outs.length x.oc, .slice x.jA x.jobs.length x.jc, .int .i64 x.d, .int .i64 x.w]] w fun e w' => e = .returned (.tuple #[]) ∧ Wt.Is w' 63 p (s ++ Pc.img x) ∧ Wt.Kp p w w' := by
  have hp := hw.lt
  obtain ⟨W, hW⟩ : ∃ W, ((w.alloc (.cells #[.pointer (some ⟨p, 0, none⟩)] 61)).alloc (.cells #[.slice x.fA x.faces.length x.fc, .slice x.cA x.classes.length x.cc, .slice x.dA x.codes.length x.dc, .slice x.nA x.insts.length x.nc, .string x.globals, .slice x.iA x.init.length x.ic, .slice x.bA x.blocks.length x.bc, .slice x.xA x.ins.length x.xc, .slice x.oA x.outs.length x.oc, .slice x.jA x.jobs.length x.jc, .int .i64 x.d, .int .i64 x.w] 29)) = W := ⟨_, rfl⟩
  have hq0 : Aid.Has W w.heap.size [.pointer (some ⟨p, 0, none⟩)] 61 := by subst hW; exact (Aid.Has.new w [.pointer (some ⟨p, 0, none⟩)] 61).alloc _
  have hb0 : Aid.Has W (w.heap.size + 1) [.slice x.fA x.faces.length x.fc, .slice x.cA x.classes.length x.cc, .slice x.dA x.codes.length x.dc, .slice x.nA x.insts.length x.nc, .string x.globals, .slice x.iA x.init.length x.ic, .slice x.bA x.blocks.length x.bc, .slice x.xA x.ins.length x.xc, .slice x.oA x.outs.length x.oc, .slice x.jA x.jobs.length x.jc, .int .i64 x.d, .int .i64 x.w] 29 := by have := Aid.Has.new (w.alloc (.cells #[.pointer (some ⟨p, 0, none⟩)] 61)) [.slice x.fA x.faces.length x.fc, .slice x.cA x.classes.length x.cc, .slice x.dA x.codes.length x.dc, .slice x.nA x.insts.length x.nc, .string x.globals, .slice x.iA x.init.length x.ic, .slice x.bA x.blocks.length x.bc, .slice x.xA x.ins.length x.xc, .slice x.oA x.outs.length x.oc, .slice x.jA x.jobs.length x.jc, .int .i64 x.d, .int .i64 x.w] 29; rw [World.size_alloc] at this; subst hW; exact this
  have k0 : Wt.Kp p w W := by subst hW; exact (((Wt.Kp.refl p w).alloc (by omega) _).alloc (by simp only [World.size_alloc]; omega) _)
  have i0 : Wt.Is W 63 p s := by subst hW; exact ((hw.alloc _).alloc _)
  have lb0 : Hid ((s ++ Pc.text Pc.mark).b.length ≤ 100000000000000) := Aid.hid (by simp only [Pc.img, Pc.len] at lb ⊢; omega)
  have lb1 : Hid ((s ++ Pc.text Pc.mark ++ Pc.list Pc.fc x.faces).b.length ≤ 100000000000000) := Aid.hid (by simp only [Pc.img, Pc.len] at lb ⊢; omega)
  have lb2 : Hid ((s ++ Pc.text Pc.mark ++ Pc.list Pc.fc x.faces ++ Pc.list Pc.desc x.classes).b.length ≤ 100000000000000) := Aid.hid (by simp only [Pc.img, Pc.len] at lb ⊢; omega)
  have lb3 : Hid ((s ++ Pc.text Pc.mark ++ Pc.list Pc.fc x.faces ++ Pc.list Pc.desc x.classes ++ Pc.list Pc.cod x.codes).b.length ≤ 100000000000000) := Aid.hid (by simp only [Pc.img, Pc.len] at lb ⊢; omega)
  have lb4 : Hid ((s ++ Pc.text Pc.mark ++ Pc.list Pc.fc x.faces ++ Pc.list Pc.desc x.classes ++ Pc.list Pc.cod x.codes ++ Pc.ints x.insts).b.length ≤ 100000000000000) := Aid.hid (by simp only [Pc.img, Pc.len] at lb ⊢; omega)
  have lb5 : Hid ((s ++ Pc.text Pc.mark ++ Pc.list Pc.fc x.faces ++ Pc.list Pc.desc x.classes ++ Pc.list Pc.cod x.codes ++ Pc.ints x.insts ++ Pc.text x.globals).b.length ≤ 100000000000000) := Aid.hid (by simp only [Pc.img, Pc.len] at lb ⊢; omega)
  have lb6 : Hid ((s ++ Pc.text Pc.mark ++ Pc.list Pc.fc x.faces ++ Pc.list Pc.desc x.classes ++ Pc.list Pc.cod x.codes ++ Pc.ints x.insts ++ Pc.text x.globals ++ Pc.ints x.init).b.length ≤ 100000000000000) := Aid.hid (by simp only [Pc.img, Pc.len] at lb ⊢; omega)
  have lb7 : Hid ((s ++ Pc.text Pc.mark ++ Pc.list Pc.fc x.faces ++ Pc.list Pc.desc x.classes ++ Pc.list Pc.cod x.codes ++ Pc.ints x.insts ++ Pc.text x.globals ++ Pc.ints x.init ++ Pc.ints x.blocks).b.length ≤ 100000000000000) := Aid.hid (by simp only [Pc.img, Pc.len] at lb ⊢; omega)
  have lb8 : Hid ((s ++ Pc.text Pc.mark ++ Pc.list Pc.fc x.faces ++ Pc.list Pc.desc x.classes ++ Pc.list Pc.cod x.codes ++ Pc.ints x.insts ++ Pc.text x.globals ++ Pc.ints x.init ++ Pc.ints x.blocks ++ Pc.list Pc.lnk x.ins).b.length ≤ 100000000000000) := Aid.hid (by simp only [Pc.img, Pc.len] at lb ⊢; omega)
  have lb9 : Hid ((s ++ Pc.text Pc.mark ++ Pc.list Pc.fc x.faces ++ Pc.list Pc.desc x.classes ++ Pc.list Pc.cod x.codes ++ Pc.ints x.insts ++ Pc.text x.globals ++ Pc.ints x.init ++ Pc.ints x.blocks ++ Pc.list Pc.lnk x.ins ++ Pc.list Pc.lnk x.outs).b.length ≤ 100000000000000) := Aid.hid (by simp only [Pc.img, Pc.len] at lb ⊢; omega)
  have lb10 : Hid ((s ++ Pc.text Pc.mark ++ Pc.list Pc.fc x.faces ++ Pc.list Pc.desc x.classes ++ Pc.list Pc.cod x.codes ++ Pc.ints x.insts ++ Pc.text x.globals ++ Pc.ints x.init ++ Pc.ints x.blocks ++ Pc.list Pc.lnk x.ins ++ Pc.list Pc.lnk x.outs ++ Pc.list Pc.op x.jobs).b.length ≤ 100000000000000) := Aid.hid (by simp only [Pc.img, Pc.len] at lb ⊢; omega)
  have lb11 : Hid ((s ++ Pc.text Pc.mark ++ Pc.list Pc.fc x.faces ++ Pc.list Pc.desc x.classes ++ Pc.list Pc.cod x.codes ++ Pc.ints x.insts ++ Pc.text x.globals ++ Pc.ints x.init ++ Pc.ints x.blocks ++ Pc.list Pc.lnk x.ins ++ Pc.list Pc.lnk x.outs ++ Pc.list Pc.op x.jobs ++ Pc.nums [x.d, x.w]).b.length ≤ 100000000000000) := Aid.hid (by simp only [Pc.img, Pc.len] at lb ⊢; omega)
  have EQ : Hid (s ++ Pc.text Pc.mark ++ Pc.list Pc.fc x.faces ++ Pc.list Pc.desc x.classes ++ Pc.list Pc.cod x.codes ++ Pc.ints x.insts ++ Pc.text x.globals ++ Pc.ints x.init ++ Pc.ints x.blocks ++ Pc.list Pc.lnk x.ins ++ Pc.list Pc.lnk x.outs ++ Pc.list Pc.op x.jobs ++ Pc.nums [x.d, x.w] = s ++ Pc.img x) := Aid.hid (by simp only [Pc.img, Pc.assoc])
  have hmf : ∀ (fn : Fn) (first cap : Array Value) (w : World), (Instr.makeFunc fn first cap).run Tryz.prog w = .ok (.func fn first cap) w := fun _ _ _ _ => rfl
  have HP := Aid.hid hp
  have HX := Aid.hid hx
  have K0 := Aid.hid k0
  have HB := Aid.hid hb0
  have HQ := Aid.hid hq0
  have HI := Aid.hid i0
  have HK := Aid.hid (Wt.Kp.refl p W)
  clear hw lb hp k0 hb0 i0 hx hq0
  have RB : Hid (∀ wr, Wt.Kp p W wr → Aid.Has wr (w.heap.size + 1) [.slice x.fA x.faces.length x.fc, .slice x.cA x.classes.length x.cc, .slice x.dA x.codes.length x.dc, .slice x.nA x.insts.length x.nc, .string x.globals, .slice x.iA x.init.length x.ic, .slice x.bA x.blocks.length x.bc, .slice x.xA x.ins.length x.xc, .slice x.oA x.outs.length x.oc, .slice x.jA x.jobs.length x.jc, .int .i64 x.d, .int .i64 x.w] 29) := fun wr k => k.2 _ _ _ (by have := HP.out; omega) (by decide) HB.out
  have RQ : Hid (∀ wr, Wt.Kp p W wr → Aid.Has wr w.heap.size [.pointer (some ⟨p, 0, none⟩)] 61) := fun wr k => k.2 _ _ _ (by have := HP.out; omega) (by decide) HQ.out
  have RX : Hid (∀ wr, Wt.Kp p W wr → Img.At wr p x) := fun wr k => HX.out.below (K0.out.trans k).1 (Nat.le_refl p)
  clear HB HQ HX
  have hbk := RB.out W HK.out
  clear hbk
  have q0 := (RQ.out W HK.out).cell 0 _ rfl
  have hxk := RX.out W HK.out
  have HN := Aid.hid (wtext_is p Pc.mark _ W HI.out lb0.out)
  have HK1 := HK
  clear HK HI hxk
  go_enter Tryz.func20, Tryz.ntmps20
  try simp only [List.append_eq, List.cons_append, List.nil_append]
  subst hW
  try simp only [World.size_alloc] at HN
  go_wp2_with fail
  go_at_call 54
  refine HN.out.mono ?_
  rintro e w1 ⟨rfl, h2, h3⟩
  have HI := Aid.hid h2
  have HK := Aid.hid (HK1.out.trans h3)
  clear h2 h3 HN HK1  q0
  have hbk := RB.out w1 HK.out
  have c0 := hbk.cell 0 _ rfl
  clear hbk
  have q0 := (RQ.out w1 HK.out).cell 0 _ rfl
  have hxk := RX.out w1 HK.out
  have HN := Aid.hid (wlist_fc p x.fA x.fc x.faces _ w1 HI.out (hxk.faces) lb1.out)
  have HK1 := HK
  clear HK HI hxk
  go_wp2_with fail
  go_at_call 55
  refine HN.out.mono ?_
  rintro e w2 ⟨rfl, h2, h3⟩
  have HI := Aid.hid h2
  have HK := Aid.hid (HK1.out.trans h3)
  clear h2 h3 HN HK1 c0 q0
  have hbk := RB.out w2 HK.out
  have c1 := hbk.cell 1 _ rfl
  clear hbk
  have q0 := (RQ.out w2 HK.out).cell 0 _ rfl
  have hxk := RX.out w2 HK.out
  have HN := Aid.hid (wlist_desc p x.cA x.cc x.classes _ w2 HI.out (hxk.classes) lb2.out)
  have HK1 := HK
  clear HK HI hxk
  go_wp2_with fail
  go_at_call 57
  refine HN.out.mono ?_
  rintro e w3 ⟨rfl, h2, h3⟩
  have HI := Aid.hid h2
  have HK := Aid.hid (HK1.out.trans h3)
  clear h2 h3 HN HK1 c1 q0
  have hbk := RB.out w3 HK.out
  have c2 := hbk.cell 2 _ rfl
  clear hbk
  have q0 := (RQ.out w3 HK.out).cell 0 _ rfl
  have hxk := RX.out w3 HK.out
  have HN := Aid.hid (wlist_cod p x.dA x.dc x.codes _ w3 HI.out (hxk.codes) lb3.out)
  have HK1 := HK
  clear HK HI hxk
  go_wp2_with fail
  go_at_call 59
  refine HN.out.mono ?_
  rintro e w4 ⟨rfl, h2, h3⟩
  have HI := Aid.hid h2
  have HK := Aid.hid (HK1.out.trans h3)
  clear h2 h3 HN HK1 c2 q0
  have hbk := RB.out w4 HK.out
  have c3 := hbk.cell 3 _ rfl
  clear hbk
  have q0 := (RQ.out w4 HK.out).cell 0 _ rfl
  have hxk := RX.out w4 HK.out
  have HN := Aid.hid (wints_is p x.nA x.nc x.insts _ w4 HI.out (hxk.insts) lb4.out)
  have HK1 := HK
  clear HK HI hxk
  go_wp2_with fail
  go_at_call 61
  refine HN.out.mono ?_
  rintro e w5 ⟨rfl, h2, h3⟩
  have HI := Aid.hid h2
  have HK := Aid.hid (HK1.out.trans h3)
  clear h2 h3 HN HK1 c3 q0
  have hbk := RB.out w5 HK.out
  have c4 := hbk.cell 4 _ rfl
  clear hbk
  have q0 := (RQ.out w5 HK.out).cell 0 _ rfl
  have hxk := RX.out w5 HK.out
  have HN := Aid.hid (wtext_is p x.globals _ w5 HI.out lb5.out)
  have HK1 := HK
  clear HK HI hxk
  go_wp2_with fail
  go_at_call 54
  refine HN.out.mono ?_
  rintro e w6 ⟨rfl, h2, h3⟩
  have HI := Aid.hid h2
  have HK := Aid.hid (HK1.out.trans h3)
  clear h2 h3 HN HK1 c4 q0
  have hbk := RB.out w6 HK.out
  have c5 := hbk.cell 5 _ rfl
  clear hbk
  have q0 := (RQ.out w6 HK.out).cell 0 _ rfl
  have hxk := RX.out w6 HK.out
  have HN := Aid.hid (wints_is p x.iA x.ic x.init _ w6 HI.out (hxk.init) lb6.out)
  have HK1 := HK
  clear HK HI hxk
  go_wp2_with fail
  go_at_call 61
  refine HN.out.mono ?_
  rintro e w7 ⟨rfl, h2, h3⟩
  have HI := Aid.hid h2
  have HK := Aid.hid (HK1.out.trans h3)
  clear h2 h3 HN HK1 c5 q0
  have hbk := RB.out w7 HK.out
  have c6 := hbk.cell 6 _ rfl
  clear hbk
  have q0 := (RQ.out w7 HK.out).cell 0 _ rfl
  have hxk := RX.out w7 HK.out
  have HN := Aid.hid (wints_is p x.bA x.bc x.blocks _ w7 HI.out (hxk.blocks) lb7.out)
  have HK1 := HK
  clear HK HI hxk
  go_wp2_with fail
  go_at_call 61
  refine HN.out.mono ?_
  rintro e w8 ⟨rfl, h2, h3⟩
  have HI := Aid.hid h2
  have HK := Aid.hid (HK1.out.trans h3)
  clear h2 h3 HN HK1 c6 q0
  have hbk := RB.out w8 HK.out
  have c7 := hbk.cell 7 _ rfl
  clear hbk
  have q0 := (RQ.out w8 HK.out).cell 0 _ rfl
  have hxk := RX.out w8 HK.out
  have HN := Aid.hid (wlist_lnk p x.xA x.xc x.ins _ w8 HI.out (hxk.ins) lb8.out)
  have HK1 := HK
  clear HK HI hxk
  go_wp2_with fail
  go_at_call 62
  refine HN.out.mono ?_
  rintro e w9 ⟨rfl, h2, h3⟩
  have HI := Aid.hid h2
  have HK := Aid.hid (HK1.out.trans h3)
  clear h2 h3 HN HK1 c7 q0
  have hbk := RB.out w9 HK.out
  have c8 := hbk.cell 8 _ rfl
  clear hbk
  have q0 := (RQ.out w9 HK.out).cell 0 _ rfl
  have hxk := RX.out w9 HK.out
  have HN := Aid.hid (wlist_lnk p x.oA x.oc x.outs _ w9 HI.out (hxk.outs) lb9.out)
  have HK1 := HK
  clear HK HI hxk
  go_wp2_with fail
  go_at_call 62
  refine HN.out.mono ?_
  rintro e w10 ⟨rfl, h2, h3⟩
  have HI := Aid.hid h2
  have HK := Aid.hid (HK1.out.trans h3)
  clear h2 h3 HN HK1 c8 q0
  have hbk := RB.out w10 HK.out
  have c9 := hbk.cell 9 _ rfl
  clear hbk
  have q0 := (RQ.out w10 HK.out).cell 0 _ rfl
  have hxk := RX.out w10 HK.out
  have HN := Aid.hid (wlist_job p w.heap.size x.jA x.jc x.jobs _ w10 HI.out (RQ.out w10 HK.out) (by have := HP.out; omega) (hxk.jobs) lb10.out)
  have HK1 := HK
  clear HK HI hxk
  go_wp2_with fail
  go_at_call 64
  refine HN.out.mono ?_
  rintro e w11 ⟨rfl, h2, h3⟩
  have HI := Aid.hid h2
  have HK := Aid.hid (HK1.out.trans h3)
  clear h2 h3 HN HK1 c9 q0
  have hbk := RB.out w11 HK.out
  have c10 := hbk.cell 10 _ rfl
  have c11 := hbk.cell 11 _ rfl
  clear hbk
  have q0 := (RQ.out w11 HK.out).cell 0 _ rfl
  have hxk := RX.out w11 HK.out
  have N0 : Wt.Kp p w11 (w11.alloc (.cells #[.int .i64 x.d, .int .i64 x.w] 3)) := (Wt.Kp.refl p w11).alloc (by have := HI.out.lt; omega) _
  have HN := Aid.hid (wnum_pc p (some ⟨w11.heap.size, 0, none⟩) 2 [x.d, x.w] _ _ (HI.out.alloc (.cells #[.int .i64 x.d, .int .i64 x.w] 3)) (Wt.ints_new [x.d, x.w] HI.out.lt) (by simp) (by have := lb11.out; rw [Pc.len] at this; exact this))
  have HK1 := Aid.hid (HK.out.trans N0)
  clear N0 HK HI hxk
  go_wp2_with fail
  go_at_call 66
  refine HN.out.mono ?_
  rintro e w12 ⟨rfl, h2, h3⟩
  have h2 : Wt.Is w12 63 p (s ++ Pc.text Pc.mark ++ Pc.list Pc.fc x.faces ++ Pc.list Pc.desc x.classes ++ Pc.list Pc.cod x.codes ++ Pc.ints x.insts ++ Pc.text x.globals ++ Pc.ints x.init ++ Pc.ints x.blocks ++ Pc.list Pc.lnk x.ins ++ Pc.list Pc.lnk x.outs ++ Pc.list Pc.op x.jobs ++ Pc.nums [x.d, x.w]) := by first | exact h2 | (rw [Pc.nums_one] at h2; exact h2)
  have HI := Aid.hid h2
  have HK := Aid.hid (HK1.out.trans h3)
  clear h2 h3 HN HK1 c10 c11 q0
  have hE := EQ.out
  have hI := HI.out
  rw [hE] at hI
  have HJ := Aid.hid hI
  clear hI hE
  go_wp2_with fail
  go_end0
  exact ⟨rfl, HJ.out, K0.out.trans HK.out⟩
end Go.Proofs.YtaogegeidbclaaaGreatDoor
