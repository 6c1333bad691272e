/- Lists of numbers and of texts: laid. -/
import Derived.Test.YtaogegeidbclaaaGreatDoorImgSpec
namespace Go.Proofs.YtaogegeidbclaaaGreatDoor
open Go.RowKit

set_option maxRecDepth 100000 in
set_option maxHeartbeats 1000000 in
theorem wnumc_is (p q : Nat) (x : Int) (s : Pc) (w : World) (hw : Wt.Is w 63 p s) (hq : Aid.Has w q [.pointer (some ⟨p, 0, none⟩)] 61) (lb : (s ++ Pc.num x).b.length ≤ 100000000000000) :
    Calls Tryz.prog 99 #[.int .i64 x, .pointer (some ⟨q, 0, none⟩)] w fun e w' => e = .returned (.tuple #[]) ∧ Wt.Is w' 63 p (s ++ (Pc.num x)) ∧ Wt.Kp p w w' := by
  have hp := hw.lt
  have c0 := hq.cell 0 _ rfl
  have lb' : s.b.length + 4 ≤ 100000000000000 := by rw [Pc.len] at lb; exact lb
  have HN := Aid.hid (wnum_pc p (some ⟨w.heap.size, 0, none⟩) 1 [x] s _ (hw.alloc _) (Wt.ints_new [x] hp) (by simp) (by simpa using lb'))
  have HK := Aid.hid ((Wt.Kp.refl p w).alloc (by omega) (.cells #[.int .i64 x] 3))
  clear hw hq lb lb'
  go_enter Tryz.func99, Tryz.ntmps99
  try simp only [List.append_eq, List.cons_append, List.nil_append]
  go_wp2_with fail
  go_at_call 66
  refine HN.out.mono ?_
  rintro e w2 ⟨rfl, h2, h3⟩
  rw [Pc.nums_one] at h2
  have h4 := HK.out.trans h3
  go_wp2_with fail
  go_end0
  exact ⟨rfl, h2, h4⟩
set_option maxRecDepth 100000 in
set_option maxHeartbeats 1000000 in
theorem wlist_int (p : Nat) (q : Nat) (A : Option Addr) (c : Nat) (l : List Int) (s : Pc) (w : World) (hw : Wt.Is w 63 p s) (hq : Aid.Has w q [.pointer (some ⟨p, 0, none⟩)] 61) (hqp : q ≠ p) (hl : LNums w p A l) (lb : (s ++ Pc.list Pc.num l).b.length ≤ 100000000000000) :
    Calls Tryz.prog 98 #[.pointer (some ⟨p, 0, none⟩), .slice A l.length c, .func (.func 99) #[] #[.pointer (some ⟨q, 0, none⟩)]] w fun e w' => e = .returned (.tuple #[]) ∧ Wt.Is w' 63 p (s ++ Pc.list Pc.num l) ∧ Wt.Kp p w w' := by
  have lm := Pc.list_many Pc.num s l
  have HW := Aid.hid hw
  have LB := Aid.hid lb
  have ll : l.length ≤ 9223372036854775807 := hl.1
  have HL := Aid.hid hl
  have HQ0 := Aid.hid hq
  clear hw lb hl hq
  go_enter Tryz.func98, Tryz.ntmps98
  try simp only [List.append_eq, List.cons_append, List.nil_append]
  go_wp2_with fail
  go_at_call 91
  refine (wmany_is p _ s w HW.out (by have := LB.out; omega)).mono ?_
  rintro e w1 ⟨rfl, h2, h3⟩
  have HI1 := Aid.hid h2
  have HK1 := Aid.hid h3
  clear h2 h3 lm
  go_wp2_with fail
  go_loopw [14] (fun vi wr => ∃ k : Nat, vi = .int .i64 k ∧ k ≤ l.length ∧ Hid (Wt.Is wr 63 p (Pc.upto Pc.num s l k)) ∧ Hid (Wt.Kp p w wr)) (fun vi _ => l.length - (intOf vi).toNat)
  case atStart => exact ⟨0, rfl, Nat.zero_le _, Aid.hid (by rw [Pc.upto_zero]; exact HI1.out), HK1⟩
  case round =>
    obtain ⟨k, rfl, hk, HI, HK⟩ := hrel
    by_cases hlt : k < l.length
    · obtain ⟨x, hx⟩ : ∃ x, l[k]? = some x := ⟨_, List.getElem?_eq_getElem hlt⟩
      have hlw := HL.out.below HK.out.1 (Nat.le_refl p)
      obtain ⟨b, off, rfl, hbp, hc⟩ := Rows.get hlw.2 hx
      have x0 := hc 0 _ rfl
      simp only [Nat.mul_one, Nat.add_zero] at x0
      have hp := HI.out.lt
      have HQ := HK.out.2 q _ _ hqp (by decide) HQ0.out
      have lx := Pc.upto_lt Pc.num s l k x hx
      have NX : Hid (Pc.upto Pc.num s l (k + 1) = Pc.upto Pc.num s l k ++ Pc.num x) := Aid.hid (Pc.upto_next Pc.num s l k x hx)
      clear hc hx hlw
      go_wp2_with fail
      go_at_call 99
      refine (wnumc_is p q x (Pc.upto Pc.num s l k) _ HI.out HQ (by have := LB.out; omega)).mono ?_
      rintro e w2 ⟨rfl, h2, h3⟩
      have HI2 := Aid.hid h2
      have HK2 := Aid.hid (HK.out.trans h3)
      clear h2 h3
      go_wp2_with fail
      go_roundw
      case rel => exact ⟨k + 1, by go_num, by omega, Aid.hid (by rw [NX.out]; exact HI2.out), HK2⟩
      case measure => simp [intOf]; omega
    · have hE := Pc.upto_end Pc.num s l k (by omega)
      go_wp2_with fail
      go_end0
      exact ⟨rfl, by rw [← hE]; exact HI.out, HK.out⟩
set_option maxRecDepth 100000 in
set_option maxHeartbeats 1000000 in
theorem wlist_str (p : Nat) (A : Option Addr) (c : Nat) (l : List ByteArray) (s : Pc) (w : World) (hw : Wt.Is w 63 p s) (hl : LTexts w p A l) (lb : (s ++ Pc.list Pc.text l).b.length ≤ 100000000000000) :
    Calls Tryz.prog 92 #[.pointer (some ⟨p, 0, none⟩), .slice A l.length c, .func (.func 54) #[.pointer (some ⟨p, 0, none⟩)] #[]] w fun e w' => e = .returned (.tuple #[]) ∧ Wt.Is w' 63 p (s ++ Pc.list Pc.text l) ∧ Wt.Kp p w w' := by
  have lm := Pc.list_many Pc.text s l
  have HW := Aid.hid hw
  have LB := Aid.hid lb
  have ll : l.length ≤ 9223372036854775807 := hl.1
  have HL := Aid.hid hl
  clear hw lb hl
  go_enter Tryz.func92, Tryz.ntmps92
  try simp only [List.append_eq, List.cons_append, List.nil_append]
  go_wp2_with fail
  go_at_call 91
  refine (wmany_is p _ s w HW.out (by have := LB.out; omega)).mono ?_
  rintro e w1 ⟨rfl, h2, h3⟩
  have HI1 := Aid.hid h2
  have HK1 := Aid.hid h3
  clear h2 h3 lm
  go_wp2_with fail
  go_loopw [14] (fun vi wr => ∃ k : Nat, vi = .int .i64 k ∧ k ≤ l.length ∧ Hid (Wt.Is wr 63 p (Pc.upto Pc.text s l k)) ∧ Hid (Wt.Kp p w wr)) (fun vi _ => l.length - (intOf vi).toNat)
  case atStart => exact ⟨0, rfl, Nat.zero_le _, Aid.hid (by rw [Pc.upto_zero]; exact HI1.out), HK1⟩
  case round =>
    obtain ⟨k, rfl, hk, HI, HK⟩ := hrel
    by_cases hlt : k < l.length
    · obtain ⟨x, hx⟩ : ∃ x, l[k]? = some x := ⟨_, List.getElem?_eq_getElem hlt⟩
      have hlw := HL.out.below HK.out.1 (Nat.le_refl p)
      obtain ⟨b, off, rfl, hbp, hc⟩ := Rows.get hlw.2 hx
      have x0 := hc 0 _ rfl
      simp only [Nat.mul_one, Nat.add_zero] at x0
      have hp := HI.out.lt
      have lx := Pc.upto_lt Pc.text s l k x hx
      have NX : Hid (Pc.upto Pc.text s l (k + 1) = Pc.upto Pc.text s l k ++ Pc.text x) := Aid.hid (Pc.upto_next Pc.text s l k x hx)
      clear hc hx hlw
      go_wp2_with fail
      go_at_call 54
      refine (wtext_is p x (Pc.upto Pc.text s l k) _ HI.out (by have := LB.out; omega)).mono ?_
      rintro e w2 ⟨rfl, h2, h3⟩
      have HI2 := Aid.hid h2
      have HK2 := Aid.hid (HK.out.trans h3)
      clear h2 h3
      go_wp2_with fail
      go_roundw
      case rel => exact ⟨k + 1, by go_num, by omega, Aid.hid (by rw [NX.out]; exact HI2.out), HK2⟩
      case measure => simp [intOf]; omega
    · have hE := Pc.upto_end Pc.text s l k (by omega)
      go_wp2_with fail
      go_end0
      exact ⟨rfl, by rw [← hE]; exact HI.out, HK.out⟩
set_option maxRecDepth 100000 in
set_option maxHeartbeats 1000000 in
theorem wints_is (p : Nat) (A : Option Addr) (c : Nat) (l : List Int) (s : Pc) (w : World) (hw : Wt.Is w 63 p s) (hl : LNums w p A l) (lb : (s ++ Pc.ints l).b.length ≤ 100000000000000) :
    Calls Tryz.prog 61 #[.pointer (some ⟨p, 0, none⟩), .slice A l.length c] w fun e w' => e = .returned (.tuple #[]) ∧ Wt.Is w' 63 p (s ++ Pc.ints l) ∧ Wt.Kp p w w' := by
  have hp := hw.lt
  have W0 : Wt.Kp p w (w.alloc (.cells #[.pointer (some ⟨p, 0, none⟩)] 61)) := (Wt.Kp.refl p w).alloc (by omega) _
  have hq := Aid.Has.new w [.pointer (some ⟨p, 0, none⟩)] 61
  have c0 := hq.cell 0 _ rfl
  have HC := Aid.hid (wlist_int p w.heap.size A c l s _ (hw.alloc _) hq (by omega) (hl.below W0.1 (Nat.le_refl p)) lb)
  have hmf : ∀ (fn : Fn) (first cap : Array Value) (w : World), (Instr.makeFunc fn first cap).run Tryz.prog w = .ok (.func fn first cap) w := fun _ _ _ _ => rfl
  clear hw hq hl lb
  go_enter Tryz.func61, Tryz.ntmps61
  try simp only [List.append_eq, List.cons_append, List.nil_append]
  go_wp2_with fail
  go_at_call 98
  refine HC.out.mono ?_
  rintro e w2 ⟨rfl, h2, h3⟩
  have h4 := W0.trans h3
  go_wp2_with fail
  go_end0
  exact ⟨rfl, h2, h4⟩
set_option maxRecDepth 100000 in
set_option maxHeartbeats 1000000 in
theorem wtexts_is (p : Nat) (A : Option Addr) (c : Nat) (l : List ByteArray) (s : Pc) (w : World) (hw : Wt.Is w 63 p s) (hl : LTexts w p A l) (lb : (s ++ Pc.texts l).b.length ≤ 100000000000000) :
    Calls Tryz.prog 56 #[.pointer (some ⟨p, 0, none⟩), .slice A l.length c] w fun e w' => e = .returned (.tuple #[]) ∧ Wt.Is w' 63 p (s ++ Pc.texts l) ∧ Wt.Kp p w w' := by
  have HC := Aid.hid (wlist_str p A c l s w hw hl lb)
  have hmf : ∀ (fn : Fn) (first cap : Array Value) (w : World), (Instr.makeFunc fn first cap).run Tryz.prog w = .ok (.func fn first cap) w := fun _ _ _ _ => rfl
  clear hw hl lb
  go_enter Tryz.func56, Tryz.ntmps56
  try simp only [List.append_eq, List.cons_append, List.nil_append]
  go_wp2_with fail
  go_at_call 92
  refine HC.out.mono ?_
  rintro e w2 ⟨rfl, h2, h3⟩
  go_wp2_with fail
  go_end0
  exact ⟨rfl, h2, h3⟩
theorem wfc_is (p : Nat) (x : Fc) (s : Pc) (w : World) (hw : Wt.Is w 63 p s) (hx : Fc.At w p x) (lb : (s ++ Pc.fc x).b.length ≤ 100000000000000) :
    Calls Tryz.prog 56 #[.pointer (some ⟨p, 0, none⟩), .slice x.A x.l.length x.c] w fun e w' => e = .returned (.tuple #[]) ∧ Wt.Is w' 63 p (s ++ Pc.fc x) ∧ Wt.Kp p w w' := wtexts_is p x.A x.c x.l s w hw hx lb
end Go.Proofs.YtaogegeidbclaaaGreatDoor
