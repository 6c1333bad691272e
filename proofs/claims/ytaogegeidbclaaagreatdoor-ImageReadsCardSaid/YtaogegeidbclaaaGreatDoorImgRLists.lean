/- The document's writer: lists. -/
import Derived.Test.YtaogegeidbclaaaGreatDoorImgRTxt
namespace Go.Proofs.YtaogegeidbclaaaGreatDoor
open Go.RowKit

theorem Pc.op_eq (x : Opr) : Pc.op x = Pc.num x.k ++ (Pc.num x.a ++ Pc.num x.b) := by rw [Pc.op, Pc.nums_cons, Pc.nums_cons, Pc.nums_one]
theorem Pc.lnk_eq (x : Lnk) : Pc.lnk x = Pc.num x.glob ++ (Pc.num x.slot ++ Pc.flag x.bool) := by rw [Pc.lnk, Pc.nums_cons, Pc.nums_one, Pc.assoc]
set_option maxRecDepth 100000 in
set_option maxHeartbeats 1000000 in
theorem rnums_is (p : Nat) (A : Option Addr) (c : Nat) (l : List Int) (s : Pc) (w : World) (hw : Wt.Is w 68 p s) (hl : LNums w p A l) (lb : (s ++ Pc.ints l).b.length ≤ 100000000000000) :
    Calls Tryz.prog 27 #[.pointer (some ⟨p, 0, none⟩), .slice A l.length c] w fun e w' => e = .returned (.tuple #[]) ∧ Wt.Is w' 68 p (s ++ Pc.ints l) ∧ Wt.Kp p w w' := by
  have LB : ∀ t : Pc, t.b.length ≤ (s ++ Pc.list Pc.num l).b.length → t.b.length ≤ 100000000000000 := fun t h => Nat.le_trans h lb
  have HI := Aid.hid hw
  have HK := Aid.hid (Wt.Kp.refl p w)
  have HL := Aid.hid hl
  clear hw lb hl
  go_enter Tryz.func27, Tryz.ntmps27
  try simp only [List.append_eq, List.cons_append, List.nil_append]
  have HC := Aid.hid (rmany_is p _ _ _ HI.out (LB (s ++ Pc.many l.length) (by (try simp only [Pc.list, Pc.len]) <;> omega)))
  have HK1 := HK
  clear HI HK
  go_wp2_with fail
  go_at_call 23
  refine HC.out.mono ?_
  rintro e w1 ⟨rfl, h2, h3⟩
  have HI := Aid.hid h2
  have HK := Aid.hid (HK1.out.trans h3)
  clear h2 h3 HC HK1
  have SZ : Hid ((s).b.length + (Pc.list Pc.num l).b.length ≤ 100000000000000) := Aid.hid (by have := LB (s ++ Pc.list Pc.num l) (by (try simp only [Pc.list, Pc.len]) <;> omega); rwa [Pc.len] at this)
  have ll : l.length ≤ 9223372036854775807 := (HL.out.below HK.out.1 (Nat.le_refl p)).1
  have HKB := HK
  go_wp2_with fail
  go_loopw [4] (fun vi wr => ∃ k : Nat, vi = .int .i64 k ∧ k ≤ l.length ∧ Hid (Wt.Is wr 68 p (Pc.upto Pc.num (s) l k)) ∧ Hid (Wt.Kp p w wr)) (fun vi _ => l.length - (intOf vi).toNat)
  case atStart => exact ⟨0, rfl, Nat.zero_le _, Aid.hid (by rw [Pc.upto_zero]; exact HI.out), HK⟩
  case round =>
    clear HI HK HKB
    obtain ⟨k, rfl, hk, HI, HK⟩ := hrel
    by_cases hlt : k < l.length
    · obtain ⟨x, hx⟩ : ∃ x, l[k]? = some x := ⟨_, List.getElem?_eq_getElem hlt⟩
      have hlw := HL.out.below HK.out.1 (Nat.le_refl p)
      obtain ⟨b, off, rfl, hbp, hc⟩ := Rows.get hlw.2 hx
      have x0 := hc 0 _ rfl
      simp only [Nat.mul_one, Nat.add_zero] at x0
      have hp := HI.out.lt
      have lx := Pc.upto_lt Pc.num (s) l k x hx
      have LBX : ∀ t : Pc, t.b.length ≤ (Pc.upto Pc.num (s) l k ++ Pc.num x).b.length → t.b.length ≤ 100000000000000 := fun t h => Nat.le_trans (Nat.le_trans h lx) (by rw [Pc.len]; exact SZ.out)
      have NX : Hid (Pc.upto Pc.num (s) l (k + 1) = Pc.upto Pc.num (s) l k ++ Pc.num x) := Aid.hid (by rw [Pc.upto_next Pc.num _ l k x hx] <;> simp only [Pc.assoc])
      clear hc hx hlw lx
      have HC := Aid.hid (rnum_is p x _ _ HI.out (LBX (Pc.upto Pc.num (s) l k ++ Pc.num x) (by (try simp only [Pc.len]) <;> omega)))
      have HK1 := HK
      clear HI HK
      go_wp2_with fail
      go_at_call 29
      refine HC.out.mono ?_
      rintro e w2 ⟨rfl, h2, h3⟩
      have HI := Aid.hid h2
      have HK := Aid.hid (HK1.out.trans h3)
      clear h2 h3 HC HK1
      go_wp2_with fail
      go_roundw
      case rel => exact ⟨k + 1, by go_num, by omega, Aid.hid (by rw [NX.out]; exact HI.out), HK⟩
      case measure => simp [intOf]; omega
    · have hE := Pc.upto_end Pc.num (s) l k (by omega)
      have hI := HI.out
      rw [hE] at hI
      have HI2 := Aid.hid hI
      clear hI HI hE
      have HI := HI2
      clear HI2 SZ ll hk
      go_wp2_with fail
      go_end0
      exact ⟨rfl, HI.out, HK.out⟩
set_option maxRecDepth 100000 in
set_option maxHeartbeats 1000000 in
theorem rtexts_is (p : Nat) (A : Option Addr) (c : Nat) (l : List ByteArray) (s : Pc) (w : World) (hw : Wt.Is w 68 p s) (hl : LTexts w p A l) (lb : (s ++ Pc.texts l).b.length ≤ 100000000000000) :
    Calls Tryz.prog 24 #[.pointer (some ⟨p, 0, none⟩), .slice A l.length c] w fun e w' => e = .returned (.tuple #[]) ∧ Wt.Is w' 68 p (s ++ Pc.texts l) ∧ Wt.Kp p w w' := by
  have LB : ∀ t : Pc, t.b.length ≤ (s ++ Pc.list Pc.text l).b.length → t.b.length ≤ 100000000000000 := fun t h => Nat.le_trans h lb
  have HI := Aid.hid hw
  have HK := Aid.hid (Wt.Kp.refl p w)
  have HL := Aid.hid hl
  clear hw lb hl
  go_enter Tryz.func24, Tryz.ntmps24
  try simp only [List.append_eq, List.cons_append, List.nil_append]
  have HC := Aid.hid (rmany_is p _ _ _ HI.out (LB (s ++ Pc.many l.length) (by (try simp only [Pc.list, Pc.len]) <;> omega)))
  have HK1 := HK
  clear HI HK
  go_wp2_with fail
  go_at_call 23
  refine HC.out.mono ?_
  rintro e w1 ⟨rfl, h2, h3⟩
  have HI := Aid.hid h2
  have HK := Aid.hid (HK1.out.trans h3)
  clear h2 h3 HC HK1
  have SZ : Hid ((s).b.length + (Pc.list Pc.text l).b.length ≤ 100000000000000) := Aid.hid (by have := LB (s ++ Pc.list Pc.text l) (by (try simp only [Pc.list, Pc.len]) <;> omega); rwa [Pc.len] at this)
  have ll : l.length ≤ 9223372036854775807 := (HL.out.below HK.out.1 (Nat.le_refl p)).1
  have HKB := HK
  go_wp2_with fail
  go_loopw [4] (fun vi wr => ∃ k : Nat, vi = .int .i64 k ∧ k ≤ l.length ∧ Hid (Wt.Is wr 68 p (Pc.upto Pc.text (s) l k)) ∧ Hid (Wt.Kp p w wr)) (fun vi _ => l.length - (intOf vi).toNat)
  case atStart => exact ⟨0, rfl, Nat.zero_le _, Aid.hid (by rw [Pc.upto_zero]; exact HI.out), HK⟩
  case round =>
    clear HI HK HKB
    obtain ⟨k, rfl, hk, HI, HK⟩ := hrel
    by_cases hlt : k < l.length
    · obtain ⟨x, hx⟩ : ∃ x, l[k]? = some x := ⟨_, List.getElem?_eq_getElem hlt⟩
      have hlw := HL.out.below HK.out.1 (Nat.le_refl p)
      obtain ⟨b, off, rfl, hbp, hc⟩ := Rows.get hlw.2 hx
      have x0 := hc 0 _ rfl
      simp only [Nat.mul_one, Nat.add_zero] at x0
      have hp := HI.out.lt
      have lx := Pc.upto_lt Pc.text (s) l k x hx
      have LBX : ∀ t : Pc, t.b.length ≤ (Pc.upto Pc.text (s) l k ++ Pc.text x).b.length → t.b.length ≤ 100000000000000 := fun t h => Nat.le_trans (Nat.le_trans h lx) (by rw [Pc.len]; exact SZ.out)
      have NX : Hid (Pc.upto Pc.text (s) l (k + 1) = Pc.upto Pc.text (s) l k ++ Pc.text x) := Aid.hid (by rw [Pc.upto_next Pc.text _ l k x hx] <;> simp only [Pc.assoc])
      clear hc hx hlw lx
      have HC := Aid.hid (rtext_is p x _ _ HI.out (LBX (Pc.upto Pc.text (s) l k ++ Pc.text x) (by (try simp only [Pc.len]) <;> omega)))
      have HK1 := HK
      clear HI HK
      go_wp2_with fail
      go_at_call 22
      refine HC.out.mono ?_
      rintro e w2 ⟨rfl, h2, h3⟩
      have HI := Aid.hid h2
      have HK := Aid.hid (HK1.out.trans h3)
      clear h2 h3 HC HK1
      go_wp2_with fail
      go_roundw
      case rel => exact ⟨k + 1, by go_num, by omega, Aid.hid (by rw [NX.out]; exact HI.out), HK⟩
      case measure => simp [intOf]; omega
    · have hE := Pc.upto_end Pc.text (s) l k (by omega)
      have hI := HI.out
      rw [hE] at hI
      have HI2 := Aid.hid hI
      clear hI HI hE
      have HI := HI2
      clear HI2 SZ ll hk
      go_wp2_with fail
      go_end0
      exact ⟨rfl, HI.out, HK.out⟩
set_option maxRecDepth 100000 in
set_option maxHeartbeats 1000000 in
theorem rlinks_is (p : Nat) (A : Option Addr) (c : Nat) (l : List Lnk) (s : Pc) (w : World) (hw : Wt.Is w 68 p s) (hl : LLnks w p A l) (lb : (s ++ Pc.list Pc.lnk l).b.length ≤ 100000000000000) :
    Calls Tryz.prog 28 #[.pointer (some ⟨p, 0, none⟩), .slice A l.length c] w fun e w' => e = .returned (.tuple #[]) ∧ Wt.Is w' 68 p (s ++ Pc.list Pc.lnk l) ∧ Wt.Kp p w w' := by
  have LB : ∀ t : Pc, t.b.length ≤ (s ++ Pc.list Pc.lnk l).b.length → t.b.length ≤ 100000000000000 := fun t h => Nat.le_trans h lb
  have HI := Aid.hid hw
  have HK := Aid.hid (Wt.Kp.refl p w)
  have HL := Aid.hid hl
  clear hw lb hl
  go_enter Tryz.func28, Tryz.ntmps28
  try simp only [List.append_eq, List.cons_append, List.nil_append]
  have HC := Aid.hid (rmany_is p _ _ _ HI.out (LB (s ++ Pc.many l.length) (by (try simp only [Pc.list, Pc.len]) <;> omega)))
  have HK1 := HK
  clear HI HK
  go_wp2_with fail
  go_at_call 23
  refine HC.out.mono ?_
  rintro e w1 ⟨rfl, h2, h3⟩
  have HI := Aid.hid h2
  have HK := Aid.hid (HK1.out.trans h3)
  clear h2 h3 HC HK1
  have SZ : Hid ((s).b.length + (Pc.list Pc.lnk l).b.length ≤ 100000000000000) := Aid.hid (by have := LB (s ++ Pc.list Pc.lnk l) (by (try simp only [Pc.list, Pc.len]) <;> omega); rwa [Pc.len] at this)
  have ll : l.length ≤ 9223372036854775807 := (HL.out.below HK.out.1 (Nat.le_refl p)).1
  have HKB := HK
  go_wp2_with fail
  go_loopw [4] (fun vi wr => ∃ k : Nat, vi = .int .i64 k ∧ k ≤ l.length ∧ Hid (Wt.Is wr 68 p (Pc.upto Pc.lnk (s) l k)) ∧ Hid (Wt.Kp p w wr)) (fun vi _ => l.length - (intOf vi).toNat)
  case atStart => exact ⟨0, rfl, Nat.zero_le _, Aid.hid (by rw [Pc.upto_zero]; exact HI.out), HK⟩
  case round =>
    clear HI HK HKB
    obtain ⟨k, rfl, hk, HI, HK⟩ := hrel
    by_cases hlt : k < l.length
    · obtain ⟨x, hx⟩ : ∃ x, l[k]? = some x := ⟨_, List.getElem?_eq_getElem hlt⟩
      have hlw := HL.out.below HK.out.1 (Nat.le_refl p)
      obtain ⟨b, off, rfl, hbp, hc⟩ := Rows.get hlw.2 hx
      have x0 := hc 0 _ rfl
      have x1 := hc 1 _ rfl
      have x2 := hc 2 _ rfl
      simp only [Nat.mul_one, Nat.add_zero] at x0
      have hp := HI.out.lt
      have lx := Pc.upto_lt Pc.lnk (s) l k x hx
      have LBX : ∀ t : Pc, t.b.length ≤ (Pc.upto Pc.lnk (s) l k ++ Pc.lnk x).b.length → t.b.length ≤ 100000000000000 := fun t h => Nat.le_trans (Nat.le_trans h lx) (by rw [Pc.len]; exact SZ.out)
      have NX : Hid (Pc.upto Pc.lnk (s) l (k + 1) = Pc.upto Pc.lnk (s) l k ++ Pc.num x.glob ++ Pc.num x.slot ++ Pc.flag x.bool) := Aid.hid (by rw [Pc.upto_next Pc.lnk _ l k x hx] <;> simp only [Pc.lnk_eq, Pc.assoc])
      clear hc hx hlw lx
      have HC := Aid.hid (rnum_is p x.glob _ _ HI.out (LBX (Pc.upto Pc.lnk (s) l k ++ Pc.num x.glob) (by (try simp only [Pc.lnk_eq, Pc.len]) <;> omega)))
      have HK1 := HK
      clear HI HK
      go_wp2_with fail
      go_at_call 29
      refine HC.out.mono ?_
      rintro e w2 ⟨rfl, h2, h3⟩
      have x1 := (h3.1.cell (p := ⟨b, off + k * 3 + 1, none⟩) hbp).trans x1
      have x2 := (h3.1.cell (p := ⟨b, off + k * 3 + 2, none⟩) hbp).trans x2
      have HI := Aid.hid h2
      have HK := Aid.hid (HK1.out.trans h3)
      clear h2 h3 HC HK1
      have HC := Aid.hid (rnum_is p x.slot _ _ HI.out (LBX (Pc.upto Pc.lnk (s) l k ++ Pc.num x.glob ++ Pc.num x.slot) (by (try simp only [Pc.lnk_eq, Pc.len]) <;> omega)))
      have HK1 := HK
      clear HI HK
      go_wp2_with fail
      go_at_call 29
      refine HC.out.mono ?_
      rintro e w3 ⟨rfl, h2, h3⟩
      have x2 := (h3.1.cell (p := ⟨b, off + k * 3 + 2, none⟩) hbp).trans x2
      have HI := Aid.hid h2
      have HK := Aid.hid (HK1.out.trans h3)
      clear h2 h3 HC HK1
      have HC := Aid.hid (rflag_is p x.bool _ _ HI.out (LBX (Pc.upto Pc.lnk (s) l k ++ Pc.num x.glob ++ Pc.num x.slot ++ Pc.flag x.bool) (by (try simp only [Pc.lnk_eq, Pc.len]) <;> omega)))
      have HK1 := HK
      clear HI HK
      go_wp2_with fail
      go_at_call 67
      refine HC.out.mono ?_
      rintro e w4 ⟨rfl, h2, h3⟩
      have HI := Aid.hid h2
      have HK := Aid.hid (HK1.out.trans h3)
      clear h2 h3 HC HK1
      go_wp2_with fail
      go_roundw
      case rel => exact ⟨k + 1, by go_num, by omega, Aid.hid (by rw [NX.out]; exact HI.out), HK⟩
      case measure => simp [intOf]; omega
    · have hE := Pc.upto_end Pc.lnk (s) l k (by omega)
      have hI := HI.out
      rw [hE] at hI
      have HI2 := Aid.hid hI
      clear hI HI hE
      have HI := HI2
      clear HI2 SZ ll hk
      go_wp2_with fail
      go_end0
      exact ⟨rfl, HI.out, HK.out⟩
end Go.Proofs.YtaogegeidbclaaaGreatDoor
