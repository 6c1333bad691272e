/- The document's reader: classes, codes. -/
import Derived.Test.YtaogegeidbclaaaGreatDoorImgR2E
namespace Go.Proofs.YtaogegeidbclaaaGreatDoor
open Go.RowKit

theorem kc_got2 {p q g m : Nat} {a b : World} (h : KeepQ p q a b) (hp : p < g) (hq : q < m) (hm : g + 1 ≤ m) (cs : Array Value) : Kc (fresh a m) (fresh (b.setRow g cs) g) := fun x u hu =>
  kc_row b g cs x u (kc_q h (by omega) hm hq x u hu)
set_option maxRecDepth 100000 in
set_option maxHeartbeats 2000000 in
theorem desc2_el (p : Nat) (s : St) (w : World) (h : Rd2.Is w 97 p s) :
    Calls Tryz.prog 49 #[.pointer (some ⟨p, 0, none⟩)] w fun e w' => Eld2 Pc.desc Desc.eqb Desc.Small Desc.At (fun v => .agg #[.int .i64 v.base, .string v.fields, .slice v.iA v.init.length v.ic, .slice v.vA v.vtab.length v.vc, .slice v.sA v.sigs.length v.sc, .slice v.tA v.tabs.length v.tc]) 97 p s w e w' := by
  obtain ⟨i0, hi, hz0, hz1, hz2⟩ := info_parts infoR_tab
  have hpw := h.lt
  have i0' : Rd2.Is (w.alloc (.cells #[.int .i64 0, .string ⟨#[]⟩, .slice none 0 0, .slice none 0 0, .slice none 0 0, .slice none 0 0] 55)) 97 p s := h.low ((Below.refl _ w).alloc (by omega) _)
  have K0 : Hid (Keep p w (w.alloc (.cells #[.int .i64 0, .string ⟨#[]⟩, .slice none 0 0, .slice none 0 0, .slice none 0 0, .slice none 0 0] 55))) := Aid.hid (Keep.of_below ((Below.refl _ w).alloc (Nat.le_refl _) _))
  have HB := Aid.hid (Aid.Has.new w [.int .i64 0, .string ⟨#[]⟩, .slice none 0 0, .slice none 0 0, .slice none 0 0, .slice none 0 0] 55)
  have Z0 : Hid ((w.alloc (.cells #[.int .i64 0, .string ⟨#[]⟩, .slice none 0 0, .slice none 0 0, .slice none 0 0, .slice none 0 0] 55)).heap.size = w.heap.size + 1) := Aid.hid (by rw [World.size_alloc])
  have HC := Aid.hid (num2_el p s (w.alloc (.cells #[.int .i64 0, .string ⟨#[]⟩, .slice none 0 0, .slice none 0 0, .slice none 0 0, .slice none 0 0] 55)) i0')
  clear h i0'
  go_enter Tryz.func49, Tryz.ntmps49
  try simp only [List.append_eq, List.cons_append, List.nil_append]
  go_wp2_with fail
  go_at_call 53
  refine HC.out.mono ?_
  rintro e w1 ⟨v1, s1, rfl, _, _, i1, k1, g1⟩
  clear HC
  have ka : Below w1.heap.size w1 (w1.alloc (.cells #[.int .i64 v1, .string ⟨#[]⟩, .slice none 0 0, .slice none 0 0, .slice none 0 0, .slice none 0 0] 55)) := (Below.refl _ _).alloc (Nat.le_refl _) _
  have BX := Aid.hid (Aid.Has.new w1 [.int .i64 v1, .string ⟨#[]⟩, .slice none 0 0, .slice none 0 0, .slice none 0 0, .slice none 0 0] 55)
  have KZ : Hid (KeepQ p w1.heap.size (w.alloc (.cells #[.int .i64 0, .string ⟨#[]⟩, .slice none 0 0, .slice none 0 0, .slice none 0 0, .slice none 0 0] 55)) (w1.alloc (.cells #[.int .i64 v1, .string ⟨#[]⟩, .slice none 0 0, .slice none 0 0, .slice none 0 0, .slice none 0 0] 55))) := Aid.hid (KeepQ.of (k1.trans (Keep.of_below ka)))
  have KA := Aid.hid (K0.out.trans (k1.trans (Keep.of_below ka)))
  have G1 := Aid.hid g1
  have IA := Aid.hid (i1.low (ka.mono (by have := i1.lt; omega)))
  have QW : Hid (w.heap.size + 1 ≤ w1.heap.size ∧ p < w1.heap.size) := Aid.hid ⟨by rw [← Z0.out]; exact k1.size, i1.lt⟩
  have SA : Hid (w1.heap.size + 1 ≤ (w1.alloc (.cells #[.int .i64 v1, .string ⟨#[]⟩, .slice none 0 0, .slice none 0 0, .slice none 0 0, .slice none 0 0] 55)).heap.size) := Aid.hid (by rw [World.size_alloc]; exact Nat.le_refl _)
  clear ka i1 k1 g1
  have HC := Aid.hid (text2_el p s1 (w1.alloc (.cells #[.int .i64 v1, .string ⟨#[]⟩, .slice none 0 0, .slice none 0 0, .slice none 0 0, .slice none 0 0] 55)) IA.out)
  go_wp2_with fail
  go_at_call 46
  refine HC.out.mono ?_
  rintro e w2 ⟨v2, s2, rfl, a2, _, i2, k2, g2⟩
  clear HC
  have bb := k2.has (by have := QW.out; omega : w1.heap.size ≠ p) BX.out
  have cb2 := bb.cell 1 _ rfl
  have fb2 := bb.frozen 1
  replace BX : Hid (Aid.Has (w2.setCell ⟨w1.heap.size, 1, none⟩ (.string v2)) w1.heap.size [.int .i64 v1, .string v2, .slice none 0 0, .slice none 0 0, .slice none 0 0, .slice none 0 0] 55) := Aid.hid (bb.set 1 _)
  replace KZ := Aid.hid ((KZ.out.thenK k2).set 1 (.string v2))
  have N2 := Aid.hid a2
  replace KA := Aid.hid (Keep.setNew (q := w1.heap.size) (KA.out.trans k2) (by have := QW.out; omega) 1 (.string v2))
  replace IA := Aid.hid (i2.low ((Below.refl (p + 1) w2).setCell (p := ⟨w1.heap.size, 1, none⟩) (show p + 1 ≤ w1.heap.size by have := QW.out; omega) (.string v2)))
  replace SA : Hid (w1.heap.size + 1 ≤ (w2.setCell ⟨w1.heap.size, 1, none⟩ (.string v2)).heap.size) := Aid.hid (by rw [Aid.size_setCell]; exact Nat.le_trans SA.out k2.size)
  have G2 := Aid.hid g2
  clear bb i2 k2 g2 a2
  have HC := Aid.hid (nums2_is p s2 (w2.setCell ⟨w1.heap.size, 1, none⟩ (.string v2)) IA.out)
  go_wp2_with fail
  go_at_call 51
  refine HC.out.mono ?_
  rintro e w3 ⟨A3, c3, v3, s3, rfl, a3, d3, b3, i3, k3, g3⟩
  clear HC
  have bb := k3.has (by have := QW.out; omega : w1.heap.size ≠ p) BX.out
  have cb3 := bb.cell 2 _ rfl
  have fb3 := bb.frozen 2
  replace BX : Hid (Aid.Has (w3.setCell ⟨w1.heap.size, 2, none⟩ (.slice A3 v3.length c3)) w1.heap.size [.int .i64 v1, .string v2, .slice A3 v3.length c3, .slice none 0 0, .slice none 0 0, .slice none 0 0] 55) := Aid.hid (bb.set 2 _)
  replace KZ := Aid.hid ((KZ.out.thenK k3).set 2 (.slice A3 v3.length c3))
  have KQ3 := Aid.hid ((KeepQ.refl p w1.heap.size w3).set 2 (.slice A3 v3.length c3))
  have Z3 := SA
  have P3 := Aid.hid b3
  have D3 := Aid.hid d3
  have N3 := Aid.hid a3
  replace KA := Aid.hid (Keep.setNew (q := w1.heap.size) (KA.out.trans k3) (by have := QW.out; omega) 2 (.slice A3 v3.length c3))
  replace IA := Aid.hid (i3.low ((Below.refl (p + 1) w3).setCell (p := ⟨w1.heap.size, 2, none⟩) (show p + 1 ≤ w1.heap.size by have := QW.out; omega) (.slice A3 v3.length c3)))
  replace SA : Hid (w1.heap.size + 1 ≤ (w3.setCell ⟨w1.heap.size, 2, none⟩ (.slice A3 v3.length c3)).heap.size) := Aid.hid (by rw [Aid.size_setCell]; exact Nat.le_trans SA.out k3.size)
  have G3 := Aid.hid g3
  clear bb i3 k3 g3 a3 d3 b3
  have HC := Aid.hid (nums2_is p s3 (w3.setCell ⟨w1.heap.size, 2, none⟩ (.slice A3 v3.length c3)) IA.out)
  go_wp2_with fail
  go_at_call 51
  refine HC.out.mono ?_
  rintro e w4 ⟨A4, c4, v4, s4, rfl, a4, d4, b4, i4, k4, g4⟩
  clear HC
  have bb := k4.has (by have := QW.out; omega : w1.heap.size ≠ p) BX.out
  have cb4 := bb.cell 3 _ rfl
  have fb4 := bb.frozen 3
  replace BX : Hid (Aid.Has (w4.setCell ⟨w1.heap.size, 3, none⟩ (.slice A4 v4.length c4)) w1.heap.size [.int .i64 v1, .string v2, .slice A3 v3.length c3, .slice A4 v4.length c4, .slice none 0 0, .slice none 0 0] 55) := Aid.hid (bb.set 3 _)
  replace KZ := Aid.hid ((KZ.out.thenK k4).set 3 (.slice A4 v4.length c4))
  replace KQ3 := Aid.hid ((KQ3.out.thenK k4).set 3 (.slice A4 v4.length c4))
  have KQ4 := Aid.hid ((KeepQ.refl p w1.heap.size w4).set 3 (.slice A4 v4.length c4))
  have Z4 := SA
  have P4 := Aid.hid b4
  have D4 := Aid.hid d4
  have N4 := Aid.hid a4
  replace KA := Aid.hid (Keep.setNew (q := w1.heap.size) (KA.out.trans k4) (by have := QW.out; omega) 3 (.slice A4 v4.length c4))
  replace IA := Aid.hid (i4.low ((Below.refl (p + 1) w4).setCell (p := ⟨w1.heap.size, 3, none⟩) (show p + 1 ≤ w1.heap.size by have := QW.out; omega) (.slice A4 v4.length c4)))
  replace SA : Hid (w1.heap.size + 1 ≤ (w4.setCell ⟨w1.heap.size, 3, none⟩ (.slice A4 v4.length c4)).heap.size) := Aid.hid (by rw [Aid.size_setCell]; exact Nat.le_trans SA.out k4.size)
  have G4 := Aid.hid g4
  clear bb i4 k4 g4 a4 d4 b4
  have HC := Aid.hid (texts2_is p s4 (w4.setCell ⟨w1.heap.size, 3, none⟩ (.slice A4 v4.length c4)) IA.out)
  go_wp2_with fail
  go_at_call 48
  refine HC.out.mono ?_
  rintro e w5 ⟨A5, c5, v5, s5, rfl, a5, d5, b5, i5, k5, g5⟩
  clear HC
  have bb := k5.has (by have := QW.out; omega : w1.heap.size ≠ p) BX.out
  have cb5 := bb.cell 4 _ rfl
  have fb5 := bb.frozen 4
  replace BX : Hid (Aid.Has (w5.setCell ⟨w1.heap.size, 4, none⟩ (.slice A5 v5.length c5)) w1.heap.size [.int .i64 v1, .string v2, .slice A3 v3.length c3, .slice A4 v4.length c4, .slice A5 v5.length c5, .slice none 0 0] 55) := Aid.hid (bb.set 4 _)
  replace KZ := Aid.hid ((KZ.out.thenK k5).set 4 (.slice A5 v5.length c5))
  replace KQ3 := Aid.hid ((KQ3.out.thenK k5).set 4 (.slice A5 v5.length c5))
  replace KQ4 := Aid.hid ((KQ4.out.thenK k5).set 4 (.slice A5 v5.length c5))
  have KQ5 := Aid.hid ((KeepQ.refl p w1.heap.size w5).set 4 (.slice A5 v5.length c5))
  have Z5 := SA
  have P5 := Aid.hid b5
  have D5 := Aid.hid d5
  have N5 := Aid.hid a5
  replace KA := Aid.hid (Keep.setNew (q := w1.heap.size) (KA.out.trans k5) (by have := QW.out; omega) 4 (.slice A5 v5.length c5))
  replace IA := Aid.hid (i5.low ((Below.refl (p + 1) w5).setCell (p := ⟨w1.heap.size, 4, none⟩) (show p + 1 ≤ w1.heap.size by have := QW.out; omega) (.slice A5 v5.length c5)))
  replace SA : Hid (w1.heap.size + 1 ≤ (w5.setCell ⟨w1.heap.size, 4, none⟩ (.slice A5 v5.length c5)).heap.size) := Aid.hid (by rw [Aid.size_setCell]; exact Nat.le_trans SA.out k5.size)
  have G5 := Aid.hid g5
  clear bb i5 k5 g5 a5 d5 b5
  have HC := Aid.hid (many2_is p s5 (w5.setCell ⟨w1.heap.size, 4, none⟩ (.slice A5 v5.length c5)) IA.out)
  go_wp2_with fail
  go_at_call 47
  refine HC.out.mono ?_
  rintro e wm ⟨n, sm, rfl, hn, h2, h3, h4, _⟩
  clear HC
  have I0 := Aid.hid (show BoxInv Pc.tab Tab.eqb (fun x => x.l.length ≤ 10000) Tab.At (fun v => [.int .i64 v.face, .slice v.A v.l.length v.c]) 57 2 97 p w1.heap.size s5 (w5.setCell ⟨w1.heap.size, 4, none⟩ (.slice A5 v5.length c5)) n 0 none 0 [] wm from BoxInv.startM (fun u => by rw [Pc.tab, Pc.len, Pc.num_len]; omega) h2 (KeepQ.of h3) h4)
  have X0 := Aid.hid (h3.has (by have := QW.out; omega : w1.heap.size ≠ p) BX.out)
  clear h2 h3 h4 IA cb2 fb2 cb3 fb3 cb4 fb4 cb5 fb5
  go_wp2_with fail
  go_loopw [5] (fun vi wr => ∃ (k : Nat) (A : Option Addr) (c : Nat) (l : List Tab), vi = .int .i64 k ∧ k ≤ n ∧ Hid (BoxInv Pc.tab Tab.eqb (fun x => x.l.length ≤ 10000) Tab.At (fun v => [.int .i64 v.face, .slice v.A v.l.length v.c]) 57 2 97 p w1.heap.size s5 (w5.setCell ⟨w1.heap.size, 4, none⟩ (.slice A5 v5.length c5)) n k A c l wr) ∧ Hid (Aid.Has wr w1.heap.size [.int .i64 v1, .string v2, .slice A3 v3.length c3, .slice A4 v4.length c4, .slice A5 v5.length c5, .slice A l.length c] 55)) (fun vi _ => n - (intOf vi).toNat)
  case atStart => exact ⟨0, none, 0, [], rfl, Nat.zero_le _, I0, X0⟩
  case round =>
    clear I0 X0 BX
    obtain ⟨k, A, c, l, rfl, hk, I, X⟩ := hrel
    obtain ⟨hl, HO, HE, HK, sk, hI, HT⟩ := I.out
    have hrow := fresh_rows (sz := 2) (rows := l.map (fun v => [.int .i64 v.face, .slice v.A v.l.length v.c])) (by intro r hr; obtain ⟨x, _, rfl⟩ := List.mem_map.1 hr; rfl) (by rw [List.length_map]; exact HO)
    have hLim : l.length ≤ Lim := by show _ ≤ 9223372036854775807; omega
    have hqs := SA.out
    have hqw := QW.out
    have HBm : wr.heap[w.heap.size]? = some (.cells #[.int .i64 0, .string ⟨#[]⟩, .slice none 0 0, .slice none 0 0, .slice none 0 0, .slice none 0 0] 55 (0, 0)) := ((KZ.out.trans HK).block w.heap.size (by rw [Z0.out]; omega) (by omega) (by omega)).trans HB.out
    have PL : LTabs (fresh wr (w5.setCell ⟨w1.heap.size, 4, none⟩ (.slice A5 v5.length c5)).heap.size) wr.heap.size A l := ⟨hLim, hrow, fun x hx => Tab.At.kc (HE x hx).2 Kc.row_out (Nat.le_refl _)⟩
    have FIN : Hid (Got (fun us => Pc.list Pc.tab us) (fun us => eqAll Tab.eqb l us = true) s5 sk → (fun e w' => Eld2 Pc.desc Desc.eqb Desc.Small Desc.At (fun v => .agg #[.int .i64 v.base, .string v.fields, .slice v.iA v.init.length v.ic, .slice v.vA v.vtab.length v.vc, .slice v.sA v.sigs.length v.sc, .slice v.tA v.tabs.length v.tc]) 97 p s w e w') (.returned (.agg #[.int .i64 v1, .string v2, .slice A3 v3.length c3, .slice A4 v4.length c4, .slice A5 v5.length c5, .slice A l.length c])) (wr.setRow w.heap.size #[.int .i64 v1, .string v2, .slice A3 v3.length c3, .slice A4 v4.length c4, .slice A5 v5.length c5, .slice A l.length c])) := Aid.hid fun hG => ⟨⟨v1, v2, A3, v3, c3, A4, v4, c4, A5, v5, c5, A, l, c⟩, sk, rfl, ⟨N2.out, N3.out, N4.out, ⟨N5.out, D5.out⟩, (show l.length ≤ 10000 by omega), fun x hx => (HE x hx).1⟩, ⟨(P3.out.kc (kc_got2 (KQ3.out.trans HK) hpw (by have := Z3.out; omega) (by have := Z3.out; omega) _) (by rw [row_size]; exact (KQ3.out.trans HK).size)), (P4.out.kc (kc_got2 (KQ4.out.trans HK) hpw (by have := Z4.out; omega) (by have := Z4.out; omega) _) (by rw [row_size]; exact (KQ4.out.trans HK).size)), (P5.out.kc (kc_got2 (KQ5.out.trans HK) hpw (by have := Z5.out; omega) (by have := Z5.out; omega) _) (by rw [row_size]; exact (KQ5.out.trans HK).size)), (PL.kc (kc_got2 (KeepQ.refl p w1.heap.size wr) hpw (by omega) (by omega) _) (by rw [row_size]; exact Nat.le_refl _))⟩, hI.low (row_below (Below.refl _ _) (by omega) _), (HK.keep KA.out (by omega)).row (Nat.le_refl _) _, Got.of ((((((G1.out.map (fun v : Desc => v.base)).seq (G2.out.map (fun v : Desc => v.fields))).seq (G3.out.map (fun v : Desc => v.init))).seq (G4.out.map (fun v : Desc => v.vtab))).seq (G5.out.map (fun v : Desc => v.sigs))).seq (hG.map (fun v : Desc => v.tabs))) (fun v => rfl) (fun v h => by simpa [Desc.eqb, Int.eqb, Txt.eqb] using h)⟩
    clear hrow PL
    have HM := Aid.hid HBm
    have bx := X.out
    have SA0 := SA
    have QW0 := QW
    by_cases hlt : k < n
    · cases hx : sk.x
      · have HLL := Aid.hid hl
        have hO := Aid.hid HO; have hE := Aid.hid HE; have hK := Aid.hid HK; have hT := Aid.hid HT
        have HX := X
        have hpr := hI.lt
        have HC := Aid.hid (num2_el p sk wr hI)
        have ZB := Aid.hid (⟨hI.lt, Nat.le_refl wr.heap.size⟩ : p < wr.heap.size ∧ _)
        obtain ⟨B0, d0, bs0, a0, q0, _⟩ := hI
        have z2 := q0.cell 2 _ rfl
        rw [hx] at z2
        clear q0 hx I hl HO HE HK HT FIN HM HBm bx hqs hqw hLim
        go_wp2_with fail
        go_at_call 53
        refine HC.out.mono ?_
        rintro e w1e ⟨x1, s1e, rfl, _, _, i1, k1, g1⟩
        clear HC z2
        obtain ⟨wa, hwa⟩ : ∃ wa, w1e.alloc (.cells #[.int .i64 x1, .slice none 0 0] 57) = wa := ⟨_, rfl⟩
        have ka : Below w1e.heap.size w1e wa := by subst hwa; exact (Below.refl _ _).alloc (Nat.le_refl _) _
        have ba : Aid.Has wa w1e.heap.size [.int .i64 x1, .slice none 0 0] 57 := by subst hwa; exact Aid.Has.new w1e [.int .i64 x1, .slice none 0 0] 57
        have KA := Aid.hid (k1.trans (Keep.of_below ka))
        have G1 := Aid.hid g1
        have BA := Aid.hid ba
        have IA := Aid.hid (i1.low (ka.mono (by have := i1.lt; omega)))
        have QW : Hid (wr.heap.size ≤ w1e.heap.size ∧ p < w1e.heap.size) := Aid.hid ⟨k1.size, i1.lt⟩
        have SA : Hid (w1e.heap.size + 1 ≤ wa.heap.size) := Aid.hid (by subst hwa; rw [World.size_alloc]; exact Nat.le_refl _)
        have HC := Aid.hid (nums2_is p s1e wa IA.out)
        clear i1 k1 g1 ka ba
        subst hwa
        go_wp2_with fail
        go_at_call 51
        refine HC.out.mono ?_
        rintro e w2e ⟨XA, xc, x2, s2e, rfl, n2, _, b2, i2, k2, g2⟩
        clear HC
        have bb := k2.has (by have := QW.out; omega : w1e.heap.size ≠ p) BA.out
        have cb1 := bb.cell 1 _ rfl
        have fb1 := bb.frozen 1
        have BB1 : Hid (Aid.Has (w2e.setCell ⟨w1e.heap.size, 1, none⟩ (.slice XA x2.length xc)) w1e.heap.size [.int .i64 x1, .slice XA x2.length xc] 57) := Aid.hid (bb.set 1 _)
        have AT := Aid.hid b2
        have D2 := Aid.hid n2
        replace KA := Aid.hid (Keep.setNew (q := w1e.heap.size) (KA.out.trans k2) (by have := QW.out; omega) 1 (.slice XA x2.length xc))
        replace IA := Aid.hid (i2.low ((Below.refl (p + 1) w2e).setCell (p := ⟨w1e.heap.size, 1, none⟩) (show p + 1 ≤ w1e.heap.size by have := QW.out; omega) (.slice XA x2.length xc)))
        have G2 := Aid.hid g2
        clear bb i2 k2 g2 n2 b2
        have k3 : Below (w2e.setCell ⟨w1e.heap.size, 1, none⟩ (.slice XA x2.length xc)).heap.size (w2e.setCell ⟨w1e.heap.size, 1, none⟩ (.slice XA x2.length xc)) ((w2e.setCell ⟨w1e.heap.size, 1, none⟩ (.slice XA x2.length xc)).alloc (.cells #[.int .i64 x1, .slice XA x2.length xc] 57)) := (Below.refl _ _).alloc (Nat.le_refl _) _
        have hq1 := SA0.out
        have hq2 := QW0.out
        have hpd : p < (w5.setCell ⟨w1.heap.size, 4, none⟩ (.slice A5 v5.length c5)).heap.size := by omega
        have ho3 : ((w2e.setCell ⟨w1e.heap.size, 1, none⟩ (.slice XA x2.length xc)).alloc (.cells #[.int .i64 x1, .slice XA x2.length xc] 57)).ownsRow (w5.setCell ⟨w1.heap.size, 4, none⟩ (.slice A5 v5.length c5)).heap.size 57 2 (.slice A l.length c) l.length ((l.map (fun v => [.int .i64 v.face, .slice v.A v.l.length v.c])).flatten) := own_keeps (KA.out.own hpd hO.out) k3
        have hnew := Aid.Has.new (w2e.setCell ⟨w1e.heap.size, 1, none⟩ (.slice XA x2.length xc)) [.int .i64 x1, .slice XA x2.length xc] 57
        have hws : (w2e.setCell ⟨w1e.heap.size, 1, none⟩ (.slice XA x2.length xc)).heap.size = w2e.heap.size := Aid.size_setCell _ _ _
        have hr : Reads ((w2e.setCell ⟨w1e.heap.size, 1, none⟩ (.slice XA x2.length xc)).alloc (.cells #[.int .i64 x1, .slice XA x2.length xc] 57)) ((w2e.setCell ⟨w1e.heap.size, 1, none⟩ (.slice XA x2.length xc)).alloc (.cells #[.int .i64 x1, .slice XA x2.length xc] 57)).heap.size 2 (some ⟨w2e.heap.size, 0, none⟩) 1 [.int .i64 x1, .slice XA x2.length xc] := ⟨by simp, fun _ => ⟨⟨w2e.heap.size, 0, none⟩, rfl, by rw [World.size_alloc, hws]; exact Nat.lt_succ_self _, fun j u hj => by
          rw [Go.WideShapes.add_plain, Nat.zero_add, ← hws]
          exact hnew.cell j u hj⟩⟩
        have hbs : (w5.setCell ⟨w1.heap.size, 4, none⟩ (.slice A5 v5.length c5)).heap.size ≤ ((w2e.setCell ⟨w1e.heap.size, 1, none⟩ (.slice XA x2.length xc)).alloc (.cells #[.int .i64 x1, .slice XA x2.length xc] 57)).heap.size := Nat.le_trans hK.out.size (Nat.le_trans KA.out.size k3.size)
        have hll : l.length ≤ 10000 := by have := HLL.out; omega
        have bx := BB1.out
        have e0 := bx.cell 0 _ rfl
        have e1 := bx.cell 1 _ rfl
        have xx := KA.out.has (by omega : w1.heap.size ≠ p) HX.out
        have x5 := xx.cell 5 _ rfl
        have GG : Hid (Got Pc.tab (fun u => Tab.eqb (⟨x1, XA, x2, xc⟩ : Tab) u = true) sk s2e) := Aid.hid (Got.of ((G1.out.map (fun v : Tab => v.face)).seq (G2.out.map (fun v : Tab => v.l))) (fun v => rfl) (fun v h => by simpa [Tab.eqb, Int.eqb] using h))
        have XX := Aid.hid (xx.below k3 (by have := hK.out.size; have := KA.out.size; omega : w1.heap.size < (w2e.setCell ⟨w1e.heap.size, 1, none⟩ (.slice XA x2.length xc)).heap.size))
        have QS : w1.heap.size < ((w2e.setCell ⟨w1e.heap.size, 1, none⟩ (.slice XA x2.length xc)).alloc (.cells #[.int .i64 x1, .slice XA x2.length xc] 57)).heap.size := by have := hbs; omega
        have K3 := Aid.hid k3
        have HWS := Aid.hid hws
        clear k3 hnew bx hws xx
        go_wp2_with (at_builtin; refine wpList_append_any _ rfl _ _ 53 rfl (w5.setCell ⟨w1.heap.size, 4, none⟩ (.slice A5 v5.length c5)).heap.size 57 i0 (.agg #[.int .i64 0, .slice none 0 0]) 2 32 Tryz.underlying53 hi hz0 hz1 hz2 rfl (by decide) _ _ _ rfl ho3 _ (some ⟨w2e.heap.size, 0, none⟩) 1 1 [.int .i64 x1, .slice XA x2.length xc] rfl hr ?d1 ?d2 ?d3 hbs ?_)
        case d1 => intro u hu; simp at hu; rcases hu with rfl | rfl <;> rfl
        case d2 => unfold maxLen; omega
        case d3 => omega
        intro v9 w9 ho9 hg9 hob
        have X9 : Aid.Has w9 w1.heap.size [.int .i64 v1, .string v2, .slice A3 v3.length c3, .slice A4 v4.length c4, .slice A5 v5.length c5, .slice A l.length c] 55 := (hg9.block w1.heap.size QS (fun e => by have := (hO.out.lt w1.heap.size e.symm).1; omega)).trans XX.out
        obtain ⟨A2, c2, rfl, J⟩ := BoxInv.next (S := (fun x => x.l.length ≤ 10000)) (At := Tab.At) (cells := (fun v => [.int .i64 v.face, .slice v.A v.l.length v.c])) (v := (⟨x1, XA, x2, xc⟩ : Tab)) (Tab.At.kc) HLL.out hO.out hE.out hK.out hT.out hpd hlt D2.out (LNums.kc AT.out (kc_q ((KeepQ.refl p w1e.heap.size w2e).set 1 (.slice XA x2.length xc)) hpr (by have := QW.out; have := SA.out; omega) (by have := SA.out; omega)) (by rw [Aid.size_setCell]; exact Nat.le_refl _)) IA.out KA.out GG.out K3.out (by rw [Aid.size_setCell]; exact ho9) hg9 (by simpa only [World.size_alloc, HWS.out] using hob)
        have HJ := Aid.hid (BoxInv.set (At := Tab.At) (Tab.At.kc) J hq2.2 hq1 5 (.slice A2 (l.length + 1) c2))
        have Y5 := X9.cell 5 _ rfl
        have F5 := X9.frozen 5
        have X10 := Aid.hid (X9.set 5 (.slice A2 (l.length + 1) c2))
        have LQ : (l ++ [(⟨x1, XA, x2, xc⟩ : Tab)]).length = l.length + 1 := by simp
        clear J ho9 hg9 hob ho3 hr hbs hO hE hK hT G1 G2 GG KA IA K3 HLL e0 e1 cb1 fb1 X9 XX x5 HX X
        go_wp2_with fail
        go_roundw
        case rel => exact ⟨k + 1, A2, c2, l ++ [(⟨x1, XA, x2, xc⟩ : Tab)], by go_num, by omega, HJ, by rw [LQ]; exact X10⟩
        case measure => simp [intOf]; omega
      · have FE := Aid.hid (FIN.out (HT.ended hx))
        obtain ⟨B0, d0, bs0, a0, q0, _⟩ := hI
        have z2 := q0.cell 2 _ rfl
        rw [hx] at z2
        clear I X hl HO HE HK HT q0 FIN hx HBm hqs hqw hLim SA0 QW0
        have e0 := bx.cell 0 _ rfl
        have e1 := bx.cell 1 _ rfl
        have e2 := bx.cell 2 _ rfl
        have e3 := bx.cell 3 _ rfl
        have e4 := bx.cell 4 _ rfl
        have e5 := bx.cell 5 _ rfl
        clear bx
        go_wp2_with (refine wpList_store_row rfl 55 _ _ rfl w.heap.size #[.int .i64 v1, .string v2, .slice A3 v3.length c3, .slice A4 v4.length c4, .slice A5 v5.length c5, .slice A l.length c] rfl rfl 55 #[.int .i64 0, .string ⟨#[]⟩, .slice none 0 0, .slice none 0 0, .slice none 0 0, .slice none 0 0] HM.out (by kernel_rfl) rfl (by simp [Value.oneCell']) ?_)
        have HR : Aid.Has (wr.setRow w.heap.size #[.int .i64 v1, .string v2, .slice A3 v3.length c3, .slice A4 v4.length c4, .slice A5 v5.length c5, .slice A l.length c]) w.heap.size [.int .i64 v1, .string v2, .slice A3 v3.length c3, .slice A4 v4.length c4, .slice A5 v5.length c5, .slice A l.length c] 55 := row_has (ys := [.int .i64 v1, .string v2, .slice A3 v3.length c3, .slice A4 v4.length c4, .slice A5 v5.length c5, .slice A l.length c]) HM.out
        refine bodyPost_ret (v := .agg #[.int .i64 v1, .string v2, .slice A3 v3.length c3, .slice A4 v4.length c4, .slice A5 v5.length c5, .slice A l.length c]) (results_cell_row rfl _ _ w.heap.size 55 #[.int .i64 v1, .string v2, .slice A3 v3.length c3, .slice A4 v4.length c4, .slice A5 v5.length c5, .slice A l.length c] (0, 0) _ rfl HR Tryz.underlying55 rfl (by kernel_rfl)) rfl ?_
        exact FE.out
    · have FE := Aid.hid (FIN.out (HT.done (by omega)))
      clear I X hl HO HE HK HT hI FIN HBm hqs hqw hLim SA0 QW0
      have e0 := bx.cell 0 _ rfl
      have e1 := bx.cell 1 _ rfl
      have e2 := bx.cell 2 _ rfl
      have e3 := bx.cell 3 _ rfl
      have e4 := bx.cell 4 _ rfl
      have e5 := bx.cell 5 _ rfl
      clear bx
      go_wp2_with (refine wpList_store_row rfl 55 _ _ rfl w.heap.size #[.int .i64 v1, .string v2, .slice A3 v3.length c3, .slice A4 v4.length c4, .slice A5 v5.length c5, .slice A l.length c] rfl rfl 55 #[.int .i64 0, .string ⟨#[]⟩, .slice none 0 0, .slice none 0 0, .slice none 0 0, .slice none 0 0] HM.out (by kernel_rfl) rfl (by simp [Value.oneCell']) ?_)
      have HR : Aid.Has (wr.setRow w.heap.size #[.int .i64 v1, .string v2, .slice A3 v3.length c3, .slice A4 v4.length c4, .slice A5 v5.length c5, .slice A l.length c]) w.heap.size [.int .i64 v1, .string v2, .slice A3 v3.length c3, .slice A4 v4.length c4, .slice A5 v5.length c5, .slice A l.length c] 55 := row_has (ys := [.int .i64 v1, .string v2, .slice A3 v3.length c3, .slice A4 v4.length c4, .slice A5 v5.length c5, .slice A l.length c]) HM.out
      refine bodyPost_ret (v := .agg #[.int .i64 v1, .string v2, .slice A3 v3.length c3, .slice A4 v4.length c4, .slice A5 v5.length c5, .slice A l.length c]) (results_cell_row rfl _ _ w.heap.size 55 #[.int .i64 v1, .string v2, .slice A3 v3.length c3, .slice A4 v4.length c4, .slice A5 v5.length c5, .slice A l.length c] (0, 0) _ rfl HR Tryz.underlying55 rfl (by kernel_rfl)) rfl ?_
      exact FE.out
set_option maxRecDepth 100000 in
set_option maxHeartbeats 2000000 in
theorem cod2_el (p : Nat) (s : St) (w : World) (h : Rd2.Is w 97 p s) :
    Calls Tryz.prog 50 #[.pointer (some ⟨p, 0, none⟩)] w fun e w' => Eld2 Pc.cod Cod.eqb Cod.Small Cod.At (fun v => .agg #[.int .i64 v.cls, .string v.params, .string v.locals, .bool v.ret, .int .i64 v.stack, .slice v.oA v.ops.length v.oc]) 97 p s w e w' := by
  obtain ⟨i0, hi, hz0, hz1, hz2⟩ := info_parts infoR_op
  have hpw := h.lt
  have i0' : Rd2.Is (w.alloc (.cells #[.int .i64 0, .string ⟨#[]⟩, .string ⟨#[]⟩, .bool false, .int .i64 0, .slice none 0 0] 60)) 97 p s := h.low ((Below.refl _ w).alloc (by omega) _)
  have K0 : Hid (Keep p w (w.alloc (.cells #[.int .i64 0, .string ⟨#[]⟩, .string ⟨#[]⟩, .bool false, .int .i64 0, .slice none 0 0] 60))) := Aid.hid (Keep.of_below ((Below.refl _ w).alloc (Nat.le_refl _) _))
  have HB := Aid.hid (Aid.Has.new w [.int .i64 0, .string ⟨#[]⟩, .string ⟨#[]⟩, .bool false, .int .i64 0, .slice none 0 0] 60)
  have Z0 : Hid ((w.alloc (.cells #[.int .i64 0, .string ⟨#[]⟩, .string ⟨#[]⟩, .bool false, .int .i64 0, .slice none 0 0] 60)).heap.size = w.heap.size + 1) := Aid.hid (by rw [World.size_alloc])
  have HC := Aid.hid (num2_el p s (w.alloc (.cells #[.int .i64 0, .string ⟨#[]⟩, .string ⟨#[]⟩, .bool false, .int .i64 0, .slice none 0 0] 60)) i0')
  clear h i0'
  go_enter Tryz.func50, Tryz.ntmps50
  try simp only [List.append_eq, List.cons_append, List.nil_append]
  go_wp2_with fail
  go_at_call 53
  refine HC.out.mono ?_
  rintro e w1 ⟨v1, s1, rfl, _, _, i1, k1, g1⟩
  clear HC
  have ka : Below w1.heap.size w1 (w1.alloc (.cells #[.int .i64 v1, .string ⟨#[]⟩, .string ⟨#[]⟩, .bool false, .int .i64 0, .slice none 0 0] 60)) := (Below.refl _ _).alloc (Nat.le_refl _) _
  have BX := Aid.hid (Aid.Has.new w1 [.int .i64 v1, .string ⟨#[]⟩, .string ⟨#[]⟩, .bool false, .int .i64 0, .slice none 0 0] 60)
  have KZ : Hid (KeepQ p w1.heap.size (w.alloc (.cells #[.int .i64 0, .string ⟨#[]⟩, .string ⟨#[]⟩, .bool false, .int .i64 0, .slice none 0 0] 60)) (w1.alloc (.cells #[.int .i64 v1, .string ⟨#[]⟩, .string ⟨#[]⟩, .bool false, .int .i64 0, .slice none 0 0] 60))) := Aid.hid (KeepQ.of (k1.trans (Keep.of_below ka)))
  have KA := Aid.hid (K0.out.trans (k1.trans (Keep.of_below ka)))
  have G1 := Aid.hid g1
  have IA := Aid.hid (i1.low (ka.mono (by have := i1.lt; omega)))
  have QW : Hid (w.heap.size + 1 ≤ w1.heap.size ∧ p < w1.heap.size) := Aid.hid ⟨by rw [← Z0.out]; exact k1.size, i1.lt⟩
  have SA : Hid (w1.heap.size + 1 ≤ (w1.alloc (.cells #[.int .i64 v1, .string ⟨#[]⟩, .string ⟨#[]⟩, .bool false, .int .i64 0, .slice none 0 0] 60)).heap.size) := Aid.hid (by rw [World.size_alloc]; exact Nat.le_refl _)
  clear ka i1 k1 g1
  have HC := Aid.hid (text2_el p s1 (w1.alloc (.cells #[.int .i64 v1, .string ⟨#[]⟩, .string ⟨#[]⟩, .bool false, .int .i64 0, .slice none 0 0] 60)) IA.out)
  go_wp2_with fail
  go_at_call 46
  refine HC.out.mono ?_
  rintro e w2 ⟨v2, s2, rfl, a2, _, i2, k2, g2⟩
  clear HC
  have bb := k2.has (by have := QW.out; omega : w1.heap.size ≠ p) BX.out
  have cb2 := bb.cell 1 _ rfl
  have fb2 := bb.frozen 1
  replace BX : Hid (Aid.Has (w2.setCell ⟨w1.heap.size, 1, none⟩ (.string v2)) w1.heap.size [.int .i64 v1, .string v2, .string ⟨#[]⟩, .bool false, .int .i64 0, .slice none 0 0] 60) := Aid.hid (bb.set 1 _)
  replace KZ := Aid.hid ((KZ.out.thenK k2).set 1 (.string v2))
  have N2 := Aid.hid a2
  replace KA := Aid.hid (Keep.setNew (q := w1.heap.size) (KA.out.trans k2) (by have := QW.out; omega) 1 (.string v2))
  replace IA := Aid.hid (i2.low ((Below.refl (p + 1) w2).setCell (p := ⟨w1.heap.size, 1, none⟩) (show p + 1 ≤ w1.heap.size by have := QW.out; omega) (.string v2)))
  replace SA : Hid (w1.heap.size + 1 ≤ (w2.setCell ⟨w1.heap.size, 1, none⟩ (.string v2)).heap.size) := Aid.hid (by rw [Aid.size_setCell]; exact Nat.le_trans SA.out k2.size)
  have G2 := Aid.hid g2
  clear bb i2 k2 g2 a2
  have HC := Aid.hid (text2_el p s2 (w2.setCell ⟨w1.heap.size, 1, none⟩ (.string v2)) IA.out)
  go_wp2_with fail
  go_at_call 46
  refine HC.out.mono ?_
  rintro e w3 ⟨v3, s3, rfl, a3, _, i3, k3, g3⟩
  clear HC
  have bb := k3.has (by have := QW.out; omega : w1.heap.size ≠ p) BX.out
  have cb3 := bb.cell 2 _ rfl
  have fb3 := bb.frozen 2
  replace BX : Hid (Aid.Has (w3.setCell ⟨w1.heap.size, 2, none⟩ (.string v3)) w1.heap.size [.int .i64 v1, .string v2, .string v3, .bool false, .int .i64 0, .slice none 0 0] 60) := Aid.hid (bb.set 2 _)
  replace KZ := Aid.hid ((KZ.out.thenK k3).set 2 (.string v3))
  have N3 := Aid.hid a3
  replace KA := Aid.hid (Keep.setNew (q := w1.heap.size) (KA.out.trans k3) (by have := QW.out; omega) 2 (.string v3))
  replace IA := Aid.hid (i3.low ((Below.refl (p + 1) w3).setCell (p := ⟨w1.heap.size, 2, none⟩) (show p + 1 ≤ w1.heap.size by have := QW.out; omega) (.string v3)))
  replace SA : Hid (w1.heap.size + 1 ≤ (w3.setCell ⟨w1.heap.size, 2, none⟩ (.string v3)).heap.size) := Aid.hid (by rw [Aid.size_setCell]; exact Nat.le_trans SA.out k3.size)
  have G3 := Aid.hid g3
  clear bb i3 k3 g3 a3
  have HC := Aid.hid (num2_el p s3 (w3.setCell ⟨w1.heap.size, 2, none⟩ (.string v3)) IA.out)
  go_wp2_with fail
  go_at_call 53
  refine HC.out.mono ?_
  rintro e w4 ⟨v4, s4, rfl, a4, _, i4, k4, g4⟩
  clear HC
  have bb := k4.has (by have := QW.out; omega : w1.heap.size ≠ p) BX.out
  have cb4 := bb.cell 3 _ rfl
  have fb4 := bb.frozen 3
  replace BX : Hid (Aid.Has (w4.setCell ⟨w1.heap.size, 3, none⟩ (.bool (v4 == 1))) w1.heap.size [.int .i64 v1, .string v2, .string v3, .bool (v4 == 1), .int .i64 0, .slice none 0 0] 60) := Aid.hid (bb.set 3 _)
  replace KZ := Aid.hid ((KZ.out.thenK k4).set 3 (.bool (v4 == 1)))
  have N4 := Aid.hid a4
  replace KA := Aid.hid (Keep.setNew (q := w1.heap.size) (KA.out.trans k4) (by have := QW.out; omega) 3 (.bool (v4 == 1)))
  replace IA := Aid.hid (i4.low ((Below.refl (p + 1) w4).setCell (p := ⟨w1.heap.size, 3, none⟩) (show p + 1 ≤ w1.heap.size by have := QW.out; omega) (.bool (v4 == 1))))
  replace SA : Hid (w1.heap.size + 1 ≤ (w4.setCell ⟨w1.heap.size, 3, none⟩ (.bool (v4 == 1))).heap.size) := Aid.hid (by rw [Aid.size_setCell]; exact Nat.le_trans SA.out k4.size)
  have G4 := Aid.hid g4
  clear bb i4 k4 g4 a4
  have HC := Aid.hid (num2_el p s4 (w4.setCell ⟨w1.heap.size, 3, none⟩ (.bool (v4 == 1))) IA.out)
  go_wp2_with fail
  go_at_call 53
  refine HC.out.mono ?_
  rintro e w5 ⟨v5, s5, rfl, a5, _, i5, k5, g5⟩
  clear HC
  have bb := k5.has (by have := QW.out; omega : w1.heap.size ≠ p) BX.out
  have cb5 := bb.cell 4 _ rfl
  have fb5 := bb.frozen 4
  replace BX : Hid (Aid.Has (w5.setCell ⟨w1.heap.size, 4, none⟩ (.int .i64 v5)) w1.heap.size [.int .i64 v1, .string v2, .string v3, .bool (v4 == 1), .int .i64 v5, .slice none 0 0] 60) := Aid.hid (bb.set 4 _)
  replace KZ := Aid.hid ((KZ.out.thenK k5).set 4 (.int .i64 v5))
  have N5 := Aid.hid a5
  replace KA := Aid.hid (Keep.setNew (q := w1.heap.size) (KA.out.trans k5) (by have := QW.out; omega) 4 (.int .i64 v5))
  replace IA := Aid.hid (i5.low ((Below.refl (p + 1) w5).setCell (p := ⟨w1.heap.size, 4, none⟩) (show p + 1 ≤ w1.heap.size by have := QW.out; omega) (.int .i64 v5)))
  replace SA : Hid (w1.heap.size + 1 ≤ (w5.setCell ⟨w1.heap.size, 4, none⟩ (.int .i64 v5)).heap.size) := Aid.hid (by rw [Aid.size_setCell]; exact Nat.le_trans SA.out k5.size)
  have G5 := Aid.hid g5
  clear bb i5 k5 g5 a5
  have HC := Aid.hid (many2_is p s5 (w5.setCell ⟨w1.heap.size, 4, none⟩ (.int .i64 v5)) IA.out)
  go_wp2_with fail
  go_at_call 47
  refine HC.out.mono ?_
  rintro e wm ⟨n, sm, rfl, hn, h2, h3, h4, _⟩
  clear HC
  have I0 := Aid.hid (show BoxInv Pc.op Opr.eqb (fun _ => True) (fun _ _ _ => True) (fun v => [.int .i64 v.k, .int .i64 v.a, .int .i64 v.b]) 118 3 97 p w1.heap.size s5 (w5.setCell ⟨w1.heap.size, 4, none⟩ (.int .i64 v5)) n 0 none 0 [] wm from BoxInv.startM (fun u => by rw [Pc.op_len]; decide) h2 (KeepQ.of h3) h4)
  have X0 := Aid.hid (h3.has (by have := QW.out; omega : w1.heap.size ≠ p) BX.out)
  clear h2 h3 h4 IA cb2 fb2 cb3 fb3 cb4 fb4 cb5 fb5
  go_wp2_with fail
  go_loopw [5] (fun vi wr => ∃ (k : Nat) (A : Option Addr) (c : Nat) (l : List Opr), vi = .int .i64 k ∧ k ≤ n ∧ Hid (BoxInv Pc.op Opr.eqb (fun _ => True) (fun _ _ _ => True) (fun v => [.int .i64 v.k, .int .i64 v.a, .int .i64 v.b]) 118 3 97 p w1.heap.size s5 (w5.setCell ⟨w1.heap.size, 4, none⟩ (.int .i64 v5)) n k A c l wr) ∧ Hid (Aid.Has wr w1.heap.size [.int .i64 v1, .string v2, .string v3, .bool (v4 == 1), .int .i64 v5, .slice A l.length c] 60)) (fun vi _ => n - (intOf vi).toNat)
  case atStart => exact ⟨0, none, 0, [], rfl, Nat.zero_le _, I0, X0⟩
  case round =>
    clear I0 X0 BX
    obtain ⟨k, A, c, l, rfl, hk, I, X⟩ := hrel
    obtain ⟨hl, HO, HE, HK, sk, hI, HT⟩ := I.out
    have hrow := fresh_rows (sz := 3) (rows := l.map (fun v => [.int .i64 v.k, .int .i64 v.a, .int .i64 v.b])) (by intro r hr; obtain ⟨x, _, rfl⟩ := List.mem_map.1 hr; rfl) (by rw [List.length_map]; exact HO)
    have hLim : l.length ≤ Lim := by show _ ≤ 9223372036854775807; omega
    have hqs := SA.out
    have hqw := QW.out
    have HBm : wr.heap[w.heap.size]? = some (.cells #[.int .i64 0, .string ⟨#[]⟩, .string ⟨#[]⟩, .bool false, .int .i64 0, .slice none 0 0] 60 (0, 0)) := ((KZ.out.trans HK).block w.heap.size (by rw [Z0.out]; omega) (by omega) (by omega)).trans HB.out
    have PL : LOps (fresh wr (w5.setCell ⟨w1.heap.size, 4, none⟩ (.int .i64 v5)).heap.size) wr.heap.size A l := ⟨hLim, hrow⟩
    have FIN : Hid (Got (fun us => Pc.list Pc.op us) (fun us => eqAll Opr.eqb l us = true) s5 sk → (fun e w' => Eld2 Pc.cod Cod.eqb Cod.Small Cod.At (fun v => .agg #[.int .i64 v.cls, .string v.params, .string v.locals, .bool v.ret, .int .i64 v.stack, .slice v.oA v.ops.length v.oc]) 97 p s w e w') (.returned (.agg #[.int .i64 v1, .string v2, .string v3, .bool (v4 == 1), .int .i64 v5, .slice A l.length c])) (wr.setRow w.heap.size #[.int .i64 v1, .string v2, .string v3, .bool (v4 == 1), .int .i64 v5, .slice A l.length c])) := Aid.hid fun hG => ⟨⟨v1, v2, v3, (v4 == 1), v5, A, l, c⟩, sk, rfl, ⟨N2.out, N3.out, (show l.length ≤ 10000 by omega)⟩, (PL.kc (kc_got2 (KeepQ.refl p w1.heap.size wr) hpw (by omega) (by omega) _) (by rw [row_size]; exact Nat.le_refl _)), hI.low (row_below (Below.refl _ _) (by omega) _), (HK.keep KA.out (by omega)).row (Nat.le_refl _) _, Got.of ((((((G1.out.map (fun v : Cod => v.cls)).seq (G2.out.map (fun v : Cod => v.params))).seq (G3.out.map (fun v : Cod => v.locals))).seq (G4.out.flag.map (fun v : Cod => v.ret))).seq (G5.out.map (fun v : Cod => v.stack))).seq (hG.map (fun v : Cod => v.ops))) (fun v => rfl) (fun v h => by simpa [Cod.eqb, Int.eqb, Txt.eqb] using h)⟩
    clear hrow PL
    have HM := Aid.hid HBm
    have bx := X.out
    have SA0 := SA
    have QW0 := QW
    by_cases hlt : k < n
    · cases hx : sk.x
      · have HLL := Aid.hid hl
        have hO := Aid.hid HO; have hE := Aid.hid HE; have hK := Aid.hid HK; have hT := Aid.hid HT
        have HX := X
        have hpr := hI.lt
        have HC := Aid.hid (num2_el p sk wr hI)
        have ZB := Aid.hid (⟨hI.lt, Nat.le_refl wr.heap.size⟩ : p < wr.heap.size ∧ _)
        obtain ⟨B0, d0, bs0, a0, q0, _⟩ := hI
        have z2 := q0.cell 2 _ rfl
        rw [hx] at z2
        clear q0 hx I hl HO HE HK HT FIN HM HBm bx hqs hqw hLim
        go_wp2_with fail
        go_at_call 53
        refine HC.out.mono ?_
        rintro e w1e ⟨x1, s1e, rfl, _, _, i1, k1, g1⟩
        clear HC z2
        obtain ⟨wa, hwa⟩ : ∃ wa, w1e.alloc (.cells #[.int .i64 x1, .int .i64 0, .int .i64 0] 118) = wa := ⟨_, rfl⟩
        have ka : Below w1e.heap.size w1e wa := by subst hwa; exact (Below.refl _ _).alloc (Nat.le_refl _) _
        have ba : Aid.Has wa w1e.heap.size [.int .i64 x1, .int .i64 0, .int .i64 0] 118 := by subst hwa; exact Aid.Has.new w1e [.int .i64 x1, .int .i64 0, .int .i64 0] 118
        have KA := Aid.hid (k1.trans (Keep.of_below ka))
        have G1 := Aid.hid g1
        have BA := Aid.hid ba
        have IA := Aid.hid (i1.low (ka.mono (by have := i1.lt; omega)))
        have QW : Hid (wr.heap.size ≤ w1e.heap.size ∧ p < w1e.heap.size) := Aid.hid ⟨k1.size, i1.lt⟩
        have SA : Hid (w1e.heap.size + 1 ≤ wa.heap.size) := Aid.hid (by subst hwa; rw [World.size_alloc]; exact Nat.le_refl _)
        have HC := Aid.hid (num2_el p s1e wa IA.out)
        clear i1 k1 g1 ka ba
        subst hwa
        go_wp2_with fail
        go_at_call 53
        refine HC.out.mono ?_
        rintro e w2e ⟨x2, s2e, rfl, _, _, i2, k2, g2⟩
        clear HC
        have bb := k2.has (by have := QW.out; omega : w1e.heap.size ≠ p) BA.out
        have cb1 := bb.cell 1 _ rfl
        have fb1 := bb.frozen 1
        have BB1 : Hid (Aid.Has (w2e.setCell ⟨w1e.heap.size, 1, none⟩ (.int .i64 x2)) w1e.heap.size [.int .i64 x1, .int .i64 x2, .int .i64 0] 118) := Aid.hid (bb.set 1 _)
        replace KA := Aid.hid (Keep.setNew (q := w1e.heap.size) (KA.out.trans k2) (by have := QW.out; omega) 1 (.int .i64 x2))
        replace IA := Aid.hid (i2.low ((Below.refl (p + 1) w2e).setCell (p := ⟨w1e.heap.size, 1, none⟩) (show p + 1 ≤ w1e.heap.size by have := QW.out; omega) (.int .i64 x2)))
        have G2 := Aid.hid g2
        clear bb i2 k2 g2
        have HC := Aid.hid (num2_el p s2e (w2e.setCell ⟨w1e.heap.size, 1, none⟩ (.int .i64 x2)) IA.out)
        go_wp2_with fail
        go_at_call 53
        refine HC.out.mono ?_
        rintro e w3e ⟨x3, s3e, rfl, _, _, i3, k3, g3⟩
        clear HC
        have bb := k3.has (by have := QW.out; omega : w1e.heap.size ≠ p) BB1.out
        have cb2 := bb.cell 2 _ rfl
        have fb2 := bb.frozen 2
        have BB2 : Hid (Aid.Has (w3e.setCell ⟨w1e.heap.size, 2, none⟩ (.int .i64 x3)) w1e.heap.size [.int .i64 x1, .int .i64 x2, .int .i64 x3] 118) := Aid.hid (bb.set 2 _)
        replace KA := Aid.hid (Keep.setNew (q := w1e.heap.size) (KA.out.trans k3) (by have := QW.out; omega) 2 (.int .i64 x3))
        replace IA := Aid.hid (i3.low ((Below.refl (p + 1) w3e).setCell (p := ⟨w1e.heap.size, 2, none⟩) (show p + 1 ≤ w1e.heap.size by have := QW.out; omega) (.int .i64 x3)))
        have G3 := Aid.hid g3
        clear bb i3 k3 g3
        have k3 : Below (w3e.setCell ⟨w1e.heap.size, 2, none⟩ (.int .i64 x3)).heap.size (w3e.setCell ⟨w1e.heap.size, 2, none⟩ (.int .i64 x3)) ((w3e.setCell ⟨w1e.heap.size, 2, none⟩ (.int .i64 x3)).alloc (.cells #[.int .i64 x1, .int .i64 x2, .int .i64 x3] 118)) := (Below.refl _ _).alloc (Nat.le_refl _) _
        have hq1 := SA0.out
        have hq2 := QW0.out
        have hpd : p < (w5.setCell ⟨w1.heap.size, 4, none⟩ (.int .i64 v5)).heap.size := by omega
        have ho3 : ((w3e.setCell ⟨w1e.heap.size, 2, none⟩ (.int .i64 x3)).alloc (.cells #[.int .i64 x1, .int .i64 x2, .int .i64 x3] 118)).ownsRow (w5.setCell ⟨w1.heap.size, 4, none⟩ (.int .i64 v5)).heap.size 118 3 (.slice A l.length c) l.length ((l.map (fun v => [.int .i64 v.k, .int .i64 v.a, .int .i64 v.b])).flatten) := own_keeps (KA.out.own hpd hO.out) k3
        have hnew := Aid.Has.new (w3e.setCell ⟨w1e.heap.size, 2, none⟩ (.int .i64 x3)) [.int .i64 x1, .int .i64 x2, .int .i64 x3] 118
        have hws : (w3e.setCell ⟨w1e.heap.size, 2, none⟩ (.int .i64 x3)).heap.size = w3e.heap.size := Aid.size_setCell _ _ _
        have hr : Reads ((w3e.setCell ⟨w1e.heap.size, 2, none⟩ (.int .i64 x3)).alloc (.cells #[.int .i64 x1, .int .i64 x2, .int .i64 x3] 118)) ((w3e.setCell ⟨w1e.heap.size, 2, none⟩ (.int .i64 x3)).alloc (.cells #[.int .i64 x1, .int .i64 x2, .int .i64 x3] 118)).heap.size 3 (some ⟨w3e.heap.size, 0, none⟩) 1 [.int .i64 x1, .int .i64 x2, .int .i64 x3] := ⟨by simp, fun _ => ⟨⟨w3e.heap.size, 0, none⟩, rfl, by rw [World.size_alloc, hws]; exact Nat.lt_succ_self _, fun j u hj => by
          rw [Go.WideShapes.add_plain, Nat.zero_add, ← hws]
          exact hnew.cell j u hj⟩⟩
        have hbs : (w5.setCell ⟨w1.heap.size, 4, none⟩ (.int .i64 v5)).heap.size ≤ ((w3e.setCell ⟨w1e.heap.size, 2, none⟩ (.int .i64 x3)).alloc (.cells #[.int .i64 x1, .int .i64 x2, .int .i64 x3] 118)).heap.size := Nat.le_trans hK.out.size (Nat.le_trans KA.out.size k3.size)
        have hll : l.length ≤ 10000 := by have := HLL.out; omega
        have bx := BB2.out
        have e0 := bx.cell 0 _ rfl
        have e1 := bx.cell 1 _ rfl
        have e2 := bx.cell 2 _ rfl
        have xx := KA.out.has (by omega : w1.heap.size ≠ p) HX.out
        have x5 := xx.cell 5 _ rfl
        have GG : Hid (Got Pc.op (fun u => Opr.eqb (⟨x1, x2, x3⟩ : Opr) u = true) sk s3e) := Aid.hid (Got.of (((G1.out.map (fun v : Opr => v.k)).seq (G2.out.map (fun v : Opr => v.a))).seq (G3.out.map (fun v : Opr => v.b))) (fun v => by rw [Pc.op_eq, Pc.assoc]) (fun v h => by simpa [Opr.eqb, Int.eqb] using h))
        have XX := Aid.hid (xx.below k3 (by have := hK.out.size; have := KA.out.size; omega : w1.heap.size < (w3e.setCell ⟨w1e.heap.size, 2, none⟩ (.int .i64 x3)).heap.size))
        have QS : w1.heap.size < ((w3e.setCell ⟨w1e.heap.size, 2, none⟩ (.int .i64 x3)).alloc (.cells #[.int .i64 x1, .int .i64 x2, .int .i64 x3] 118)).heap.size := by have := hbs; omega
        have K3 := Aid.hid k3
        have HWS := Aid.hid hws
        clear k3 hnew bx hws xx
        go_wp2_with (at_builtin; refine wpList_append_any _ rfl _ _ 58 rfl (w5.setCell ⟨w1.heap.size, 4, none⟩ (.int .i64 v5)).heap.size 118 i0 (.agg #[.int .i64 0, .int .i64 0, .int .i64 0]) 3 24 Tryz.underlying58 hi hz0 hz1 hz2 rfl (by decide) _ _ _ rfl ho3 _ (some ⟨w3e.heap.size, 0, none⟩) 1 1 [.int .i64 x1, .int .i64 x2, .int .i64 x3] rfl hr ?d1 ?d2 ?d3 hbs ?_)
        case d1 => intro u hu; simp at hu; rcases hu with rfl | rfl | rfl <;> rfl
        case d2 => unfold maxLen; omega
        case d3 => omega
        intro v9 w9 ho9 hg9 hob
        have X9 : Aid.Has w9 w1.heap.size [.int .i64 v1, .string v2, .string v3, .bool (v4 == 1), .int .i64 v5, .slice A l.length c] 60 := (hg9.block w1.heap.size QS (fun e => by have := (hO.out.lt w1.heap.size e.symm).1; omega)).trans XX.out
        obtain ⟨A2, c2, rfl, J⟩ := BoxInv.next (S := (fun _ => True)) (At := (fun _ _ _ => True)) (cells := (fun v => [.int .i64 v.k, .int .i64 v.a, .int .i64 v.b])) (v := (⟨x1, x2, x3⟩ : Opr)) (fun _ _ _ => trivial) HLL.out hO.out hE.out hK.out hT.out hpd hlt trivial trivial IA.out KA.out GG.out K3.out (by rw [Aid.size_setCell]; exact ho9) hg9 (by simpa only [World.size_alloc, HWS.out] using hob)
        have HJ := Aid.hid (BoxInv.set (At := (fun _ _ _ => True)) (fun _ _ _ => trivial) J hq2.2 hq1 5 (.slice A2 (l.length + 1) c2))
        have Y5 := X9.cell 5 _ rfl
        have F5 := X9.frozen 5
        have X10 := Aid.hid (X9.set 5 (.slice A2 (l.length + 1) c2))
        have LQ : (l ++ [(⟨x1, x2, x3⟩ : Opr)]).length = l.length + 1 := by simp
        clear J ho9 hg9 hob ho3 hr hbs hO hE hK hT G1 G2 G3 GG KA IA K3 HLL e0 e1 e2 cb1 fb1 cb2 fb2 X9 XX x5 HX X
        go_wp2_with fail
        go_roundw
        case rel => exact ⟨k + 1, A2, c2, l ++ [(⟨x1, x2, x3⟩ : Opr)], by go_num, by omega, HJ, by rw [LQ]; exact X10⟩
        case measure => simp [intOf]; omega
      · have FE := Aid.hid (FIN.out (HT.ended hx))
        obtain ⟨B0, d0, bs0, a0, q0, _⟩ := hI
        have z2 := q0.cell 2 _ rfl
        rw [hx] at z2
        clear I X hl HO HE HK HT q0 FIN hx HBm hqs hqw hLim SA0 QW0
        have e0 := bx.cell 0 _ rfl
        have e1 := bx.cell 1 _ rfl
        have e2 := bx.cell 2 _ rfl
        have e3 := bx.cell 3 _ rfl
        have e4 := bx.cell 4 _ rfl
        have e5 := bx.cell 5 _ rfl
        clear bx
        go_wp2_with (refine wpList_store_row rfl 60 _ _ rfl w.heap.size #[.int .i64 v1, .string v2, .string v3, .bool (v4 == 1), .int .i64 v5, .slice A l.length c] rfl rfl 60 #[.int .i64 0, .string ⟨#[]⟩, .string ⟨#[]⟩, .bool false, .int .i64 0, .slice none 0 0] HM.out (by kernel_rfl) rfl (by simp [Value.oneCell']) ?_)
        have HR : Aid.Has (wr.setRow w.heap.size #[.int .i64 v1, .string v2, .string v3, .bool (v4 == 1), .int .i64 v5, .slice A l.length c]) w.heap.size [.int .i64 v1, .string v2, .string v3, .bool (v4 == 1), .int .i64 v5, .slice A l.length c] 60 := row_has (ys := [.int .i64 v1, .string v2, .string v3, .bool (v4 == 1), .int .i64 v5, .slice A l.length c]) HM.out
        refine bodyPost_ret (v := .agg #[.int .i64 v1, .string v2, .string v3, .bool (v4 == 1), .int .i64 v5, .slice A l.length c]) (results_cell_row rfl _ _ w.heap.size 60 #[.int .i64 v1, .string v2, .string v3, .bool (v4 == 1), .int .i64 v5, .slice A l.length c] (0, 0) _ rfl HR Tryz.underlying60 rfl (by kernel_rfl)) rfl ?_
        exact FE.out
    · have FE := Aid.hid (FIN.out (HT.done (by omega)))
      clear I X hl HO HE HK HT hI FIN HBm hqs hqw hLim SA0 QW0
      have e0 := bx.cell 0 _ rfl
      have e1 := bx.cell 1 _ rfl
      have e2 := bx.cell 2 _ rfl
      have e3 := bx.cell 3 _ rfl
      have e4 := bx.cell 4 _ rfl
      have e5 := bx.cell 5 _ rfl
      clear bx
      go_wp2_with (refine wpList_store_row rfl 60 _ _ rfl w.heap.size #[.int .i64 v1, .string v2, .string v3, .bool (v4 == 1), .int .i64 v5, .slice A l.length c] rfl rfl 60 #[.int .i64 0, .string ⟨#[]⟩, .string ⟨#[]⟩, .bool false, .int .i64 0, .slice none 0 0] HM.out (by kernel_rfl) rfl (by simp [Value.oneCell']) ?_)
      have HR : Aid.Has (wr.setRow w.heap.size #[.int .i64 v1, .string v2, .string v3, .bool (v4 == 1), .int .i64 v5, .slice A l.length c]) w.heap.size [.int .i64 v1, .string v2, .string v3, .bool (v4 == 1), .int .i64 v5, .slice A l.length c] 60 := row_has (ys := [.int .i64 v1, .string v2, .string v3, .bool (v4 == 1), .int .i64 v5, .slice A l.length c]) HM.out
      refine bodyPost_ret (v := .agg #[.int .i64 v1, .string v2, .string v3, .bool (v4 == 1), .int .i64 v5, .slice A l.length c]) (results_cell_row rfl _ _ w.heap.size 60 #[.int .i64 v1, .string v2, .string v3, .bool (v4 == 1), .int .i64 v5, .slice A l.length c] (0, 0) _ rfl HR Tryz.underlying60 rfl (by kernel_rfl)) rfl ?_
      exact FE.out
end Go.Proofs.YtaogegeidbclaaaGreatDoor
