/- The document's reader: lists of numbers, of texts. -/
import Derived.Test.YtaogegeidbclaaaGreatDoorImgR2B
namespace Go.Proofs.YtaogegeidbclaaaGreatDoor
open Go.RowKit

theorem num2_el (p : Nat) (s : St) (w : World) (h : Rd2.Is w 97 p s) :
    Calls Tryz.prog 53 #[.pointer (some ⟨p, 0, none⟩)] w fun e w' => Eld2 Pc.num Int.eqb (fun _ => True) (fun _ _ _ => True) (fun v => .int .i64 v) 97 p s w e w' :=
  (num2_is p s w h).mono fun _ _ ⟨v, s', he, _, _, h3, h4, h5⟩ => ⟨v, s', he, trivial, trivial, h3, h4, h5.of (fun _ => rfl) (fun u hu => by simp [Int.eqb, hu])⟩
theorem text2_el (p : Nat) (s : St) (w : World) (h : Rd2.Is w 97 p s) :
    Calls Tryz.prog 46 #[.pointer (some ⟨p, 0, none⟩)] w fun e w' => Eld2 Pc.text Txt.eqb (fun t => t.size ≤ 10000) (fun _ _ _ => True) (fun v => .string v) 97 p s w e w' :=
  (text2_is p s w h).mono fun _ _ ⟨v, s', he, hz, h3, h4, h5⟩ => ⟨v, s', he, hz, trivial, h3, h4, h5.of (fun _ => rfl) (fun u hu => by simp [Txt.eqb, hu])⟩
set_option maxRecDepth 100000 in
set_option maxHeartbeats 2000000 in
theorem nums2_is (p : Nat) (s : St) (w : World) (h : Rd2.Is w 97 p s) :
    Calls Tryz.prog 51 #[.pointer (some ⟨p, 0, none⟩)] w fun e w' => Alld2 Pc.num Int.eqb (fun _ => True) LNums 97 p s w e w' := by
  obtain ⟨i0, hi, hz0, hz1, hz2⟩ := info_parts infoR_int
  have HC := Aid.hid (many2_is p s w h)
  have hpw := h.lt
  clear h
  go_enter Tryz.func51, Tryz.ntmps51
  try simp only [List.append_eq, List.cons_append, List.nil_append]
  go_wp2_with fail
  go_at_call 47
  refine HC.out.mono ?_
  rintro e w1 ⟨n, s1, rfl, hn, h2, h3, h4, _⟩
  have I0 := Aid.hid (show ListInv2 Pc.num Int.eqb (fun _ => True) (fun _ _ _ => True) (fun v => [.int .i64 v]) 3 1 97 p s w n 0 none 0 [] w1 from ListInv2.startM (fun u => by rw [Pc.num_len]; decide) h2 h3 h4)
  clear h2 h3 h4 HC
  go_wp2_with fail
  go_loopw [3, 5] (fun vl vi wr => ∃ (k : Nat) (A : Option Addr) (c : Nat) (l : List Int), vi = .int .i64 k ∧ k ≤ n ∧ vl = .slice A l.length c ∧ Hid (ListInv2 Pc.num Int.eqb (fun _ => True) (fun _ _ _ => True) (fun v => [.int .i64 v]) 3 1 97 p s w n k A c l wr)) (fun _ vi _ => n - (intOf vi).toNat)
  case atStart => exact ⟨0, none, 0, [], rfl, Nat.zero_le _, rfl, I0⟩
  case round =>
    clear I0
    obtain ⟨k, A, c, l, rfl, hk, rfl, I⟩ := hrel
    obtain ⟨hl, HO, HE, HK, sk, hI, HT⟩ := I.out
    have hrow := fresh_rows (sz := 1) (rows := l.map (fun v => [.int .i64 v])) (by intro r hr; obtain ⟨x, _, rfl⟩ := List.mem_map.1 hr; rfl) (by rw [List.length_map]; exact HO)
    have FIN : Hid (Got (fun us => Pc.list Pc.num us) (fun us => eqAll Int.eqb l us = true) s sk → Alld2 Pc.num Int.eqb (fun _ => True) LNums 97 p s w (.returned (.slice A l.length c)) wr) := Aid.hid fun hG => ⟨A, c, l, sk, rfl, by omega, fun x hx => (HE x hx).1, ⟨by show _ ≤ 9223372036854775807; omega, hrow⟩, hI, HK, hG⟩
    clear hrow
    by_cases hlt : k < n
    · cases hx : sk.x
      · have HC := Aid.hid (num2_el p sk wr hI)
        have HLL := Aid.hid hl
        have hO := Aid.hid HO; have hE := Aid.hid HE; have hK := Aid.hid HK; have hT := Aid.hid HT
        obtain ⟨B0, d0, bs0, a0, q0, _⟩ := hI
        have z2 := q0.cell 2 _ rfl
        rw [hx] at z2
        clear I hl HO HE HK HT q0 FIN hx
        go_wp2_with fail
        go_at_call 53
        refine HC.out.mono ?_
        rintro e w2 ⟨v, s', rfl, g1, g2, g3, g4, g5⟩
        clear HC z2
        have G1 := Aid.hid g1; have G2 := Aid.hid g2; have G3 := Aid.hid g3; have G4 := Aid.hid g4; have G5 := Aid.hid g5
        clear g1 g2 g3 g4 g5
        have k3 : Below w2.heap.size w2 (w2.alloc (.cells #[.int .i64 v] 3)) := (Below.refl _ w2).alloc (Nat.le_refl _) _
        have ho3 : (w2.alloc (.cells #[.int .i64 v] 3)).ownsRow w.heap.size 3 1 (.slice A l.length c) l.length ((l.map (fun v => [.int .i64 v])).flatten) := own_keeps (G4.out.own hpw hO.out) k3
        have hnew := Aid.Has.new w2 [.int .i64 v] 3
        have hr : Reads (w2.alloc (.cells #[.int .i64 v] 3)) (w2.alloc (.cells #[.int .i64 v] 3)).heap.size 1 (some ⟨w2.heap.size, 0, none⟩) 1 [.int .i64 v] := ⟨by simp, fun _ => ⟨⟨w2.heap.size, 0, none⟩, rfl, by simp [World.size_alloc], fun j u hj => by
          rw [Go.WideShapes.add_plain, Nat.zero_add]
          exact hnew.cell j u hj⟩⟩
        have hbs : w.heap.size ≤ (w2.alloc (.cells #[.int .i64 v] 3)).heap.size := Nat.le_trans hK.out.size (Nat.le_trans G4.out.size k3.size)
        have hll : l.length ≤ 10000 := by have := HLL.out; omega
        have K3 := Aid.hid k3
        clear k3 hnew
        go_wp2_with (at_builtin; refine wpList_append_any _ rfl _ _ 25 rfl w.heap.size 3 i0 (.int .i64 0) 1 8 Tryz.underlying25 hi hz0 hz1 hz2 rfl (by decide) _ _ _ rfl ho3 _ (some ⟨w2.heap.size, 0, none⟩) 1 1 [.int .i64 v] rfl hr ?d1 ?d2 ?d3 hbs ?_)
        case d1 => intro u hu; simp at hu; subst hu; rfl
        case d2 => unfold maxLen; omega
        case d3 => omega
        intro v9 w9 ho9 hg9 hob
        obtain ⟨A2, c2, rfl, J⟩ := ListInv2.next (S := (fun _ => True)) (At := (fun _ _ _ => True)) (cells := (fun v => [.int .i64 v])) (v := v) (fun _ _ _ => trivial) HLL.out hO.out hE.out hK.out hT.out hpw hlt G1.out G2.out G3.out G4.out G5.out K3.out ho9 hg9 (by simpa only [World.size_alloc] using hob)
        have HJ := Aid.hid J
        have LQ : (l ++ [v]).length = l.length + 1 := by simp
        clear J ho9 hg9 hob ho3 hr hbs hO hE hK hT G1 G2 G3 G4 G5 K3 HLL
        go_wp2_with fail
        go_roundw
        case rel => exact ⟨k + 1, A2, c2, l ++ [v], by go_num, by omega, by rw [LQ], HJ⟩
        case measure => simp [intOf]; omega
      · have FE := Aid.hid (FIN.out (HT.ended hx))
        obtain ⟨B0, d0, bs0, a0, q0, _⟩ := hI
        have z2 := q0.cell 2 _ rfl
        rw [hx] at z2
        clear I hl HO HE HK HT q0 FIN hx
        go_wp2_with fail
        go_ret
        exact FE.out
    · have FE := Aid.hid (FIN.out (HT.done (by omega)))
      clear I hl HO HE HK HT hI FIN
      go_wp2_with fail
      go_ret
      exact FE.out
set_option maxRecDepth 100000 in
set_option maxHeartbeats 2000000 in
theorem texts2_is (p : Nat) (s : St) (w : World) (h : Rd2.Is w 97 p s) :
    Calls Tryz.prog 48 #[.pointer (some ⟨p, 0, none⟩)] w fun e w' => Alld2 Pc.text Txt.eqb (fun t => t.size ≤ 10000) LTexts 97 p s w e w' := by
  obtain ⟨i0, hi, hz0, hz1, hz2⟩ := info_parts infoR_str
  have HC := Aid.hid (many2_is p s w h)
  have hpw := h.lt
  clear h
  go_enter Tryz.func48, Tryz.ntmps48
  try simp only [List.append_eq, List.cons_append, List.nil_append]
  go_wp2_with fail
  go_at_call 47
  refine HC.out.mono ?_
  rintro e w1 ⟨n, s1, rfl, hn, h2, h3, h4, _⟩
  have I0 := Aid.hid (show ListInv2 Pc.text Txt.eqb (fun t => t.size ≤ 10000) (fun _ _ _ => True) (fun v => [.string v]) 9 1 97 p s w n 0 none 0 [] w1 from ListInv2.startM (fun u => by rw [Pc.text, Pc.len]; exact Nat.le_trans (by decide : 1 ≤ 4) (Nat.le_add_right _ _)) h2 h3 h4)
  clear h2 h3 h4 HC
  go_wp2_with fail
  go_loopw [3, 5] (fun vl vi wr => ∃ (k : Nat) (A : Option Addr) (c : Nat) (l : List ByteArray), vi = .int .i64 k ∧ k ≤ n ∧ vl = .slice A l.length c ∧ Hid (ListInv2 Pc.text Txt.eqb (fun t => t.size ≤ 10000) (fun _ _ _ => True) (fun v => [.string v]) 9 1 97 p s w n k A c l wr)) (fun _ vi _ => n - (intOf vi).toNat)
  case atStart => exact ⟨0, none, 0, [], rfl, Nat.zero_le _, rfl, I0⟩
  case round =>
    clear I0
    obtain ⟨k, A, c, l, rfl, hk, rfl, I⟩ := hrel
    obtain ⟨hl, HO, HE, HK, sk, hI, HT⟩ := I.out
    have hrow := fresh_rows (sz := 1) (rows := l.map (fun v => [.string v])) (by intro r hr; obtain ⟨x, _, rfl⟩ := List.mem_map.1 hr; rfl) (by rw [List.length_map]; exact HO)
    have FIN : Hid (Got (fun us => Pc.list Pc.text us) (fun us => eqAll Txt.eqb l us = true) s sk → Alld2 Pc.text Txt.eqb (fun t => t.size ≤ 10000) LTexts 97 p s w (.returned (.slice A l.length c)) wr) := Aid.hid fun hG => ⟨A, c, l, sk, rfl, by omega, fun x hx => (HE x hx).1, ⟨by show _ ≤ 9223372036854775807; omega, hrow⟩, hI, HK, hG⟩
    clear hrow
    by_cases hlt : k < n
    · cases hx : sk.x
      · have HC := Aid.hid (text2_el p sk wr hI)
        have HLL := Aid.hid hl
        have hO := Aid.hid HO; have hE := Aid.hid HE; have hK := Aid.hid HK; have hT := Aid.hid HT
        obtain ⟨B0, d0, bs0, a0, q0, _⟩ := hI
        have z2 := q0.cell 2 _ rfl
        rw [hx] at z2
        clear I hl HO HE HK HT q0 FIN hx
        go_wp2_with fail
        go_at_call 46
        refine HC.out.mono ?_
        rintro e w2 ⟨v, s', rfl, g1, g2, g3, g4, g5⟩
        clear HC z2
        have G1 := Aid.hid g1; have G2 := Aid.hid g2; have G3 := Aid.hid g3; have G4 := Aid.hid g4; have G5 := Aid.hid g5
        clear g1 g2 g3 g4 g5
        have k3 : Below w2.heap.size w2 (w2.alloc (.cells #[.string v] 9)) := (Below.refl _ w2).alloc (Nat.le_refl _) _
        have ho3 : (w2.alloc (.cells #[.string v] 9)).ownsRow w.heap.size 9 1 (.slice A l.length c) l.length ((l.map (fun v => [.string v])).flatten) := own_keeps (G4.out.own hpw hO.out) k3
        have hnew := Aid.Has.new w2 [.string v] 9
        have hr : Reads (w2.alloc (.cells #[.string v] 9)) (w2.alloc (.cells #[.string v] 9)).heap.size 1 (some ⟨w2.heap.size, 0, none⟩) 1 [.string v] := ⟨by simp, fun _ => ⟨⟨w2.heap.size, 0, none⟩, rfl, by simp [World.size_alloc], fun j u hj => by
          rw [Go.WideShapes.add_plain, Nat.zero_add]
          exact hnew.cell j u hj⟩⟩
        have hbs : w.heap.size ≤ (w2.alloc (.cells #[.string v] 9)).heap.size := Nat.le_trans hK.out.size (Nat.le_trans G4.out.size k3.size)
        have hll : l.length ≤ 10000 := by have := HLL.out; omega
        have K3 := Aid.hid k3
        clear k3 hnew
        go_wp2_with (at_builtin; refine wpList_append_any _ rfl _ _ 52 rfl w.heap.size 9 i0 (.string ⟨#[]⟩) 1 16 Tryz.underlying52 hi hz0 hz1 hz2 rfl (by decide) _ _ _ rfl ho3 _ (some ⟨w2.heap.size, 0, none⟩) 1 1 [.string v] rfl hr ?d1 ?d2 ?d3 hbs ?_)
        case d1 => intro u hu; simp at hu; subst hu; rfl
        case d2 => unfold maxLen; omega
        case d3 => omega
        intro v9 w9 ho9 hg9 hob
        obtain ⟨A2, c2, rfl, J⟩ := ListInv2.next (S := (fun t => t.size ≤ 10000)) (At := (fun _ _ _ => True)) (cells := (fun v => [.string v])) (v := v) (fun _ _ _ => trivial) HLL.out hO.out hE.out hK.out hT.out hpw hlt G1.out G2.out G3.out G4.out G5.out K3.out ho9 hg9 (by simpa only [World.size_alloc] using hob)
        have HJ := Aid.hid J
        have LQ : (l ++ [v]).length = l.length + 1 := by simp
        clear J ho9 hg9 hob ho3 hr hbs hO hE hK hT G1 G2 G3 G4 G5 K3 HLL
        go_wp2_with fail
        go_roundw
        case rel => exact ⟨k + 1, A2, c2, l ++ [v], by go_num, by omega, by rw [LQ], HJ⟩
        case measure => simp [intOf]; omega
      · have FE := Aid.hid (FIN.out (HT.ended hx))
        obtain ⟨B0, d0, bs0, a0, q0, _⟩ := hI
        have z2 := q0.cell 2 _ rfl
        rw [hx] at z2
        clear I hl HO HE HK HT q0 FIN hx
        go_wp2_with fail
        go_ret
        exact FE.out
    · have FE := Aid.hid (FIN.out (HT.done (by omega)))
      clear I hl HO HE HK HT hI FIN
      go_wp2_with fail
      go_ret
      exact FE.out
theorem fc2_el (p : Nat) (s : St) (w : World) (h : Rd2.Is w 97 p s) :
    Calls Tryz.prog 48 #[.pointer (some ⟨p, 0, none⟩)] w fun e w' => Eld2 Pc.fc Fc.eqb (fun x => Txts x.l) Fc.At (fun v => .slice v.A v.l.length v.c) 97 p s w e w' :=
  (texts2_is p s w h).mono fun _ _ ⟨A, c, l, s', he, h1, h2, h3, h4, h5, h6⟩ => ⟨⟨A, l, c⟩, s', he, ⟨h1, h2⟩, h3, h4, h5, (h6.map (fun x : Fc => x.l)).of (fun _ => rfl) (fun _ hu => hu)⟩
end Go.Proofs.YtaogegeidbclaaaGreatDoor
