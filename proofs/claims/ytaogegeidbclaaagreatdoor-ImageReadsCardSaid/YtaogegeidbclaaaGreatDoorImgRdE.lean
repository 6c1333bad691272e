/- The program's reader: lists. -/
import Derived.Test.YtaogegeidbclaaaGreatDoorImgRdW
namespace Go.Proofs.YtaogegeidbclaaaGreatDoor
open Go.RowKit

theorem num_el (p : Nat) (s : St) (w : World) (h : Rd.Is w 92 p s) :
    Calls Tryz.prog 90 #[.pointer (some ⟨p, 0, none⟩)] w fun e w' => Eld Pc.num Int.eqb (fun _ => True) (fun _ _ _ => True) (fun v => .int .i64 v) 92 p s w e w' :=
  (num_is p s w h).mono fun _ _ ⟨v, s', he, _, _, h3, h4, h5⟩ => ⟨v, s', he, trivial, trivial, h3, h4, h5.of (fun _ => rfl) (fun u hu => by simp [Int.eqb, hu])⟩
theorem text_el (p : Nat) (s : St) (w : World) (h : Rd.Is w 92 p s) :
    Calls Tryz.prog 43 #[.pointer (some ⟨p, 0, none⟩)] w fun e w' => Eld Pc.text Txt.eqb (fun t => t.size ≤ 10000) (fun _ _ _ => True) (fun v => .string v) 92 p s w e w' :=
  (text_is p s w h).mono fun _ _ ⟨v, s', he, hz, h3, h4, h5⟩ => ⟨v, s', he, hz, trivial, h3, h4, h5.of (fun _ => rfl) (fun u hu => by simp [Txt.eqb, hu])⟩
theorem infoR_int : (Tryz.prog.info? 3).map (fun i => (i.zero, i.size, i.bytes)) = some (some (.int .i64 0), 1, 8) := by kernel_rfl
set_option maxRecDepth 100000 in
set_option maxHeartbeats 2000000 in
theorem all_int (p : Nat) (s : St) (w : World) (h : Rd.Is w 92 p s) :
    Calls Tryz.prog 110 #[.pointer (some ⟨p, 0, none⟩), .func (.func 90) #[.pointer (some ⟨p, 0, none⟩)] #[]] w fun e w' => Alld Pc.num Int.eqb (fun _ => True) LNums 92 p s w e w' := by
  obtain ⟨i0, hi, hz0, hz1, hz2⟩ := info_parts infoR_int
  have HC := Aid.hid (many_is p s w h)
  have hpw := h.lt
  clear h
  go_enter Tryz.func110, Tryz.ntmps110
  try simp only [List.append_eq, List.cons_append, List.nil_append]
  go_wp2_with fail
  go_at_call 78
  refine HC.out.mono ?_
  rintro e w1 ⟨n, s1, rfl, hn, h2, h3, h4⟩
  have I0 := Aid.hid (show ListInv Pc.num Int.eqb (fun _ => True) (fun _ _ _ => True) (fun v => [.int .i64 v]) 3 1 92 p s w n 0 none 0 [] w1 from ListInv.start h2 h3 h4)
  clear h2 h3 h4 HC
  go_wp2_with fail
  go_loopw [5, 9] (fun vl vi wr => ∃ (k : Nat) (A : Option Addr) (c : Nat) (l : List Int), vi = .int .i64 k ∧ k ≤ n ∧ vl = .slice A l.length c ∧ Hid (ListInv Pc.num Int.eqb (fun _ => True) (fun _ _ _ => True) (fun v => [.int .i64 v]) 3 1 92 p s w n k A c l wr)) (fun _ vi _ => n - (intOf vi).toNat)
  case atStart => exact ⟨0, none, 0, [], rfl, Nat.zero_le _, rfl, I0⟩
  case round =>
    clear I0
    obtain ⟨k, A, c, l, rfl, hk, rfl, I⟩ := hrel
    by_cases hlt : k < n
    · obtain ⟨hl, HO, HE, HK, sk, hI, HT⟩ := I.out
      have HC := Aid.hid (num_el p sk wr hI)
      have HLL := Aid.hid hl
      have hO := Aid.hid HO; have hE := Aid.hid HE; have hK := Aid.hid HK; have hT := Aid.hid HT
      clear I hI hl HO HE HK HT
      go_wp2_with fail
      go_at_call 90
      refine HC.out.mono ?_
      rintro e w2 ⟨v, s', rfl, g1, g2, g3, g4, g5⟩
      clear HC
      have G1 := Aid.hid g1; have G2 := Aid.hid g2; have G3 := Aid.hid g3; have G4 := Aid.hid g4; have G5 := Aid.hid g5
      have hp2 := g3.lt
      obtain ⟨B, d, q1, q2, q3, q4⟩ := g3
      have p1 := q1.cell 1 _ rfl
      clear g1 g2 g4 g5 q1 q2 q3 q4
      cases hx : s'.x
      · rw [hx] at p1
        clear hx
        have k2 : Below w2.heap.size w2 w2 := Below.refl _ _
        have k3 : Below w2.heap.size w2 (w2.alloc (.cells #[.int .i64 v] 3)) := k2.alloc (Nat.le_refl _) _
        have ho3 : (w2.alloc (.cells #[.int .i64 v] 3)).ownsRow w.heap.size 3 1 (.slice A l.length c) l.length ((l.map (fun v => [.int .i64 v])).flatten) := by
          have h1 := G4.out.own hpw hO.out
          exact own_keeps h1 k3
        have hnew := Aid.Has.new w2 [.int .i64 v] 3
        have hr : Reads (w2.alloc (.cells #[.int .i64 v] 3)) (w2.alloc (.cells #[.int .i64 v] 3)).heap.size 1 (some ⟨w2.heap.size, 0, none⟩) 1 [.int .i64 v] := ⟨by simp, fun _ => ⟨⟨w2.heap.size, 0, none⟩, rfl, by simp [World.size_alloc], fun j u hj => by
          rw [Go.WideShapes.add_plain, Nat.zero_add]
          skip
          exact hnew.cell j u hj⟩⟩
        have hbs : w.heap.size ≤ (w2.alloc (.cells #[.int .i64 v] 3)).heap.size := Nat.le_trans hK.out.size (Nat.le_trans G4.out.size k3.size)
        have hll : l.length ≤ 10000 := by have := HLL.out; omega
        have K3 := Aid.hid k3
        clear k2 k3 hnew
        go_wp2_with (at_builtin; refine wpList_append_any _ rfl _ _ 25 rfl w.heap.size 3 i0 (.int .i64 0) 1 8 Tryz.underlying25 hi hz0 hz1 hz2 rfl (by decide) _ _ _ rfl ho3 _ (some ⟨w2.heap.size, 0, none⟩) 1 1 [.int .i64 v] rfl hr ?d1 ?d2 ?d3 hbs ?_)
        case d1 => intro u hu; simp at hu; subst hu; rfl
        case d2 => unfold maxLen; omega
        case d3 => omega
        intro v9 w9 ho9 hg9 hob
        obtain ⟨A2, c2, rfl, J⟩ := ListInv.next (S := (fun _ => True)) (At := (fun _ _ _ => True)) (cells := (fun v => [.int .i64 v])) (v := v) (fun _ _ _ => trivial) HLL.out hO.out hE.out hK.out hT.out hpw hlt G1.out G2.out G3.out G4.out G5.out K3.out ho9 hg9 (by simpa only [World.size_alloc] using hob)
        have HJ := Aid.hid J
        have LQ : (l ++ [v]).length = l.length + 1 := by simp
        clear J ho9 hg9 hob ho3 hr hbs hO hE hK hT G1 G2 G3 G4 G5 K3 HLL p1
        go_wp2_with fail
        go_roundw
        case rel => exact ⟨k + 1, A2, c2, l ++ [v], by go_num, by omega, by rw [LQ], HJ⟩
        case measure => simp [intOf]; omega
      · rw [hx] at p1
        have FIN : Hid (∀ w', Below w2.heap.size w2 w' → Alld Pc.num Int.eqb (fun _ => True) LNums 92 p s w (.returned (.slice none 0 0)) w') := Aid.hid fun w' hb => ⟨none, 0, [], s', rfl, Nat.zero_le _, by simp, ⟨Nat.zero_le _, Rows.nil_ _ _ _ _⟩, G3.out.low (hb.mono (by omega)), ((hK.out.trans G4.out).trans (Keep.of_below hb)), hT.out.no hlt G5.out hx⟩
        have FB : Hid (∀ o : Obj, Below w2.heap.size w2 (w2.alloc o)) := Aid.hid fun o => (Below.refl _ w2).alloc (Nat.le_refl _) o
        have FR := Aid.hid (Below.refl w2.heap.size w2)
        clear hx
        go_wp2_with fail
        go_ret
        exact FIN.out _ (FR.out)
    · obtain ⟨hl, HO, HE, HK, sk, hI, HT⟩ := I.out
      have hrow := fresh_rows (sz := 1) (rows := l.map (fun v => [.int .i64 v])) (by intro r hr; obtain ⟨x, _, rfl⟩ := List.mem_map.1 hr; rfl) (by rw [List.length_map]; exact HO)
      have FIN : Hid (Alld Pc.num Int.eqb (fun _ => True) LNums 92 p s w (.returned (.slice A l.length c)) wr) := Aid.hid ⟨A, c, l, sk, rfl, by omega, fun x hx => (HE x hx).1, ⟨by show _ ≤ 9223372036854775807; omega, hrow⟩, hI, HK, HT.done (by omega)⟩
      clear hl HO HE HK hI HT hrow I
      go_wp2_with fail
      go_ret
      exact FIN.out
theorem infoR_str : (Tryz.prog.info? 9).map (fun i => (i.zero, i.size, i.bytes)) = some (some (.string ⟨#[]⟩), 1, 16) := by kernel_rfl
set_option maxRecDepth 100000 in
set_option maxHeartbeats 2000000 in
theorem all_str (p : Nat) (s : St) (w : World) (h : Rd.Is w 92 p s) :
    Calls Tryz.prog 104 #[.pointer (some ⟨p, 0, none⟩), .func (.func 43) #[.pointer (some ⟨p, 0, none⟩)] #[]] w fun e w' => Alld Pc.text Txt.eqb (fun t => t.size ≤ 10000) LTexts 92 p s w e w' := by
  obtain ⟨i0, hi, hz0, hz1, hz2⟩ := info_parts infoR_str
  have HC := Aid.hid (many_is p s w h)
  have hpw := h.lt
  clear h
  go_enter Tryz.func104, Tryz.ntmps104
  try simp only [List.append_eq, List.cons_append, List.nil_append]
  go_wp2_with fail
  go_at_call 78
  refine HC.out.mono ?_
  rintro e w1 ⟨n, s1, rfl, hn, h2, h3, h4⟩
  have I0 := Aid.hid (show ListInv Pc.text Txt.eqb (fun t => t.size ≤ 10000) (fun _ _ _ => True) (fun v => [.string v]) 9 1 92 p s w n 0 none 0 [] w1 from ListInv.start h2 h3 h4)
  clear h2 h3 h4 HC
  go_wp2_with fail
  go_loopw [5, 9] (fun vl vi wr => ∃ (k : Nat) (A : Option Addr) (c : Nat) (l : List ByteArray), vi = .int .i64 k ∧ k ≤ n ∧ vl = .slice A l.length c ∧ Hid (ListInv Pc.text Txt.eqb (fun t => t.size ≤ 10000) (fun _ _ _ => True) (fun v => [.string v]) 9 1 92 p s w n k A c l wr)) (fun _ vi _ => n - (intOf vi).toNat)
  case atStart => exact ⟨0, none, 0, [], rfl, Nat.zero_le _, rfl, I0⟩
  case round =>
    clear I0
    obtain ⟨k, A, c, l, rfl, hk, rfl, I⟩ := hrel
    by_cases hlt : k < n
    · obtain ⟨hl, HO, HE, HK, sk, hI, HT⟩ := I.out
      have HC := Aid.hid (text_el p sk wr hI)
      have HLL := Aid.hid hl
      have hO := Aid.hid HO; have hE := Aid.hid HE; have hK := Aid.hid HK; have hT := Aid.hid HT
      clear I hI hl HO HE HK HT
      go_wp2_with fail
      go_at_call 43
      refine HC.out.mono ?_
      rintro e w2 ⟨v, s', rfl, g1, g2, g3, g4, g5⟩
      clear HC
      have G1 := Aid.hid g1; have G2 := Aid.hid g2; have G3 := Aid.hid g3; have G4 := Aid.hid g4; have G5 := Aid.hid g5
      have hp2 := g3.lt
      obtain ⟨B, d, q1, q2, q3, q4⟩ := g3
      have p1 := q1.cell 1 _ rfl
      clear g1 g2 g4 g5 q1 q2 q3 q4
      cases hx : s'.x
      · rw [hx] at p1
        clear hx
        have k2 : Below w2.heap.size w2 w2 := Below.refl _ _
        have k3 : Below w2.heap.size w2 (w2.alloc (.cells #[.string v] 9)) := k2.alloc (Nat.le_refl _) _
        have ho3 : (w2.alloc (.cells #[.string v] 9)).ownsRow w.heap.size 9 1 (.slice A l.length c) l.length ((l.map (fun v => [.string v])).flatten) := by
          have h1 := G4.out.own hpw hO.out
          exact own_keeps h1 k3
        have hnew := Aid.Has.new w2 [.string v] 9
        have hr : Reads (w2.alloc (.cells #[.string v] 9)) (w2.alloc (.cells #[.string v] 9)).heap.size 1 (some ⟨w2.heap.size, 0, none⟩) 1 [.string v] := ⟨by simp, fun _ => ⟨⟨w2.heap.size, 0, none⟩, rfl, by simp [World.size_alloc], fun j u hj => by
          rw [Go.WideShapes.add_plain, Nat.zero_add]
          skip
          exact hnew.cell j u hj⟩⟩
        have hbs : w.heap.size ≤ (w2.alloc (.cells #[.string v] 9)).heap.size := Nat.le_trans hK.out.size (Nat.le_trans G4.out.size k3.size)
        have hll : l.length ≤ 10000 := by have := HLL.out; omega
        have K3 := Aid.hid k3
        clear k2 k3 hnew
        go_wp2_with (at_builtin; refine wpList_append_any _ rfl _ _ 52 rfl w.heap.size 9 i0 (.string ⟨#[]⟩) 1 16 Tryz.underlying52 hi hz0 hz1 hz2 rfl (by decide) _ _ _ rfl ho3 _ (some ⟨w2.heap.size, 0, none⟩) 1 1 [.string v] rfl hr ?d1 ?d2 ?d3 hbs ?_)
        case d1 => intro u hu; simp at hu; subst hu; rfl
        case d2 => unfold maxLen; omega
        case d3 => omega
        intro v9 w9 ho9 hg9 hob
        obtain ⟨A2, c2, rfl, J⟩ := ListInv.next (S := (fun t => t.size ≤ 10000)) (At := (fun _ _ _ => True)) (cells := (fun v => [.string v])) (v := v) (fun _ _ _ => trivial) HLL.out hO.out hE.out hK.out hT.out hpw hlt G1.out G2.out G3.out G4.out G5.out K3.out ho9 hg9 (by simpa only [World.size_alloc] using hob)
        have HJ := Aid.hid J
        have LQ : (l ++ [v]).length = l.length + 1 := by simp
        clear J ho9 hg9 hob ho3 hr hbs hO hE hK hT G1 G2 G3 G4 G5 K3 HLL p1
        go_wp2_with fail
        go_roundw
        case rel => exact ⟨k + 1, A2, c2, l ++ [v], by go_num, by omega, by rw [LQ], HJ⟩
        case measure => simp [intOf]; omega
      · rw [hx] at p1
        have FIN : Hid (∀ w', Below w2.heap.size w2 w' → Alld Pc.text Txt.eqb (fun t => t.size ≤ 10000) LTexts 92 p s w (.returned (.slice none 0 0)) w') := Aid.hid fun w' hb => ⟨none, 0, [], s', rfl, Nat.zero_le _, by simp, ⟨Nat.zero_le _, Rows.nil_ _ _ _ _⟩, G3.out.low (hb.mono (by omega)), ((hK.out.trans G4.out).trans (Keep.of_below hb)), hT.out.no hlt G5.out hx⟩
        have FB : Hid (∀ o : Obj, Below w2.heap.size w2 (w2.alloc o)) := Aid.hid fun o => (Below.refl _ w2).alloc (Nat.le_refl _) o
        have FR := Aid.hid (Below.refl w2.heap.size w2)
        clear hx
        go_wp2_with fail
        go_ret
        exact FIN.out _ (FR.out)
    · obtain ⟨hl, HO, HE, HK, sk, hI, HT⟩ := I.out
      have hrow := fresh_rows (sz := 1) (rows := l.map (fun v => [.string v])) (by intro r hr; obtain ⟨x, _, rfl⟩ := List.mem_map.1 hr; rfl) (by rw [List.length_map]; exact HO)
      have FIN : Hid (Alld Pc.text Txt.eqb (fun t => t.size ≤ 10000) LTexts 92 p s w (.returned (.slice A l.length c)) wr) := Aid.hid ⟨A, c, l, sk, rfl, by omega, fun x hx => (HE x hx).1, ⟨by show _ ≤ 9223372036854775807; omega, hrow⟩, hI, HK, HT.done (by omega)⟩
      clear hl HO HE HK hI HT hrow I
      go_wp2_with fail
      go_ret
      exact FIN.out
set_option maxRecDepth 100000 in
set_option maxHeartbeats 2000000 in
theorem nums_is (p : Nat) (s : St) (w : World) (h : Rd.Is w 92 p s) :
    Calls Tryz.prog 85 #[.pointer (some ⟨p, 0, none⟩)] w fun e w' => Alld Pc.num Int.eqb (fun _ => True) LNums 92 p s w e w' := by
  have HC := Aid.hid (all_int p s w h)
  have hmf : ∀ (fn : Fn) (first cap : Array Value) (w : World), (Instr.makeFunc fn first cap).run Tryz.prog w = .ok (.func fn first cap) w := fun _ _ _ _ => rfl
  clear h
  go_enter Tryz.func85, Tryz.ntmps85
  try simp only [List.append_eq, List.cons_append, List.nil_append]
  go_wp2_with fail
  go_at_call 110
  refine HC.out.mono ?_
  rintro e w1 ⟨A, c, l, s', rfl, h1, h2, h3, h4, h5, h6⟩
  have FIN : Hid (Alld Pc.num Int.eqb (fun _ => True) LNums 92 p s w (.returned (.slice A l.length c)) w1) := Aid.hid ⟨A, c, l, s', rfl, h1, h2, h3, h4, h5, h6⟩
  clear h1 h2 h3 h4 h5 h6
  go_wp2_with fail
  go_ret
  exact FIN.out
set_option maxRecDepth 100000 in
set_option maxHeartbeats 2000000 in
theorem texts_is (p : Nat) (s : St) (w : World) (h : Rd.Is w 92 p s) :
    Calls Tryz.prog 80 #[.pointer (some ⟨p, 0, none⟩)] w fun e w' => Alld Pc.text Txt.eqb (fun t => t.size ≤ 10000) LTexts 92 p s w e w' := by
  have HC := Aid.hid (all_str p s w h)
  have hmf : ∀ (fn : Fn) (first cap : Array Value) (w : World), (Instr.makeFunc fn first cap).run Tryz.prog w = .ok (.func fn first cap) w := fun _ _ _ _ => rfl
  clear h
  go_enter Tryz.func80, Tryz.ntmps80
  try simp only [List.append_eq, List.cons_append, List.nil_append]
  go_wp2_with fail
  go_at_call 104
  refine HC.out.mono ?_
  rintro e w1 ⟨A, c, l, s', rfl, h1, h2, h3, h4, h5, h6⟩
  have FIN : Hid (Alld Pc.text Txt.eqb (fun t => t.size ≤ 10000) LTexts 92 p s w (.returned (.slice A l.length c)) w1) := Aid.hid ⟨A, c, l, s', rfl, h1, h2, h3, h4, h5, h6⟩
  clear h1 h2 h3 h4 h5 h6
  go_wp2_with fail
  go_ret
  exact FIN.out
theorem fc_el (p : Nat) (s : St) (w : World) (h : Rd.Is w 92 p s) :
    Calls Tryz.prog 80 #[.pointer (some ⟨p, 0, none⟩)] w fun e w' => Eld Pc.fc Fc.eqb (fun x => Txts x.l) Fc.At (fun v => .slice v.A v.l.length v.c) 92 p s w e w' :=
  (texts_is p s w h).mono fun _ _ ⟨A, c, l, s', he, h1, h2, h3, h4, h5, h6⟩ => ⟨⟨A, l, c⟩, s', he, ⟨h1, h2⟩, h3, h4, h5, (h6.map (fun x : Fc => x.l)).of (fun _ => rfl) (fun _ hu => hu)⟩
end Go.Proofs.YtaogegeidbclaaaGreatDoor
