/- The program's reader: classes, codes, links, tasks, lists of them. -/
import Derived.Test.YtaogegeidbclaaaGreatDoorImgRdF
namespace Go.Proofs.YtaogegeidbclaaaGreatDoor
open Go.RowKit

theorem infoR_op : (Tryz.prog.info? 118).map (fun i => (i.zero, i.size, i.bytes)) = some (some (.agg #[.int .i64 0, .int .i64 0, .int .i64 0]), 3, 24) := by kernel_rfl
set_option maxRecDepth 100000 in
set_option maxHeartbeats 2000000 in
theorem all_op (p : Nat) (s : St) (w : World) (h : Rd.Is w 92 p s) :
    Calls Tryz.prog 108 #[.pointer (some ⟨p, 0, none⟩), .func (.func 109) #[.pointer (some ⟨p, 0, none⟩)] #[]] w fun e w' => Alld Pc.op Opr.eqb (fun _ => True) LOps 92 p s w e w' := by
  obtain ⟨i0, hi, hz0, hz1, hz2⟩ := info_parts infoR_op
  have HC := Aid.hid (many_is p s w h)
  have hpw := h.lt
  clear h
  go_enter Tryz.func108, Tryz.ntmps108
  try simp only [List.append_eq, List.cons_append, List.nil_append]
  go_wp2_with fail
  go_at_call 78
  refine HC.out.mono ?_
  rintro e w1 ⟨n, s1, rfl, hn, h2, h3, h4⟩
  have I0 := Aid.hid (show ListInv Pc.op Opr.eqb (fun _ => True) (fun _ _ _ => True) (fun v => [.int .i64 v.k, .int .i64 v.a, .int .i64 v.b]) 118 3 92 p s w n 0 none 0 [] w1 from ListInv.start h2 h3 h4)
  clear h2 h3 h4 HC
  go_wp2_with fail
  go_loopw [5, 9] (fun vl vi wr => ∃ (k : Nat) (A : Option Addr) (c : Nat) (l : List Opr), vi = .int .i64 k ∧ k ≤ n ∧ vl = .slice A l.length c ∧ Hid (ListInv Pc.op Opr.eqb (fun _ => True) (fun _ _ _ => True) (fun v => [.int .i64 v.k, .int .i64 v.a, .int .i64 v.b]) 118 3 92 p s w n k A c l wr)) (fun _ vi _ => n - (intOf vi).toNat)
  case atStart => exact ⟨0, none, 0, [], rfl, Nat.zero_le _, rfl, I0⟩
  case round =>
    clear I0
    obtain ⟨k, A, c, l, rfl, hk, rfl, I⟩ := hrel
    by_cases hlt : k < n
    · obtain ⟨hl, HO, HE, HK, sk, hI, HT⟩ := I.out
      have HC := Aid.hid (op_el p sk wr hI)
      have HLL := Aid.hid hl
      have hO := Aid.hid HO; have hE := Aid.hid HE; have hK := Aid.hid HK; have hT := Aid.hid HT
      clear I hI hl HO HE HK HT
      go_wp2_with fail
      go_at_call 109
      refine HC.out.mono ?_
      rintro e w2 ⟨v, s', rfl, g1, g2, g3, g4, g5⟩
      clear HC
      have G1 := Aid.hid g1; have G2 := Aid.hid g2; have G3 := Aid.hid g3; have G4 := Aid.hid g4; have G5 := Aid.hid g5
      have hp2 := g3.lt
      obtain ⟨B, d, q1, q2, q3, q4⟩ := g3
      have p1 := q1.cell 1 _ rfl
      clear g1 g2 g4 g5 q1 q2 q3 q4
      cases hx : s'.x
      · rw [hx] at p1
        clear hx
        have k2 : Below w2.heap.size w2 (w2.alloc (.cells #[.int .i64 v.k, .int .i64 v.a, .int .i64 v.b] 118)) := (Below.refl _ w2).alloc (Nat.le_refl _) _
        have k3 : Below w2.heap.size w2 ((w2.alloc (.cells #[.int .i64 v.k, .int .i64 v.a, .int .i64 v.b] 118)).alloc (.cells #[.int .i64 v.k, .int .i64 v.a, .int .i64 v.b] 118)) := k2.alloc (by simp) _
        have ho3 : ((w2.alloc (.cells #[.int .i64 v.k, .int .i64 v.a, .int .i64 v.b] 118)).alloc (.cells #[.int .i64 v.k, .int .i64 v.a, .int .i64 v.b] 118)).ownsRow w.heap.size 118 3 (.slice A l.length c) l.length ((l.map (fun v => [.int .i64 v.k, .int .i64 v.a, .int .i64 v.b])).flatten) := by
          have h1 := G4.out.own hpw hO.out
          exact own_keeps h1 k3
        have hnew := Aid.Has.new (w2.alloc (.cells #[.int .i64 v.k, .int .i64 v.a, .int .i64 v.b] 118)) [.int .i64 v.k, .int .i64 v.a, .int .i64 v.b] 118
        have hr : Reads ((w2.alloc (.cells #[.int .i64 v.k, .int .i64 v.a, .int .i64 v.b] 118)).alloc (.cells #[.int .i64 v.k, .int .i64 v.a, .int .i64 v.b] 118)) ((w2.alloc (.cells #[.int .i64 v.k, .int .i64 v.a, .int .i64 v.b] 118)).alloc (.cells #[.int .i64 v.k, .int .i64 v.a, .int .i64 v.b] 118)).heap.size 3 (some ⟨(w2.heap.size + 1), 0, none⟩) 1 [.int .i64 v.k, .int .i64 v.a, .int .i64 v.b] := ⟨by simp, fun _ => ⟨⟨(w2.heap.size + 1), 0, none⟩, rfl, by simp [World.size_alloc], fun j u hj => by
          rw [Go.WideShapes.add_plain, Nat.zero_add]
          rw [World.size_alloc] at hnew
          exact hnew.cell j u hj⟩⟩
        have hbs : w.heap.size ≤ ((w2.alloc (.cells #[.int .i64 v.k, .int .i64 v.a, .int .i64 v.b] 118)).alloc (.cells #[.int .i64 v.k, .int .i64 v.a, .int .i64 v.b] 118)).heap.size := Nat.le_trans hK.out.size (Nat.le_trans G4.out.size k3.size)
        have hll : l.length ≤ 10000 := by have := HLL.out; omega
        have K3 := Aid.hid k3
        clear k2 k3 hnew
        go_wp2_with (at_builtin; refine wpList_append_any _ rfl _ _ 58 rfl w.heap.size 118 i0 (.agg #[.int .i64 0, .int .i64 0, .int .i64 0]) 3 24 Tryz.underlying58 hi hz0 hz1 hz2 rfl (by decide) _ _ _ rfl ho3 _ (some ⟨(w2.heap.size + 1), 0, none⟩) 1 1 [.int .i64 v.k, .int .i64 v.a, .int .i64 v.b] rfl hr ?d1 ?d2 ?d3 hbs ?_)
        case d1 => intro u hu; simp at hu; rcases hu with rfl | rfl | rfl <;> rfl
        case d2 => unfold maxLen; omega
        case d3 => omega
        intro v9 w9 ho9 hg9 hob
        obtain ⟨A2, c2, rfl, J⟩ := ListInv.next (S := (fun _ => True)) (At := (fun _ _ _ => True)) (cells := (fun v => [.int .i64 v.k, .int .i64 v.a, .int .i64 v.b])) (v := v) (fun _ _ _ => trivial) HLL.out hO.out hE.out hK.out hT.out hpw hlt G1.out G2.out G3.out G4.out G5.out K3.out ho9 hg9 (by simpa only [World.size_alloc] using hob)
        have HJ := Aid.hid J
        have LQ : (l ++ [v]).length = l.length + 1 := by simp
        clear J ho9 hg9 hob ho3 hr hbs hO hE hK hT G1 G2 G3 G4 G5 K3 HLL p1
        go_wp2_with fail
        go_roundw
        case rel => exact ⟨k + 1, A2, c2, l ++ [v], by go_num, by omega, by rw [LQ], HJ⟩
        case measure => simp [intOf]; omega
      · rw [hx] at p1
        have FIN : Hid (∀ w', Below w2.heap.size w2 w' → Alld Pc.op Opr.eqb (fun _ => True) LOps 92 p s w (.returned (.slice none 0 0)) w') := Aid.hid fun w' hb => ⟨none, 0, [], s', rfl, Nat.zero_le _, by simp, ⟨Nat.zero_le _, Rows.nil_ _ _ _ _⟩, G3.out.low (hb.mono (by omega)), ((hK.out.trans G4.out).trans (Keep.of_below hb)), hT.out.no hlt G5.out hx⟩
        have FB : Hid (∀ o : Obj, Below w2.heap.size w2 (w2.alloc o)) := Aid.hid fun o => (Below.refl _ w2).alloc (Nat.le_refl _) o
        have FR := Aid.hid (Below.refl w2.heap.size w2)
        clear hx
        go_wp2_with fail
        go_ret
        exact FIN.out _ (FB.out _)
    · obtain ⟨hl, HO, HE, HK, sk, hI, HT⟩ := I.out
      have hrow := fresh_rows (sz := 3) (rows := l.map (fun v => [.int .i64 v.k, .int .i64 v.a, .int .i64 v.b])) (by intro r hr; obtain ⟨x, _, rfl⟩ := List.mem_map.1 hr; rfl) (by rw [List.length_map]; exact HO)
      have FIN : Hid (Alld Pc.op Opr.eqb (fun _ => True) LOps 92 p s w (.returned (.slice A l.length c)) wr) := Aid.hid ⟨A, c, l, sk, rfl, by omega, fun x hx => (HE x hx).1, ⟨by show _ ≤ 9223372036854775807; omega, hrow⟩, hI, HK, HT.done (by omega)⟩
      clear hl HO HE HK hI HT hrow I
      go_wp2_with fail
      go_ret
      exact FIN.out
theorem infoR_fc : (Tryz.prog.info? 52).map (fun i => (i.zero, i.size, i.bytes)) = some (some (.slice none 0 0), 1, 24) := by kernel_rfl
set_option maxRecDepth 100000 in
set_option maxHeartbeats 2000000 in
theorem all_fc (p : Nat) (s : St) (w : World) (h : Rd.Is w 92 p s) :
    Calls Tryz.prog 79 #[.pointer (some ⟨p, 0, none⟩), .func (.func 80) #[.pointer (some ⟨p, 0, none⟩)] #[]] w fun e w' => Alld Pc.fc Fc.eqb (fun x => Txts x.l) LFcs 92 p s w e w' := by
  obtain ⟨i0, hi, hz0, hz1, hz2⟩ := info_parts infoR_fc
  have HC := Aid.hid (many_is p s w h)
  have hpw := h.lt
  clear h
  go_enter Tryz.func79, Tryz.ntmps79
  try simp only [List.append_eq, List.cons_append, List.nil_append]
  go_wp2_with fail
  go_at_call 78
  refine HC.out.mono ?_
  rintro e w1 ⟨n, s1, rfl, hn, h2, h3, h4⟩
  have I0 := Aid.hid (show ListInv Pc.fc Fc.eqb (fun x => Txts x.l) Fc.At (fun v => [.slice v.A v.l.length v.c]) 52 1 92 p s w n 0 none 0 [] w1 from ListInv.start h2 h3 h4)
  clear h2 h3 h4 HC
  go_wp2_with fail
  go_loopw [5, 9] (fun vl vi wr => ∃ (k : Nat) (A : Option Addr) (c : Nat) (l : List Fc), vi = .int .i64 k ∧ k ≤ n ∧ vl = .slice A l.length c ∧ Hid (ListInv Pc.fc Fc.eqb (fun x => Txts x.l) Fc.At (fun v => [.slice v.A v.l.length v.c]) 52 1 92 p s w n k A c l wr)) (fun _ vi _ => n - (intOf vi).toNat)
  case atStart => exact ⟨0, none, 0, [], rfl, Nat.zero_le _, rfl, I0⟩
  case round =>
    clear I0
    obtain ⟨k, A, c, l, rfl, hk, rfl, I⟩ := hrel
    by_cases hlt : k < n
    · obtain ⟨hl, HO, HE, HK, sk, hI, HT⟩ := I.out
      have HC := Aid.hid (fc_el p sk wr hI)
      have HLL := Aid.hid hl
      have hO := Aid.hid HO; have hE := Aid.hid HE; have hK := Aid.hid HK; have hT := Aid.hid HT
      clear I hI hl HO HE HK HT
      go_wp2_with fail
      go_at_call 80
      refine HC.out.mono ?_
      rintro e w2 ⟨v, s', rfl, g1, g2, g3, g4, g5⟩
      clear HC
      have G1 := Aid.hid g1; have G2 := Aid.hid g2; have G3 := Aid.hid g3; have G4 := Aid.hid g4; have G5 := Aid.hid g5
      have hp2 := g3.lt
      obtain ⟨B, d, q1, q2, q3, q4⟩ := g3
      have p1 := q1.cell 1 _ rfl
      clear g1 g2 g4 g5 q1 q2 q3 q4
      cases hx : s'.x
      · rw [hx] at p1
        clear hx
        have k2 : Below w2.heap.size w2 w2 := Below.refl _ _
        have k3 : Below w2.heap.size w2 (w2.alloc (.cells #[.slice v.A v.l.length v.c] 52)) := k2.alloc (Nat.le_refl _) _
        have ho3 : (w2.alloc (.cells #[.slice v.A v.l.length v.c] 52)).ownsRow w.heap.size 52 1 (.slice A l.length c) l.length ((l.map (fun v => [.slice v.A v.l.length v.c])).flatten) := by
          have h1 := G4.out.own hpw hO.out
          exact own_keeps h1 k3
        have hnew := Aid.Has.new w2 [.slice v.A v.l.length v.c] 52
        have hr : Reads (w2.alloc (.cells #[.slice v.A v.l.length v.c] 52)) (w2.alloc (.cells #[.slice v.A v.l.length v.c] 52)).heap.size 1 (some ⟨w2.heap.size, 0, none⟩) 1 [.slice v.A v.l.length v.c] := ⟨by simp, fun _ => ⟨⟨w2.heap.size, 0, none⟩, rfl, by simp [World.size_alloc], fun j u hj => by
          rw [Go.WideShapes.add_plain, Nat.zero_add]
          skip
          exact hnew.cell j u hj⟩⟩
        have hbs : w.heap.size ≤ (w2.alloc (.cells #[.slice v.A v.l.length v.c] 52)).heap.size := Nat.le_trans hK.out.size (Nat.le_trans G4.out.size k3.size)
        have hll : l.length ≤ 10000 := by have := HLL.out; omega
        have K3 := Aid.hid k3
        clear k2 k3 hnew
        go_wp2_with (at_builtin; refine wpList_append_any _ rfl _ _ 22 rfl w.heap.size 52 i0 (.slice none 0 0) 1 24 Tryz.underlying22 hi hz0 hz1 hz2 rfl (by decide) _ _ _ rfl ho3 _ (some ⟨w2.heap.size, 0, none⟩) 1 1 [.slice v.A v.l.length v.c] rfl hr ?d1 ?d2 ?d3 hbs ?_)
        case d1 => intro u hu; simp at hu; subst hu; rfl
        case d2 => unfold maxLen; omega
        case d3 => omega
        intro v9 w9 ho9 hg9 hob
        obtain ⟨A2, c2, rfl, J⟩ := ListInv.next (S := (fun x => Txts x.l)) (At := Fc.At) (cells := (fun v => [.slice v.A v.l.length v.c])) (v := v) (Fc.At.kc) HLL.out hO.out hE.out hK.out hT.out hpw hlt G1.out G2.out G3.out G4.out G5.out K3.out ho9 hg9 (by simpa only [World.size_alloc] using hob)
        have HJ := Aid.hid J
        have LQ : (l ++ [v]).length = l.length + 1 := by simp
        clear J ho9 hg9 hob ho3 hr hbs hO hE hK hT G1 G2 G3 G4 G5 K3 HLL p1
        go_wp2_with fail
        go_roundw
        case rel => exact ⟨k + 1, A2, c2, l ++ [v], by go_num, by omega, by rw [LQ], HJ⟩
        case measure => simp [intOf]; omega
      · rw [hx] at p1
        have FIN : Hid (∀ w', Below w2.heap.size w2 w' → Alld Pc.fc Fc.eqb (fun x => Txts x.l) LFcs 92 p s w (.returned (.slice none 0 0)) w') := Aid.hid fun w' hb => ⟨none, 0, [], s', rfl, Nat.zero_le _, by simp, ⟨Nat.zero_le _, Rows.nil_ _ _ _ _, by simp⟩, G3.out.low (hb.mono (by omega)), ((hK.out.trans G4.out).trans (Keep.of_below hb)), hT.out.no hlt G5.out hx⟩
        have FB : Hid (∀ o : Obj, Below w2.heap.size w2 (w2.alloc o)) := Aid.hid fun o => (Below.refl _ w2).alloc (Nat.le_refl _) o
        have FR := Aid.hid (Below.refl w2.heap.size w2)
        clear hx
        go_wp2_with fail
        go_ret
        exact FIN.out _ (FR.out)
    · obtain ⟨hl, HO, HE, HK, sk, hI, HT⟩ := I.out
      have hrow := fresh_rows (sz := 1) (rows := l.map (fun v => [.slice v.A v.l.length v.c])) (by intro r hr; obtain ⟨x, _, rfl⟩ := List.mem_map.1 hr; rfl) (by rw [List.length_map]; exact HO)
      have FIN : Hid (Alld Pc.fc Fc.eqb (fun x => Txts x.l) LFcs 92 p s w (.returned (.slice A l.length c)) wr) := Aid.hid ⟨A, c, l, sk, rfl, by omega, fun x hx => (HE x hx).1, ⟨by show _ ≤ 9223372036854775807; omega, hrow, fun x hx => Fc.At.kc (HE x hx).2 Kc.row_out (Nat.le_refl _)⟩, hI, HK, HT.done (by omega)⟩
      clear hl HO HE HK hI HT hrow I
      go_wp2_with fail
      go_ret
      exact FIN.out
set_option maxRecDepth 100000 in
set_option maxHeartbeats 2000000 in
theorem desc_el (p : Nat) (s : St) (w : World) (h : Rd.Is w 92 p s) :
    Calls Tryz.prog 82 #[.pointer (some ⟨p, 0, none⟩)] w fun e w' => Eld Pc.desc Desc.eqb Desc.Small Desc.At (fun v => .agg #[.int .i64 v.base, .string v.fields, .slice v.iA v.init.length v.ic, .slice v.vA v.vtab.length v.vc, .slice v.sA v.sigs.length v.sc, .slice v.tA v.tabs.length v.tc]) 92 p s w e w' := by
  have hpw := h.lt
  have i0 : Rd.Is (w.alloc (.cells #[.int .i64 0, .string ⟨#[]⟩, .slice none 0 0, .slice none 0 0, .slice none 0 0, .slice none 0 0] 55)) 92 p s := h.low ((Below.refl _ w).alloc (by omega) _)
  have K0 : Hid (Keep p w (w.alloc (.cells #[.int .i64 0, .string ⟨#[]⟩, .slice none 0 0, .slice none 0 0, .slice none 0 0, .slice none 0 0] 55))) := Aid.hid (Keep.of_below ((Below.refl _ w).alloc (Nat.le_refl _) _))
  have HB := Aid.hid (Aid.Has.new w [.int .i64 0, .string ⟨#[]⟩, .slice none 0 0, .slice none 0 0, .slice none 0 0, .slice none 0 0] 55)
  have Z0 : Hid (w.heap.size + 1 ≤ (w.alloc (.cells #[.int .i64 0, .string ⟨#[]⟩, .slice none 0 0, .slice none 0 0, .slice none 0 0, .slice none 0 0] 55)).heap.size) := Aid.hid (by rw [World.size_alloc]; exact Nat.le_refl _)
  have hmf : ∀ (fn : Fn) (first cap : Array Value) (w : World), (Instr.makeFunc fn first cap).run Tryz.prog w = .ok (.func fn first cap) w := fun _ _ _ _ => rfl
  have HC := Aid.hid (num_el p s (w.alloc (.cells #[.int .i64 0, .string ⟨#[]⟩, .slice none 0 0, .slice none 0 0, .slice none 0 0, .slice none 0 0] 55)) i0)
  clear h i0
  go_enter Tryz.func82, Tryz.ntmps82
  try simp only [List.append_eq, List.cons_append, List.nil_append]
  go_wp2_with fail
  go_at_call 90
  refine HC.out.mono ?_
  rintro e w1 ⟨v1, s1, rfl, a1, b1, I1, k1, g1⟩
  clear HC
  have K1 := Aid.hid k1
  have G1 := Aid.hid g1
  have Z1 : Hid (w.heap.size + 1 ≤ w1.heap.size) := Aid.hid (Nat.le_trans Z0.out k1.size)
  have N1 := Aid.hid a1
  have HC := Aid.hid (text_el p s1 w1 I1)
  clear I1 k1 g1 a1 b1
  go_wp2_with fail
  go_at_call 43
  refine HC.out.mono ?_
  rintro e w2 ⟨v2, s2, rfl, a2, b2, I2, k2, g2⟩
  clear HC
  have K2 := Aid.hid k2
  have G2 := Aid.hid g2
  have Z2 : Hid (w.heap.size + 1 ≤ w2.heap.size) := Aid.hid (Nat.le_trans Z1.out k2.size)
  have N2 := Aid.hid a2
  have HC := Aid.hid (nums_is p s2 w2 I2)
  clear I2 k2 g2 a2 b2
  go_wp2_with fail
  go_at_call 85
  refine HC.out.mono ?_
  rintro e w3 ⟨A3, c3, v3, s3, rfl, a3, d3, b3, I3, k3, g3⟩
  clear HC
  have K3 := Aid.hid k3
  have G3 := Aid.hid g3
  have Z3 : Hid (w.heap.size + 1 ≤ w3.heap.size) := Aid.hid (Nat.le_trans Z2.out k3.size)
  have N3 := Aid.hid a3
  have D3 := Aid.hid d3
  have P3 := Aid.hid b3
  have HC := Aid.hid (nums_is p s3 w3 I3)
  clear I3 k3 g3 a3 b3 d3
  go_wp2_with fail
  go_at_call 85
  refine HC.out.mono ?_
  rintro e w4 ⟨A4, c4, v4, s4, rfl, a4, d4, b4, I4, k4, g4⟩
  clear HC
  have K4 := Aid.hid k4
  have G4 := Aid.hid g4
  have Z4 : Hid (w.heap.size + 1 ≤ w4.heap.size) := Aid.hid (Nat.le_trans Z3.out k4.size)
  have N4 := Aid.hid a4
  have D4 := Aid.hid d4
  have P4 := Aid.hid b4
  have HC := Aid.hid (texts_is p s4 w4 I4)
  clear I4 k4 g4 a4 b4 d4
  go_wp2_with fail
  go_at_call 80
  refine HC.out.mono ?_
  rintro e w5 ⟨A5, c5, v5, s5, rfl, a5, d5, b5, I5, k5, g5⟩
  clear HC
  have K5 := Aid.hid k5
  have G5 := Aid.hid g5
  have Z5 : Hid (w.heap.size + 1 ≤ w5.heap.size) := Aid.hid (Nat.le_trans Z4.out k5.size)
  have N5 := Aid.hid a5
  have D5 := Aid.hid d5
  have P5 := Aid.hid b5
  have HC := Aid.hid (all_tab p s5 w5 I5)
  clear I5 k5 g5 a5 b5 d5
  go_wp2_with fail
  go_at_call 105
  refine HC.out.mono ?_
  rintro e w6 ⟨A6, c6, v6, s6, rfl, a6, d6, b6, I6, k6, g6⟩
  clear HC
  have K6 := Aid.hid k6
  have G6 := Aid.hid g6
  have Z6 : Hid (w.heap.size + 1 ≤ w6.heap.size) := Aid.hid (Nat.le_trans Z5.out k6.size)
  have N6 := Aid.hid a6
  have D6 := Aid.hid d6
  have P6 := Aid.hid b6
  have HI := Aid.hid I6
  clear I6 k6 g6 a6 b6 d6
  have KA : Hid (Keep p w w6) := Aid.hid (((((((K0.out.trans K1.out).trans K2.out).trans K3.out).trans K4.out).trans K5.out).trans K6.out))
  have HBm : w6.heap[w.heap.size]? = some (.cells #[.int .i64 0, .string ⟨#[]⟩, .slice none 0 0, .slice none 0 0, .slice none 0 0, .slice none 0 0] 55 (0, 0)) := by
    exact ((((((K1.out.trans K2.out).trans K3.out).trans K4.out).trans K5.out).trans K6.out)).has (by omega) HB.out
  go_wp2_with (refine wpList_store_row rfl 55 _ _ rfl w.heap.size #[.int .i64 v1, .string v2, .slice A3 v3.length c3, .slice A4 v4.length c4, .slice A5 v5.length c5, .slice A6 v6.length c6] rfl rfl 55 #[.int .i64 0, .string ⟨#[]⟩, .slice none 0 0, .slice none 0 0, .slice none 0 0, .slice none 0 0] HBm (by kernel_rfl) rfl (by simp [Value.oneCell']) ?_)
  have HR : Aid.Has (w6.setRow w.heap.size #[.int .i64 v1, .string v2, .slice A3 v3.length c3, .slice A4 v4.length c4, .slice A5 v5.length c5, .slice A6 v6.length c6]) w.heap.size [.int .i64 v1, .string v2, .slice A3 v3.length c3, .slice A4 v4.length c4, .slice A5 v5.length c5, .slice A6 v6.length c6] 55 := row_has (ys := [.int .i64 v1, .string v2, .slice A3 v3.length c3, .slice A4 v4.length c4, .slice A5 v5.length c5, .slice A6 v6.length c6]) HBm
  refine bodyPost_ret (v := .agg #[.int .i64 v1, .string v2, .slice A3 v3.length c3, .slice A4 v4.length c4, .slice A5 v5.length c5, .slice A6 v6.length c6]) (results_cell_row rfl _ _ w.heap.size 55 #[.int .i64 v1, .string v2, .slice A3 v3.length c3, .slice A4 v4.length c4, .slice A5 v5.length c5, .slice A6 v6.length c6] (0, 0) _ rfl HR Tryz.underlying55 rfl (by kernel_rfl)) rfl ?_
  exact ⟨⟨v1, v2, A3, v3, c3, A4, v4, c4, A5, v5, c5, A6, v6, c6⟩, s6, rfl, ⟨N2.out, N3.out, N4.out, ⟨N5.out, D5.out⟩, N6.out, D6.out⟩, ⟨(P3.out.kc (kc_got ((K4.out.trans K5.out).trans K6.out) hpw Z2.out _) (by rw [row_size]; exact ((K4.out.trans K5.out).trans K6.out).size)), (P4.out.kc (kc_got (K5.out.trans K6.out) hpw Z3.out _) (by rw [row_size]; exact (K5.out.trans K6.out).size)), (P5.out.kc (kc_got K6.out hpw Z4.out _) (by rw [row_size]; exact K6.out.size)), (P6.out.kc (kc_got (Keep.refl p w6) hpw Z5.out _) (by rw [row_size]; exact (Keep.refl p w6).size))⟩, Eld.keepRow HI.out (by omega) _, KA.out.row (Nat.le_refl _) _, Got.of (((((((G1.out.map (fun v : Desc => v.base)).seq (G2.out.map (fun v : Desc => v.fields))).seq (G3.out.map (fun v : Desc => v.init))).seq (G4.out.map (fun v : Desc => v.vtab))).seq (G5.out.map (fun v : Desc => v.sigs))).seq (G6.out.map (fun v : Desc => v.tabs)))) (fun v => rfl) (fun v h => by simpa [Desc.eqb, Int.eqb, Txt.eqb] using h)⟩
theorem infoR_desc : (Tryz.prog.info? 55).map (fun i => (i.zero, i.size, i.bytes)) = some (some (.agg #[.int .i64 0, .string ⟨#[]⟩, .slice none 0 0, .slice none 0 0, .slice none 0 0, .slice none 0 0]), 6, 120) := by kernel_rfl
set_option maxRecDepth 100000 in
set_option maxHeartbeats 2000000 in
theorem all_desc (p : Nat) (s : St) (w : World) (h : Rd.Is w 92 p s) :
    Calls Tryz.prog 81 #[.pointer (some ⟨p, 0, none⟩), .func (.func 82) #[.pointer (some ⟨p, 0, none⟩)] #[]] w fun e w' => Alld Pc.desc Desc.eqb Desc.Small LDescs 92 p s w e w' := by
  obtain ⟨i0, hi, hz0, hz1, hz2⟩ := info_parts infoR_desc
  have HC := Aid.hid (many_is p s w h)
  have hpw := h.lt
  clear h
  go_enter Tryz.func81, Tryz.ntmps81
  try simp only [List.append_eq, List.cons_append, List.nil_append]
  go_wp2_with fail
  go_at_call 78
  refine HC.out.mono ?_
  rintro e w1 ⟨n, s1, rfl, hn, h2, h3, h4⟩
  have I0 := Aid.hid (show ListInv Pc.desc Desc.eqb Desc.Small Desc.At (fun v => [.int .i64 v.base, .string v.fields, .slice v.iA v.init.length v.ic, .slice v.vA v.vtab.length v.vc, .slice v.sA v.sigs.length v.sc, .slice v.tA v.tabs.length v.tc]) 55 6 92 p s w n 0 none 0 [] w1 from ListInv.start h2 h3 h4)
  clear h2 h3 h4 HC
  go_wp2_with fail
  go_loopw [5, 9] (fun vl vi wr => ∃ (k : Nat) (A : Option Addr) (c : Nat) (l : List Desc), vi = .int .i64 k ∧ k ≤ n ∧ vl = .slice A l.length c ∧ Hid (ListInv Pc.desc Desc.eqb Desc.Small Desc.At (fun v => [.int .i64 v.base, .string v.fields, .slice v.iA v.init.length v.ic, .slice v.vA v.vtab.length v.vc, .slice v.sA v.sigs.length v.sc, .slice v.tA v.tabs.length v.tc]) 55 6 92 p s w n k A c l wr)) (fun _ vi _ => n - (intOf vi).toNat)
  case atStart => exact ⟨0, none, 0, [], rfl, Nat.zero_le _, rfl, I0⟩
  case round =>
    clear I0
    obtain ⟨k, A, c, l, rfl, hk, rfl, I⟩ := hrel
    by_cases hlt : k < n
    · obtain ⟨hl, HO, HE, HK, sk, hI, HT⟩ := I.out
      have HC := Aid.hid (desc_el p sk wr hI)
      have HLL := Aid.hid hl
      have hO := Aid.hid HO; have hE := Aid.hid HE; have hK := Aid.hid HK; have hT := Aid.hid HT
      clear I hI hl HO HE HK HT
      go_wp2_with fail
      go_at_call 82
      refine HC.out.mono ?_
      rintro e w2 ⟨v, s', rfl, g1, g2, g3, g4, g5⟩
      clear HC
      have G1 := Aid.hid g1; have G2 := Aid.hid g2; have G3 := Aid.hid g3; have G4 := Aid.hid g4; have G5 := Aid.hid g5
      have hp2 := g3.lt
      obtain ⟨B, d, q1, q2, q3, q4⟩ := g3
      have p1 := q1.cell 1 _ rfl
      clear g1 g2 g4 g5 q1 q2 q3 q4
      cases hx : s'.x
      · rw [hx] at p1
        clear hx
        have k2 : Below w2.heap.size w2 (w2.alloc (.cells #[.int .i64 v.base, .string v.fields, .slice v.iA v.init.length v.ic, .slice v.vA v.vtab.length v.vc, .slice v.sA v.sigs.length v.sc, .slice v.tA v.tabs.length v.tc] 55)) := (Below.refl _ w2).alloc (Nat.le_refl _) _
        have k3 : Below w2.heap.size w2 ((w2.alloc (.cells #[.int .i64 v.base, .string v.fields, .slice v.iA v.init.length v.ic, .slice v.vA v.vtab.length v.vc, .slice v.sA v.sigs.length v.sc, .slice v.tA v.tabs.length v.tc] 55)).alloc (.cells #[.int .i64 v.base, .string v.fields, .slice v.iA v.init.length v.ic, .slice v.vA v.vtab.length v.vc, .slice v.sA v.sigs.length v.sc, .slice v.tA v.tabs.length v.tc] 55)) := k2.alloc (by simp) _
        have ho3 : ((w2.alloc (.cells #[.int .i64 v.base, .string v.fields, .slice v.iA v.init.length v.ic, .slice v.vA v.vtab.length v.vc, .slice v.sA v.sigs.length v.sc, .slice v.tA v.tabs.length v.tc] 55)).alloc (.cells #[.int .i64 v.base, .string v.fields, .slice v.iA v.init.length v.ic, .slice v.vA v.vtab.length v.vc, .slice v.sA v.sigs.length v.sc, .slice v.tA v.tabs.length v.tc] 55)).ownsRow w.heap.size 55 6 (.slice A l.length c) l.length ((l.map (fun v => [.int .i64 v.base, .string v.fields, .slice v.iA v.init.length v.ic, .slice v.vA v.vtab.length v.vc, .slice v.sA v.sigs.length v.sc, .slice v.tA v.tabs.length v.tc])).flatten) := by
          have h1 := G4.out.own hpw hO.out
          exact own_keeps h1 k3
        have hnew := Aid.Has.new (w2.alloc (.cells #[.int .i64 v.base, .string v.fields, .slice v.iA v.init.length v.ic, .slice v.vA v.vtab.length v.vc, .slice v.sA v.sigs.length v.sc, .slice v.tA v.tabs.length v.tc] 55)) [.int .i64 v.base, .string v.fields, .slice v.iA v.init.length v.ic, .slice v.vA v.vtab.length v.vc, .slice v.sA v.sigs.length v.sc, .slice v.tA v.tabs.length v.tc] 55
        have hr : Reads ((w2.alloc (.cells #[.int .i64 v.base, .string v.fields, .slice v.iA v.init.length v.ic, .slice v.vA v.vtab.length v.vc, .slice v.sA v.sigs.length v.sc, .slice v.tA v.tabs.length v.tc] 55)).alloc (.cells #[.int .i64 v.base, .string v.fields, .slice v.iA v.init.length v.ic, .slice v.vA v.vtab.length v.vc, .slice v.sA v.sigs.length v.sc, .slice v.tA v.tabs.length v.tc] 55)) ((w2.alloc (.cells #[.int .i64 v.base, .string v.fields, .slice v.iA v.init.length v.ic, .slice v.vA v.vtab.length v.vc, .slice v.sA v.sigs.length v.sc, .slice v.tA v.tabs.length v.tc] 55)).alloc (.cells #[.int .i64 v.base, .string v.fields, .slice v.iA v.init.length v.ic, .slice v.vA v.vtab.length v.vc, .slice v.sA v.sigs.length v.sc, .slice v.tA v.tabs.length v.tc] 55)).heap.size 6 (some ⟨(w2.heap.size + 1), 0, none⟩) 1 [.int .i64 v.base, .string v.fields, .slice v.iA v.init.length v.ic, .slice v.vA v.vtab.length v.vc, .slice v.sA v.sigs.length v.sc, .slice v.tA v.tabs.length v.tc] := ⟨by simp, fun _ => ⟨⟨(w2.heap.size + 1), 0, none⟩, rfl, by simp [World.size_alloc], fun j u hj => by
          rw [Go.WideShapes.add_plain, Nat.zero_add]
          rw [World.size_alloc] at hnew
          exact hnew.cell j u hj⟩⟩
        have hbs : w.heap.size ≤ ((w2.alloc (.cells #[.int .i64 v.base, .string v.fields, .slice v.iA v.init.length v.ic, .slice v.vA v.vtab.length v.vc, .slice v.sA v.sigs.length v.sc, .slice v.tA v.tabs.length v.tc] 55)).alloc (.cells #[.int .i64 v.base, .string v.fields, .slice v.iA v.init.length v.ic, .slice v.vA v.vtab.length v.vc, .slice v.sA v.sigs.length v.sc, .slice v.tA v.tabs.length v.tc] 55)).heap.size := Nat.le_trans hK.out.size (Nat.le_trans G4.out.size k3.size)
        have hll : l.length ≤ 10000 := by have := HLL.out; omega
        have K3 := Aid.hid k3
        clear k2 k3 hnew
        go_wp2_with (at_builtin; refine wpList_append_any _ rfl _ _ 23 rfl w.heap.size 55 i0 (.agg #[.int .i64 0, .string ⟨#[]⟩, .slice none 0 0, .slice none 0 0, .slice none 0 0, .slice none 0 0]) 6 120 Tryz.underlying23 hi hz0 hz1 hz2 rfl (by decide) _ _ _ rfl ho3 _ (some ⟨(w2.heap.size + 1), 0, none⟩) 1 1 [.int .i64 v.base, .string v.fields, .slice v.iA v.init.length v.ic, .slice v.vA v.vtab.length v.vc, .slice v.sA v.sigs.length v.sc, .slice v.tA v.tabs.length v.tc] rfl hr ?d1 ?d2 ?d3 hbs ?_)
        case d1 => intro u hu; simp at hu; rcases hu with rfl | rfl | rfl | rfl | rfl | rfl <;> rfl
        case d2 => unfold maxLen; omega
        case d3 => omega
        intro v9 w9 ho9 hg9 hob
        obtain ⟨A2, c2, rfl, J⟩ := ListInv.next (S := Desc.Small) (At := Desc.At) (cells := (fun v => [.int .i64 v.base, .string v.fields, .slice v.iA v.init.length v.ic, .slice v.vA v.vtab.length v.vc, .slice v.sA v.sigs.length v.sc, .slice v.tA v.tabs.length v.tc])) (v := v) (Desc.At.kc) HLL.out hO.out hE.out hK.out hT.out hpw hlt G1.out G2.out G3.out G4.out G5.out K3.out ho9 hg9 (by simpa only [World.size_alloc] using hob)
        have HJ := Aid.hid J
        have LQ : (l ++ [v]).length = l.length + 1 := by simp
        clear J ho9 hg9 hob ho3 hr hbs hO hE hK hT G1 G2 G3 G4 G5 K3 HLL p1
        go_wp2_with fail
        go_roundw
        case rel => exact ⟨k + 1, A2, c2, l ++ [v], by go_num, by omega, by rw [LQ], HJ⟩
        case measure => simp [intOf]; omega
      · rw [hx] at p1
        have FIN : Hid (∀ w', Below w2.heap.size w2 w' → Alld Pc.desc Desc.eqb Desc.Small LDescs 92 p s w (.returned (.slice none 0 0)) w') := Aid.hid fun w' hb => ⟨none, 0, [], s', rfl, Nat.zero_le _, by simp, ⟨Nat.zero_le _, Rows.nil_ _ _ _ _, by simp⟩, G3.out.low (hb.mono (by omega)), ((hK.out.trans G4.out).trans (Keep.of_below hb)), hT.out.no hlt G5.out hx⟩
        have FB : Hid (∀ o : Obj, Below w2.heap.size w2 (w2.alloc o)) := Aid.hid fun o => (Below.refl _ w2).alloc (Nat.le_refl _) o
        have FR := Aid.hid (Below.refl w2.heap.size w2)
        clear hx
        go_wp2_with fail
        go_ret
        exact FIN.out _ (FB.out _)
    · obtain ⟨hl, HO, HE, HK, sk, hI, HT⟩ := I.out
      have hrow := fresh_rows (sz := 6) (rows := l.map (fun v => [.int .i64 v.base, .string v.fields, .slice v.iA v.init.length v.ic, .slice v.vA v.vtab.length v.vc, .slice v.sA v.sigs.length v.sc, .slice v.tA v.tabs.length v.tc])) (by intro r hr; obtain ⟨x, _, rfl⟩ := List.mem_map.1 hr; rfl) (by rw [List.length_map]; exact HO)
      have FIN : Hid (Alld Pc.desc Desc.eqb Desc.Small LDescs 92 p s w (.returned (.slice A l.length c)) wr) := Aid.hid ⟨A, c, l, sk, rfl, by omega, fun x hx => (HE x hx).1, ⟨by show _ ≤ 9223372036854775807; omega, hrow, fun x hx => Desc.At.kc (HE x hx).2 Kc.row_out (Nat.le_refl _)⟩, hI, HK, HT.done (by omega)⟩
      clear hl HO HE HK hI HT hrow I
      go_wp2_with fail
      go_ret
      exact FIN.out
set_option maxRecDepth 100000 in
set_option maxHeartbeats 2000000 in
theorem cod_el (p : Nat) (s : St) (w : World) (h : Rd.Is w 92 p s) :
    Calls Tryz.prog 84 #[.pointer (some ⟨p, 0, none⟩)] w fun e w' => Eld Pc.cod Cod.eqb Cod.Small Cod.At (fun v => .agg #[.int .i64 v.cls, .string v.params, .string v.locals, .bool v.ret, .int .i64 v.stack, .slice v.oA v.ops.length v.oc]) 92 p s w e w' := by
  have hpw := h.lt
  have i0 : Rd.Is (w.alloc (.cells #[.int .i64 0, .string ⟨#[]⟩, .string ⟨#[]⟩, .bool false, .int .i64 0, .slice none 0 0] 60)) 92 p s := h.low ((Below.refl _ w).alloc (by omega) _)
  have K0 : Hid (Keep p w (w.alloc (.cells #[.int .i64 0, .string ⟨#[]⟩, .string ⟨#[]⟩, .bool false, .int .i64 0, .slice none 0 0] 60))) := Aid.hid (Keep.of_below ((Below.refl _ w).alloc (Nat.le_refl _) _))
  have HB := Aid.hid (Aid.Has.new w [.int .i64 0, .string ⟨#[]⟩, .string ⟨#[]⟩, .bool false, .int .i64 0, .slice none 0 0] 60)
  have Z0 : Hid (w.heap.size + 1 ≤ (w.alloc (.cells #[.int .i64 0, .string ⟨#[]⟩, .string ⟨#[]⟩, .bool false, .int .i64 0, .slice none 0 0] 60)).heap.size) := Aid.hid (by rw [World.size_alloc]; exact Nat.le_refl _)
  have hmf : ∀ (fn : Fn) (first cap : Array Value) (w : World), (Instr.makeFunc fn first cap).run Tryz.prog w = .ok (.func fn first cap) w := fun _ _ _ _ => rfl
  have HC := Aid.hid (num_el p s (w.alloc (.cells #[.int .i64 0, .string ⟨#[]⟩, .string ⟨#[]⟩, .bool false, .int .i64 0, .slice none 0 0] 60)) i0)
  clear h i0
  go_enter Tryz.func84, Tryz.ntmps84
  try simp only [List.append_eq, List.cons_append, List.nil_append]
  go_wp2_with fail
  go_at_call 90
  refine HC.out.mono ?_
  rintro e w1 ⟨v1, s1, rfl, a1, b1, I1, k1, g1⟩
  clear HC
  have K1 := Aid.hid k1
  have G1 := Aid.hid g1
  have Z1 : Hid (w.heap.size + 1 ≤ w1.heap.size) := Aid.hid (Nat.le_trans Z0.out k1.size)
  have N1 := Aid.hid a1
  have HC := Aid.hid (text_el p s1 w1 I1)
  clear I1 k1 g1 a1 b1
  go_wp2_with fail
  go_at_call 43
  refine HC.out.mono ?_
  rintro e w2 ⟨v2, s2, rfl, a2, b2, I2, k2, g2⟩
  clear HC
  have K2 := Aid.hid k2
  have G2 := Aid.hid g2
  have Z2 : Hid (w.heap.size + 1 ≤ w2.heap.size) := Aid.hid (Nat.le_trans Z1.out k2.size)
  have N2 := Aid.hid a2
  have HC := Aid.hid (text_el p s2 w2 I2)
  clear I2 k2 g2 a2 b2
  go_wp2_with fail
  go_at_call 43
  refine HC.out.mono ?_
  rintro e w3 ⟨v3, s3, rfl, a3, b3, I3, k3, g3⟩
  clear HC
  have K3 := Aid.hid k3
  have G3 := Aid.hid g3
  have Z3 : Hid (w.heap.size + 1 ≤ w3.heap.size) := Aid.hid (Nat.le_trans Z2.out k3.size)
  have N3 := Aid.hid a3
  have HC := Aid.hid (yes_is p s3 w3 I3)
  clear I3 k3 g3 a3 b3
  go_wp2_with fail
  go_at_call 107
  refine HC.out.mono ?_
  rintro e w4 ⟨v4, s4, rfl, I4, k4, g4⟩
  clear HC
  have K4 := Aid.hid k4
  have G4 := Aid.hid g4
  have Z4 : Hid (w.heap.size + 1 ≤ w4.heap.size) := Aid.hid (Nat.le_trans Z3.out k4.size)
  have HC := Aid.hid (num_el p s4 w4 I4)
  clear I4 k4 g4
  go_wp2_with fail
  go_at_call 90
  refine HC.out.mono ?_
  rintro e w5 ⟨v5, s5, rfl, a5, b5, I5, k5, g5⟩
  clear HC
  have K5 := Aid.hid k5
  have G5 := Aid.hid g5
  have Z5 : Hid (w.heap.size + 1 ≤ w5.heap.size) := Aid.hid (Nat.le_trans Z4.out k5.size)
  have N5 := Aid.hid a5
  have HC := Aid.hid (all_op p s5 w5 I5)
  clear I5 k5 g5 a5 b5
  go_wp2_with fail
  go_at_call 108
  refine HC.out.mono ?_
  rintro e w6 ⟨A6, c6, v6, s6, rfl, a6, d6, b6, I6, k6, g6⟩
  clear HC
  have K6 := Aid.hid k6
  have G6 := Aid.hid g6
  have Z6 : Hid (w.heap.size + 1 ≤ w6.heap.size) := Aid.hid (Nat.le_trans Z5.out k6.size)
  have N6 := Aid.hid a6
  have D6 := Aid.hid d6
  have P6 := Aid.hid b6
  have HI := Aid.hid I6
  clear I6 k6 g6 a6 b6 d6
  have KA : Hid (Keep p w w6) := Aid.hid (((((((K0.out.trans K1.out).trans K2.out).trans K3.out).trans K4.out).trans K5.out).trans K6.out))
  have HBm : w6.heap[w.heap.size]? = some (.cells #[.int .i64 0, .string ⟨#[]⟩, .string ⟨#[]⟩, .bool false, .int .i64 0, .slice none 0 0] 60 (0, 0)) := by
    exact ((((((K1.out.trans K2.out).trans K3.out).trans K4.out).trans K5.out).trans K6.out)).has (by omega) HB.out
  go_wp2_with (refine wpList_store_row rfl 60 _ _ rfl w.heap.size #[.int .i64 v1, .string v2, .string v3, .bool v4, .int .i64 v5, .slice A6 v6.length c6] rfl rfl 60 #[.int .i64 0, .string ⟨#[]⟩, .string ⟨#[]⟩, .bool false, .int .i64 0, .slice none 0 0] HBm (by kernel_rfl) rfl (by simp [Value.oneCell']) ?_)
  have HR : Aid.Has (w6.setRow w.heap.size #[.int .i64 v1, .string v2, .string v3, .bool v4, .int .i64 v5, .slice A6 v6.length c6]) w.heap.size [.int .i64 v1, .string v2, .string v3, .bool v4, .int .i64 v5, .slice A6 v6.length c6] 60 := row_has (ys := [.int .i64 v1, .string v2, .string v3, .bool v4, .int .i64 v5, .slice A6 v6.length c6]) HBm
  refine bodyPost_ret (v := .agg #[.int .i64 v1, .string v2, .string v3, .bool v4, .int .i64 v5, .slice A6 v6.length c6]) (results_cell_row rfl _ _ w.heap.size 60 #[.int .i64 v1, .string v2, .string v3, .bool v4, .int .i64 v5, .slice A6 v6.length c6] (0, 0) _ rfl HR Tryz.underlying60 rfl (by kernel_rfl)) rfl ?_
  exact ⟨⟨v1, v2, v3, v4, v5, A6, v6, c6⟩, s6, rfl, ⟨N2.out, N3.out, N6.out⟩, (P6.out.kc (kc_got (Keep.refl p w6) hpw Z5.out _) (by rw [row_size]; exact (Keep.refl p w6).size)), Eld.keepRow HI.out (by omega) _, KA.out.row (Nat.le_refl _) _, Got.of (((((((G1.out.map (fun v : Cod => v.cls)).seq (G2.out.map (fun v : Cod => v.params))).seq (G3.out.map (fun v : Cod => v.locals))).seq (G4.out.map (fun v : Cod => v.ret))).seq (G5.out.map (fun v : Cod => v.stack))).seq (G6.out.map (fun v : Cod => v.ops)))) (fun v => rfl) (fun v h => by simpa [Cod.eqb, Int.eqb, Txt.eqb] using h)⟩
theorem infoR_cod : (Tryz.prog.info? 60).map (fun i => (i.zero, i.size, i.bytes)) = some (some (.agg #[.int .i64 0, .string ⟨#[]⟩, .string ⟨#[]⟩, .bool false, .int .i64 0, .slice none 0 0]), 6, 80) := by kernel_rfl
set_option maxRecDepth 100000 in
set_option maxHeartbeats 2000000 in
theorem all_cod (p : Nat) (s : St) (w : World) (h : Rd.Is w 92 p s) :
    Calls Tryz.prog 83 #[.pointer (some ⟨p, 0, none⟩), .func (.func 84) #[.pointer (some ⟨p, 0, none⟩)] #[]] w fun e w' => Alld Pc.cod Cod.eqb Cod.Small LCods 92 p s w e w' := by
  obtain ⟨i0, hi, hz0, hz1, hz2⟩ := info_parts infoR_cod
  have HC := Aid.hid (many_is p s w h)
  have hpw := h.lt
  clear h
  go_enter Tryz.func83, Tryz.ntmps83
  try simp only [List.append_eq, List.cons_append, List.nil_append]
  go_wp2_with fail
  go_at_call 78
  refine HC.out.mono ?_
  rintro e w1 ⟨n, s1, rfl, hn, h2, h3, h4⟩
  have I0 := Aid.hid (show ListInv Pc.cod Cod.eqb Cod.Small Cod.At (fun v => [.int .i64 v.cls, .string v.params, .string v.locals, .bool v.ret, .int .i64 v.stack, .slice v.oA v.ops.length v.oc]) 60 6 92 p s w n 0 none 0 [] w1 from ListInv.start h2 h3 h4)
  clear h2 h3 h4 HC
  go_wp2_with fail
  go_loopw [5, 9] (fun vl vi wr => ∃ (k : Nat) (A : Option Addr) (c : Nat) (l : List Cod), vi = .int .i64 k ∧ k ≤ n ∧ vl = .slice A l.length c ∧ Hid (ListInv Pc.cod Cod.eqb Cod.Small Cod.At (fun v => [.int .i64 v.cls, .string v.params, .string v.locals, .bool v.ret, .int .i64 v.stack, .slice v.oA v.ops.length v.oc]) 60 6 92 p s w n k A c l wr)) (fun _ vi _ => n - (intOf vi).toNat)
  case atStart => exact ⟨0, none, 0, [], rfl, Nat.zero_le _, rfl, I0⟩
  case round =>
    clear I0
    obtain ⟨k, A, c, l, rfl, hk, rfl, I⟩ := hrel
    by_cases hlt : k < n
    · obtain ⟨hl, HO, HE, HK, sk, hI, HT⟩ := I.out
      have HC := Aid.hid (cod_el p sk wr hI)
      have HLL := Aid.hid hl
      have hO := Aid.hid HO; have hE := Aid.hid HE; have hK := Aid.hid HK; have hT := Aid.hid HT
      clear I hI hl HO HE HK HT
      go_wp2_with fail
      go_at_call 84
      refine HC.out.mono ?_
      rintro e w2 ⟨v, s', rfl, g1, g2, g3, g4, g5⟩
      clear HC
      have G1 := Aid.hid g1; have G2 := Aid.hid g2; have G3 := Aid.hid g3; have G4 := Aid.hid g4; have G5 := Aid.hid g5
      have hp2 := g3.lt
      obtain ⟨B, d, q1, q2, q3, q4⟩ := g3
      have p1 := q1.cell 1 _ rfl
      clear g1 g2 g4 g5 q1 q2 q3 q4
      cases hx : s'.x
      · rw [hx] at p1
        clear hx
        have k2 : Below w2.heap.size w2 (w2.alloc (.cells #[.int .i64 v.cls, .string v.params, .string v.locals, .bool v.ret, .int .i64 v.stack, .slice v.oA v.ops.length v.oc] 60)) := (Below.refl _ w2).alloc (Nat.le_refl _) _
        have k3 : Below w2.heap.size w2 ((w2.alloc (.cells #[.int .i64 v.cls, .string v.params, .string v.locals, .bool v.ret, .int .i64 v.stack, .slice v.oA v.ops.length v.oc] 60)).alloc (.cells #[.int .i64 v.cls, .string v.params, .string v.locals, .bool v.ret, .int .i64 v.stack, .slice v.oA v.ops.length v.oc] 60)) := k2.alloc (by simp) _
        have ho3 : ((w2.alloc (.cells #[.int .i64 v.cls, .string v.params, .string v.locals, .bool v.ret, .int .i64 v.stack, .slice v.oA v.ops.length v.oc] 60)).alloc (.cells #[.int .i64 v.cls, .string v.params, .string v.locals, .bool v.ret, .int .i64 v.stack, .slice v.oA v.ops.length v.oc] 60)).ownsRow w.heap.size 60 6 (.slice A l.length c) l.length ((l.map (fun v => [.int .i64 v.cls, .string v.params, .string v.locals, .bool v.ret, .int .i64 v.stack, .slice v.oA v.ops.length v.oc])).flatten) := by
          have h1 := G4.out.own hpw hO.out
          exact own_keeps h1 k3
        have hnew := Aid.Has.new (w2.alloc (.cells #[.int .i64 v.cls, .string v.params, .string v.locals, .bool v.ret, .int .i64 v.stack, .slice v.oA v.ops.length v.oc] 60)) [.int .i64 v.cls, .string v.params, .string v.locals, .bool v.ret, .int .i64 v.stack, .slice v.oA v.ops.length v.oc] 60
        have hr : Reads ((w2.alloc (.cells #[.int .i64 v.cls, .string v.params, .string v.locals, .bool v.ret, .int .i64 v.stack, .slice v.oA v.ops.length v.oc] 60)).alloc (.cells #[.int .i64 v.cls, .string v.params, .string v.locals, .bool v.ret, .int .i64 v.stack, .slice v.oA v.ops.length v.oc] 60)) ((w2.alloc (.cells #[.int .i64 v.cls, .string v.params, .string v.locals, .bool v.ret, .int .i64 v.stack, .slice v.oA v.ops.length v.oc] 60)).alloc (.cells #[.int .i64 v.cls, .string v.params, .string v.locals, .bool v.ret, .int .i64 v.stack, .slice v.oA v.ops.length v.oc] 60)).heap.size 6 (some ⟨(w2.heap.size + 1), 0, none⟩) 1 [.int .i64 v.cls, .string v.params, .string v.locals, .bool v.ret, .int .i64 v.stack, .slice v.oA v.ops.length v.oc] := ⟨by simp, fun _ => ⟨⟨(w2.heap.size + 1), 0, none⟩, rfl, by simp [World.size_alloc], fun j u hj => by
          rw [Go.WideShapes.add_plain, Nat.zero_add]
          rw [World.size_alloc] at hnew
          exact hnew.cell j u hj⟩⟩
        have hbs : w.heap.size ≤ ((w2.alloc (.cells #[.int .i64 v.cls, .string v.params, .string v.locals, .bool v.ret, .int .i64 v.stack, .slice v.oA v.ops.length v.oc] 60)).alloc (.cells #[.int .i64 v.cls, .string v.params, .string v.locals, .bool v.ret, .int .i64 v.stack, .slice v.oA v.ops.length v.oc] 60)).heap.size := Nat.le_trans hK.out.size (Nat.le_trans G4.out.size k3.size)
        have hll : l.length ≤ 10000 := by have := HLL.out; omega
        have K3 := Aid.hid k3
        clear k2 k3 hnew
        go_wp2_with (at_builtin; refine wpList_append_any _ rfl _ _ 24 rfl w.heap.size 60 i0 (.agg #[.int .i64 0, .string ⟨#[]⟩, .string ⟨#[]⟩, .bool false, .int .i64 0, .slice none 0 0]) 6 80 Tryz.underlying24 hi hz0 hz1 hz2 rfl (by decide) _ _ _ rfl ho3 _ (some ⟨(w2.heap.size + 1), 0, none⟩) 1 1 [.int .i64 v.cls, .string v.params, .string v.locals, .bool v.ret, .int .i64 v.stack, .slice v.oA v.ops.length v.oc] rfl hr ?d1 ?d2 ?d3 hbs ?_)
        case d1 => intro u hu; simp at hu; rcases hu with rfl | rfl | rfl | rfl | rfl | rfl <;> rfl
        case d2 => unfold maxLen; omega
        case d3 => omega
        intro v9 w9 ho9 hg9 hob
        obtain ⟨A2, c2, rfl, J⟩ := ListInv.next (S := Cod.Small) (At := Cod.At) (cells := (fun v => [.int .i64 v.cls, .string v.params, .string v.locals, .bool v.ret, .int .i64 v.stack, .slice v.oA v.ops.length v.oc])) (v := v) (Cod.At.kc) HLL.out hO.out hE.out hK.out hT.out hpw hlt G1.out G2.out G3.out G4.out G5.out K3.out ho9 hg9 (by simpa only [World.size_alloc] using hob)
        have HJ := Aid.hid J
        have LQ : (l ++ [v]).length = l.length + 1 := by simp
        clear J ho9 hg9 hob ho3 hr hbs hO hE hK hT G1 G2 G3 G4 G5 K3 HLL p1
        go_wp2_with fail
        go_roundw
        case rel => exact ⟨k + 1, A2, c2, l ++ [v], by go_num, by omega, by rw [LQ], HJ⟩
        case measure => simp [intOf]; omega
      · rw [hx] at p1
        have FIN : Hid (∀ w', Below w2.heap.size w2 w' → Alld Pc.cod Cod.eqb Cod.Small LCods 92 p s w (.returned (.slice none 0 0)) w') := Aid.hid fun w' hb => ⟨none, 0, [], s', rfl, Nat.zero_le _, by simp, ⟨Nat.zero_le _, Rows.nil_ _ _ _ _, by simp⟩, G3.out.low (hb.mono (by omega)), ((hK.out.trans G4.out).trans (Keep.of_below hb)), hT.out.no hlt G5.out hx⟩
        have FB : Hid (∀ o : Obj, Below w2.heap.size w2 (w2.alloc o)) := Aid.hid fun o => (Below.refl _ w2).alloc (Nat.le_refl _) o
        have FR := Aid.hid (Below.refl w2.heap.size w2)
        clear hx
        go_wp2_with fail
        go_ret
        exact FIN.out _ (FB.out _)
    · obtain ⟨hl, HO, HE, HK, sk, hI, HT⟩ := I.out
      have hrow := fresh_rows (sz := 6) (rows := l.map (fun v => [.int .i64 v.cls, .string v.params, .string v.locals, .bool v.ret, .int .i64 v.stack, .slice v.oA v.ops.length v.oc])) (by intro r hr; obtain ⟨x, _, rfl⟩ := List.mem_map.1 hr; rfl) (by rw [List.length_map]; exact HO)
      have FIN : Hid (Alld Pc.cod Cod.eqb Cod.Small LCods 92 p s w (.returned (.slice A l.length c)) wr) := Aid.hid ⟨A, c, l, sk, rfl, by omega, fun x hx => (HE x hx).1, ⟨by show _ ≤ 9223372036854775807; omega, hrow, fun x hx => Cod.At.kc (HE x hx).2 Kc.row_out (Nat.le_refl _)⟩, hI, HK, HT.done (by omega)⟩
      clear hl HO HE HK hI HT hrow I
      go_wp2_with fail
      go_ret
      exact FIN.out
theorem infoR_lnk : (Tryz.prog.info? 85).map (fun i => (i.zero, i.size, i.bytes)) = some (some (.agg #[.int .i64 0, .int .i64 0, .bool false]), 3, 24) := by kernel_rfl
set_option maxRecDepth 100000 in
set_option maxHeartbeats 2000000 in
theorem all_lnk (p : Nat) (s : St) (w : World) (h : Rd.Is w 92 p s) :
    Calls Tryz.prog 86 #[.pointer (some ⟨p, 0, none⟩), .func (.func 87) #[.pointer (some ⟨p, 0, none⟩)] #[]] w fun e w' => Alld Pc.lnk Lnk.eqb (fun _ => True) LLnks 92 p s w e w' := by
  obtain ⟨i0, hi, hz0, hz1, hz2⟩ := info_parts infoR_lnk
  have HC := Aid.hid (many_is p s w h)
  have hpw := h.lt
  clear h
  go_enter Tryz.func86, Tryz.ntmps86
  try simp only [List.append_eq, List.cons_append, List.nil_append]
  go_wp2_with fail
  go_at_call 78
  refine HC.out.mono ?_
  rintro e w1 ⟨n, s1, rfl, hn, h2, h3, h4⟩
  have I0 := Aid.hid (show ListInv Pc.lnk Lnk.eqb (fun _ => True) (fun _ _ _ => True) (fun v => [.int .i64 v.glob, .int .i64 v.slot, .bool v.bool]) 85 3 92 p s w n 0 none 0 [] w1 from ListInv.start h2 h3 h4)
  clear h2 h3 h4 HC
  go_wp2_with fail
  go_loopw [5, 9] (fun vl vi wr => ∃ (k : Nat) (A : Option Addr) (c : Nat) (l : List Lnk), vi = .int .i64 k ∧ k ≤ n ∧ vl = .slice A l.length c ∧ Hid (ListInv Pc.lnk Lnk.eqb (fun _ => True) (fun _ _ _ => True) (fun v => [.int .i64 v.glob, .int .i64 v.slot, .bool v.bool]) 85 3 92 p s w n k A c l wr)) (fun _ vi _ => n - (intOf vi).toNat)
  case atStart => exact ⟨0, none, 0, [], rfl, Nat.zero_le _, rfl, I0⟩
  case round =>
    clear I0
    obtain ⟨k, A, c, l, rfl, hk, rfl, I⟩ := hrel
    by_cases hlt : k < n
    · obtain ⟨hl, HO, HE, HK, sk, hI, HT⟩ := I.out
      have HC := Aid.hid (lnk_el p sk wr hI)
      have HLL := Aid.hid hl
      have hO := Aid.hid HO; have hE := Aid.hid HE; have hK := Aid.hid HK; have hT := Aid.hid HT
      clear I hI hl HO HE HK HT
      go_wp2_with fail
      go_at_call 87
      refine HC.out.mono ?_
      rintro e w2 ⟨v, s', rfl, g1, g2, g3, g4, g5⟩
      clear HC
      have G1 := Aid.hid g1; have G2 := Aid.hid g2; have G3 := Aid.hid g3; have G4 := Aid.hid g4; have G5 := Aid.hid g5
      have hp2 := g3.lt
      obtain ⟨B, d, q1, q2, q3, q4⟩ := g3
      have p1 := q1.cell 1 _ rfl
      clear g1 g2 g4 g5 q1 q2 q3 q4
      cases hx : s'.x
      · rw [hx] at p1
        clear hx
        have k2 : Below w2.heap.size w2 (w2.alloc (.cells #[.int .i64 v.glob, .int .i64 v.slot, .bool v.bool] 85)) := (Below.refl _ w2).alloc (Nat.le_refl _) _
        have k3 : Below w2.heap.size w2 ((w2.alloc (.cells #[.int .i64 v.glob, .int .i64 v.slot, .bool v.bool] 85)).alloc (.cells #[.int .i64 v.glob, .int .i64 v.slot, .bool v.bool] 85)) := k2.alloc (by simp) _
        have ho3 : ((w2.alloc (.cells #[.int .i64 v.glob, .int .i64 v.slot, .bool v.bool] 85)).alloc (.cells #[.int .i64 v.glob, .int .i64 v.slot, .bool v.bool] 85)).ownsRow w.heap.size 85 3 (.slice A l.length c) l.length ((l.map (fun v => [.int .i64 v.glob, .int .i64 v.slot, .bool v.bool])).flatten) := by
          have h1 := G4.out.own hpw hO.out
          exact own_keeps h1 k3
        have hnew := Aid.Has.new (w2.alloc (.cells #[.int .i64 v.glob, .int .i64 v.slot, .bool v.bool] 85)) [.int .i64 v.glob, .int .i64 v.slot, .bool v.bool] 85
        have hr : Reads ((w2.alloc (.cells #[.int .i64 v.glob, .int .i64 v.slot, .bool v.bool] 85)).alloc (.cells #[.int .i64 v.glob, .int .i64 v.slot, .bool v.bool] 85)) ((w2.alloc (.cells #[.int .i64 v.glob, .int .i64 v.slot, .bool v.bool] 85)).alloc (.cells #[.int .i64 v.glob, .int .i64 v.slot, .bool v.bool] 85)).heap.size 3 (some ⟨(w2.heap.size + 1), 0, none⟩) 1 [.int .i64 v.glob, .int .i64 v.slot, .bool v.bool] := ⟨by simp, fun _ => ⟨⟨(w2.heap.size + 1), 0, none⟩, rfl, by simp [World.size_alloc], fun j u hj => by
          rw [Go.WideShapes.add_plain, Nat.zero_add]
          rw [World.size_alloc] at hnew
          exact hnew.cell j u hj⟩⟩
        have hbs : w.heap.size ≤ ((w2.alloc (.cells #[.int .i64 v.glob, .int .i64 v.slot, .bool v.bool] 85)).alloc (.cells #[.int .i64 v.glob, .int .i64 v.slot, .bool v.bool] 85)).heap.size := Nat.le_trans hK.out.size (Nat.le_trans G4.out.size k3.size)
        have hll : l.length ≤ 10000 := by have := HLL.out; omega
        have K3 := Aid.hid k3
        clear k2 k3 hnew
        go_wp2_with (at_builtin; refine wpList_append_any _ rfl _ _ 26 rfl w.heap.size 85 i0 (.agg #[.int .i64 0, .int .i64 0, .bool false]) 3 24 Tryz.underlying26 hi hz0 hz1 hz2 rfl (by decide) _ _ _ rfl ho3 _ (some ⟨(w2.heap.size + 1), 0, none⟩) 1 1 [.int .i64 v.glob, .int .i64 v.slot, .bool v.bool] rfl hr ?d1 ?d2 ?d3 hbs ?_)
        case d1 => intro u hu; simp at hu; rcases hu with rfl | rfl | rfl <;> rfl
        case d2 => unfold maxLen; omega
        case d3 => omega
        intro v9 w9 ho9 hg9 hob
        obtain ⟨A2, c2, rfl, J⟩ := ListInv.next (S := (fun _ => True)) (At := (fun _ _ _ => True)) (cells := (fun v => [.int .i64 v.glob, .int .i64 v.slot, .bool v.bool])) (v := v) (fun _ _ _ => trivial) HLL.out hO.out hE.out hK.out hT.out hpw hlt G1.out G2.out G3.out G4.out G5.out K3.out ho9 hg9 (by simpa only [World.size_alloc] using hob)
        have HJ := Aid.hid J
        have LQ : (l ++ [v]).length = l.length + 1 := by simp
        clear J ho9 hg9 hob ho3 hr hbs hO hE hK hT G1 G2 G3 G4 G5 K3 HLL p1
        go_wp2_with fail
        go_roundw
        case rel => exact ⟨k + 1, A2, c2, l ++ [v], by go_num, by omega, by rw [LQ], HJ⟩
        case measure => simp [intOf]; omega
      · rw [hx] at p1
        have FIN : Hid (∀ w', Below w2.heap.size w2 w' → Alld Pc.lnk Lnk.eqb (fun _ => True) LLnks 92 p s w (.returned (.slice none 0 0)) w') := Aid.hid fun w' hb => ⟨none, 0, [], s', rfl, Nat.zero_le _, by simp, ⟨Nat.zero_le _, Rows.nil_ _ _ _ _⟩, G3.out.low (hb.mono (by omega)), ((hK.out.trans G4.out).trans (Keep.of_below hb)), hT.out.no hlt G5.out hx⟩
        have FB : Hid (∀ o : Obj, Below w2.heap.size w2 (w2.alloc o)) := Aid.hid fun o => (Below.refl _ w2).alloc (Nat.le_refl _) o
        have FR := Aid.hid (Below.refl w2.heap.size w2)
        clear hx
        go_wp2_with fail
        go_ret
        exact FIN.out _ (FB.out _)
    · obtain ⟨hl, HO, HE, HK, sk, hI, HT⟩ := I.out
      have hrow := fresh_rows (sz := 3) (rows := l.map (fun v => [.int .i64 v.glob, .int .i64 v.slot, .bool v.bool])) (by intro r hr; obtain ⟨x, _, rfl⟩ := List.mem_map.1 hr; rfl) (by rw [List.length_map]; exact HO)
      have FIN : Hid (Alld Pc.lnk Lnk.eqb (fun _ => True) LLnks 92 p s w (.returned (.slice A l.length c)) wr) := Aid.hid ⟨A, c, l, sk, rfl, by omega, fun x hx => (HE x hx).1, ⟨by show _ ≤ 9223372036854775807; omega, hrow⟩, hI, HK, HT.done (by omega)⟩
      clear hl HO HE HK hI HT hrow I
      go_wp2_with fail
      go_ret
      exact FIN.out
theorem infoR_job : (Tryz.prog.info? 77).map (fun i => (i.zero, i.size, i.bytes)) = some (some (.agg #[.int .i64 0, .int .i64 0, .int .i64 0]), 3, 24) := by kernel_rfl
set_option maxRecDepth 100000 in
set_option maxHeartbeats 2000000 in
theorem all_job (p : Nat) (s : St) (w : World) (h : Rd.Is w 92 p s) :
    Calls Tryz.prog 88 #[.pointer (some ⟨p, 0, none⟩), .func (.func 89) #[.pointer (some ⟨p, 0, none⟩)] #[]] w fun e w' => Alld Pc.op Opr.eqb (fun _ => True) LOps 92 p s w e w' := by
  obtain ⟨i0, hi, hz0, hz1, hz2⟩ := info_parts infoR_job
  have HC := Aid.hid (many_is p s w h)
  have hpw := h.lt
  clear h
  go_enter Tryz.func88, Tryz.ntmps88
  try simp only [List.append_eq, List.cons_append, List.nil_append]
  go_wp2_with fail
  go_at_call 78
  refine HC.out.mono ?_
  rintro e w1 ⟨n, s1, rfl, hn, h2, h3, h4⟩
  have I0 := Aid.hid (show ListInv Pc.op Opr.eqb (fun _ => True) (fun _ _ _ => True) (fun v => [.int .i64 v.k, .int .i64 v.a, .int .i64 v.b]) 77 3 92 p s w n 0 none 0 [] w1 from ListInv.start h2 h3 h4)
  clear h2 h3 h4 HC
  go_wp2_with fail
  go_loopw [5, 9] (fun vl vi wr => ∃ (k : Nat) (A : Option Addr) (c : Nat) (l : List Opr), vi = .int .i64 k ∧ k ≤ n ∧ vl = .slice A l.length c ∧ Hid (ListInv Pc.op Opr.eqb (fun _ => True) (fun _ _ _ => True) (fun v => [.int .i64 v.k, .int .i64 v.a, .int .i64 v.b]) 77 3 92 p s w n k A c l wr)) (fun _ vi _ => n - (intOf vi).toNat)
  case atStart => exact ⟨0, none, 0, [], rfl, Nat.zero_le _, rfl, I0⟩
  case round =>
    clear I0
    obtain ⟨k, A, c, l, rfl, hk, rfl, I⟩ := hrel
    by_cases hlt : k < n
    · obtain ⟨hl, HO, HE, HK, sk, hI, HT⟩ := I.out
      have HC := Aid.hid (job_el p sk wr hI)
      have HLL := Aid.hid hl
      have hO := Aid.hid HO; have hE := Aid.hid HE; have hK := Aid.hid HK; have hT := Aid.hid HT
      clear I hI hl HO HE HK HT
      go_wp2_with fail
      go_at_call 89
      refine HC.out.mono ?_
      rintro e w2 ⟨v, s', rfl, g1, g2, g3, g4, g5⟩
      clear HC
      have G1 := Aid.hid g1; have G2 := Aid.hid g2; have G3 := Aid.hid g3; have G4 := Aid.hid g4; have G5 := Aid.hid g5
      have hp2 := g3.lt
      obtain ⟨B, d, q1, q2, q3, q4⟩ := g3
      have p1 := q1.cell 1 _ rfl
      clear g1 g2 g4 g5 q1 q2 q3 q4
      cases hx : s'.x
      · rw [hx] at p1
        clear hx
        have k2 : Below w2.heap.size w2 (w2.alloc (.cells #[.int .i64 v.k, .int .i64 v.a, .int .i64 v.b] 77)) := (Below.refl _ w2).alloc (Nat.le_refl _) _
        have k3 : Below w2.heap.size w2 ((w2.alloc (.cells #[.int .i64 v.k, .int .i64 v.a, .int .i64 v.b] 77)).alloc (.cells #[.int .i64 v.k, .int .i64 v.a, .int .i64 v.b] 77)) := k2.alloc (by simp) _
        have ho3 : ((w2.alloc (.cells #[.int .i64 v.k, .int .i64 v.a, .int .i64 v.b] 77)).alloc (.cells #[.int .i64 v.k, .int .i64 v.a, .int .i64 v.b] 77)).ownsRow w.heap.size 77 3 (.slice A l.length c) l.length ((l.map (fun v => [.int .i64 v.k, .int .i64 v.a, .int .i64 v.b])).flatten) := by
          have h1 := G4.out.own hpw hO.out
          exact own_keeps h1 k3
        have hnew := Aid.Has.new (w2.alloc (.cells #[.int .i64 v.k, .int .i64 v.a, .int .i64 v.b] 77)) [.int .i64 v.k, .int .i64 v.a, .int .i64 v.b] 77
        have hr : Reads ((w2.alloc (.cells #[.int .i64 v.k, .int .i64 v.a, .int .i64 v.b] 77)).alloc (.cells #[.int .i64 v.k, .int .i64 v.a, .int .i64 v.b] 77)) ((w2.alloc (.cells #[.int .i64 v.k, .int .i64 v.a, .int .i64 v.b] 77)).alloc (.cells #[.int .i64 v.k, .int .i64 v.a, .int .i64 v.b] 77)).heap.size 3 (some ⟨(w2.heap.size + 1), 0, none⟩) 1 [.int .i64 v.k, .int .i64 v.a, .int .i64 v.b] := ⟨by simp, fun _ => ⟨⟨(w2.heap.size + 1), 0, none⟩, rfl, by simp [World.size_alloc], fun j u hj => by
          rw [Go.WideShapes.add_plain, Nat.zero_add]
          rw [World.size_alloc] at hnew
          exact hnew.cell j u hj⟩⟩
        have hbs : w.heap.size ≤ ((w2.alloc (.cells #[.int .i64 v.k, .int .i64 v.a, .int .i64 v.b] 77)).alloc (.cells #[.int .i64 v.k, .int .i64 v.a, .int .i64 v.b] 77)).heap.size := Nat.le_trans hK.out.size (Nat.le_trans G4.out.size k3.size)
        have hll : l.length ≤ 10000 := by have := HLL.out; omega
        have K3 := Aid.hid k3
        clear k2 k3 hnew
        go_wp2_with (at_builtin; refine wpList_append_any _ rfl _ _ 27 rfl w.heap.size 77 i0 (.agg #[.int .i64 0, .int .i64 0, .int .i64 0]) 3 24 Tryz.underlying27 hi hz0 hz1 hz2 rfl (by decide) _ _ _ rfl ho3 _ (some ⟨(w2.heap.size + 1), 0, none⟩) 1 1 [.int .i64 v.k, .int .i64 v.a, .int .i64 v.b] rfl hr ?d1 ?d2 ?d3 hbs ?_)
        case d1 => intro u hu; simp at hu; rcases hu with rfl | rfl | rfl <;> rfl
        case d2 => unfold maxLen; omega
        case d3 => omega
        intro v9 w9 ho9 hg9 hob
        obtain ⟨A2, c2, rfl, J⟩ := ListInv.next (S := (fun _ => True)) (At := (fun _ _ _ => True)) (cells := (fun v => [.int .i64 v.k, .int .i64 v.a, .int .i64 v.b])) (v := v) (fun _ _ _ => trivial) HLL.out hO.out hE.out hK.out hT.out hpw hlt G1.out G2.out G3.out G4.out G5.out K3.out ho9 hg9 (by simpa only [World.size_alloc] using hob)
        have HJ := Aid.hid J
        have LQ : (l ++ [v]).length = l.length + 1 := by simp
        clear J ho9 hg9 hob ho3 hr hbs hO hE hK hT G1 G2 G3 G4 G5 K3 HLL p1
        go_wp2_with fail
        go_roundw
        case rel => exact ⟨k + 1, A2, c2, l ++ [v], by go_num, by omega, by rw [LQ], HJ⟩
        case measure => simp [intOf]; omega
      · rw [hx] at p1
        have FIN : Hid (∀ w', Below w2.heap.size w2 w' → Alld Pc.op Opr.eqb (fun _ => True) LOps 92 p s w (.returned (.slice none 0 0)) w') := Aid.hid fun w' hb => ⟨none, 0, [], s', rfl, Nat.zero_le _, by simp, ⟨Nat.zero_le _, Rows.nil_ _ _ _ _⟩, G3.out.low (hb.mono (by omega)), ((hK.out.trans G4.out).trans (Keep.of_below hb)), hT.out.no hlt G5.out hx⟩
        have FB : Hid (∀ o : Obj, Below w2.heap.size w2 (w2.alloc o)) := Aid.hid fun o => (Below.refl _ w2).alloc (Nat.le_refl _) o
        have FR := Aid.hid (Below.refl w2.heap.size w2)
        clear hx
        go_wp2_with fail
        go_ret
        exact FIN.out _ (FB.out _)
    · obtain ⟨hl, HO, HE, HK, sk, hI, HT⟩ := I.out
      have hrow := fresh_rows (sz := 3) (rows := l.map (fun v => [.int .i64 v.k, .int .i64 v.a, .int .i64 v.b])) (by intro r hr; obtain ⟨x, _, rfl⟩ := List.mem_map.1 hr; rfl) (by rw [List.length_map]; exact HO)
      have FIN : Hid (Alld Pc.op Opr.eqb (fun _ => True) LOps 92 p s w (.returned (.slice A l.length c)) wr) := Aid.hid ⟨A, c, l, sk, rfl, by omega, fun x hx => (HE x hx).1, ⟨by show _ ≤ 9223372036854775807; omega, hrow⟩, hI, HK, HT.done (by omega)⟩
      clear hl HO HE HK hI HT hrow I
      go_wp2_with fail
      go_ret
      exact FIN.out
end Go.Proofs.YtaogegeidbclaaaGreatDoor
