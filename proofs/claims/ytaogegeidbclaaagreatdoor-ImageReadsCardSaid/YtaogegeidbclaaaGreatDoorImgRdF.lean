/- The program's reader: parts, and lists of them. -/
import Derived.Test.YtaogegeidbclaaaGreatDoorImgRdE
namespace Go.Proofs.YtaogegeidbclaaaGreatDoor
open Go.RowKit

theorem row_heap (w : World) (g : Nat) (cs : Array Value) (k : Nat) (h : k ≠ g) : (w.setRow g cs).heap[k]? = w.heap[k]? := by
  simp [World.setRow, Array.getElem?_modify, Ne.symm h]
theorem row_has {w : World} {g : Nat} {xs ys : List Value} {t : TypeId} (h : Aid.Has w g xs t) : Aid.Has (w.setRow g ys.toArray) g ys t := by
  unfold Aid.Has at h ⊢; simp [World.setRow, Array.getElem?_modify, h]
theorem row_size (w : World) (g : Nat) (cs : Array Value) : (w.setRow g cs).heap.size = w.heap.size := by simp [World.setRow]
theorem row_below {B g : Nat} {a w : World} (h : Below B a w) (hg : B ≤ g) (cs : Array Value) : Below B a (w.setRow g cs) :=
  ⟨h.os, h.tape, h.output, by have := h.size; simpa [World.setRow] using this, fun k hk => (row_heap w g cs k (by omega)).trans (h.block k hk)⟩
theorem Keep.row {p g : Nat} {a b : World} (h : Keep p a b) (hg : a.heap.size ≤ g) (cs : Array Value) : Keep p a (b.setRow g cs) :=
  ⟨h.os, h.tape, h.output, by rw [row_size]; exact h.size, fun k hk hp => (row_heap b g cs k (by omega)).trans (h.block k hk hp)⟩
theorem kc_row (w : World) (g : Nat) (cs : Array Value) : Kc (fresh w (g + 1)) (fresh (w.setRow g cs) g) := Kc.wipe fun i hi h1 => by
  simp only [decide_eq_false_iff_not] at h1 ⊢
  exact ⟨by omega, row_heap w g cs i (by omega)⟩
/-- What was got lies so still, when the box has been filled. -/
theorem kc_got {p g m : Nat} {a b : World} (h : Keep p a b) (hp : p < g) (hm : g + 1 ≤ m) (cs : Array Value) : Kc (fresh a m) (fresh (b.setRow g cs) g) := fun x u hu =>
  kc_row b g cs x u (Kc.fresh h (by omega) hm x u hu)
theorem Eld.keepRow {w : World} {T : TypeId} {p g : Nat} {s : St} (h : Rd.Is w T p s) (hg : p + 1 ≤ g) (cs : Array Value) : Rd.Is (w.setRow g cs) T p s := h.low (row_below (Below.refl _ _) hg cs)
theorem Int.eqb_dec (x y : Int) : Int.eqb x y = decide (x = y) := rfl
set_option maxRecDepth 100000 in
set_option maxHeartbeats 2000000 in
theorem tab_el (p : Nat) (s : St) (w : World) (h : Rd.Is w 92 p s) :
    Calls Tryz.prog 106 #[.pointer (some ⟨p, 0, none⟩)] w fun e w' => Eld Pc.tab Tab.eqb (fun x => x.l.length ≤ 10000) Tab.At (fun v => .agg #[.int .i64 v.face, .slice v.A v.l.length v.c]) 92 p s w e w' := by
  have hpw := h.lt
  have i0 : Rd.Is (w.alloc (.cells #[.int .i64 0, .slice none 0 0] 57)) 92 p s := h.low ((Below.refl _ w).alloc (by omega) _)
  have K0 : Hid (Keep p w (w.alloc (.cells #[.int .i64 0, .slice none 0 0] 57))) := Aid.hid (Keep.of_below ((Below.refl _ w).alloc (Nat.le_refl _) _))
  have HB := Aid.hid (Aid.Has.new w [.int .i64 0, .slice none 0 0] 57)
  have Z0 : Hid (w.heap.size + 1 ≤ (w.alloc (.cells #[.int .i64 0, .slice none 0 0] 57)).heap.size) := Aid.hid (by rw [World.size_alloc]; exact Nat.le_refl _)
  have hmf : ∀ (fn : Fn) (first cap : Array Value) (w : World), (Instr.makeFunc fn first cap).run Tryz.prog w = .ok (.func fn first cap) w := fun _ _ _ _ => rfl
  have HC := Aid.hid (num_el p s (w.alloc (.cells #[.int .i64 0, .slice none 0 0] 57)) i0)
  clear h i0
  go_enter Tryz.func106, Tryz.ntmps106
  try simp only [List.append_eq, List.cons_append, List.nil_append]
  go_wp2_with fail
  go_at_call 90
  refine HC.out.mono ?_
  rintro e w1 ⟨v1, s1, rfl, a1, b1, I1, k1, g1⟩
  clear HC
  have K1 := Aid.hid k1
  have G1 := Aid.hid g1
  have Z1 : Hid (w.heap.size + 1 ≤ w1.heap.size) := Aid.hid (Nat.le_trans Z0.out k1.size)
  have N1 := Aid.hid a1
  have HC := Aid.hid (nums_is p s1 w1 I1)
  clear I1 k1 g1 a1 b1
  go_wp2_with fail
  go_at_call 85
  refine HC.out.mono ?_
  rintro e w2 ⟨A2, c2, v2, s2, rfl, a2, d2, b2, I2, k2, g2⟩
  clear HC
  have K2 := Aid.hid k2
  have G2 := Aid.hid g2
  have Z2 : Hid (w.heap.size + 1 ≤ w2.heap.size) := Aid.hid (Nat.le_trans Z1.out k2.size)
  have N2 := Aid.hid a2
  have D2 := Aid.hid d2
  have P2 := Aid.hid b2
  have HI := Aid.hid I2
  clear I2 k2 g2 a2 b2 d2
  have KA : Hid (Keep p w w2) := Aid.hid (((K0.out.trans K1.out).trans K2.out))
  have HBm : w2.heap[w.heap.size]? = some (.cells #[.int .i64 0, .slice none 0 0] 57 (0, 0)) := by
    exact ((K1.out.trans K2.out)).has (by omega) HB.out
  go_wp2_with (refine wpList_store_row rfl 57 _ _ rfl w.heap.size #[.int .i64 v1, .slice A2 v2.length c2] rfl rfl 57 #[.int .i64 0, .slice none 0 0] HBm (by kernel_rfl) rfl (by simp [Value.oneCell']) ?_)
  have HR : Aid.Has (w2.setRow w.heap.size #[.int .i64 v1, .slice A2 v2.length c2]) w.heap.size [.int .i64 v1, .slice A2 v2.length c2] 57 := row_has (ys := [.int .i64 v1, .slice A2 v2.length c2]) HBm
  refine bodyPost_ret (v := .agg #[.int .i64 v1, .slice A2 v2.length c2]) (results_cell_row rfl _ _ w.heap.size 57 #[.int .i64 v1, .slice A2 v2.length c2] (0, 0) _ rfl HR Tryz.underlying57 rfl (by kernel_rfl)) rfl ?_
  exact ⟨⟨v1, A2, v2, c2⟩, s2, rfl, N2.out, (P2.out.kc (kc_got (Keep.refl p w2) hpw Z1.out _) (by rw [row_size]; exact (Keep.refl p w2).size)), Eld.keepRow HI.out (by omega) _, KA.out.row (Nat.le_refl _) _, Got.of (((G1.out.map (fun v : Tab => v.face)).seq (G2.out.map (fun v : Tab => v.l)))) (fun v => rfl) (fun v h => by simpa [Tab.eqb, Int.eqb] using h)⟩
theorem infoR_tab : (Tryz.prog.info? 57).map (fun i => (i.zero, i.size, i.bytes)) = some (some (.agg #[.int .i64 0, .slice none 0 0]), 2, 32) := by kernel_rfl
set_option maxRecDepth 100000 in
set_option maxHeartbeats 2000000 in
theorem all_tab (p : Nat) (s : St) (w : World) (h : Rd.Is w 92 p s) :
    Calls Tryz.prog 105 #[.pointer (some ⟨p, 0, none⟩), .func (.func 106) #[.pointer (some ⟨p, 0, none⟩)] #[]] w fun e w' => Alld Pc.tab Tab.eqb (fun x => x.l.length ≤ 10000) LTabs 92 p s w e w' := by
  obtain ⟨i0, hi, hz0, hz1, hz2⟩ := info_parts infoR_tab
  have HC := Aid.hid (many_is p s w h)
  have hpw := h.lt
  clear h
  go_enter Tryz.func105, Tryz.ntmps105
  try simp only [List.append_eq, List.cons_append, List.nil_append]
  go_wp2_with fail
  go_at_call 78
  refine HC.out.mono ?_
  rintro e w1 ⟨n, s1, rfl, hn, h2, h3, h4⟩
  have I0 := Aid.hid (show ListInv Pc.tab Tab.eqb (fun x => x.l.length ≤ 10000) Tab.At (fun v => [.int .i64 v.face, .slice v.A v.l.length v.c]) 57 2 92 p s w n 0 none 0 [] w1 from ListInv.start h2 h3 h4)
  clear h2 h3 h4 HC
  go_wp2_with fail
  go_loopw [5, 9] (fun vl vi wr => ∃ (k : Nat) (A : Option Addr) (c : Nat) (l : List Tab), vi = .int .i64 k ∧ k ≤ n ∧ vl = .slice A l.length c ∧ Hid (ListInv Pc.tab Tab.eqb (fun x => x.l.length ≤ 10000) Tab.At (fun v => [.int .i64 v.face, .slice v.A v.l.length v.c]) 57 2 92 p s w n k A c l wr)) (fun _ vi _ => n - (intOf vi).toNat)
  case atStart => exact ⟨0, none, 0, [], rfl, Nat.zero_le _, rfl, I0⟩
  case round =>
    clear I0
    obtain ⟨k, A, c, l, rfl, hk, rfl, I⟩ := hrel
    by_cases hlt : k < n
    · obtain ⟨hl, HO, HE, HK, sk, hI, HT⟩ := I.out
      have HC := Aid.hid (tab_el p sk wr hI)
      have HLL := Aid.hid hl
      have hO := Aid.hid HO; have hE := Aid.hid HE; have hK := Aid.hid HK; have hT := Aid.hid HT
      clear I hI hl HO HE HK HT
      go_wp2_with fail
      go_at_call 106
      refine HC.out.mono ?_
      rintro e w2 ⟨v, s', rfl, g1, g2, g3, g4, g5⟩
      clear HC
      have G1 := Aid.hid g1; have G2 := Aid.hid g2; have G3 := Aid.hid g3; have G4 := Aid.hid g4; have G5 := Aid.hid g5
      have hp2 := g3.lt
      obtain ⟨B, d, q1, q2, q3, q4⟩ := g3
      have p1 := q1.cell 1 _ rfl
      clear g1 g2 g4 g5 q1 q2 q3 q4
      cases hx : s'.x
      · rw [hx] at p1
        clear hx
        have k2 : Below w2.heap.size w2 (w2.alloc (.cells #[.int .i64 v.face, .slice v.A v.l.length v.c] 57)) := (Below.refl _ w2).alloc (Nat.le_refl _) _
        have k3 : Below w2.heap.size w2 ((w2.alloc (.cells #[.int .i64 v.face, .slice v.A v.l.length v.c] 57)).alloc (.cells #[.int .i64 v.face, .slice v.A v.l.length v.c] 57)) := k2.alloc (by simp) _
        have ho3 : ((w2.alloc (.cells #[.int .i64 v.face, .slice v.A v.l.length v.c] 57)).alloc (.cells #[.int .i64 v.face, .slice v.A v.l.length v.c] 57)).ownsRow w.heap.size 57 2 (.slice A l.length c) l.length ((l.map (fun v => [.int .i64 v.face, .slice v.A v.l.length v.c])).flatten) := by
          have h1 := G4.out.own hpw hO.out
          exact own_keeps h1 k3
        have hnew := Aid.Has.new (w2.alloc (.cells #[.int .i64 v.face, .slice v.A v.l.length v.c] 57)) [.int .i64 v.face, .slice v.A v.l.length v.c] 57
        have hr : Reads ((w2.alloc (.cells #[.int .i64 v.face, .slice v.A v.l.length v.c] 57)).alloc (.cells #[.int .i64 v.face, .slice v.A v.l.length v.c] 57)) ((w2.alloc (.cells #[.int .i64 v.face, .slice v.A v.l.length v.c] 57)).alloc (.cells #[.int .i64 v.face, .slice v.A v.l.length v.c] 57)).heap.size 2 (some ⟨(w2.heap.size + 1), 0, none⟩) 1 [.int .i64 v.face, .slice v.A v.l.length v.c] := ⟨by simp, fun _ => ⟨⟨(w2.heap.size + 1), 0, none⟩, rfl, by simp [World.size_alloc], fun j u hj => by
          rw [Go.WideShapes.add_plain, Nat.zero_add]
          rw [World.size_alloc] at hnew
          exact hnew.cell j u hj⟩⟩
        have hbs : w.heap.size ≤ ((w2.alloc (.cells #[.int .i64 v.face, .slice v.A v.l.length v.c] 57)).alloc (.cells #[.int .i64 v.face, .slice v.A v.l.length v.c] 57)).heap.size := Nat.le_trans hK.out.size (Nat.le_trans G4.out.size k3.size)
        have hll : l.length ≤ 10000 := by have := HLL.out; omega
        have K3 := Aid.hid k3
        clear k2 k3 hnew
        go_wp2_with (at_builtin; refine wpList_append_any _ rfl _ _ 53 rfl w.heap.size 57 i0 (.agg #[.int .i64 0, .slice none 0 0]) 2 32 Tryz.underlying53 hi hz0 hz1 hz2 rfl (by decide) _ _ _ rfl ho3 _ (some ⟨(w2.heap.size + 1), 0, none⟩) 1 1 [.int .i64 v.face, .slice v.A v.l.length v.c] rfl hr ?d1 ?d2 ?d3 hbs ?_)
        case d1 => intro u hu; simp at hu; rcases hu with rfl | rfl <;> rfl
        case d2 => unfold maxLen; omega
        case d3 => omega
        intro v9 w9 ho9 hg9 hob
        obtain ⟨A2, c2, rfl, J⟩ := ListInv.next (S := (fun x => x.l.length ≤ 10000)) (At := Tab.At) (cells := (fun v => [.int .i64 v.face, .slice v.A v.l.length v.c])) (v := v) (Tab.At.kc) HLL.out hO.out hE.out hK.out hT.out hpw hlt G1.out G2.out G3.out G4.out G5.out K3.out ho9 hg9 (by simpa only [World.size_alloc] using hob)
        have HJ := Aid.hid J
        have LQ : (l ++ [v]).length = l.length + 1 := by simp
        clear J ho9 hg9 hob ho3 hr hbs hO hE hK hT G1 G2 G3 G4 G5 K3 HLL p1
        go_wp2_with fail
        go_roundw
        case rel => exact ⟨k + 1, A2, c2, l ++ [v], by go_num, by omega, by rw [LQ], HJ⟩
        case measure => simp [intOf]; omega
      · rw [hx] at p1
        have FIN : Hid (∀ w', Below w2.heap.size w2 w' → Alld Pc.tab Tab.eqb (fun x => x.l.length ≤ 10000) LTabs 92 p s w (.returned (.slice none 0 0)) w') := Aid.hid fun w' hb => ⟨none, 0, [], s', rfl, Nat.zero_le _, by simp, ⟨Nat.zero_le _, Rows.nil_ _ _ _ _, by simp⟩, G3.out.low (hb.mono (by omega)), ((hK.out.trans G4.out).trans (Keep.of_below hb)), hT.out.no hlt G5.out hx⟩
        have FB : Hid (∀ o : Obj, Below w2.heap.size w2 (w2.alloc o)) := Aid.hid fun o => (Below.refl _ w2).alloc (Nat.le_refl _) o
        have FR := Aid.hid (Below.refl w2.heap.size w2)
        clear hx
        go_wp2_with fail
        go_ret
        exact FIN.out _ (FB.out _)
    · obtain ⟨hl, HO, HE, HK, sk, hI, HT⟩ := I.out
      have hrow := fresh_rows (sz := 2) (rows := l.map (fun v => [.int .i64 v.face, .slice v.A v.l.length v.c])) (by intro r hr; obtain ⟨x, _, rfl⟩ := List.mem_map.1 hr; rfl) (by rw [List.length_map]; exact HO)
      have FIN : Hid (Alld Pc.tab Tab.eqb (fun x => x.l.length ≤ 10000) LTabs 92 p s w (.returned (.slice A l.length c)) wr) := Aid.hid ⟨A, c, l, sk, rfl, by omega, fun x hx => (HE x hx).1, ⟨by show _ ≤ 9223372036854775807; omega, hrow, fun x hx => Tab.At.kc (HE x hx).2 Kc.row_out (Nat.le_refl _)⟩, hI, HK, HT.done (by omega)⟩
      clear hl HO HE HK hI HT hrow I
      go_wp2_with fail
      go_ret
      exact FIN.out
set_option maxRecDepth 100000 in
set_option maxHeartbeats 2000000 in
theorem op_el (p : Nat) (s : St) (w : World) (h : Rd.Is w 92 p s) :
    Calls Tryz.prog 109 #[.pointer (some ⟨p, 0, none⟩)] w fun e w' => Eld Pc.op Opr.eqb (fun _ => True) (fun _ _ _ => True) (fun v => .agg #[.int .i64 v.k, .int .i64 v.a, .int .i64 v.b]) 92 p s w e w' := by
  have hpw := h.lt
  have i0 : Rd.Is (w.alloc (.cells #[.int .i64 0, .int .i64 0, .int .i64 0] 118)) 92 p s := h.low ((Below.refl _ w).alloc (by omega) _)
  have K0 : Hid (Keep p w (w.alloc (.cells #[.int .i64 0, .int .i64 0, .int .i64 0] 118))) := Aid.hid (Keep.of_below ((Below.refl _ w).alloc (Nat.le_refl _) _))
  have HB := Aid.hid (Aid.Has.new w [.int .i64 0, .int .i64 0, .int .i64 0] 118)
  have Z0 : Hid (w.heap.size + 1 ≤ (w.alloc (.cells #[.int .i64 0, .int .i64 0, .int .i64 0] 118)).heap.size) := Aid.hid (by rw [World.size_alloc]; exact Nat.le_refl _)
  have hmf : ∀ (fn : Fn) (first cap : Array Value) (w : World), (Instr.makeFunc fn first cap).run Tryz.prog w = .ok (.func fn first cap) w := fun _ _ _ _ => rfl
  have HC := Aid.hid (num_el p s (w.alloc (.cells #[.int .i64 0, .int .i64 0, .int .i64 0] 118)) i0)
  clear h i0
  go_enter Tryz.func109, Tryz.ntmps109
  try simp only [List.append_eq, List.cons_append, List.nil_append]
  go_wp2_with fail
  go_at_call 90
  refine HC.out.mono ?_
  rintro e w1 ⟨v1, s1, rfl, a1, b1, I1, k1, g1⟩
  clear HC
  have K1 := Aid.hid k1
  have G1 := Aid.hid g1
  have Z1 : Hid (w.heap.size + 1 ≤ w1.heap.size) := Aid.hid (Nat.le_trans Z0.out k1.size)
  have N1 := Aid.hid a1
  have HC := Aid.hid (num_el p s1 w1 I1)
  clear I1 k1 g1 a1 b1
  go_wp2_with fail
  go_at_call 90
  refine HC.out.mono ?_
  rintro e w2 ⟨v2, s2, rfl, a2, b2, I2, k2, g2⟩
  clear HC
  have K2 := Aid.hid k2
  have G2 := Aid.hid g2
  have Z2 : Hid (w.heap.size + 1 ≤ w2.heap.size) := Aid.hid (Nat.le_trans Z1.out k2.size)
  have N2 := Aid.hid a2
  have HC := Aid.hid (num_el p s2 w2 I2)
  clear I2 k2 g2 a2 b2
  go_wp2_with fail
  go_at_call 90
  refine HC.out.mono ?_
  rintro e w3 ⟨v3, s3, rfl, a3, b3, I3, k3, g3⟩
  clear HC
  have K3 := Aid.hid k3
  have G3 := Aid.hid g3
  have Z3 : Hid (w.heap.size + 1 ≤ w3.heap.size) := Aid.hid (Nat.le_trans Z2.out k3.size)
  have N3 := Aid.hid a3
  have HI := Aid.hid I3
  clear I3 k3 g3 a3 b3
  have KA : Hid (Keep p w w3) := Aid.hid ((((K0.out.trans K1.out).trans K2.out).trans K3.out))
  have HBm : w3.heap[w.heap.size]? = some (.cells #[.int .i64 0, .int .i64 0, .int .i64 0] 118 (0, 0)) := by
    exact (((K1.out.trans K2.out).trans K3.out)).has (by omega) HB.out
  go_wp2_with (refine wpList_store_row rfl 118 _ _ rfl w.heap.size #[.int .i64 v1, .int .i64 v2, .int .i64 v3] rfl rfl 118 #[.int .i64 0, .int .i64 0, .int .i64 0] HBm (by kernel_rfl) rfl (by simp [Value.oneCell']) ?_)
  have HR : Aid.Has (w3.setRow w.heap.size #[.int .i64 v1, .int .i64 v2, .int .i64 v3]) w.heap.size [.int .i64 v1, .int .i64 v2, .int .i64 v3] 118 := row_has (ys := [.int .i64 v1, .int .i64 v2, .int .i64 v3]) HBm
  refine bodyPost_ret (v := .agg #[.int .i64 v1, .int .i64 v2, .int .i64 v3]) (results_cell_row rfl _ _ w.heap.size 118 #[.int .i64 v1, .int .i64 v2, .int .i64 v3] (0, 0) _ rfl HR Tryz.underlying118 rfl (by kernel_rfl)) rfl ?_
  exact ⟨⟨v1, v2, v3⟩, s3, rfl, trivial, trivial, Eld.keepRow HI.out (by omega) _, KA.out.row (Nat.le_refl _) _, Got.of ((((G1.out.map (fun v : Opr => v.k)).seq (G2.out.map (fun v : Opr => v.a))).seq (G3.out.map (fun v : Opr => v.b)))) (fun v => by rw [Pc.op_eq, Pc.assoc]) (fun v h => by simpa [Opr.eqb, Int.eqb] using h)⟩
set_option maxRecDepth 100000 in
set_option maxHeartbeats 2000000 in
theorem lnk_el (p : Nat) (s : St) (w : World) (h : Rd.Is w 92 p s) :
    Calls Tryz.prog 87 #[.pointer (some ⟨p, 0, none⟩)] w fun e w' => Eld Pc.lnk Lnk.eqb (fun _ => True) (fun _ _ _ => True) (fun v => .agg #[.int .i64 v.glob, .int .i64 v.slot, .bool v.bool]) 92 p s w e w' := by
  have hpw := h.lt
  have i0 : Rd.Is (w.alloc (.cells #[.int .i64 0, .int .i64 0, .bool false] 85)) 92 p s := h.low ((Below.refl _ w).alloc (by omega) _)
  have K0 : Hid (Keep p w (w.alloc (.cells #[.int .i64 0, .int .i64 0, .bool false] 85))) := Aid.hid (Keep.of_below ((Below.refl _ w).alloc (Nat.le_refl _) _))
  have HB := Aid.hid (Aid.Has.new w [.int .i64 0, .int .i64 0, .bool false] 85)
  have Z0 : Hid (w.heap.size + 1 ≤ (w.alloc (.cells #[.int .i64 0, .int .i64 0, .bool false] 85)).heap.size) := Aid.hid (by rw [World.size_alloc]; exact Nat.le_refl _)
  have hmf : ∀ (fn : Fn) (first cap : Array Value) (w : World), (Instr.makeFunc fn first cap).run Tryz.prog w = .ok (.func fn first cap) w := fun _ _ _ _ => rfl
  have HC := Aid.hid (num_el p s (w.alloc (.cells #[.int .i64 0, .int .i64 0, .bool false] 85)) i0)
  clear h i0
  go_enter Tryz.func87, Tryz.ntmps87
  try simp only [List.append_eq, List.cons_append, List.nil_append]
  go_wp2_with fail
  go_at_call 90
  refine HC.out.mono ?_
  rintro e w1 ⟨v1, s1, rfl, a1, b1, I1, k1, g1⟩
  clear HC
  have K1 := Aid.hid k1
  have G1 := Aid.hid g1
  have Z1 : Hid (w.heap.size + 1 ≤ w1.heap.size) := Aid.hid (Nat.le_trans Z0.out k1.size)
  have N1 := Aid.hid a1
  have HC := Aid.hid (num_el p s1 w1 I1)
  clear I1 k1 g1 a1 b1
  go_wp2_with fail
  go_at_call 90
  refine HC.out.mono ?_
  rintro e w2 ⟨v2, s2, rfl, a2, b2, I2, k2, g2⟩
  clear HC
  have K2 := Aid.hid k2
  have G2 := Aid.hid g2
  have Z2 : Hid (w.heap.size + 1 ≤ w2.heap.size) := Aid.hid (Nat.le_trans Z1.out k2.size)
  have N2 := Aid.hid a2
  have HC := Aid.hid (yes_is p s2 w2 I2)
  clear I2 k2 g2 a2 b2
  go_wp2_with fail
  go_at_call 107
  refine HC.out.mono ?_
  rintro e w3 ⟨v3, s3, rfl, I3, k3, g3⟩
  clear HC
  have K3 := Aid.hid k3
  have G3 := Aid.hid g3
  have Z3 : Hid (w.heap.size + 1 ≤ w3.heap.size) := Aid.hid (Nat.le_trans Z2.out k3.size)
  have HI := Aid.hid I3
  clear I3 k3 g3
  have KA : Hid (Keep p w w3) := Aid.hid ((((K0.out.trans K1.out).trans K2.out).trans K3.out))
  have HBm : w3.heap[w.heap.size]? = some (.cells #[.int .i64 0, .int .i64 0, .bool false] 85 (0, 0)) := by
    exact (((K1.out.trans K2.out).trans K3.out)).has (by omega) HB.out
  go_wp2_with (refine wpList_store_row rfl 85 _ _ rfl w.heap.size #[.int .i64 v1, .int .i64 v2, .bool v3] rfl rfl 85 #[.int .i64 0, .int .i64 0, .bool false] HBm (by kernel_rfl) rfl (by simp [Value.oneCell']) ?_)
  have HR : Aid.Has (w3.setRow w.heap.size #[.int .i64 v1, .int .i64 v2, .bool v3]) w.heap.size [.int .i64 v1, .int .i64 v2, .bool v3] 85 := row_has (ys := [.int .i64 v1, .int .i64 v2, .bool v3]) HBm
  refine bodyPost_ret (v := .agg #[.int .i64 v1, .int .i64 v2, .bool v3]) (results_cell_row rfl _ _ w.heap.size 85 #[.int .i64 v1, .int .i64 v2, .bool v3] (0, 0) _ rfl HR Tryz.underlying85 rfl (by kernel_rfl)) rfl ?_
  exact ⟨⟨v1, v2, v3⟩, s3, rfl, trivial, trivial, Eld.keepRow HI.out (by omega) _, KA.out.row (Nat.le_refl _) _, Got.of ((((G1.out.map (fun v : Lnk => v.glob)).seq (G2.out.map (fun v : Lnk => v.slot))).seq (G3.out.map (fun v : Lnk => v.bool)))) (fun v => by rw [Pc.lnk_eq, Pc.assoc]) (fun v h => by simpa [Lnk.eqb, Int.eqb] using h)⟩
set_option maxRecDepth 100000 in
set_option maxHeartbeats 2000000 in
theorem job_el (p : Nat) (s : St) (w : World) (h : Rd.Is w 92 p s) :
    Calls Tryz.prog 89 #[.pointer (some ⟨p, 0, none⟩)] w fun e w' => Eld Pc.op Opr.eqb (fun _ => True) (fun _ _ _ => True) (fun v => .agg #[.int .i64 v.k, .int .i64 v.a, .int .i64 v.b]) 92 p s w e w' := by
  have hpw := h.lt
  have i0 : Rd.Is (w.alloc (.cells #[.int .i64 0, .int .i64 0, .int .i64 0] 77)) 92 p s := h.low ((Below.refl _ w).alloc (by omega) _)
  have K0 : Hid (Keep p w (w.alloc (.cells #[.int .i64 0, .int .i64 0, .int .i64 0] 77))) := Aid.hid (Keep.of_below ((Below.refl _ w).alloc (Nat.le_refl _) _))
  have HB := Aid.hid (Aid.Has.new w [.int .i64 0, .int .i64 0, .int .i64 0] 77)
  have Z0 : Hid (w.heap.size + 1 ≤ (w.alloc (.cells #[.int .i64 0, .int .i64 0, .int .i64 0] 77)).heap.size) := Aid.hid (by rw [World.size_alloc]; exact Nat.le_refl _)
  have hmf : ∀ (fn : Fn) (first cap : Array Value) (w : World), (Instr.makeFunc fn first cap).run Tryz.prog w = .ok (.func fn first cap) w := fun _ _ _ _ => rfl
  have HC := Aid.hid (num_el p s (w.alloc (.cells #[.int .i64 0, .int .i64 0, .int .i64 0] 77)) i0)
  clear h i0
  go_enter Tryz.func89, Tryz.ntmps89
  try simp only [List.append_eq, List.cons_append, List.nil_append]
  go_wp2_with fail
  go_at_call 90
  refine HC.out.mono ?_
  rintro e w1 ⟨v1, s1, rfl, a1, b1, I1, k1, g1⟩
  clear HC
  have K1 := Aid.hid k1
  have G1 := Aid.hid g1
  have Z1 : Hid (w.heap.size + 1 ≤ w1.heap.size) := Aid.hid (Nat.le_trans Z0.out k1.size)
  have N1 := Aid.hid a1
  have HC := Aid.hid (num_el p s1 w1 I1)
  clear I1 k1 g1 a1 b1
  go_wp2_with fail
  go_at_call 90
  refine HC.out.mono ?_
  rintro e w2 ⟨v2, s2, rfl, a2, b2, I2, k2, g2⟩
  clear HC
  have K2 := Aid.hid k2
  have G2 := Aid.hid g2
  have Z2 : Hid (w.heap.size + 1 ≤ w2.heap.size) := Aid.hid (Nat.le_trans Z1.out k2.size)
  have N2 := Aid.hid a2
  have HC := Aid.hid (num_el p s2 w2 I2)
  clear I2 k2 g2 a2 b2
  go_wp2_with fail
  go_at_call 90
  refine HC.out.mono ?_
  rintro e w3 ⟨v3, s3, rfl, a3, b3, I3, k3, g3⟩
  clear HC
  have K3 := Aid.hid k3
  have G3 := Aid.hid g3
  have Z3 : Hid (w.heap.size + 1 ≤ w3.heap.size) := Aid.hid (Nat.le_trans Z2.out k3.size)
  have N3 := Aid.hid a3
  have HI := Aid.hid I3
  clear I3 k3 g3 a3 b3
  have KA : Hid (Keep p w w3) := Aid.hid ((((K0.out.trans K1.out).trans K2.out).trans K3.out))
  have HBm : w3.heap[w.heap.size]? = some (.cells #[.int .i64 0, .int .i64 0, .int .i64 0] 77 (0, 0)) := by
    exact (((K1.out.trans K2.out).trans K3.out)).has (by omega) HB.out
  go_wp2_with (refine wpList_store_row rfl 77 _ _ rfl w.heap.size #[.int .i64 v1, .int .i64 v2, .int .i64 v3] rfl rfl 77 #[.int .i64 0, .int .i64 0, .int .i64 0] HBm (by kernel_rfl) rfl (by simp [Value.oneCell']) ?_)
  have HR : Aid.Has (w3.setRow w.heap.size #[.int .i64 v1, .int .i64 v2, .int .i64 v3]) w.heap.size [.int .i64 v1, .int .i64 v2, .int .i64 v3] 77 := row_has (ys := [.int .i64 v1, .int .i64 v2, .int .i64 v3]) HBm
  refine bodyPost_ret (v := .agg #[.int .i64 v1, .int .i64 v2, .int .i64 v3]) (results_cell_row rfl _ _ w.heap.size 77 #[.int .i64 v1, .int .i64 v2, .int .i64 v3] (0, 0) _ rfl HR Tryz.underlying77 rfl (by kernel_rfl)) rfl ?_
  exact ⟨⟨v1, v2, v3⟩, s3, rfl, trivial, trivial, Eld.keepRow HI.out (by omega) _, KA.out.row (Nat.le_refl _) _, Got.of ((((G1.out.map (fun v : Opr => v.k)).seq (G2.out.map (fun v : Opr => v.a))).seq (G3.out.map (fun v : Opr => v.b)))) (fun v => by rw [Pc.op_eq, Pc.assoc]) (fun v h => by simpa [Opr.eqb, Int.eqb] using h)⟩
end Go.Proofs.YtaogegeidbclaaaGreatDoor
