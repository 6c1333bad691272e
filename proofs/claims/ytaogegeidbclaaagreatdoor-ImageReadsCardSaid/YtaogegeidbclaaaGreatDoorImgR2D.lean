/- The document's reader: links. -/
import Derived.Test.YtaogegeidbclaaaGreatDoorImgR2C
namespace Go.Proofs.YtaogegeidbclaaaGreatDoor
open Go.RowKit

theorem Keep.setNew {p q : Nat} {a b : World} (h : Keep p a b) (hq : a.heap.size ≤ q) (j : Nat) (v : Value) : Keep p a (b.setCell ⟨q, j, none⟩ v) :=
  ⟨h.os, h.tape, h.output, by rw [Aid.size_setCell]; exact h.size, fun k hk hp => (Below.heap_setCell b ⟨q, j, none⟩ v k (by show k ≠ q; omega)).trans (h.block k hk hp)⟩
theorem Got.flag {v : Int} {s s' : St} (h : Got Pc.num (fun u => Int.eqb v u = true) s s') : Got Pc.flag (fun u => (v == 1) = u) s s' := fun u t h1 h2 h3 => by
  obtain ⟨q, r⟩ := h _ t h1 h2 h3
  have e := Int.eqb_eq q
  refine ⟨?_, r⟩
  subst e
  cases u <;> simp
set_option maxRecDepth 100000 in
set_option maxHeartbeats 2000000 in
theorem links2_is (p : Nat) (s : St) (w : World) (h : Rd2.Is w 97 p s) :
    Calls Tryz.prog 52 #[.pointer (some ⟨p, 0, none⟩)] w fun e w' => Alld2 Pc.lnk Lnk.eqb (fun _ => True) LLnks 97 p s w e w' := by
  obtain ⟨i0, hi, hz0, hz1, hz2⟩ := info_parts infoR_lnk
  have HC := Aid.hid (many2_is p s w h)
  have hpw := h.lt
  clear h
  go_enter Tryz.func52, Tryz.ntmps52
  try simp only [List.append_eq, List.cons_append, List.nil_append]
  go_wp2_with fail
  go_at_call 47
  refine HC.out.mono ?_
  rintro e w1 ⟨n, s1, rfl, hn, h2, h3, h4, _⟩
  have I0 := Aid.hid (show ListInv2 Pc.lnk Lnk.eqb (fun _ => True) (fun _ _ _ => True) (fun v => [.int .i64 v.glob, .int .i64 v.slot, .bool v.bool]) 85 3 97 p s w n 0 none 0 [] w1 from ListInv2.startM (fun u => by rw [Pc.lnk_len]; decide) h2 h3 h4)
  clear h2 h3 h4 HC
  go_wp2_with fail
  go_loopw [3, 5] (fun vl vi wr => ∃ (k : Nat) (A : Option Addr) (c : Nat) (l : List Lnk), vi = .int .i64 k ∧ k ≤ n ∧ vl = .slice A l.length c ∧ Hid (ListInv2 Pc.lnk Lnk.eqb (fun _ => True) (fun _ _ _ => True) (fun v => [.int .i64 v.glob, .int .i64 v.slot, .bool v.bool]) 85 3 97 p s w n k A c l wr)) (fun _ vi _ => n - (intOf vi).toNat)
  case atStart => exact ⟨0, none, 0, [], rfl, Nat.zero_le _, rfl, I0⟩
  case round =>
    clear I0
    obtain ⟨k, A, c, l, rfl, hk, rfl, I⟩ := hrel
    obtain ⟨hl, HO, HE, HK, sk, hI, HT⟩ := I.out
    have hrow := fresh_rows (sz := 3) (rows := l.map (fun v => [.int .i64 v.glob, .int .i64 v.slot, .bool v.bool])) (by intro r hr; obtain ⟨x, _, rfl⟩ := List.mem_map.1 hr; rfl) (by rw [List.length_map]; exact HO)
    have FIN : Hid (Got (fun us => Pc.list Pc.lnk us) (fun us => eqAll Lnk.eqb l us = true) s sk → Alld2 Pc.lnk Lnk.eqb (fun _ => True) LLnks 97 p s w (.returned (.slice A l.length c)) wr) := Aid.hid fun hG => ⟨A, c, l, sk, rfl, by omega, fun x hx => (HE x hx).1, ⟨by show _ ≤ 9223372036854775807; omega, hrow⟩, hI, HK, hG⟩
    clear hrow
    by_cases hlt : k < n
    · cases hx : sk.x
      · have HLL := Aid.hid hl
        have hO := Aid.hid HO; have hE := Aid.hid HE; have hK := Aid.hid HK; have hT := Aid.hid HT
        have hpr := hI.lt
        have HC := Aid.hid (num2_el p sk wr hI)
        have ZB := Aid.hid (⟨hI.lt, Nat.le_refl wr.heap.size⟩ : p < wr.heap.size ∧ _)
        obtain ⟨B0, d0, bs0, a0, q0, _⟩ := hI
        have z2 := q0.cell 2 _ rfl
        rw [hx] at z2
        clear q0 hx I hl HO HE HK HT FIN
        go_wp2_with fail
        go_at_call 53
        refine HC.out.mono ?_
        rintro e w1e ⟨v1, s1e, rfl, _, _, i1, k1, g1⟩
        clear HC z2
        obtain ⟨wa, hwa⟩ : ∃ wa, w1e.alloc (.cells #[.int .i64 v1, .int .i64 0, .bool false] 85) = wa := ⟨_, rfl⟩
        have ka : Below w1e.heap.size w1e wa := by subst hwa; exact (Below.refl _ _).alloc (Nat.le_refl _) _
        have ba : Aid.Has wa w1e.heap.size [.int .i64 v1, .int .i64 0, .bool false] 85 := by subst hwa; exact Aid.Has.new w1e [.int .i64 v1, .int .i64 0, .bool false] 85
        have KA := Aid.hid (k1.trans (Keep.of_below ka))
        have G1 := Aid.hid g1
        have BA := Aid.hid ba
        have IA := Aid.hid (i1.low (ka.mono (by have := i1.lt; omega)))
        have QW : Hid (wr.heap.size ≤ w1e.heap.size ∧ p < w1e.heap.size) := Aid.hid ⟨k1.size, i1.lt⟩
        have SA : Hid (w1e.heap.size + 1 ≤ wa.heap.size) := Aid.hid (by subst hwa; rw [World.size_alloc]; exact Nat.le_refl _)
        have HC := Aid.hid (num2_el p s1e wa IA.out)
        clear i1 k1 g1 ka ba
        subst hwa
        go_wp2_with fail
        go_at_call 53
        refine HC.out.mono ?_
        rintro e w2e ⟨v2, s2e, rfl, _, _, i2, k2, g2⟩
        clear HC
        have bb := k2.has (by have := QW.out; omega : w1e.heap.size ≠ p) BA.out
        have cb1 := bb.cell 1 _ rfl
        have fb1 := bb.frozen 1
        have BB1 : Hid (Aid.Has (w2e.setCell ⟨w1e.heap.size, 1, none⟩ (.int .i64 v2)) w1e.heap.size [.int .i64 v1, .int .i64 v2, .bool false] 85) := Aid.hid (bb.set 1 _)
        replace KA := Aid.hid (Keep.setNew (q := w1e.heap.size) (KA.out.trans k2) (by have := QW.out; omega) 1 (.int .i64 v2))
        replace IA := Aid.hid (i2.low ((Below.refl (p + 1) w2e).setCell (p := ⟨w1e.heap.size, 1, none⟩) (show p + 1 ≤ w1e.heap.size by have := QW.out; omega) (.int .i64 v2)))
        have G2 := Aid.hid g2
        clear bb i2 k2 g2
        have HC := Aid.hid (num2_el p s2e (w2e.setCell ⟨w1e.heap.size, 1, none⟩ (.int .i64 v2)) IA.out)
        go_wp2_with fail
        go_at_call 53
        refine HC.out.mono ?_
        rintro e w3e ⟨v3, s3e, rfl, _, _, i3, k3, g3⟩
        clear HC
        have bb := k3.has (by have := QW.out; omega : w1e.heap.size ≠ p) BB1.out
        have cb2 := bb.cell 2 _ rfl
        have fb2 := bb.frozen 2
        have BB2 : Hid (Aid.Has (w3e.setCell ⟨w1e.heap.size, 2, none⟩ (.bool (v3 == 1))) w1e.heap.size [.int .i64 v1, .int .i64 v2, .bool (v3 == 1)] 85) := Aid.hid (bb.set 2 _)
        replace KA := Aid.hid (Keep.setNew (q := w1e.heap.size) (KA.out.trans k3) (by have := QW.out; omega) 2 (.bool (v3 == 1)))
        replace IA := Aid.hid (i3.low ((Below.refl (p + 1) w3e).setCell (p := ⟨w1e.heap.size, 2, none⟩) (show p + 1 ≤ w1e.heap.size by have := QW.out; omega) (.bool (v3 == 1))))
        have G3 := Aid.hid g3
        clear bb i3 k3 g3
        have k3 : Below (w3e.setCell ⟨w1e.heap.size, 2, none⟩ (.bool (v3 == 1))).heap.size (w3e.setCell ⟨w1e.heap.size, 2, none⟩ (.bool (v3 == 1))) ((w3e.setCell ⟨w1e.heap.size, 2, none⟩ (.bool (v3 == 1))).alloc (.cells #[.int .i64 v1, .int .i64 v2, .bool (v3 == 1)] 85)) := (Below.refl _ _).alloc (Nat.le_refl _) _
        have ho3 : ((w3e.setCell ⟨w1e.heap.size, 2, none⟩ (.bool (v3 == 1))).alloc (.cells #[.int .i64 v1, .int .i64 v2, .bool (v3 == 1)] 85)).ownsRow w.heap.size 85 3 (.slice A l.length c) l.length ((l.map (fun v => [.int .i64 v.glob, .int .i64 v.slot, .bool v.bool])).flatten) := own_keeps (KA.out.own hpw hO.out) k3
        have hnew := Aid.Has.new (w3e.setCell ⟨w1e.heap.size, 2, none⟩ (.bool (v3 == 1))) [.int .i64 v1, .int .i64 v2, .bool (v3 == 1)] 85
        have hws : (w3e.setCell ⟨w1e.heap.size, 2, none⟩ (.bool (v3 == 1))).heap.size = w3e.heap.size := Aid.size_setCell _ _ _
        have hr : Reads ((w3e.setCell ⟨w1e.heap.size, 2, none⟩ (.bool (v3 == 1))).alloc (.cells #[.int .i64 v1, .int .i64 v2, .bool (v3 == 1)] 85)) ((w3e.setCell ⟨w1e.heap.size, 2, none⟩ (.bool (v3 == 1))).alloc (.cells #[.int .i64 v1, .int .i64 v2, .bool (v3 == 1)] 85)).heap.size 3 (some ⟨w3e.heap.size, 0, none⟩) 1 [.int .i64 v1, .int .i64 v2, .bool (v3 == 1)] := ⟨by simp, fun _ => ⟨⟨w3e.heap.size, 0, none⟩, rfl, by rw [World.size_alloc, hws]; exact Nat.lt_succ_self _, fun j u hj => by
          rw [Go.WideShapes.add_plain, Nat.zero_add, ← hws]
          exact hnew.cell j u hj⟩⟩
        have hbs : w.heap.size ≤ ((w3e.setCell ⟨w1e.heap.size, 2, none⟩ (.bool (v3 == 1))).alloc (.cells #[.int .i64 v1, .int .i64 v2, .bool (v3 == 1)] 85)).heap.size := Nat.le_trans hK.out.size (Nat.le_trans KA.out.size k3.size)
        have hll : l.length ≤ 10000 := by have := HLL.out; omega
        have bx := BB2.out
        have e0 := bx.cell 0 _ rfl
        have e1 := bx.cell 1 _ rfl
        have e2 := bx.cell 2 _ rfl
        have GG : Hid (Got Pc.lnk (fun u => Lnk.eqb (⟨v1, v2, (v3 == 1)⟩ : Lnk) u = true) sk s3e) := Aid.hid (Got.of (((G1.out.map (fun v : Lnk => v.glob)).seq (G2.out.map (fun v : Lnk => v.slot))).seq (G3.out.flag.map (fun v : Lnk => v.bool))) (fun v => by rw [Pc.lnk_eq, Pc.assoc]) (fun v h => by simpa [Lnk.eqb, Int.eqb] using h))
        have K3 := Aid.hid k3
        have HWS := Aid.hid hws
        clear k3 hnew bx hws
        go_wp2_with (at_builtin; refine wpList_append_any _ rfl _ _ 26 rfl w.heap.size 85 i0 (.agg #[.int .i64 0, .int .i64 0, .bool false]) 3 24 Tryz.underlying26 hi hz0 hz1 hz2 rfl (by decide) _ _ _ rfl ho3 _ (some ⟨w3e.heap.size, 0, none⟩) 1 1 [.int .i64 v1, .int .i64 v2, .bool (v3 == 1)] rfl hr ?d1 ?d2 ?d3 hbs ?_)
        case d1 => intro u hu; simp at hu; rcases hu with rfl | rfl | rfl <;> rfl
        case d2 => unfold maxLen; omega
        case d3 => omega
        intro v9 w9 ho9 hg9 hob
        obtain ⟨A2, c2, rfl, J⟩ := ListInv2.next (S := (fun _ => True)) (At := (fun _ _ _ => True)) (cells := (fun v => [.int .i64 v.glob, .int .i64 v.slot, .bool v.bool])) (v := (⟨v1, v2, (v3 == 1)⟩ : Lnk)) (fun _ _ _ => trivial) HLL.out hO.out hE.out hK.out hT.out hpw hlt trivial trivial IA.out KA.out GG.out K3.out ho9 hg9 (by simpa only [World.size_alloc, HWS.out] using hob)
        have HJ := Aid.hid J
        have LQ : (l ++ [(⟨v1, v2, (v3 == 1)⟩ : Lnk)]).length = l.length + 1 := by simp
        clear J ho9 hg9 hob ho3 hr hbs hO hE hK hT G1 G2 G3 GG KA IA K3 HLL e0 e1 e2 cb1 cb2 fb1 fb2
        go_wp2_with fail
        go_roundw
        case rel => exact ⟨k + 1, A2, c2, l ++ [(⟨v1, v2, (v3 == 1)⟩ : Lnk)], by go_num, by omega, by rw [LQ], HJ⟩
        case measure => simp [intOf]; omega
      · have FE := Aid.hid (FIN.out (HT.ended hx))
        obtain ⟨B0, d0, bs0, a0, q0, _⟩ := hI
        have z2 := q0.cell 2 _ rfl
        rw [hx] at z2
        clear I hl HO HE HK HT q0 FIN hx
        go_wp2_with fail
        go_ret
        exact FE.out
    · have FE := Aid.hid (FIN.out (HT.done (by omega)))
      clear I hl HO HE HK HT hI FIN
      go_wp2_with fail
      go_ret
      exact FE.out
end Go.Proofs.YtaogegeidbclaaaGreatDoor
