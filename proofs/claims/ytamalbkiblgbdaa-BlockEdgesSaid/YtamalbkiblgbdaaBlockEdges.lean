/- The law BlockEdges, walked. -/
import Derived.Test.YtamalbkiblgbdaaBlockAwake
import Derived.Test.YtamalbkiblgbdaaBlockC
import Derived.Test.YtamalbkiblgbdaaOrd
import Derived.Deep.Cut
namespace Go.Proofs.Ytamalbkiblgbdaa
open Go.RowKit

theorem fiveE {w : World} {b : Nat} {v0 v1 v2 v3 v4 : Value} {t : TypeId} (h : Aid.Has w b [v0, v1, v2, v3, v4] t) :
    w.cell? ⟨b, 0, none⟩ = some v0 ∧ w.cell? ⟨b, 1, none⟩ = some v1 ∧ w.cell? ⟨b, 2, none⟩ = some v2 ∧ w.cell? ⟨b, 3, none⟩ = some v3 ∧ w.cell? ⟨b, 4, none⟩ = some v4 ∧ (∀ j, w.frozen? ⟨b, j, none⟩ = false) :=
  ⟨h.cell 0 _ rfl, h.cell 1 _ rfl, h.cell 2 _ rfl, h.cell 3 _ rfl, h.cell 4 _ rfl, h.frozen⟩

set_option maxRecDepth 100000 in
set_option maxHeartbeats 4000000 in
theorem edges_slice (pv : Int) (a : Option Addr) (b off len cap : Nat) (zs : Nat → Bool) (w : World) (hlen : len ≤ 60) (ha : 0 < len → a = some ⟨b, off, none⟩) (hbb : 0 < len → b < w.heap.size)
    (hz : ∀ i, i < len → w.cell? ⟨b, off + i, none⟩ = some (.bool (zs i))) :
    Calls Try.prog 4 #[.slice a len cap, .int .i64 pv] w fun e w' => e = .returned (.bool true) ∧ Below w.heap.size w w' := by
  obtain ⟨p, hp⟩ : ∃ p, low pv 40 = p := ⟨_, rfl⟩
  have p0 : 0 ≤ p := hp ▸ (low_in pv 40 (by decide)).1
  have p1 : p < 40 := hp ▸ (low_in pv 40 (by decide)).2
  have F1 := Aid.hid hp; clear hp
  have P : Hid (Bk.clip p 32767 = p) := Aid.hid (by unfold Bk.clip; omega)
  have Z := Aid.hid hz; clear hz
  have HA := Aid.hid ha; clear ha
  go_enter Try.func4, Try.ntmps4
  try simp only [List.append_eq, List.cons_append, List.nil_append]
  go_wp2_with fail
  refine (low_is _ _ p F1.out (by decide) (by decide) _).mono ?_; rintro e w' ⟨rfl, rfl⟩
  go_wp2_with fail
  refine (new_any _ _).mono ?_; rintro e w1 ⟨rfl, hb1⟩
  unfold Bk.v
  have B1 := hb1; clear hb1
  have L1 := B1.size
  go_wp2_with fail
  refine (new_any _ _).mono ?_; rintro e w2 ⟨rfl, hb2⟩
  unfold Bk.v
  have B2 := B1.trans (hb2.mono L1); clear hb2 B1 L1
  have L2 := B2.size
  go_wp2_with fail
  refine (new_any _ _).mono ?_; rintro e w3 ⟨rfl, hb3⟩
  unfold Bk.v
  have B3 := B2.trans (hb3.mono L2); clear hb3 B2 L2
  have L3 := B3.size
  go_wp2_with fail
  refine (new_any _ _).mono ?_; rintro e w4 ⟨rfl, hb4⟩
  unfold Bk.v
  have B4 := B3.trans (hb4.mono L3); clear hb4 B3 L3
  have L4 := B4.size
  go_wp2_with fail
  have s1 : (World.alloc w4 (.cells #[.int .i64 4, .bool false, .bool false, .bool false, .int .i64 0] 26)).heap.size = w4.heap.size + 1 := by simp
  have s2 : (World.alloc (World.alloc w4 (.cells #[.int .i64 4, .bool false, .bool false, .bool false, .int .i64 0] 26)) (.cells #[.int .i64 5, .bool false, .bool false, .bool false, .int .i64 0] 26)).heap.size = w4.heap.size + 1 + 1 := by simp
  have s3 : (World.alloc (World.alloc (World.alloc w4 (.cells #[.int .i64 4, .bool false, .bool false, .bool false, .int .i64 0] 26)) (.cells #[.int .i64 5, .bool false, .bool false, .bool false, .int .i64 0] 26)) (.cells #[.int .i64 6, .bool false, .bool false, .bool false, .int .i64 0] 26)).heap.size = w4.heap.size + 1 + 1 + 1 := by simp
  have H1 : Aid.Has (World.alloc (World.alloc (World.alloc (World.alloc w4 (.cells #[.int .i64 4, .bool false, .bool false, .bool false, .int .i64 0] 26)) (.cells #[.int .i64 5, .bool false, .bool false, .bool false, .int .i64 0] 26)) (.cells #[.int .i64 6, .bool false, .bool false, .bool false, .int .i64 0] 26)) (.cells #[.int .i64 7, .bool false, .bool false, .bool false, .int .i64 0] 26)) w4.heap.size [.int .i64 4, .bool false, .bool false, .bool false, .int .i64 0] 26 := (((Aid.Has.new w4 _ _).alloc _).alloc _).alloc _
  have H2 : Aid.Has (World.alloc (World.alloc (World.alloc (World.alloc w4 (.cells #[.int .i64 4, .bool false, .bool false, .bool false, .int .i64 0] 26)) (.cells #[.int .i64 5, .bool false, .bool false, .bool false, .int .i64 0] 26)) (.cells #[.int .i64 6, .bool false, .bool false, .bool false, .int .i64 0] 26)) (.cells #[.int .i64 7, .bool false, .bool false, .bool false, .int .i64 0] 26)) (w4.heap.size + 1) [.int .i64 5, .bool false, .bool false, .bool false, .int .i64 0] 26 := by rw [← s1]; exact ((Aid.Has.new _ _ _).alloc _).alloc _
  have H3 : Aid.Has (World.alloc (World.alloc (World.alloc (World.alloc w4 (.cells #[.int .i64 4, .bool false, .bool false, .bool false, .int .i64 0] 26)) (.cells #[.int .i64 5, .bool false, .bool false, .bool false, .int .i64 0] 26)) (.cells #[.int .i64 6, .bool false, .bool false, .bool false, .int .i64 0] 26)) (.cells #[.int .i64 7, .bool false, .bool false, .bool false, .int .i64 0] 26)) (w4.heap.size + 1 + 1) [.int .i64 6, .bool false, .bool false, .bool false, .int .i64 0] 26 := by rw [← s2]; exact (Aid.Has.new _ _ _).alloc _
  have H4 : Aid.Has (World.alloc (World.alloc (World.alloc (World.alloc w4 (.cells #[.int .i64 4, .bool false, .bool false, .bool false, .int .i64 0] 26)) (.cells #[.int .i64 5, .bool false, .bool false, .bool false, .int .i64 0] 26)) (.cells #[.int .i64 6, .bool false, .bool false, .bool false, .int .i64 0] 26)) (.cells #[.int .i64 7, .bool false, .bool false, .bool false, .int .i64 0] 26)) (w4.heap.size + 1 + 1 + 1) [.int .i64 7, .bool false, .bool false, .bool false, .int .i64 0] 26 := by rw [← s3]; exact Aid.Has.new _ _ _
  have B : Below w.heap.size w (World.alloc (World.alloc (World.alloc (World.alloc w4 (.cells #[.int .i64 4, .bool false, .bool false, .bool false, .int .i64 0] 26)) (.cells #[.int .i64 5, .bool false, .bool false, .bool false, .int .i64 0] 26)) (.cells #[.int .i64 6, .bool false, .bool false, .bool false, .int .i64 0] 26)) (.cells #[.int .i64 7, .bool false, .bool false, .bool false, .int .i64 0] 26)) := (((B4.alloc L4 _).alloc (by simp; omega) _).alloc (by simp; omega) _).alloc (by simp; omega) _
  clear s1 s2 s3 B4
  generalize (World.alloc (World.alloc (World.alloc (World.alloc w4 (.cells #[.int .i64 4, .bool false, .bool false, .bool false, .int .i64 0] 26)) (.cells #[.int .i64 5, .bool false, .bool false, .bool false, .int .i64 0] 26)) (.cells #[.int .i64 6, .bool false, .bool false, .bool false, .int .i64 0] 26)) (.cells #[.int .i64 7, .bool false, .bool false, .bool false, .int .i64 0] 26)) = w8 at *
  obtain ⟨b4, e4⟩ : ∃ b4, w4.heap.size + 1 + 1 + 1 = b4 := ⟨_, rfl⟩
  obtain ⟨b3, e3⟩ : ∃ b3, w4.heap.size + 1 + 1 = b3 := ⟨_, rfl⟩
  obtain ⟨b2, e2⟩ : ∃ b2, w4.heap.size + 1 = b2 := ⟨_, rfl⟩
  obtain ⟨b1, e1⟩ : ∃ b1, w4.heap.size = b1 := ⟨_, rfl⟩
  rw [e4] at H4 ⊢
  rw [e3] at H3 ⊢
  rw [e2] at H2 ⊢
  rw [e1] at H1 ⊢
  have NE : Hid ((b1 ≠ b2 ∧ b1 ≠ b3 ∧ b1 ≠ b4 ∧ b2 ≠ b3 ∧ b2 ≠ b4 ∧ b3 ≠ b4) ∧ w.heap.size ≤ b1 ∧ w.heap.size ≤ b2 ∧ w.heap.size ≤ b3 ∧ w.heap.size ≤ b4) := Aid.hid (by refine ⟨⟨?_, ?_, ?_, ?_, ?_, ?_⟩, ?_, ?_, ?_, ?_⟩ <;> omega)
  clear e1 e2 e3 e4 L4
  go_loopw [9, 10, 11] (fun vn vl vi wr => ∃ (k : Nat) (n cd : Int) (l on qu qd qr qf : Bool), k ≤ len ∧ vi = .int .i64 k ∧ vl = .bool l ∧ vn = .int .i64 n ∧ 0 ≤ n ∧ n ≤ k ∧ (if on then cd else p) = max (p - n) 0 ∧ 0 ≤ cd ∧ cd ≤ 40 ∧
      Aid.Has wr b1 [.int .i64 4, .bool qu, .bool l, .bool false, .int .i64 n] 26 ∧ Aid.Has wr b2 [.int .i64 5, .bool qd, .bool l, .bool on, .int .i64 cd] 26 ∧ Aid.Has wr b3 [.int .i64 6, .bool qr, .bool l, .bool false, .int .i64 0] 26 ∧ Aid.Has wr b4 [.int .i64 7, .bool qf, .bool l, .bool false, .int .i64 0] 26 ∧ Below w.heap.size w wr) (fun _ _ i _ => len - (intOf i).toNat)
  case atStart => exact ⟨0, 0, 0, false, false, false, false, false, false, Nat.zero_le _, rfl, rfl, rfl, by decide, by decide, by simp; omega, by decide, by decide, H1, H2, H3, H4, B⟩
  case round =>
    obtain ⟨k, n, cd, l, on, qu, qd, qr, qf, hk, rfl, rfl, rfl, n0, n1, hcd, c0, c1, H1, H2, H3, H4, B⟩ := hrel
    have HCD := Aid.hid hcd; clear hcd
    by_cases hlt : k < len
    · have hb := hbb (by omega)
      obtain rfl := HA.out (by omega)
      have zk : wr.cell? ⟨b, off + k, none⟩ = some (.bool (zs k)) := (B.cell (p := ⟨b, off + k, none⟩) hb).trans (Z.out k hlt)
      obtain ⟨i, hi⟩ : ∃ i, zs k = i := ⟨_, rfl⟩
      rw [hi] at zk
      clear hi
      go_wp2_with fail
      clear zk
      replace H1 := H1.drew; replace H2 := H2.drew; replace H3 := H3.drew; replace H4 := H4.drew; replace B := B.drew
      cases i <;> cases l
      · by_cases hge : p ≤ n
        ·
          have hd1 : decide (p ≤ n) = true := by simpa using hge
          have hd2 : max (p - (n)) 0 = 0 := by omega
          have EU : Bk.ctu ⟨4, qu, false, false, n⟩ false (Bk.clip p 32767) = ⟨4, true, false, false, n⟩ := by rw [P.out]; simp [Bk.ctu] <;> omega
          have ED : Bk.ctd ⟨5, qd, false, on, cd⟩ false (Bk.clip p 32767) = ⟨5, true, false, true, 0⟩ := by have h := HCD.out; rw [P.out]; simp [Bk.ctd, h] <;> omega
          have ER : Bk.rt ⟨6, qr, false, false, 0⟩ false = ⟨6, false, false, false, 0⟩ := by simp [Bk.rt]
          have EF : Bk.ft ⟨7, qf, false, false, 0⟩ false = ⟨7, false, false, false, 0⟩ := by simp [Bk.ft]
          replace EU := Aid.hid EU; replace ED := Aid.hid ED; replace ER := Aid.hid ER; replace EF := Aid.hid EF
          refine Ord.wp_region_walk (fun w' => Aid.Has w' b1 [.int .i64 4, .bool qu, .bool false, .bool false, .int .i64 n] 26 ∧ Aid.Has w' b2 [.int .i64 5, .bool qd, .bool false, .bool on, .int .i64 cd] 26 ∧ Aid.Has w' b3 [.int .i64 6, .bool qr, .bool false, .bool false, .int .i64 0] 26 ∧ Aid.Has w' b4 [.int .i64 7, .bool qf, .bool false, .bool false, .int .i64 0] 26 ∧ Below w.heap.size w w') 20 [(true, 0), (true, 1), (true, 2), (true, 3), (true, 5), (true, 6), (true, 7), (true, 8), (true, 10), (true, 11), (true, 12), (true, 13), (true, 15), (true, 16), (true, 17), (true, 18), (false, 4), (false, 9), (false, 14), (false, 19)] (by kernel_rfl) (by kernel_rfl) (fun _ _ d _ _ h => by cases d <;> exact h) (⟨H1, H2, H3, H4, B⟩) ?_
          generalize wr.drew = wd at *
          apply Ord.walk_light
          next => (simp only [List.getElem?_toArray, List.getElem?_cons_zero]; rfl)
          next => rfl
          next => (intro w hSw; obtain ⟨g1, g2, g3, g4, g5⟩ := hSw; obtain ⟨k0, k1, k2, k3, k4, k5⟩ := fiveE g1; go_simp; first | done | with_reducible rfl)
          simp only [Act.put, List.setIfInBounds_toArray, List.set_cons_zero, List.set_cons_succ]
          apply Ord.walk_light
          next => (simp only [List.getElem?_toArray, List.getElem?_cons_succ, List.getElem?_cons_zero]; rfl)
          next => rfl
          next => (intro w hSw; clear hSw; go_simp; first | done | with_reducible rfl)
          simp only [Act.put, List.setIfInBounds_toArray, List.set_cons_zero, List.set_cons_succ]
          apply Ord.walk_light
          next => (simp only [List.getElem?_toArray, List.getElem?_cons_succ, List.getElem?_cons_zero]; rfl)
          next => rfl
          next => (intro w hSw; clear hSw; go_simp; first | done | with_reducible rfl)
          simp only [Act.put, List.setIfInBounds_toArray, List.set_cons_zero, List.set_cons_succ]
          apply Ord.walk_light
          next => (simp only [List.getElem?_toArray, List.getElem?_cons_succ, List.getElem?_cons_zero]; rfl)
          next => rfl
          next => (intro w hSw; clear hSw; go_simp; first | done | with_reducible rfl)
          simp only [Act.put, List.setIfInBounds_toArray, List.set_cons_zero, List.set_cons_succ]
          apply Ord.walk_light
          next => (simp only [List.getElem?_toArray, List.getElem?_cons_succ, List.getElem?_cons_zero]; rfl)
          next => rfl
          next => (intro w hSw; obtain ⟨g1, g2, g3, g4, g5⟩ := hSw; obtain ⟨k0, k1, k2, k3, k4, k5⟩ := fiveE g2; go_simp; first | done | with_reducible rfl)
          simp only [Act.put, List.setIfInBounds_toArray, List.set_cons_zero, List.set_cons_succ]
          apply Ord.walk_light
          next => (simp only [List.getElem?_toArray, List.getElem?_cons_succ, List.getElem?_cons_zero]; rfl)
          next => rfl
          next => (intro w hSw; clear hSw; go_simp; first | done | with_reducible rfl)
          simp only [Act.put, List.setIfInBounds_toArray, List.set_cons_zero, List.set_cons_succ]
          apply Ord.walk_light
          next => (simp only [List.getElem?_toArray, List.getElem?_cons_succ, List.getElem?_cons_zero]; rfl)
          next => rfl
          next => (intro w hSw; clear hSw; go_simp; first | done | with_reducible rfl)
          simp only [Act.put, List.setIfInBounds_toArray, List.set_cons_zero, List.set_cons_succ]
          apply Ord.walk_light
          next => (simp only [List.getElem?_toArray, List.getElem?_cons_succ, List.getElem?_cons_zero]; rfl)
          next => rfl
          next => (intro w hSw; clear hSw; go_simp; first | done | with_reducible rfl)
          simp only [Act.put, List.setIfInBounds_toArray, List.set_cons_zero, List.set_cons_succ]
          apply Ord.walk_light
          next => (simp only [List.getElem?_toArray, List.getElem?_cons_succ, List.getElem?_cons_zero]; rfl)
          next => rfl
          next => (intro w hSw; obtain ⟨g1, g2, g3, g4, g5⟩ := hSw; obtain ⟨k0, k1, k2, k3, k4, k5⟩ := fiveE g3; go_simp; first | done | with_reducible rfl)
          simp only [Act.put, List.setIfInBounds_toArray, List.set_cons_zero, List.set_cons_succ]
          apply Ord.walk_light
          next => (simp only [List.getElem?_toArray, List.getElem?_cons_succ, List.getElem?_cons_zero]; rfl)
          next => rfl
          next => (intro w hSw; clear hSw; go_simp; first | done | with_reducible rfl)
          simp only [Act.put, List.setIfInBounds_toArray, List.set_cons_zero, List.set_cons_succ]
          apply Ord.walk_light
          next => (simp only [List.getElem?_toArray, List.getElem?_cons_succ, List.getElem?_cons_zero]; rfl)
          next => rfl
          next => (intro w hSw; clear hSw; go_simp; first | done | with_reducible rfl)
          simp only [Act.put, List.setIfInBounds_toArray, List.set_cons_zero, List.set_cons_succ]
          apply Ord.walk_light
          next => (simp only [List.getElem?_toArray, List.getElem?_cons_succ, List.getElem?_cons_zero]; rfl)
          next => rfl
          next => (intro w hSw; clear hSw; go_simp; first | done | with_reducible rfl)
          simp only [Act.put, List.setIfInBounds_toArray, List.set_cons_zero, List.set_cons_succ]
          apply Ord.walk_light
          next => (simp only [List.getElem?_toArray, List.getElem?_cons_succ, List.getElem?_cons_zero]; rfl)
          next => rfl
          next => (intro w hSw; obtain ⟨g1, g2, g3, g4, g5⟩ := hSw; obtain ⟨k0, k1, k2, k3, k4, k5⟩ := fiveE g4; go_simp; first | done | with_reducible rfl)
          simp only [Act.put, List.setIfInBounds_toArray, List.set_cons_zero, List.set_cons_succ]
          apply Ord.walk_light
          next => (simp only [List.getElem?_toArray, List.getElem?_cons_succ, List.getElem?_cons_zero]; rfl)
          next => rfl
          next => (intro w hSw; clear hSw; go_simp; first | done | with_reducible rfl)
          simp only [Act.put, List.setIfInBounds_toArray, List.set_cons_zero, List.set_cons_succ]
          apply Ord.walk_light
          next => (simp only [List.getElem?_toArray, List.getElem?_cons_succ, List.getElem?_cons_zero]; rfl)
          next => rfl
          next => (intro w hSw; clear hSw; go_simp; first | done | with_reducible rfl)
          simp only [Act.put, List.setIfInBounds_toArray, List.set_cons_zero, List.set_cons_succ]
          apply Ord.walk_light
          next => (simp only [List.getElem?_toArray, List.getElem?_cons_succ, List.getElem?_cons_zero]; rfl)
          next => rfl
          next => (intro w hSw; clear hSw; go_simp; first | done | with_reducible rfl)
          simp only [Act.put, List.setIfInBounds_toArray, List.set_cons_zero, List.set_cons_succ]
          apply Ord.walk_heavy
          next => (simp only [List.getElem?_toArray, List.getElem?_cons_succ, List.getElem?_cons_zero]; rfl)
          next => rfl
          intro K hK
          go_wp2_with fail
          refine (ctu_to qu false false false true false false n p k n _ EU.out (by omega) (by omega)).mono ?_; rintro e w' ⟨rfl, hb⟩; dsimp only
          refine hK.out _ _ ⟨H1.below hb H1.lt, H2.below hb H2.lt, H3.below hb H3.lt, H4.below hb H4.lt, B.trans (hb.mono B.size)⟩ (fun hHeld => ?_)
          clear H1 H2 H3 H4 B hb
          obtain ⟨H1, H2, H3, H4, B⟩ := hHeld
          clear hK K
          try simp only [Act.put, List.setIfInBounds_toArray, List.set_cons_zero, List.set_cons_succ]
          apply Ord.walk_heavy
          next => (simp only [List.getElem?_toArray, List.getElem?_cons_succ, List.getElem?_cons_zero]; rfl)
          next => rfl
          intro K hK
          go_wp2_with fail
          refine (ctd_to qd false on false true false true cd p k 0 _ ED.out (by omega) (by omega)).mono ?_; rintro e w' ⟨rfl, hb⟩; dsimp only
          refine hK.out _ _ ⟨H1.below hb H1.lt, H2.below hb H2.lt, H3.below hb H3.lt, H4.below hb H4.lt, B.trans (hb.mono B.size)⟩ (fun hHeld => ?_)
          clear H1 H2 H3 H4 B hb
          obtain ⟨H1, H2, H3, H4, B⟩ := hHeld
          clear hK K
          try simp only [Act.put, List.setIfInBounds_toArray, List.set_cons_zero, List.set_cons_succ]
          apply Ord.walk_heavy
          next => (simp only [List.getElem?_toArray, List.getElem?_cons_succ, List.getElem?_cons_zero]; rfl)
          next => rfl
          intro K hK
          go_wp2_with fail
          refine (rt_to qr false false false false false false 0 p k 0 _ ER.out (by omega) (by omega)).mono ?_; rintro e w' ⟨rfl, hb⟩; dsimp only
          refine hK.out _ _ ⟨H1.below hb H1.lt, H2.below hb H2.lt, H3.below hb H3.lt, H4.below hb H4.lt, B.trans (hb.mono B.size)⟩ (fun hHeld => ?_)
          clear H1 H2 H3 H4 B hb
          obtain ⟨H1, H2, H3, H4, B⟩ := hHeld
          clear hK K
          try simp only [Act.put, List.setIfInBounds_toArray, List.set_cons_zero, List.set_cons_succ]
          apply Ord.walk_heavy
          next => (simp only [List.getElem?_toArray, List.getElem?_cons_succ, List.getElem?_cons_zero]; rfl)
          next => rfl
          intro K hK
          go_wp2_with fail
          refine (ft_to qf false false false false false false 0 p k 0 _ EF.out (by omega) (by omega)).mono ?_; rintro e w' ⟨rfl, hb⟩; dsimp only
          refine hK.out _ _ ⟨H1.below hb H1.lt, H2.below hb H2.lt, H3.below hb H3.lt, H4.below hb H4.lt, B.trans (hb.mono B.size)⟩ (fun hHeld => ?_)
          clear H1 H2 H3 H4 B hb
          obtain ⟨H1, H2, H3, H4, B⟩ := hHeld
          clear hK K
          try simp only [Act.put, List.setIfInBounds_toArray, List.set_cons_zero, List.set_cons_succ]
          refine Ord.walk_tail ?_; simp only [List.drop_succ_cons, List.drop_zero]
          obtain ⟨c0', c1', c2', c3', c4', c5'⟩ := fiveE H1; obtain ⟨d0', d1', d2, d3, d4, d5⟩ := fiveE H2; obtain ⟨g0, g1, g2, g3, g4, g5⟩ := fiveE H3; obtain ⟨j0, j1, j2, j3, j4, j5⟩ := fiveE H4
          obtain ⟨⟨m1, m2, m3, m4, m5, m6⟩, L1, L2, L3, L4⟩ := NE.out
          have l1 := H1.lt; have l2 := H2.lt; have l3 := H3.lt; have l4 := H4.lt
          go_upto_region 12 with (fail)
          refine Aid.wp_abs (fun w' => Aid.Has w' b1 [.int .i64 4, .bool true, .bool false, .bool false, .int .i64 n] 26 ∧ Aid.Has w' b2 [.int .i64 5, .bool true, .bool false, .bool true, .int .i64 0] 26 ∧ Aid.Has w' b3 [.int .i64 6, .bool false, .bool false, .bool false, .int .i64 0] 26 ∧ Aid.Has w' b4 [.int .i64 7, .bool false, .bool false, .bool false, .int .i64 0] 26 ∧ Below w.heap.size w w') ⟨((((((((((((((((((((H1).set 0 _).set 1 _).set 2 _).set 3 _).set 4 _).other _ _ (by first | exact m1 | exact m2 | exact m3 | exact m4 | exact m5 | exact m6 | exact Ne.symm m1 | exact Ne.symm m2 | exact Ne.symm m3 | exact Ne.symm m4 | exact Ne.symm m5 | exact Ne.symm m6)).other _ _ (by first | exact m1 | exact m2 | exact m3 | exact m4 | exact m5 | exact m6 | exact Ne.symm m1 | exact Ne.symm m2 | exact Ne.symm m3 | exact Ne.symm m4 | exact Ne.symm m5 | exact Ne.symm m6)).other _ _ (by first | exact m1 | exact m2 | exact m3 | exact m4 | exact m5 | exact m6 | exact Ne.symm m1 | exact Ne.symm m2 | exact Ne.symm m3 | exact Ne.symm m4 | exact Ne.symm m5 | exact Ne.symm m6)).other _ _ (by first | exact m1 | exact m2 | exact m3 | exact m4 | exact m5 | exact m6 | exact Ne.symm m1 | exact Ne.symm m2 | exact Ne.symm m3 | exact Ne.symm m4 | exact Ne.symm m5 | exact Ne.symm m6)).other _ _ (by first | exact m1 | exact m2 | exact m3 | exact m4 | exact m5 | exact m6 | exact Ne.symm m1 | exact Ne.symm m2 | exact Ne.symm m3 | exact Ne.symm m4 | exact Ne.symm m5 | exact Ne.symm m6)).other _ _ (by first | exact m1 | exact m2 | exact m3 | exact m4 | exact m5 | exact m6 | exact Ne.symm m1 | exact Ne.symm m2 | exact Ne.symm m3 | exact Ne.symm m4 | exact Ne.symm m5 | exact Ne.symm m6)).other _ _ (by first | exact m1 | exact m2 | exact m3 | exact m4 | exact m5 | exact m6 | exact Ne.symm m1 | exact Ne.symm m2 | exact Ne.symm m3 | exact Ne.symm m4 | exact Ne.symm m5 | exact Ne.symm m6)).other _ _ (by first | exact m1 | exact m2 | exact m3 | exact m4 | exact m5 | exact m6 | exact Ne.symm m1 | exact Ne.symm m2 | exact Ne.symm m3 | exact Ne.symm m4 | exact Ne.symm m5 | exact Ne.symm m6)).other _ _ (by first | exact m1 | exact m2 | exact m3 | exact m4 | exact m5 | exact m6 | exact Ne.symm m1 | exact Ne.symm m2 | exact Ne.symm m3 | exact Ne.symm m4 | exact Ne.symm m5 | exact Ne.symm m6)).other _ _ (by first | exact m1 | exact m2 | exact m3 | exact m4 | exact m5 | exact m6 | exact Ne.symm m1 | exact Ne.symm m2 | exact Ne.symm m3 | exact Ne.symm m4 | exact Ne.symm m5 | exact Ne.symm m6)).other _ _ (by first | exact m1 | exact m2 | exact m3 | exact m4 | exact m5 | exact m6 | exact Ne.symm m1 | exact Ne.symm m2 | exact Ne.symm m3 | exact Ne.symm m4 | exact Ne.symm m5 | exact Ne.symm m6)).other _ _ (by first | exact m1 | exact m2 | exact m3 | exact m4 | exact m5 | exact m6 | exact Ne.symm m1 | exact Ne.symm m2 | exact Ne.symm m3 | exact Ne.symm m4 | exact Ne.symm m5 | exact Ne.symm m6)).other _ _ (by first | exact m1 | exact m2 | exact m3 | exact m4 | exact m5 | exact m6 | exact Ne.symm m1 | exact Ne.symm m2 | exact Ne.symm m3 | exact Ne.symm m4 | exact Ne.symm m5 | exact Ne.symm m6)).other _ _ (by first | exact m1 | exact m2 | exact m3 | exact m4 | exact m5 | exact m6 | exact Ne.symm m1 | exact Ne.symm m2 | exact Ne.symm m3 | exact Ne.symm m4 | exact Ne.symm m5 | exact Ne.symm m6)).other _ _ (by first | exact m1 | exact m2 | exact m3 | exact m4 | exact m5 | exact m6 | exact Ne.symm m1 | exact Ne.symm m2 | exact Ne.symm m3 | exact Ne.symm m4 | exact Ne.symm m5 | exact Ne.symm m6), ((((((((((((((((((((H2).other _ _ (by first | exact m1 | exact m2 | exact m3 | exact m4 | exact m5 | exact m6 | exact Ne.symm m1 | exact Ne.symm m2 | exact Ne.symm m3 | exact Ne.symm m4 | exact Ne.symm m5 | exact Ne.symm m6)).other _ _ (by first | exact m1 | exact m2 | exact m3 | exact m4 | exact m5 | exact m6 | exact Ne.symm m1 | exact Ne.symm m2 | exact Ne.symm m3 | exact Ne.symm m4 | exact Ne.symm m5 | exact Ne.symm m6)).other _ _ (by first | exact m1 | exact m2 | exact m3 | exact m4 | exact m5 | exact m6 | exact Ne.symm m1 | exact Ne.symm m2 | exact Ne.symm m3 | exact Ne.symm m4 | exact Ne.symm m5 | exact Ne.symm m6)).other _ _ (by first | exact m1 | exact m2 | exact m3 | exact m4 | exact m5 | exact m6 | exact Ne.symm m1 | exact Ne.symm m2 | exact Ne.symm m3 | exact Ne.symm m4 | exact Ne.symm m5 | exact Ne.symm m6)).other _ _ (by first | exact m1 | exact m2 | exact m3 | exact m4 | exact m5 | exact m6 | exact Ne.symm m1 | exact Ne.symm m2 | exact Ne.symm m3 | exact Ne.symm m4 | exact Ne.symm m5 | exact Ne.symm m6)).set 0 _).set 1 _).set 2 _).set 3 _).set 4 _).other _ _ (by first | exact m1 | exact m2 | exact m3 | exact m4 | exact m5 | exact m6 | exact Ne.symm m1 | exact Ne.symm m2 | exact Ne.symm m3 | exact Ne.symm m4 | exact Ne.symm m5 | exact Ne.symm m6)).other _ _ (by first | exact m1 | exact m2 | exact m3 | exact m4 | exact m5 | exact m6 | exact Ne.symm m1 | exact Ne.symm m2 | exact Ne.symm m3 | exact Ne.symm m4 | exact Ne.symm m5 | exact Ne.symm m6)).other _ _ (by first | exact m1 | exact m2 | exact m3 | exact m4 | exact m5 | exact m6 | exact Ne.symm m1 | exact Ne.symm m2 | exact Ne.symm m3 | exact Ne.symm m4 | exact Ne.symm m5 | exact Ne.symm m6)).other _ _ (by first | exact m1 | exact m2 | exact m3 | exact m4 | exact m5 | exact m6 | exact Ne.symm m1 | exact Ne.symm m2 | exact Ne.symm m3 | exact Ne.symm m4 | exact Ne.symm m5 | exact Ne.symm m6)).other _ _ (by first | exact m1 | exact m2 | exact m3 | exact m4 | exact m5 | exact m6 | exact Ne.symm m1 | exact Ne.symm m2 | exact Ne.symm m3 | exact Ne.symm m4 | exact Ne.symm m5 | exact Ne.symm m6)).other _ _ (by first | exact m1 | exact m2 | exact m3 | exact m4 | exact m5 | exact m6 | exact Ne.symm m1 | exact Ne.symm m2 | exact Ne.symm m3 | exact Ne.symm m4 | exact Ne.symm m5 | exact Ne.symm m6)).other _ _ (by first | exact m1 | exact m2 | exact m3 | exact m4 | exact m5 | exact m6 | exact Ne.symm m1 | exact Ne.symm m2 | exact Ne.symm m3 | exact Ne.symm m4 | exact Ne.symm m5 | exact Ne.symm m6)).other _ _ (by first | exact m1 | exact m2 | exact m3 | exact m4 | exact m5 | exact m6 | exact Ne.symm m1 | exact Ne.symm m2 | exact Ne.symm m3 | exact Ne.symm m4 | exact Ne.symm m5 | exact Ne.symm m6)).other _ _ (by first | exact m1 | exact m2 | exact m3 | exact m4 | exact m5 | exact m6 | exact Ne.symm m1 | exact Ne.symm m2 | exact Ne.symm m3 | exact Ne.symm m4 | exact Ne.symm m5 | exact Ne.symm m6)).other _ _ (by first | exact m1 | exact m2 | exact m3 | exact m4 | exact m5 | exact m6 | exact Ne.symm m1 | exact Ne.symm m2 | exact Ne.symm m3 | exact Ne.symm m4 | exact Ne.symm m5 | exact Ne.symm m6), ((((((((((((((((((((H3).other _ _ (by first | exact m1 | exact m2 | exact m3 | exact m4 | exact m5 | exact m6 | exact Ne.symm m1 | exact Ne.symm m2 | exact Ne.symm m3 | exact Ne.symm m4 | exact Ne.symm m5 | exact Ne.symm m6)).other _ _ (by first | exact m1 | exact m2 | exact m3 | exact m4 | exact m5 | exact m6 | exact Ne.symm m1 | exact Ne.symm m2 | exact Ne.symm m3 | exact Ne.symm m4 | exact Ne.symm m5 | exact Ne.symm m6)).other _ _ (by first | exact m1 | exact m2 | exact m3 | exact m4 | exact m5 | exact m6 | exact Ne.symm m1 | exact Ne.symm m2 | exact Ne.symm m3 | exact Ne.symm m4 | exact Ne.symm m5 | exact Ne.symm m6)).other _ _ (by first | exact m1 | exact m2 | exact m3 | exact m4 | exact m5 | exact m6 | exact Ne.symm m1 | exact Ne.symm m2 | exact Ne.symm m3 | exact Ne.symm m4 | exact Ne.symm m5 | exact Ne.symm m6)).other _ _ (by first | exact m1 | exact m2 | exact m3 | exact m4 | exact m5 | exact m6 | exact Ne.symm m1 | exact Ne.symm m2 | exact Ne.symm m3 | exact Ne.symm m4 | exact Ne.symm m5 | exact Ne.symm m6)).other _ _ (by first | exact m1 | exact m2 | exact m3 | exact m4 | exact m5 | exact m6 | exact Ne.symm m1 | exact Ne.symm m2 | exact Ne.symm m3 | exact Ne.symm m4 | exact Ne.symm m5 | exact Ne.symm m6)).other _ _ (by first | exact m1 | exact m2 | exact m3 | exact m4 | exact m5 | exact m6 | exact Ne.symm m1 | exact Ne.symm m2 | exact Ne.symm m3 | exact Ne.symm m4 | exact Ne.symm m5 | exact Ne.symm m6)).other _ _ (by first | exact m1 | exact m2 | exact m3 | exact m4 | exact m5 | exact m6 | exact Ne.symm m1 | exact Ne.symm m2 | exact Ne.symm m3 | exact Ne.symm m4 | exact Ne.symm m5 | exact Ne.symm m6)).other _ _ (by first | exact m1 | exact m2 | exact m3 | exact m4 | exact m5 | exact m6 | exact Ne.symm m1 | exact Ne.symm m2 | exact Ne.symm m3 | exact Ne.symm m4 | exact Ne.symm m5 | exact Ne.symm m6)).other _ _ (by first | exact m1 | exact m2 | exact m3 | exact m4 | exact m5 | exact m6 | exact Ne.symm m1 | exact Ne.symm m2 | exact Ne.symm m3 | exact Ne.symm m4 | exact Ne.symm m5 | exact Ne.symm m6)).set 0 _).set 1 _).set 2 _).set 3 _).set 4 _).other _ _ (by first | exact m1 | exact m2 | exact m3 | exact m4 | exact m5 | exact m6 | exact Ne.symm m1 | exact Ne.symm m2 | exact Ne.symm m3 | exact Ne.symm m4 | exact Ne.symm m5 | exact Ne.symm m6)).other _ _ (by first | exact m1 | exact m2 | exact m3 | exact m4 | exact m5 | exact m6 | exact Ne.symm m1 | exact Ne.symm m2 | exact Ne.symm m3 | exact Ne.symm m4 | exact Ne.symm m5 | exact Ne.symm m6)).other _ _ (by first | exact m1 | exact m2 | exact m3 | exact m4 | exact m5 | exact m6 | exact Ne.symm m1 | exact Ne.symm m2 | exact Ne.symm m3 | exact Ne.symm m4 | exact Ne.symm m5 | exact Ne.symm m6)).other _ _ (by first | exact m1 | exact m2 | exact m3 | exact m4 | exact m5 | exact m6 | exact Ne.symm m1 | exact Ne.symm m2 | exact Ne.symm m3 | exact Ne.symm m4 | exact Ne.symm m5 | exact Ne.symm m6)).other _ _ (by first | exact m1 | exact m2 | exact m3 | exact m4 | exact m5 | exact m6 | exact Ne.symm m1 | exact Ne.symm m2 | exact Ne.symm m3 | exact Ne.symm m4 | exact Ne.symm m5 | exact Ne.symm m6), ((((((((((((((((((((H4).other _ _ (by first | exact m1 | exact m2 | exact m3 | exact m4 | exact m5 | exact m6 | exact Ne.symm m1 | exact Ne.symm m2 | exact Ne.symm m3 | exact Ne.symm m4 | exact Ne.symm m5 | exact Ne.symm m6)).other _ _ (by first | exact m1 | exact m2 | exact m3 | exact m4 | exact m5 | exact m6 | exact Ne.symm m1 | exact Ne.symm m2 | exact Ne.symm m3 | exact Ne.symm m4 | exact Ne.symm m5 | exact Ne.symm m6)).other _ _ (by first | exact m1 | exact m2 | exact m3 | exact m4 | exact m5 | exact m6 | exact Ne.symm m1 | exact Ne.symm m2 | exact Ne.symm m3 | exact Ne.symm m4 | exact Ne.symm m5 | exact Ne.symm m6)).other _ _ (by first | exact m1 | exact m2 | exact m3 | exact m4 | exact m5 | exact m6 | exact Ne.symm m1 | exact Ne.symm m2 | exact Ne.symm m3 | exact Ne.symm m4 | exact Ne.symm m5 | exact Ne.symm m6)).other _ _ (by first | exact m1 | exact m2 | exact m3 | exact m4 | exact m5 | exact m6 | exact Ne.symm m1 | exact Ne.symm m2 | exact Ne.symm m3 | exact Ne.symm m4 | exact Ne.symm m5 | exact Ne.symm m6)).other _ _ (by first | exact m1 | exact m2 | exact m3 | exact m4 | exact m5 | exact m6 | exact Ne.symm m1 | exact Ne.symm m2 | exact Ne.symm m3 | exact Ne.symm m4 | exact Ne.symm m5 | exact Ne.symm m6)).other _ _ (by first | exact m1 | exact m2 | exact m3 | exact m4 | exact m5 | exact m6 | exact Ne.symm m1 | exact Ne.symm m2 | exact Ne.symm m3 | exact Ne.symm m4 | exact Ne.symm m5 | exact Ne.symm m6)).other _ _ (by first | exact m1 | exact m2 | exact m3 | exact m4 | exact m5 | exact m6 | exact Ne.symm m1 | exact Ne.symm m2 | exact Ne.symm m3 | exact Ne.symm m4 | exact Ne.symm m5 | exact Ne.symm m6)).other _ _ (by first | exact m1 | exact m2 | exact m3 | exact m4 | exact m5 | exact m6 | exact Ne.symm m1 | exact Ne.symm m2 | exact Ne.symm m3 | exact Ne.symm m4 | exact Ne.symm m5 | exact Ne.symm m6)).other _ _ (by first | exact m1 | exact m2 | exact m3 | exact m4 | exact m5 | exact m6 | exact Ne.symm m1 | exact Ne.symm m2 | exact Ne.symm m3 | exact Ne.symm m4 | exact Ne.symm m5 | exact Ne.symm m6)).other _ _ (by first | exact m1 | exact m2 | exact m3 | exact m4 | exact m5 | exact m6 | exact Ne.symm m1 | exact Ne.symm m2 | exact Ne.symm m3 | exact Ne.symm m4 | exact Ne.symm m5 | exact Ne.symm m6)).other _ _ (by first | exact m1 | exact m2 | exact m3 | exact m4 | exact m5 | exact m6 | exact Ne.symm m1 | exact Ne.symm m2 | exact Ne.symm m3 | exact Ne.symm m4 | exact Ne.symm m5 | exact Ne.symm m6)).other _ _ (by first | exact m1 | exact m2 | exact m3 | exact m4 | exact m5 | exact m6 | exact Ne.symm m1 | exact Ne.symm m2 | exact Ne.symm m3 | exact Ne.symm m4 | exact Ne.symm m5 | exact Ne.symm m6)).other _ _ (by first | exact m1 | exact m2 | exact m3 | exact m4 | exact m5 | exact m6 | exact Ne.symm m1 | exact Ne.symm m2 | exact Ne.symm m3 | exact Ne.symm m4 | exact Ne.symm m5 | exact Ne.symm m6)).other _ _ (by first | exact m1 | exact m2 | exact m3 | exact m4 | exact m5 | exact m6 | exact Ne.symm m1 | exact Ne.symm m2 | exact Ne.symm m3 | exact Ne.symm m4 | exact Ne.symm m5 | exact Ne.symm m6)).set 0 _).set 1 _).set 2 _).set 3 _).set 4 _, ((((((((((((((((((((B).setCell (by first | exact L1 | exact L2 | exact L3 | exact L4) _).setCell (by first | exact L1 | exact L2 | exact L3 | exact L4) _).setCell (by first | exact L1 | exact L2 | exact L3 | exact L4) _).setCell (by first | exact L1 | exact L2 | exact L3 | exact L4) _).setCell (by first | exact L1 | exact L2 | exact L3 | exact L4) _).setCell (by first | exact L1 | exact L2 | exact L3 | exact L4) _).setCell (by first | exact L1 | exact L2 | exact L3 | exact L4) _).setCell (by first | exact L1 | exact L2 | exact L3 | exact L4) _).setCell (by first | exact L1 | exact L2 | exact L3 | exact L4) _).setCell (by first | exact L1 | exact L2 | exact L3 | exact L4) _).setCell (by first | exact L1 | exact L2 | exact L3 | exact L4) _).setCell (by first | exact L1 | exact L2 | exact L3 | exact L4) _).setCell (by first | exact L1 | exact L2 | exact L3 | exact L4) _).setCell (by first | exact L1 | exact L2 | exact L3 | exact L4) _).setCell (by first | exact L1 | exact L2 | exact L3 | exact L4) _).setCell (by first | exact L1 | exact L2 | exact L3 | exact L4) _).setCell (by first | exact L1 | exact L2 | exact L3 | exact L4) _).setCell (by first | exact L1 | exact L2 | exact L3 | exact L4) _).setCell (by first | exact L1 | exact L2 | exact L3 | exact L4) _).setCell (by first | exact L1 | exact L2 | exact L3 | exact L4) _⟩ (fun wf hwf => ?_)
          clear c0' c1' c2' c3' c4' c5' d0' d1' d2 d3 d4 d5 g0 g1 g2 g3 g4 g5 j0 j1 j2 j3 j4 j5 m1 m2 m3 m4 m5 m6 l1 l2 l3 l4 H1 H2 H3 H4 B
          obtain ⟨H1, H2, H3, H4, B⟩ := hwf
          obtain ⟨c0', c1', c2', c3', c4', c5'⟩ := fiveE H1; obtain ⟨d0', d1', d2, d3, d4, d5⟩ := fiveE H2; obtain ⟨g0, g1, g2, g3, g4, g5⟩ := fiveE H3; obtain ⟨j0, j1, j2, j3, j4, j5⟩ := fiveE H4
          go_wp2_with fail
          go_roundw
          case rel => exact ⟨k + 1, n, 0, false, true, true, true, false, false, by omega, by go_num, rfl, by first | rfl | go_num, by omega, by push_cast; omega, by simp <;> omega, by omega, by omega, H1, H2, H3, H4, B⟩
          case measure => simp [intOf]; omega
        ·
          have hd1 : decide (p ≤ n) = false := by simpa using hge
          have hd2 : max (p - (n)) 0 = p - (n) := by omega
          have EU : Bk.ctu ⟨4, qu, false, false, n⟩ false (Bk.clip p 32767) = ⟨4, false, false, false, n⟩ := by rw [P.out]; simp [Bk.ctu] <;> omega
          have ED : Bk.ctd ⟨5, qd, false, on, cd⟩ false (Bk.clip p 32767) = ⟨5, false, false, true, (p - n)⟩ := by have h := HCD.out; rw [P.out]; simp [Bk.ctd, h] <;> omega
          have ER : Bk.rt ⟨6, qr, false, false, 0⟩ false = ⟨6, false, false, false, 0⟩ := by simp [Bk.rt]
          have EF : Bk.ft ⟨7, qf, false, false, 0⟩ false = ⟨7, false, false, false, 0⟩ := by simp [Bk.ft]
          replace EU := Aid.hid EU; replace ED := Aid.hid ED; replace ER := Aid.hid ER; replace EF := Aid.hid EF
          refine Ord.wp_region_walk (fun w' => Aid.Has w' b1 [.int .i64 4, .bool qu, .bool false, .bool false, .int .i64 n] 26 ∧ Aid.Has w' b2 [.int .i64 5, .bool qd, .bool false, .bool on, .int .i64 cd] 26 ∧ Aid.Has w' b3 [.int .i64 6, .bool qr, .bool false, .bool false, .int .i64 0] 26 ∧ Aid.Has w' b4 [.int .i64 7, .bool qf, .bool false, .bool false, .int .i64 0] 26 ∧ Below w.heap.size w w') 20 [(true, 0), (true, 1), (true, 2), (true, 3), (true, 5), (true, 6), (true, 7), (true, 8), (true, 10), (true, 11), (true, 12), (true, 13), (true, 15), (true, 16), (true, 17), (true, 18), (false, 4), (false, 9), (false, 14), (false, 19)] (by kernel_rfl) (by kernel_rfl) (fun _ _ d _ _ h => by cases d <;> exact h) (⟨H1, H2, H3, H4, B⟩) ?_
          generalize wr.drew = wd at *
          apply Ord.walk_light
          next => (simp only [List.getElem?_toArray, List.getElem?_cons_zero]; rfl)
          next => rfl
          next => (intro w hSw; obtain ⟨g1, g2, g3, g4, g5⟩ := hSw; obtain ⟨k0, k1, k2, k3, k4, k5⟩ := fiveE g1; go_simp; first | done | with_reducible rfl)
          simp only [Act.put, List.setIfInBounds_toArray, List.set_cons_zero, List.set_cons_succ]
          apply Ord.walk_light
          next => (simp only [List.getElem?_toArray, List.getElem?_cons_succ, List.getElem?_cons_zero]; rfl)
          next => rfl
          next => (intro w hSw; clear hSw; go_simp; first | done | with_reducible rfl)
          simp only [Act.put, List.setIfInBounds_toArray, List.set_cons_zero, List.set_cons_succ]
          apply Ord.walk_light
          next => (simp only [List.getElem?_toArray, List.getElem?_cons_succ, List.getElem?_cons_zero]; rfl)
          next => rfl
          next => (intro w hSw; clear hSw; go_simp; first | done | with_reducible rfl)
          simp only [Act.put, List.setIfInBounds_toArray, List.set_cons_zero, List.set_cons_succ]
          apply Ord.walk_light
          next => (simp only [List.getElem?_toArray, List.getElem?_cons_succ, List.getElem?_cons_zero]; rfl)
          next => rfl
          next => (intro w hSw; clear hSw; go_simp; first | done | with_reducible rfl)
          simp only [Act.put, List.setIfInBounds_toArray, List.set_cons_zero, List.set_cons_succ]
          apply Ord.walk_light
          next => (simp only [List.getElem?_toArray, List.getElem?_cons_succ, List.getElem?_cons_zero]; rfl)
          next => rfl
          next => (intro w hSw; obtain ⟨g1, g2, g3, g4, g5⟩ := hSw; obtain ⟨k0, k1, k2, k3, k4, k5⟩ := fiveE g2; go_simp; first | done | with_reducible rfl)
          simp only [Act.put, List.setIfInBounds_toArray, List.set_cons_zero, List.set_cons_succ]
          apply Ord.walk_light
          next => (simp only [List.getElem?_toArray, List.getElem?_cons_succ, List.getElem?_cons_zero]; rfl)
          next => rfl
          next => (intro w hSw; clear hSw; go_simp; first | done | with_reducible rfl)
          simp only [Act.put, List.setIfInBounds_toArray, List.set_cons_zero, List.set_cons_succ]
          apply Ord.walk_light
          next => (simp only [List.getElem?_toArray, List.getElem?_cons_succ, List.getElem?_cons_zero]; rfl)
          next => rfl
          next => (intro w hSw; clear hSw; go_simp; first | done | with_reducible rfl)
          simp only [Act.put, List.setIfInBounds_toArray, List.set_cons_zero, List.set_cons_succ]
          apply Ord.walk_light
          next => (simp only [List.getElem?_toArray, List.getElem?_cons_succ, List.getElem?_cons_zero]; rfl)
          next => rfl
          next => (intro w hSw; clear hSw; go_simp; first | done | with_reducible rfl)
          simp only [Act.put, List.setIfInBounds_toArray, List.set_cons_zero, List.set_cons_succ]
          apply Ord.walk_light
          next => (simp only [List.getElem?_toArray, List.getElem?_cons_succ, List.getElem?_cons_zero]; rfl)
          next => rfl
          next => (intro w hSw; obtain ⟨g1, g2, g3, g4, g5⟩ := hSw; obtain ⟨k0, k1, k2, k3, k4, k5⟩ := fiveE g3; go_simp; first | done | with_reducible rfl)
          simp only [Act.put, List.setIfInBounds_toArray, List.set_cons_zero, List.set_cons_succ]
          apply Ord.walk_light
          next => (simp only [List.getElem?_toArray, List.getElem?_cons_succ, List.getElem?_cons_zero]; rfl)
          next => rfl
          next => (intro w hSw; clear hSw; go_simp; first | done | with_reducible rfl)
          simp only [Act.put, List.setIfInBounds_toArray, List.set_cons_zero, List.set_cons_succ]
          apply Ord.walk_light
          next => (simp only [List.getElem?_toArray, List.getElem?_cons_succ, List.getElem?_cons_zero]; rfl)
          next => rfl
          next => (intro w hSw; clear hSw; go_simp; first | done | with_reducible rfl)
          simp only [Act.put, List.setIfInBounds_toArray, List.set_cons_zero, List.set_cons_succ]
          apply Ord.walk_light
          next => (simp only [List.getElem?_toArray, List.getElem?_cons_succ, List.getElem?_cons_zero]; rfl)
          next => rfl
          next => (intro w hSw; clear hSw; go_simp; first | done | with_reducible rfl)
          simp only [Act.put, List.setIfInBounds_toArray, List.set_cons_zero, List.set_cons_succ]
          apply Ord.walk_light
          next => (simp only [List.getElem?_toArray, List.getElem?_cons_succ, List.getElem?_cons_zero]; rfl)
          next => rfl
          next => (intro w hSw; obtain ⟨g1, g2, g3, g4, g5⟩ := hSw; obtain ⟨k0, k1, k2, k3, k4, k5⟩ := fiveE g4; go_simp; first | done | with_reducible rfl)
          simp only [Act.put, List.setIfInBounds_toArray, List.set_cons_zero, List.set_cons_succ]
          apply Ord.walk_light
          next => (simp only [List.getElem?_toArray, List.getElem?_cons_succ, List.getElem?_cons_zero]; rfl)
          next => rfl
          next => (intro w hSw; clear hSw; go_simp; first | done | with_reducible rfl)
          simp only [Act.put, List.setIfInBounds_toArray, List.set_cons_zero, List.set_cons_succ]
          apply Ord.walk_light
          next => (simp only [List.getElem?_toArray, List.getElem?_cons_succ, List.getElem?_cons_zero]; rfl)
          next => rfl
          next => (intro w hSw; clear hSw; go_simp; first | done | with_reducible rfl)
          simp only [Act.put, List.setIfInBounds_toArray, List.set_cons_zero, List.set_cons_succ]
          apply Ord.walk_light
          next => (simp only [List.getElem?_toArray, List.getElem?_cons_succ, List.getElem?_cons_zero]; rfl)
          next => rfl
          next => (intro w hSw; clear hSw; go_simp; first | done | with_reducible rfl)
          simp only [Act.put, List.setIfInBounds_toArray, List.set_cons_zero, List.set_cons_succ]
          apply Ord.walk_heavy
          next => (simp only [List.getElem?_toArray, List.getElem?_cons_succ, List.getElem?_cons_zero]; rfl)
          next => rfl
          intro K hK
          go_wp2_with fail
          refine (ctu_to qu false false false false false false n p k n _ EU.out (by omega) (by omega)).mono ?_; rintro e w' ⟨rfl, hb⟩; dsimp only
          refine hK.out _ _ ⟨H1.below hb H1.lt, H2.below hb H2.lt, H3.below hb H3.lt, H4.below hb H4.lt, B.trans (hb.mono B.size)⟩ (fun hHeld => ?_)
          clear H1 H2 H3 H4 B hb
          obtain ⟨H1, H2, H3, H4, B⟩ := hHeld
          clear hK K
          try simp only [Act.put, List.setIfInBounds_toArray, List.set_cons_zero, List.set_cons_succ]
          apply Ord.walk_heavy
          next => (simp only [List.getElem?_toArray, List.getElem?_cons_succ, List.getElem?_cons_zero]; rfl)
          next => rfl
          intro K hK
          go_wp2_with fail
          refine (ctd_to qd false on false false false true cd p k (p - n) _ ED.out (by omega) (by omega)).mono ?_; rintro e w' ⟨rfl, hb⟩; dsimp only
          refine hK.out _ _ ⟨H1.below hb H1.lt, H2.below hb H2.lt, H3.below hb H3.lt, H4.below hb H4.lt, B.trans (hb.mono B.size)⟩ (fun hHeld => ?_)
          clear H1 H2 H3 H4 B hb
          obtain ⟨H1, H2, H3, H4, B⟩ := hHeld
          clear hK K
          try simp only [Act.put, List.setIfInBounds_toArray, List.set_cons_zero, List.set_cons_succ]
          apply Ord.walk_heavy
          next => (simp only [List.getElem?_toArray, List.getElem?_cons_succ, List.getElem?_cons_zero]; rfl)
          next => rfl
          intro K hK
          go_wp2_with fail
          refine (rt_to qr false false false false false false 0 p k 0 _ ER.out (by omega) (by omega)).mono ?_; rintro e w' ⟨rfl, hb⟩; dsimp only
          refine hK.out _ _ ⟨H1.below hb H1.lt, H2.below hb H2.lt, H3.below hb H3.lt, H4.below hb H4.lt, B.trans (hb.mono B.size)⟩ (fun hHeld => ?_)
          clear H1 H2 H3 H4 B hb
          obtain ⟨H1, H2, H3, H4, B⟩ := hHeld
          clear hK K
          try simp only [Act.put, List.setIfInBounds_toArray, List.set_cons_zero, List.set_cons_succ]
          apply Ord.walk_heavy
          next => (simp only [List.getElem?_toArray, List.getElem?_cons_succ, List.getElem?_cons_zero]; rfl)
          next => rfl
          intro K hK
          go_wp2_with fail
          refine (ft_to qf false false false false false false 0 p k 0 _ EF.out (by omega) (by omega)).mono ?_; rintro e w' ⟨rfl, hb⟩; dsimp only
          refine hK.out _ _ ⟨H1.below hb H1.lt, H2.below hb H2.lt, H3.below hb H3.lt, H4.below hb H4.lt, B.trans (hb.mono B.size)⟩ (fun hHeld => ?_)
          clear H1 H2 H3 H4 B hb
          obtain ⟨H1, H2, H3, H4, B⟩ := hHeld
          clear hK K
          try simp only [Act.put, List.setIfInBounds_toArray, List.set_cons_zero, List.set_cons_succ]
          refine Ord.walk_tail ?_; simp only [List.drop_succ_cons, List.drop_zero]
          obtain ⟨c0', c1', c2', c3', c4', c5'⟩ := fiveE H1; obtain ⟨d0', d1', d2, d3, d4, d5⟩ := fiveE H2; obtain ⟨g0, g1, g2, g3, g4, g5⟩ := fiveE H3; obtain ⟨j0, j1, j2, j3, j4, j5⟩ := fiveE H4
          obtain ⟨⟨m1, m2, m3, m4, m5, m6⟩, L1, L2, L3, L4⟩ := NE.out
          have l1 := H1.lt; have l2 := H2.lt; have l3 := H3.lt; have l4 := H4.lt
          go_upto_region 12 with (fail)
          refine Aid.wp_abs (fun w' => Aid.Has w' b1 [.int .i64 4, .bool false, .bool false, .bool false, .int .i64 n] 26 ∧ Aid.Has w' b2 [.int .i64 5, .bool false, .bool false, .bool true, .int .i64 (p - n)] 26 ∧ Aid.Has w' b3 [.int .i64 6, .bool false, .bool false, .bool false, .int .i64 0] 26 ∧ Aid.Has w' b4 [.int .i64 7, .bool false, .bool false, .bool false, .int .i64 0] 26 ∧ Below w.heap.size w w') ⟨((((((((((((((((((((H1).set 0 _).set 1 _).set 2 _).set 3 _).set 4 _).other _ _ (by first | exact m1 | exact m2 | exact m3 | exact m4 | exact m5 | exact m6 | exact Ne.symm m1 | exact Ne.symm m2 | exact Ne.symm m3 | exact Ne.symm m4 | exact Ne.symm m5 | exact Ne.symm m6)).other _ _ (by first | exact m1 | exact m2 | exact m3 | exact m4 | exact m5 | exact m6 | exact Ne.symm m1 | exact Ne.symm m2 | exact Ne.symm m3 | exact Ne.symm m4 | exact Ne.symm m5 | exact Ne.symm m6)).other _ _ (by first | exact m1 | exact m2 | exact m3 | exact m4 | exact m5 | exact m6 | exact Ne.symm m1 | exact Ne.symm m2 | exact Ne.symm m3 | exact Ne.symm m4 | exact Ne.symm m5 | exact Ne.symm m6)).other _ _ (by first | exact m1 | exact m2 | exact m3 | exact m4 | exact m5 | exact m6 | exact Ne.symm m1 | exact Ne.symm m2 | exact Ne.symm m3 | exact Ne.symm m4 | exact Ne.symm m5 | exact Ne.symm m6)).other _ _ (by first | exact m1 | exact m2 | exact m3 | exact m4 | exact m5 | exact m6 | exact Ne.symm m1 | exact Ne.symm m2 | exact Ne.symm m3 | exact Ne.symm m4 | exact Ne.symm m5 | exact Ne.symm m6)).other _ _ (by first | exact m1 | exact m2 | exact m3 | exact m4 | exact m5 | exact m6 | exact Ne.symm m1 | exact Ne.symm m2 | exact Ne.symm m3 | exact Ne.symm m4 | exact Ne.symm m5 | exact Ne.symm m6)).other _ _ (by first | exact m1 | exact m2 | exact m3 | exact m4 | exact m5 | exact m6 | exact Ne.symm m1 | exact Ne.symm m2 | exact Ne.symm m3 | exact Ne.symm m4 | exact Ne.symm m5 | exact Ne.symm m6)).other _ _ (by first | exact m1 | exact m2 | exact m3 | exact m4 | exact m5 | exact m6 | exact Ne.symm m1 | exact Ne.symm m2 | exact Ne.symm m3 | exact Ne.symm m4 | exact Ne.symm m5 | exact Ne.symm m6)).other _ _ (by first | exact m1 | exact m2 | exact m3 | exact m4 | exact m5 | exact m6 | exact Ne.symm m1 | exact Ne.symm m2 | exact Ne.symm m3 | exact Ne.symm m4 | exact Ne.symm m5 | exact Ne.symm m6)).other _ _ (by first | exact m1 | exact m2 | exact m3 | exact m4 | exact m5 | exact m6 | exact Ne.symm m1 | exact Ne.symm m2 | exact Ne.symm m3 | exact Ne.symm m4 | exact Ne.symm m5 | exact Ne.symm m6)).other _ _ (by first | exact m1 | exact m2 | exact m3 | exact m4 | exact m5 | exact m6 | exact Ne.symm m1 | exact Ne.symm m2 | exact Ne.symm m3 | exact Ne.symm m4 | exact Ne.symm m5 | exact Ne.symm m6)).other _ _ (by first | exact m1 | exact m2 | exact m3 | exact m4 | exact m5 | exact m6 | exact Ne.symm m1 | exact Ne.symm m2 | exact Ne.symm m3 | exact Ne.symm m4 | exact Ne.symm m5 | exact Ne.symm m6)).other _ _ (by first | exact m1 | exact m2 | exact m3 | exact m4 | exact m5 | exact m6 | exact Ne.symm m1 | exact Ne.symm m2 | exact Ne.symm m3 | exact Ne.symm m4 | exact Ne.symm m5 | exact Ne.symm m6)).other _ _ (by first | exact m1 | exact m2 | exact m3 | exact m4 | exact m5 | exact m6 | exact Ne.symm m1 | exact Ne.symm m2 | exact Ne.symm m3 | exact Ne.symm m4 | exact Ne.symm m5 | exact Ne.symm m6)).other _ _ (by first | exact m1 | exact m2 | exact m3 | exact m4 | exact m5 | exact m6 | exact Ne.symm m1 | exact Ne.symm m2 | exact Ne.symm m3 | exact Ne.symm m4 | exact Ne.symm m5 | exact Ne.symm m6), ((((((((((((((((((((H2).other _ _ (by first | exact m1 | exact m2 | exact m3 | exact m4 | exact m5 | exact m6 | exact Ne.symm m1 | exact Ne.symm m2 | exact Ne.symm m3 | exact Ne.symm m4 | exact Ne.symm m5 | exact Ne.symm m6)).other _ _ (by first | exact m1 | exact m2 | exact m3 | exact m4 | exact m5 | exact m6 | exact Ne.symm m1 | exact Ne.symm m2 | exact Ne.symm m3 | exact Ne.symm m4 | exact Ne.symm m5 | exact Ne.symm m6)).other _ _ (by first | exact m1 | exact m2 | exact m3 | exact m4 | exact m5 | exact m6 | exact Ne.symm m1 | exact Ne.symm m2 | exact Ne.symm m3 | exact Ne.symm m4 | exact Ne.symm m5 | exact Ne.symm m6)).other _ _ (by first | exact m1 | exact m2 | exact m3 | exact m4 | exact m5 | exact m6 | exact Ne.symm m1 | exact Ne.symm m2 | exact Ne.symm m3 | exact Ne.symm m4 | exact Ne.symm m5 | exact Ne.symm m6)).other _ _ (by first | exact m1 | exact m2 | exact m3 | exact m4 | exact m5 | exact m6 | exact Ne.symm m1 | exact Ne.symm m2 | exact Ne.symm m3 | exact Ne.symm m4 | exact Ne.symm m5 | exact Ne.symm m6)).set 0 _).set 1 _).set 2 _).set 3 _).set 4 _).other _ _ (by first | exact m1 | exact m2 | exact m3 | exact m4 | exact m5 | exact m6 | exact Ne.symm m1 | exact Ne.symm m2 | exact Ne.symm m3 | exact Ne.symm m4 | exact Ne.symm m5 | exact Ne.symm m6)).other _ _ (by first | exact m1 | exact m2 | exact m3 | exact m4 | exact m5 | exact m6 | exact Ne.symm m1 | exact Ne.symm m2 | exact Ne.symm m3 | exact Ne.symm m4 | exact Ne.symm m5 | exact Ne.symm m6)).other _ _ (by first | exact m1 | exact m2 | exact m3 | exact m4 | exact m5 | exact m6 | exact Ne.symm m1 | exact Ne.symm m2 | exact Ne.symm m3 | exact Ne.symm m4 | exact Ne.symm m5 | exact Ne.symm m6)).other _ _ (by first | exact m1 | exact m2 | exact m3 | exact m4 | exact m5 | exact m6 | exact Ne.symm m1 | exact Ne.symm m2 | exact Ne.symm m3 | exact Ne.symm m4 | exact Ne.symm m5 | exact Ne.symm m6)).other _ _ (by first | exact m1 | exact m2 | exact m3 | exact m4 | exact m5 | exact m6 | exact Ne.symm m1 | exact Ne.symm m2 | exact Ne.symm m3 | exact Ne.symm m4 | exact Ne.symm m5 | exact Ne.symm m6)).other _ _ (by first | exact m1 | exact m2 | exact m3 | exact m4 | exact m5 | exact m6 | exact Ne.symm m1 | exact Ne.symm m2 | exact Ne.symm m3 | exact Ne.symm m4 | exact Ne.symm m5 | exact Ne.symm m6)).other _ _ (by first | exact m1 | exact m2 | exact m3 | exact m4 | exact m5 | exact m6 | exact Ne.symm m1 | exact Ne.symm m2 | exact Ne.symm m3 | exact Ne.symm m4 | exact Ne.symm m5 | exact Ne.symm m6)).other _ _ (by first | exact m1 | exact m2 | exact m3 | exact m4 | exact m5 | exact m6 | exact Ne.symm m1 | exact Ne.symm m2 | exact Ne.symm m3 | exact Ne.symm m4 | exact Ne.symm m5 | exact Ne.symm m6)).other _ _ (by first | exact m1 | exact m2 | exact m3 | exact m4 | exact m5 | exact m6 | exact Ne.symm m1 | exact Ne.symm m2 | exact Ne.symm m3 | exact Ne.symm m4 | exact Ne.symm m5 | exact Ne.symm m6)).other _ _ (by first | exact m1 | exact m2 | exact m3 | exact m4 | exact m5 | exact m6 | exact Ne.symm m1 | exact Ne.symm m2 | exact Ne.symm m3 | exact Ne.symm m4 | exact Ne.symm m5 | exact Ne.symm m6), ((((((((((((((((((((H3).other _ _ (by first | exact m1 | exact m2 | exact m3 | exact m4 | exact m5 | exact m6 | exact Ne.symm m1 | exact Ne.symm m2 | exact Ne.symm m3 | exact Ne.symm m4 | exact Ne.symm m5 | exact Ne.symm m6)).other _ _ (by first | exact m1 | exact m2 | exact m3 | exact m4 | exact m5 | exact m6 | exact Ne.symm m1 | exact Ne.symm m2 | exact Ne.symm m3 | exact Ne.symm m4 | exact Ne.symm m5 | exact Ne.symm m6)).other _ _ (by first | exact m1 | exact m2 | exact m3 | exact m4 | exact m5 | exact m6 | exact Ne.symm m1 | exact Ne.symm m2 | exact Ne.symm m3 | exact Ne.symm m4 | exact Ne.symm m5 | exact Ne.symm m6)).other _ _ (by first | exact m1 | exact m2 | exact m3 | exact m4 | exact m5 | exact m6 | exact Ne.symm m1 | exact Ne.symm m2 | exact Ne.symm m3 | exact Ne.symm m4 | exact Ne.symm m5 | exact Ne.symm m6)).other _ _ (by first | exact m1 | exact m2 | exact m3 | exact m4 | exact m5 | exact m6 | exact Ne.symm m1 | exact Ne.symm m2 | exact Ne.symm m3 | exact Ne.symm m4 | exact Ne.symm m5 | exact Ne.symm m6)).other _ _ (by first | exact m1 | exact m2 | exact m3 | exact m4 | exact m5 | exact m6 | exact Ne.symm m1 | exact Ne.symm m2 | exact Ne.symm m3 | exact Ne.symm m4 | exact Ne.symm m5 | exact Ne.symm m6)).other _ _ (by first | exact m1 | exact m2 | exact m3 | exact m4 | exact m5 | exact m6 | exact Ne.symm m1 | exact Ne.symm m2 | exact Ne.symm m3 | exact Ne.symm m4 | exact Ne.symm m5 | exact Ne.symm m6)).other _ _ (by first | exact m1 | exact m2 | exact m3 | exact m4 | exact m5 | exact m6 | exact Ne.symm m1 | exact Ne.symm m2 | exact Ne.symm m3 | exact Ne.symm m4 | exact Ne.symm m5 | exact Ne.symm m6)).other _ _ (by first | exact m1 | exact m2 | exact m3 | exact m4 | exact m5 | exact m6 | exact Ne.symm m1 | exact Ne.symm m2 | exact Ne.symm m3 | exact Ne.symm m4 | exact Ne.symm m5 | exact Ne.symm m6)).other _ _ (by first | exact m1 | exact m2 | exact m3 | exact m4 | exact m5 | exact m6 | exact Ne.symm m1 | exact Ne.symm m2 | exact Ne.symm m3 | exact Ne.symm m4 | exact Ne.symm m5 | exact Ne.symm m6)).set 0 _).set 1 _).set 2 _).set 3 _).set 4 _).other _ _ (by first | exact m1 | exact m2 | exact m3 | exact m4 | exact m5 | exact m6 | exact Ne.symm m1 | exact Ne.symm m2 | exact Ne.symm m3 | exact Ne.symm m4 | exact Ne.symm m5 | exact Ne.symm m6)).other _ _ (by first | exact m1 | exact m2 | exact m3 | exact m4 | exact m5 | exact m6 | exact Ne.symm m1 | exact Ne.symm m2 | exact Ne.symm m3 | exact Ne.symm m4 | exact Ne.symm m5 | exact Ne.symm m6)).other _ _ (by first | exact m1 | exact m2 | exact m3 | exact m4 | exact m5 | exact m6 | exact Ne.symm m1 | exact Ne.symm m2 | exact Ne.symm m3 | exact Ne.symm m4 | exact Ne.symm m5 | exact Ne.symm m6)).other _ _ (by first | exact m1 | exact m2 | exact m3 | exact m4 | exact m5 | exact m6 | exact Ne.symm m1 | exact Ne.symm m2 | exact Ne.symm m3 | exact Ne.symm m4 | exact Ne.symm m5 | exact Ne.symm m6)).other _ _ (by first | exact m1 | exact m2 | exact m3 | exact m4 | exact m5 | exact m6 | exact Ne.symm m1 | exact Ne.symm m2 | exact Ne.symm m3 | exact Ne.symm m4 | exact Ne.symm m5 | exact Ne.symm m6), ((((((((((((((((((((H4).other _ _ (by first | exact m1 | exact m2 | exact m3 | exact m4 | exact m5 | exact m6 | exact Ne.symm m1 | exact Ne.symm m2 | exact Ne.symm m3 | exact Ne.symm m4 | exact Ne.symm m5 | exact Ne.symm m6)).other _ _ (by first | exact m1 | exact m2 | exact m3 | exact m4 | exact m5 | exact m6 | exact Ne.symm m1 | exact Ne.symm m2 | exact Ne.symm m3 | exact Ne.symm m4 | exact Ne.symm m5 | exact Ne.symm m6)).other _ _ (by first | exact m1 | exact m2 | exact m3 | exact m4 | exact m5 | exact m6 | exact Ne.symm m1 | exact Ne.symm m2 | exact Ne.symm m3 | exact Ne.symm m4 | exact Ne.symm m5 | exact Ne.symm m6)).other _ _ (by first | exact m1 | exact m2 | exact m3 | exact m4 | exact m5 | exact m6 | exact Ne.symm m1 | exact Ne.symm m2 | exact Ne.symm m3 | exact Ne.symm m4 | exact Ne.symm m5 | exact Ne.symm m6)).other _ _ (by first | exact m1 | exact m2 | exact m3 | exact m4 | exact m5 | exact m6 | exact Ne.symm m1 | exact Ne.symm m2 | exact Ne.symm m3 | exact Ne.symm m4 | exact Ne.symm m5 | exact Ne.symm m6)).other _ _ (by first | exact m1 | exact m2 | exact m3 | exact m4 | exact m5 | exact m6 | exact Ne.symm m1 | exact Ne.symm m2 | exact Ne.symm m3 | exact Ne.symm m4 | exact Ne.symm m5 | exact Ne.symm m6)).other _ _ (by first | exact m1 | exact m2 | exact m3 | exact m4 | exact m5 | exact m6 | exact Ne.symm m1 | exact Ne.symm m2 | exact Ne.symm m3 | exact Ne.symm m4 | exact Ne.symm m5 | exact Ne.symm m6)).other _ _ (by first | exact m1 | exact m2 | exact m3 | exact m4 | exact m5 | exact m6 | exact Ne.symm m1 | exact Ne.symm m2 | exact Ne.symm m3 | exact Ne.symm m4 | exact Ne.symm m5 | exact Ne.symm m6)).other _ _ (by first | exact m1 | exact m2 | exact m3 | exact m4 | exact m5 | exact m6 | exact Ne.symm m1 | exact Ne.symm m2 | exact Ne.symm m3 | exact Ne.symm m4 | exact Ne.symm m5 | exact Ne.symm m6)).other _ _ (by first | exact m1 | exact m2 | exact m3 | exact m4 | exact m5 | exact m6 | exact Ne.symm m1 | exact Ne.symm m2 | exact Ne.symm m3 | exact Ne.symm m4 | exact Ne.symm m5 | exact Ne.symm m6)).other _ _ (by first | exact m1 | exact m2 | exact m3 | exact m4 | exact m5 | exact m6 | exact Ne.symm m1 | exact Ne.symm m2 | exact Ne.symm m3 | exact Ne.symm m4 | exact Ne.symm m5 | exact Ne.symm m6)).other _ _ (by first | exact m1 | exact m2 | exact m3 | exact m4 | exact m5 | exact m6 | exact Ne.symm m1 | exact Ne.symm m2 | exact Ne.symm m3 | exact Ne.symm m4 | exact Ne.symm m5 | exact Ne.symm m6)).other _ _ (by first | exact m1 | exact m2 | exact m3 | exact m4 | exact m5 | exact m6 | exact Ne.symm m1 | exact Ne.symm m2 | exact Ne.symm m3 | exact Ne.symm m4 | exact Ne.symm m5 | exact Ne.symm m6)).other _ _ (by first | exact m1 | exact m2 | exact m3 | exact m4 | exact m5 | exact m6 | exact Ne.symm m1 | exact Ne.symm m2 | exact Ne.symm m3 | exact Ne.symm m4 | exact Ne.symm m5 | exact Ne.symm m6)).other _ _ (by first | exact m1 | exact m2 | exact m3 | exact m4 | exact m5 | exact m6 | exact Ne.symm m1 | exact Ne.symm m2 | exact Ne.symm m3 | exact Ne.symm m4 | exact Ne.symm m5 | exact Ne.symm m6)).set 0 _).set 1 _).set 2 _).set 3 _).set 4 _, ((((((((((((((((((((B).setCell (by first | exact L1 | exact L2 | exact L3 | exact L4) _).setCell (by first | exact L1 | exact L2 | exact L3 | exact L4) _).setCell (by first | exact L1 | exact L2 | exact L3 | exact L4) _).setCell (by first | exact L1 | exact L2 | exact L3 | exact L4) _).setCell (by first | exact L1 | exact L2 | exact L3 | exact L4) _).setCell (by first | exact L1 | exact L2 | exact L3 | exact L4) _).setCell (by first | exact L1 | exact L2 | exact L3 | exact L4) _).setCell (by first | exact L1 | exact L2 | exact L3 | exact L4) _).setCell (by first | exact L1 | exact L2 | exact L3 | exact L4) _).setCell (by first | exact L1 | exact L2 | exact L3 | exact L4) _).setCell (by first | exact L1 | exact L2 | exact L3 | exact L4) _).setCell (by first | exact L1 | exact L2 | exact L3 | exact L4) _).setCell (by first | exact L1 | exact L2 | exact L3 | exact L4) _).setCell (by first | exact L1 | exact L2 | exact L3 | exact L4) _).setCell (by first | exact L1 | exact L2 | exact L3 | exact L4) _).setCell (by first | exact L1 | exact L2 | exact L3 | exact L4) _).setCell (by first | exact L1 | exact L2 | exact L3 | exact L4) _).setCell (by first | exact L1 | exact L2 | exact L3 | exact L4) _).setCell (by first | exact L1 | exact L2 | exact L3 | exact L4) _).setCell (by first | exact L1 | exact L2 | exact L3 | exact L4) _⟩ (fun wf hwf => ?_)
          clear c0' c1' c2' c3' c4' c5' d0' d1' d2 d3 d4 d5 g0 g1 g2 g3 g4 g5 j0 j1 j2 j3 j4 j5 m1 m2 m3 m4 m5 m6 l1 l2 l3 l4 H1 H2 H3 H4 B
          obtain ⟨H1, H2, H3, H4, B⟩ := hwf
          obtain ⟨c0', c1', c2', c3', c4', c5'⟩ := fiveE H1; obtain ⟨d0', d1', d2, d3, d4, d5⟩ := fiveE H2; obtain ⟨g0, g1, g2, g3, g4, g5⟩ := fiveE H3; obtain ⟨j0, j1, j2, j3, j4, j5⟩ := fiveE H4
          go_wp2_with fail
          go_roundw
          case rel => exact ⟨k + 1, n, (p - n), false, true, false, false, false, false, by omega, by go_num, rfl, by first | rfl | go_num, by omega, by push_cast; omega, by simp <;> omega, by omega, by omega, H1, H2, H3, H4, B⟩
          case measure => simp [intOf]; omega
      · by_cases hge : p ≤ n
        ·
          have hd1 : decide (p ≤ n) = true := by simpa using hge
          have hd2 : max (p - (n)) 0 = 0 := by omega
          have EU : Bk.ctu ⟨4, qu, true, false, n⟩ false (Bk.clip p 32767) = ⟨4, true, false, false, n⟩ := by rw [P.out]; simp [Bk.ctu] <;> omega
          have ED : Bk.ctd ⟨5, qd, true, on, cd⟩ false (Bk.clip p 32767) = ⟨5, true, false, true, 0⟩ := by have h := HCD.out; rw [P.out]; simp [Bk.ctd, h] <;> omega
          have ER : Bk.rt ⟨6, qr, true, false, 0⟩ false = ⟨6, false, false, false, 0⟩ := by simp [Bk.rt]
          have EF : Bk.ft ⟨7, qf, true, false, 0⟩ false = ⟨7, true, false, false, 0⟩ := by simp [Bk.ft]
          replace EU := Aid.hid EU; replace ED := Aid.hid ED; replace ER := Aid.hid ER; replace EF := Aid.hid EF
          refine Ord.wp_region_walk (fun w' => Aid.Has w' b1 [.int .i64 4, .bool qu, .bool true, .bool false, .int .i64 n] 26 ∧ Aid.Has w' b2 [.int .i64 5, .bool qd, .bool true, .bool on, .int .i64 cd] 26 ∧ Aid.Has w' b3 [.int .i64 6, .bool qr, .bool true, .bool false, .int .i64 0] 26 ∧ Aid.Has w' b4 [.int .i64 7, .bool qf, .bool true, .bool false, .int .i64 0] 26 ∧ Below w.heap.size w w') 20 [(true, 0), (true, 1), (true, 2), (true, 3), (true, 5), (true, 6), (true, 7), (true, 8), (true, 10), (true, 11), (true, 12), (true, 13), (true, 15), (true, 16), (true, 17), (true, 18), (false, 4), (false, 9), (false, 14), (false, 19)] (by kernel_rfl) (by kernel_rfl) (fun _ _ d _ _ h => by cases d <;> exact h) (⟨H1, H2, H3, H4, B⟩) ?_
          generalize wr.drew = wd at *
          apply Ord.walk_light
          next => (simp only [List.getElem?_toArray, List.getElem?_cons_zero]; rfl)
          next => rfl
          next => (intro w hSw; obtain ⟨g1, g2, g3, g4, g5⟩ := hSw; obtain ⟨k0, k1, k2, k3, k4, k5⟩ := fiveE g1; go_simp; first | done | with_reducible rfl)
          simp only [Act.put, List.setIfInBounds_toArray, List.set_cons_zero, List.set_cons_succ]
          apply Ord.walk_light
          next => (simp only [List.getElem?_toArray, List.getElem?_cons_succ, List.getElem?_cons_zero]; rfl)
          next => rfl
          next => (intro w hSw; clear hSw; go_simp; first | done | with_reducible rfl)
          simp only [Act.put, List.setIfInBounds_toArray, List.set_cons_zero, List.set_cons_succ]
          apply Ord.walk_light
          next => (simp only [List.getElem?_toArray, List.getElem?_cons_succ, List.getElem?_cons_zero]; rfl)
          next => rfl
          next => (intro w hSw; clear hSw; go_simp; first | done | with_reducible rfl)
          simp only [Act.put, List.setIfInBounds_toArray, List.set_cons_zero, List.set_cons_succ]
          apply Ord.walk_light
          next => (simp only [List.getElem?_toArray, List.getElem?_cons_succ, List.getElem?_cons_zero]; rfl)
          next => rfl
          next => (intro w hSw; clear hSw; go_simp; first | done | with_reducible rfl)
          simp only [Act.put, List.setIfInBounds_toArray, List.set_cons_zero, List.set_cons_succ]
          apply Ord.walk_light
          next => (simp only [List.getElem?_toArray, List.getElem?_cons_succ, List.getElem?_cons_zero]; rfl)
          next => rfl
          next => (intro w hSw; obtain ⟨g1, g2, g3, g4, g5⟩ := hSw; obtain ⟨k0, k1, k2, k3, k4, k5⟩ := fiveE g2; go_simp; first | done | with_reducible rfl)
          simp only [Act.put, List.setIfInBounds_toArray, List.set_cons_zero, List.set_cons_succ]
          apply Ord.walk_light
          next => (simp only [List.getElem?_toArray, List.getElem?_cons_succ, List.getElem?_cons_zero]; rfl)
          next => rfl
          next => (intro w hSw; clear hSw; go_simp; first | done | with_reducible rfl)
          simp only [Act.put, List.setIfInBounds_toArray, List.set_cons_zero, List.set_cons_succ]
          apply Ord.walk_light
          next => (simp only [List.getElem?_toArray, List.getElem?_cons_succ, List.getElem?_cons_zero]; rfl)
          next => rfl
          next => (intro w hSw; clear hSw; go_simp; first | done | with_reducible rfl)
          simp only [Act.put, List.setIfInBounds_toArray, List.set_cons_zero, List.set_cons_succ]
          apply Ord.walk_light
          next => (simp only [List.getElem?_toArray, List.getElem?_cons_succ, List.getElem?_cons_zero]; rfl)
          next => rfl
          next => (intro w hSw; clear hSw; go_simp; first | done | with_reducible rfl)
          simp only [Act.put, List.setIfInBounds_toArray, List.set_cons_zero, List.set_cons_succ]
          apply Ord.walk_light
          next => (simp only [List.getElem?_toArray, List.getElem?_cons_succ, List.getElem?_cons_zero]; rfl)
          next => rfl
          next => (intro w hSw; obtain ⟨g1, g2, g3, g4, g5⟩ := hSw; obtain ⟨k0, k1, k2, k3, k4, k5⟩ := fiveE g3; go_simp; first | done | with_reducible rfl)
          simp only [Act.put, List.setIfInBounds_toArray, List.set_cons_zero, List.set_cons_succ]
          apply Ord.walk_light
          next => (simp only [List.getElem?_toArray, List.getElem?_cons_succ, List.getElem?_cons_zero]; rfl)
          next => rfl
          next => (intro w hSw; clear hSw; go_simp; first | done | with_reducible rfl)
          simp only [Act.put, List.setIfInBounds_toArray, List.set_cons_zero, List.set_cons_succ]
          apply Ord.walk_light
          next => (simp only [List.getElem?_toArray, List.getElem?_cons_succ, List.getElem?_cons_zero]; rfl)
          next => rfl
          next => (intro w hSw; clear hSw; go_simp; first | done | with_reducible rfl)
          simp only [Act.put, List.setIfInBounds_toArray, List.set_cons_zero, List.set_cons_succ]
          apply Ord.walk_light
          next => (simp only [List.getElem?_toArray, List.getElem?_cons_succ, List.getElem?_cons_zero]; rfl)
          next => rfl
          next => (intro w hSw; clear hSw; go_simp; first | done | with_reducible rfl)
          simp only [Act.put, List.setIfInBounds_toArray, List.set_cons_zero, List.set_cons_succ]
          apply Ord.walk_light
          next => (simp only [List.getElem?_toArray, List.getElem?_cons_succ, List.getElem?_cons_zero]; rfl)
          next => rfl
          next => (intro w hSw; obtain ⟨g1, g2, g3, g4, g5⟩ := hSw; obtain ⟨k0, k1, k2, k3, k4, k5⟩ := fiveE g4; go_simp; first | done | with_reducible rfl)
          simp only [Act.put, List.setIfInBounds_toArray, List.set_cons_zero, List.set_cons_succ]
          apply Ord.walk_light
          next => (simp only [List.getElem?_toArray, List.getElem?_cons_succ, List.getElem?_cons_zero]; rfl)
          next => rfl
          next => (intro w hSw; clear hSw; go_simp; first | done | with_reducible rfl)
          simp only [Act.put, List.setIfInBounds_toArray, List.set_cons_zero, List.set_cons_succ]
          apply Ord.walk_light
          next => (simp only [List.getElem?_toArray, List.getElem?_cons_succ, List.getElem?_cons_zero]; rfl)
          next => rfl
          next => (intro w hSw; clear hSw; go_simp; first | done | with_reducible rfl)
          simp only [Act.put, List.setIfInBounds_toArray, List.set_cons_zero, List.set_cons_succ]
          apply Ord.walk_light
          next => (simp only [List.getElem?_toArray, List.getElem?_cons_succ, List.getElem?_cons_zero]; rfl)
          next => rfl
          next => (intro w hSw; clear hSw; go_simp; first | done | with_reducible rfl)
          simp only [Act.put, List.setIfInBounds_toArray, List.set_cons_zero, List.set_cons_succ]
          apply Ord.walk_heavy
          next => (simp only [List.getElem?_toArray, List.getElem?_cons_succ, List.getElem?_cons_zero]; rfl)
          next => rfl
          intro K hK
          go_wp2_with fail
          refine (ctu_to qu true false false true false false n p k n _ EU.out (by omega) (by omega)).mono ?_; rintro e w' ⟨rfl, hb⟩; dsimp only
          refine hK.out _ _ ⟨H1.below hb H1.lt, H2.below hb H2.lt, H3.below hb H3.lt, H4.below hb H4.lt, B.trans (hb.mono B.size)⟩ (fun hHeld => ?_)
          clear H1 H2 H3 H4 B hb
          obtain ⟨H1, H2, H3, H4, B⟩ := hHeld
          clear hK K
          try simp only [Act.put, List.setIfInBounds_toArray, List.set_cons_zero, List.set_cons_succ]
          apply Ord.walk_heavy
          next => (simp only [List.getElem?_toArray, List.getElem?_cons_succ, List.getElem?_cons_zero]; rfl)
          next => rfl
          intro K hK
          go_wp2_with fail
          refine (ctd_to qd true on false true false true cd p k 0 _ ED.out (by omega) (by omega)).mono ?_; rintro e w' ⟨rfl, hb⟩; dsimp only
          refine hK.out _ _ ⟨H1.below hb H1.lt, H2.below hb H2.lt, H3.below hb H3.lt, H4.below hb H4.lt, B.trans (hb.mono B.size)⟩ (fun hHeld => ?_)
          clear H1 H2 H3 H4 B hb
          obtain ⟨H1, H2, H3, H4, B⟩ := hHeld
          clear hK K
          try simp only [Act.put, List.setIfInBounds_toArray, List.set_cons_zero, List.set_cons_succ]
          apply Ord.walk_heavy
          next => (simp only [List.getElem?_toArray, List.getElem?_cons_succ, List.getElem?_cons_zero]; rfl)
          next => rfl
          intro K hK
          go_wp2_with fail
          refine (rt_to qr true false false false false false 0 p k 0 _ ER.out (by omega) (by omega)).mono ?_; rintro e w' ⟨rfl, hb⟩; dsimp only
          refine hK.out _ _ ⟨H1.below hb H1.lt, H2.below hb H2.lt, H3.below hb H3.lt, H4.below hb H4.lt, B.trans (hb.mono B.size)⟩ (fun hHeld => ?_)
          clear H1 H2 H3 H4 B hb
          obtain ⟨H1, H2, H3, H4, B⟩ := hHeld
          clear hK K
          try simp only [Act.put, List.setIfInBounds_toArray, List.set_cons_zero, List.set_cons_succ]
          apply Ord.walk_heavy
          next => (simp only [List.getElem?_toArray, List.getElem?_cons_succ, List.getElem?_cons_zero]; rfl)
          next => rfl
          intro K hK
          go_wp2_with fail
          refine (ft_to qf true false false true false false 0 p k 0 _ EF.out (by omega) (by omega)).mono ?_; rintro e w' ⟨rfl, hb⟩; dsimp only
          refine hK.out _ _ ⟨H1.below hb H1.lt, H2.below hb H2.lt, H3.below hb H3.lt, H4.below hb H4.lt, B.trans (hb.mono B.size)⟩ (fun hHeld => ?_)
          clear H1 H2 H3 H4 B hb
          obtain ⟨H1, H2, H3, H4, B⟩ := hHeld
          clear hK K
          try simp only [Act.put, List.setIfInBounds_toArray, List.set_cons_zero, List.set_cons_succ]
          refine Ord.walk_tail ?_; simp only [List.drop_succ_cons, List.drop_zero]
          obtain ⟨c0', c1', c2', c3', c4', c5'⟩ := fiveE H1; obtain ⟨d0', d1', d2, d3, d4, d5⟩ := fiveE H2; obtain ⟨g0, g1, g2, g3, g4, g5⟩ := fiveE H3; obtain ⟨j0, j1, j2, j3, j4, j5⟩ := fiveE H4
          obtain ⟨⟨m1, m2, m3, m4, m5, m6⟩, L1, L2, L3, L4⟩ := NE.out
          have l1 := H1.lt; have l2 := H2.lt; have l3 := H3.lt; have l4 := H4.lt
          go_upto_region 12 with (fail)
          refine Aid.wp_abs (fun w' => Aid.Has w' b1 [.int .i64 4, .bool true, .bool false, .bool false, .int .i64 n] 26 ∧ Aid.Has w' b2 [.int .i64 5, .bool true, .bool false, .bool true, .int .i64 0] 26 ∧ Aid.Has w' b3 [.int .i64 6, .bool false, .bool false, .bool false, .int .i64 0] 26 ∧ Aid.Has w' b4 [.int .i64 7, .bool true, .bool false, .bool false, .int .i64 0] 26 ∧ Below w.heap.size w w') ⟨((((((((((((((((((((H1).set 0 _).set 1 _).set 2 _).set 3 _).set 4 _).other _ _ (by first | exact m1 | exact m2 | exact m3 | exact m4 | exact m5 | exact m6 | exact Ne.symm m1 | exact Ne.symm m2 | exact Ne.symm m3 | exact Ne.symm m4 | exact Ne.symm m5 | exact Ne.symm m6)).other _ _ (by first | exact m1 | exact m2 | exact m3 | exact m4 | exact m5 | exact m6 | exact Ne.symm m1 | exact Ne.symm m2 | exact Ne.symm m3 | exact Ne.symm m4 | exact Ne.symm m5 | exact Ne.symm m6)).other _ _ (by first | exact m1 | exact m2 | exact m3 | exact m4 | exact m5 | exact m6 | exact Ne.symm m1 | exact Ne.symm m2 | exact Ne.symm m3 | exact Ne.symm m4 | exact Ne.symm m5 | exact Ne.symm m6)).other _ _ (by first | exact m1 | exact m2 | exact m3 | exact m4 | exact m5 | exact m6 | exact Ne.symm m1 | exact Ne.symm m2 | exact Ne.symm m3 | exact Ne.symm m4 | exact Ne.symm m5 | exact Ne.symm m6)).other _ _ (by first | exact m1 | exact m2 | exact m3 | exact m4 | exact m5 | exact m6 | exact Ne.symm m1 | exact Ne.symm m2 | exact Ne.symm m3 | exact Ne.symm m4 | exact Ne.symm m5 | exact Ne.symm m6)).other _ _ (by first | exact m1 | exact m2 | exact m3 | exact m4 | exact m5 | exact m6 | exact Ne.symm m1 | exact Ne.symm m2 | exact Ne.symm m3 | exact Ne.symm m4 | exact Ne.symm m5 | exact Ne.symm m6)).other _ _ (by first | exact m1 | exact m2 | exact m3 | exact m4 | exact m5 | exact m6 | exact Ne.symm m1 | exact Ne.symm m2 | exact Ne.symm m3 | exact Ne.symm m4 | exact Ne.symm m5 | exact Ne.symm m6)).other _ _ (by first | exact m1 | exact m2 | exact m3 | exact m4 | exact m5 | exact m6 | exact Ne.symm m1 | exact Ne.symm m2 | exact Ne.symm m3 | exact Ne.symm m4 | exact Ne.symm m5 | exact Ne.symm m6)).other _ _ (by first | exact m1 | exact m2 | exact m3 | exact m4 | exact m5 | exact m6 | exact Ne.symm m1 | exact Ne.symm m2 | exact Ne.symm m3 | exact Ne.symm m4 | exact Ne.symm m5 | exact Ne.symm m6)).other _ _ (by first | exact m1 | exact m2 | exact m3 | exact m4 | exact m5 | exact m6 | exact Ne.symm m1 | exact Ne.symm m2 | exact Ne.symm m3 | exact Ne.symm m4 | exact Ne.symm m5 | exact Ne.symm m6)).other _ _ (by first | exact m1 | exact m2 | exact m3 | exact m4 | exact m5 | exact m6 | exact Ne.symm m1 | exact Ne.symm m2 | exact Ne.symm m3 | exact Ne.symm m4 | exact Ne.symm m5 | exact Ne.symm m6)).other _ _ (by first | exact m1 | exact m2 | exact m3 | exact m4 | exact m5 | exact m6 | exact Ne.symm m1 | exact Ne.symm m2 | exact Ne.symm m3 | exact Ne.symm m4 | exact Ne.symm m5 | exact Ne.symm m6)).other _ _ (by first | exact m1 | exact m2 | exact m3 | exact m4 | exact m5 | exact m6 | exact Ne.symm m1 | exact Ne.symm m2 | exact Ne.symm m3 | exact Ne.symm m4 | exact Ne.symm m5 | exact Ne.symm m6)).other _ _ (by first | exact m1 | exact m2 | exact m3 | exact m4 | exact m5 | exact m6 | exact Ne.symm m1 | exact Ne.symm m2 | exact Ne.symm m3 | exact Ne.symm m4 | exact Ne.symm m5 | exact Ne.symm m6)).other _ _ (by first | exact m1 | exact m2 | exact m3 | exact m4 | exact m5 | exact m6 | exact Ne.symm m1 | exact Ne.symm m2 | exact Ne.symm m3 | exact Ne.symm m4 | exact Ne.symm m5 | exact Ne.symm m6), ((((((((((((((((((((H2).other _ _ (by first | exact m1 | exact m2 | exact m3 | exact m4 | exact m5 | exact m6 | exact Ne.symm m1 | exact Ne.symm m2 | exact Ne.symm m3 | exact Ne.symm m4 | exact Ne.symm m5 | exact Ne.symm m6)).other _ _ (by first | exact m1 | exact m2 | exact m3 | exact m4 | exact m5 | exact m6 | exact Ne.symm m1 | exact Ne.symm m2 | exact Ne.symm m3 | exact Ne.symm m4 | exact Ne.symm m5 | exact Ne.symm m6)).other _ _ (by first | exact m1 | exact m2 | exact m3 | exact m4 | exact m5 | exact m6 | exact Ne.symm m1 | exact Ne.symm m2 | exact Ne.symm m3 | exact Ne.symm m4 | exact Ne.symm m5 | exact Ne.symm m6)).other _ _ (by first | exact m1 | exact m2 | exact m3 | exact m4 | exact m5 | exact m6 | exact Ne.symm m1 | exact Ne.symm m2 | exact Ne.symm m3 | exact Ne.symm m4 | exact Ne.symm m5 | exact Ne.symm m6)).other _ _ (by first | exact m1 | exact m2 | exact m3 | exact m4 | exact m5 | exact m6 | exact Ne.symm m1 | exact Ne.symm m2 | exact Ne.symm m3 | exact Ne.symm m4 | exact Ne.symm m5 | exact Ne.symm m6)).set 0 _).set 1 _).set 2 _).set 3 _).set 4 _).other _ _ (by first | exact m1 | exact m2 | exact m3 | exact m4 | exact m5 | exact m6 | exact Ne.symm m1 | exact Ne.symm m2 | exact Ne.symm m3 | exact Ne.symm m4 | exact Ne.symm m5 | exact Ne.symm m6)).other _ _ (by first | exact m1 | exact m2 | exact m3 | exact m4 | exact m5 | exact m6 | exact Ne.symm m1 | exact Ne.symm m2 | exact Ne.symm m3 | exact Ne.symm m4 | exact Ne.symm m5 | exact Ne.symm m6)).other _ _ (by first | exact m1 | exact m2 | exact m3 | exact m4 | exact m5 | exact m6 | exact Ne.symm m1 | exact Ne.symm m2 | exact Ne.symm m3 | exact Ne.symm m4 | exact Ne.symm m5 | exact Ne.symm m6)).other _ _ (by first | exact m1 | exact m2 | exact m3 | exact m4 | exact m5 | exact m6 | exact Ne.symm m1 | exact Ne.symm m2 | exact Ne.symm m3 | exact Ne.symm m4 | exact Ne.symm m5 | exact Ne.symm m6)).other _ _ (by first | exact m1 | exact m2 | exact m3 | exact m4 | exact m5 | exact m6 | exact Ne.symm m1 | exact Ne.symm m2 | exact Ne.symm m3 | exact Ne.symm m4 | exact Ne.symm m5 | exact Ne.symm m6)).other _ _ (by first | exact m1 | exact m2 | exact m3 | exact m4 | exact m5 | exact m6 | exact Ne.symm m1 | exact Ne.symm m2 | exact Ne.symm m3 | exact Ne.symm m4 | exact Ne.symm m5 | exact Ne.symm m6)).other _ _ (by first | exact m1 | exact m2 | exact m3 | exact m4 | exact m5 | exact m6 | exact Ne.symm m1 | exact Ne.symm m2 | exact Ne.symm m3 | exact Ne.symm m4 | exact Ne.symm m5 | exact Ne.symm m6)).other _ _ (by first | exact m1 | exact m2 | exact m3 | exact m4 | exact m5 | exact m6 | exact Ne.symm m1 | exact Ne.symm m2 | exact Ne.symm m3 | exact Ne.symm m4 | exact Ne.symm m5 | exact Ne.symm m6)).other _ _ (by first | exact m1 | exact m2 | exact m3 | exact m4 | exact m5 | exact m6 | exact Ne.symm m1 | exact Ne.symm m2 | exact Ne.symm m3 | exact Ne.symm m4 | exact Ne.symm m5 | exact Ne.symm m6)).other _ _ (by first | exact m1 | exact m2 | exact m3 | exact m4 | exact m5 | exact m6 | exact Ne.symm m1 | exact Ne.symm m2 | exact Ne.symm m3 | exact Ne.symm m4 | exact Ne.symm m5 | exact Ne.symm m6), ((((((((((((((((((((H3).other _ _ (by first | exact m1 | exact m2 | exact m3 | exact m4 | exact m5 | exact m6 | exact Ne.symm m1 | exact Ne.symm m2 | exact Ne.symm m3 | exact Ne.symm m4 | exact Ne.symm m5 | exact Ne.symm m6)).other _ _ (by first | exact m1 | exact m2 | exact m3 | exact m4 | exact m5 | exact m6 | exact Ne.symm m1 | exact Ne.symm m2 | exact Ne.symm m3 | exact Ne.symm m4 | exact Ne.symm m5 | exact Ne.symm m6)).other _ _ (by first | exact m1 | exact m2 | exact m3 | exact m4 | exact m5 | exact m6 | exact Ne.symm m1 | exact Ne.symm m2 | exact Ne.symm m3 | exact Ne.symm m4 | exact Ne.symm m5 | exact Ne.symm m6)).other _ _ (by first | exact m1 | exact m2 | exact m3 | exact m4 | exact m5 | exact m6 | exact Ne.symm m1 | exact Ne.symm m2 | exact Ne.symm m3 | exact Ne.symm m4 | exact Ne.symm m5 | exact Ne.symm m6)).other _ _ (by first | exact m1 | exact m2 | exact m3 | exact m4 | exact m5 | exact m6 | exact Ne.symm m1 | exact Ne.symm m2 | exact Ne.symm m3 | exact Ne.symm m4 | exact Ne.symm m5 | exact Ne.symm m6)).other _ _ (by first | exact m1 | exact m2 | exact m3 | exact m4 | exact m5 | exact m6 | exact Ne.symm m1 | exact Ne.symm m2 | exact Ne.symm m3 | exact Ne.symm m4 | exact Ne.symm m5 | exact Ne.symm m6)).other _ _ (by first | exact m1 | exact m2 | exact m3 | exact m4 | exact m5 | exact m6 | exact Ne.symm m1 | exact Ne.symm m2 | exact Ne.symm m3 | exact Ne.symm m4 | exact Ne.symm m5 | exact Ne.symm m6)).other _ _ (by first | exact m1 | exact m2 | exact m3 | exact m4 | exact m5 | exact m6 | exact Ne.symm m1 | exact Ne.symm m2 | exact Ne.symm m3 | exact Ne.symm m4 | exact Ne.symm m5 | exact Ne.symm m6)).other _ _ (by first | exact m1 | exact m2 | exact m3 | exact m4 | exact m5 | exact m6 | exact Ne.symm m1 | exact Ne.symm m2 | exact Ne.symm m3 | exact Ne.symm m4 | exact Ne.symm m5 | exact Ne.symm m6)).other _ _ (by first | exact m1 | exact m2 | exact m3 | exact m4 | exact m5 | exact m6 | exact Ne.symm m1 | exact Ne.symm m2 | exact Ne.symm m3 | exact Ne.symm m4 | exact Ne.symm m5 | exact Ne.symm m6)).set 0 _).set 1 _).set 2 _).set 3 _).set 4 _).other _ _ (by first | exact m1 | exact m2 | exact m3 | exact m4 | exact m5 | exact m6 | exact Ne.symm m1 | exact Ne.symm m2 | exact Ne.symm m3 | exact Ne.symm m4 | exact Ne.symm m5 | exact Ne.symm m6)).other _ _ (by first | exact m1 | exact m2 | exact m3 | exact m4 | exact m5 | exact m6 | exact Ne.symm m1 | exact Ne.symm m2 | exact Ne.symm m3 | exact Ne.symm m4 | exact Ne.symm m5 | exact Ne.symm m6)).other _ _ (by first | exact m1 | exact m2 | exact m3 | exact m4 | exact m5 | exact m6 | exact Ne.symm m1 | exact Ne.symm m2 | exact Ne.symm m3 | exact Ne.symm m4 | exact Ne.symm m5 | exact Ne.symm m6)).other _ _ (by first | exact m1 | exact m2 | exact m3 | exact m4 | exact m5 | exact m6 | exact Ne.symm m1 | exact Ne.symm m2 | exact Ne.symm m3 | exact Ne.symm m4 | exact Ne.symm m5 | exact Ne.symm m6)).other _ _ (by first | exact m1 | exact m2 | exact m3 | exact m4 | exact m5 | exact m6 | exact Ne.symm m1 | exact Ne.symm m2 | exact Ne.symm m3 | exact Ne.symm m4 | exact Ne.symm m5 | exact Ne.symm m6), ((((((((((((((((((((H4).other _ _ (by first | exact m1 | exact m2 | exact m3 | exact m4 | exact m5 | exact m6 | exact Ne.symm m1 | exact Ne.symm m2 | exact Ne.symm m3 | exact Ne.symm m4 | exact Ne.symm m5 | exact Ne.symm m6)).other _ _ (by first | exact m1 | exact m2 | exact m3 | exact m4 | exact m5 | exact m6 | exact Ne.symm m1 | exact Ne.symm m2 | exact Ne.symm m3 | exact Ne.symm m4 | exact Ne.symm m5 | exact Ne.symm m6)).other _ _ (by first | exact m1 | exact m2 | exact m3 | exact m4 | exact m5 | exact m6 | exact Ne.symm m1 | exact Ne.symm m2 | exact Ne.symm m3 | exact Ne.symm m4 | exact Ne.symm m5 | exact Ne.symm m6)).other _ _ (by first | exact m1 | exact m2 | exact m3 | exact m4 | exact m5 | exact m6 | exact Ne.symm m1 | exact Ne.symm m2 | exact Ne.symm m3 | exact Ne.symm m4 | exact Ne.symm m5 | exact Ne.symm m6)).other _ _ (by first | exact m1 | exact m2 | exact m3 | exact m4 | exact m5 | exact m6 | exact Ne.symm m1 | exact Ne.symm m2 | exact Ne.symm m3 | exact Ne.symm m4 | exact Ne.symm m5 | exact Ne.symm m6)).other _ _ (by first | exact m1 | exact m2 | exact m3 | exact m4 | exact m5 | exact m6 | exact Ne.symm m1 | exact Ne.symm m2 | exact Ne.symm m3 | exact Ne.symm m4 | exact Ne.symm m5 | exact Ne.symm m6)).other _ _ (by first | exact m1 | exact m2 | exact m3 | exact m4 | exact m5 | exact m6 | exact Ne.symm m1 | exact Ne.symm m2 | exact Ne.symm m3 | exact Ne.symm m4 | exact Ne.symm m5 | exact Ne.symm m6)).other _ _ (by first | exact m1 | exact m2 | exact m3 | exact m4 | exact m5 | exact m6 | exact Ne.symm m1 | exact Ne.symm m2 | exact Ne.symm m3 | exact Ne.symm m4 | exact Ne.symm m5 | exact Ne.symm m6)).other _ _ (by first | exact m1 | exact m2 | exact m3 | exact m4 | exact m5 | exact m6 | exact Ne.symm m1 | exact Ne.symm m2 | exact Ne.symm m3 | exact Ne.symm m4 | exact Ne.symm m5 | exact Ne.symm m6)).other _ _ (by first | exact m1 | exact m2 | exact m3 | exact m4 | exact m5 | exact m6 | exact Ne.symm m1 | exact Ne.symm m2 | exact Ne.symm m3 | exact Ne.symm m4 | exact Ne.symm m5 | exact Ne.symm m6)).other _ _ (by first | exact m1 | exact m2 | exact m3 | exact m4 | exact m5 | exact m6 | exact Ne.symm m1 | exact Ne.symm m2 | exact Ne.symm m3 | exact Ne.symm m4 | exact Ne.symm m5 | exact Ne.symm m6)).other _ _ (by first | exact m1 | exact m2 | exact m3 | exact m4 | exact m5 | exact m6 | exact Ne.symm m1 | exact Ne.symm m2 | exact Ne.symm m3 | exact Ne.symm m4 | exact Ne.symm m5 | exact Ne.symm m6)).other _ _ (by first | exact m1 | exact m2 | exact m3 | exact m4 | exact m5 | exact m6 | exact Ne.symm m1 | exact Ne.symm m2 | exact Ne.symm m3 | exact Ne.symm m4 | exact Ne.symm m5 | exact Ne.symm m6)).other _ _ (by first | exact m1 | exact m2 | exact m3 | exact m4 | exact m5 | exact m6 | exact Ne.symm m1 | exact Ne.symm m2 | exact Ne.symm m3 | exact Ne.symm m4 | exact Ne.symm m5 | exact Ne.symm m6)).other _ _ (by first | exact m1 | exact m2 | exact m3 | exact m4 | exact m5 | exact m6 | exact Ne.symm m1 | exact Ne.symm m2 | exact Ne.symm m3 | exact Ne.symm m4 | exact Ne.symm m5 | exact Ne.symm m6)).set 0 _).set 1 _).set 2 _).set 3 _).set 4 _, ((((((((((((((((((((B).setCell (by first | exact L1 | exact L2 | exact L3 | exact L4) _).setCell (by first | exact L1 | exact L2 | exact L3 | exact L4) _).setCell (by first | exact L1 | exact L2 | exact L3 | exact L4) _).setCell (by first | exact L1 | exact L2 | exact L3 | exact L4) _).setCell (by first | exact L1 | exact L2 | exact L3 | exact L4) _).setCell (by first | exact L1 | exact L2 | exact L3 | exact L4) _).setCell (by first | exact L1 | exact L2 | exact L3 | exact L4) _).setCell (by first | exact L1 | exact L2 | exact L3 | exact L4) _).setCell (by first | exact L1 | exact L2 | exact L3 | exact L4) _).setCell (by first | exact L1 | exact L2 | exact L3 | exact L4) _).setCell (by first | exact L1 | exact L2 | exact L3 | exact L4) _).setCell (by first | exact L1 | exact L2 | exact L3 | exact L4) _).setCell (by first | exact L1 | exact L2 | exact L3 | exact L4) _).setCell (by first | exact L1 | exact L2 | exact L3 | exact L4) _).setCell (by first | exact L1 | exact L2 | exact L3 | exact L4) _).setCell (by first | exact L1 | exact L2 | exact L3 | exact L4) _).setCell (by first | exact L1 | exact L2 | exact L3 | exact L4) _).setCell (by first | exact L1 | exact L2 | exact L3 | exact L4) _).setCell (by first | exact L1 | exact L2 | exact L3 | exact L4) _).setCell (by first | exact L1 | exact L2 | exact L3 | exact L4) _⟩ (fun wf hwf => ?_)
          clear c0' c1' c2' c3' c4' c5' d0' d1' d2 d3 d4 d5 g0 g1 g2 g3 g4 g5 j0 j1 j2 j3 j4 j5 m1 m2 m3 m4 m5 m6 l1 l2 l3 l4 H1 H2 H3 H4 B
          obtain ⟨H1, H2, H3, H4, B⟩ := hwf
          obtain ⟨c0', c1', c2', c3', c4', c5'⟩ := fiveE H1; obtain ⟨d0', d1', d2, d3, d4, d5⟩ := fiveE H2; obtain ⟨g0, g1, g2, g3, g4, g5⟩ := fiveE H3; obtain ⟨j0, j1, j2, j3, j4, j5⟩ := fiveE H4
          go_wp2_with fail
          go_roundw
          case rel => exact ⟨k + 1, n, 0, false, true, true, true, false, true, by omega, by go_num, rfl, by first | rfl | go_num, by omega, by push_cast; omega, by simp <;> omega, by omega, by omega, H1, H2, H3, H4, B⟩
          case measure => simp [intOf]; omega
        ·
          have hd1 : decide (p ≤ n) = false := by simpa using hge
          have hd2 : max (p - (n)) 0 = p - (n) := by omega
          have EU : Bk.ctu ⟨4, qu, true, false, n⟩ false (Bk.clip p 32767) = ⟨4, false, false, false, n⟩ := by rw [P.out]; simp [Bk.ctu] <;> omega
          have ED : Bk.ctd ⟨5, qd, true, on, cd⟩ false (Bk.clip p 32767) = ⟨5, false, false, true, (p - n)⟩ := by have h := HCD.out; rw [P.out]; simp [Bk.ctd, h] <;> omega
          have ER : Bk.rt ⟨6, qr, true, false, 0⟩ false = ⟨6, false, false, false, 0⟩ := by simp [Bk.rt]
          have EF : Bk.ft ⟨7, qf, true, false, 0⟩ false = ⟨7, true, false, false, 0⟩ := by simp [Bk.ft]
          replace EU := Aid.hid EU; replace ED := Aid.hid ED; replace ER := Aid.hid ER; replace EF := Aid.hid EF
          refine Ord.wp_region_walk (fun w' => Aid.Has w' b1 [.int .i64 4, .bool qu, .bool true, .bool false, .int .i64 n] 26 ∧ Aid.Has w' b2 [.int .i64 5, .bool qd, .bool true, .bool on, .int .i64 cd] 26 ∧ Aid.Has w' b3 [.int .i64 6, .bool qr, .bool true, .bool false, .int .i64 0] 26 ∧ Aid.Has w' b4 [.int .i64 7, .bool qf, .bool true, .bool false, .int .i64 0] 26 ∧ Below w.heap.size w w') 20 [(true, 0), (true, 1), (true, 2), (true, 3), (true, 5), (true, 6), (true, 7), (true, 8), (true, 10), (true, 11), (true, 12), (true, 13), (true, 15), (true, 16), (true, 17), (true, 18), (false, 4), (false, 9), (false, 14), (false, 19)] (by kernel_rfl) (by kernel_rfl) (fun _ _ d _ _ h => by cases d <;> exact h) (⟨H1, H2, H3, H4, B⟩) ?_
          generalize wr.drew = wd at *
          apply Ord.walk_light
          next => (simp only [List.getElem?_toArray, List.getElem?_cons_zero]; rfl)
          next => rfl
          next => (intro w hSw; obtain ⟨g1, g2, g3, g4, g5⟩ := hSw; obtain ⟨k0, k1, k2, k3, k4, k5⟩ := fiveE g1; go_simp; first | done | with_reducible rfl)
          simp only [Act.put, List.setIfInBounds_toArray, List.set_cons_zero, List.set_cons_succ]
          apply Ord.walk_light
          next => (simp only [List.getElem?_toArray, List.getElem?_cons_succ, List.getElem?_cons_zero]; rfl)
          next => rfl
          next => (intro w hSw; clear hSw; go_simp; first | done | with_reducible rfl)
          simp only [Act.put, List.setIfInBounds_toArray, List.set_cons_zero, List.set_cons_succ]
          apply Ord.walk_light
          next => (simp only [List.getElem?_toArray, List.getElem?_cons_succ, List.getElem?_cons_zero]; rfl)
          next => rfl
          next => (intro w hSw; clear hSw; go_simp; first | done | with_reducible rfl)
          simp only [Act.put, List.setIfInBounds_toArray, List.set_cons_zero, List.set_cons_succ]
          apply Ord.walk_light
          next => (simp only [List.getElem?_toArray, List.getElem?_cons_succ, List.getElem?_cons_zero]; rfl)
          next => rfl
          next => (intro w hSw; clear hSw; go_simp; first | done | with_reducible rfl)
          simp only [Act.put, List.setIfInBounds_toArray, List.set_cons_zero, List.set_cons_succ]
          apply Ord.walk_light
          next => (simp only [List.getElem?_toArray, List.getElem?_cons_succ, List.getElem?_cons_zero]; rfl)
          next => rfl
          next => (intro w hSw; obtain ⟨g1, g2, g3, g4, g5⟩ := hSw; obtain ⟨k0, k1, k2, k3, k4, k5⟩ := fiveE g2; go_simp; first | done | with_reducible rfl)
          simp only [Act.put, List.setIfInBounds_toArray, List.set_cons_zero, List.set_cons_succ]
          apply Ord.walk_light
          next => (simp only [List.getElem?_toArray, List.getElem?_cons_succ, List.getElem?_cons_zero]; rfl)
          next => rfl
          next => (intro w hSw; clear hSw; go_simp; first | done | with_reducible rfl)
          simp only [Act.put, List.setIfInBounds_toArray, List.set_cons_zero, List.set_cons_succ]
          apply Ord.walk_light
          next => (simp only [List.getElem?_toArray, List.getElem?_cons_succ, List.getElem?_cons_zero]; rfl)
          next => rfl
          next => (intro w hSw; clear hSw; go_simp; first | done | with_reducible rfl)
          simp only [Act.put, List.setIfInBounds_toArray, List.set_cons_zero, List.set_cons_succ]
          apply Ord.walk_light
          next => (simp only [List.getElem?_toArray, List.getElem?_cons_succ, List.getElem?_cons_zero]; rfl)
          next => rfl
          next => (intro w hSw; clear hSw; go_simp; first | done | with_reducible rfl)
          simp only [Act.put, List.setIfInBounds_toArray, List.set_cons_zero, List.set_cons_succ]
          apply Ord.walk_light
          next => (simp only [List.getElem?_toArray, List.getElem?_cons_succ, List.getElem?_cons_zero]; rfl)
          next => rfl
          next => (intro w hSw; obtain ⟨g1, g2, g3, g4, g5⟩ := hSw; obtain ⟨k0, k1, k2, k3, k4, k5⟩ := fiveE g3; go_simp; first | done | with_reducible rfl)
          simp only [Act.put, List.setIfInBounds_toArray, List.set_cons_zero, List.set_cons_succ]
          apply Ord.walk_light
          next => (simp only [List.getElem?_toArray, List.getElem?_cons_succ, List.getElem?_cons_zero]; rfl)
          next => rfl
          next => (intro w hSw; clear hSw; go_simp; first | done | with_reducible rfl)
          simp only [Act.put, List.setIfInBounds_toArray, List.set_cons_zero, List.set_cons_succ]
          apply Ord.walk_light
          next => (simp only [List.getElem?_toArray, List.getElem?_cons_succ, List.getElem?_cons_zero]; rfl)
          next => rfl
          next => (intro w hSw; clear hSw; go_simp; first | done | with_reducible rfl)
          simp only [Act.put, List.setIfInBounds_toArray, List.set_cons_zero, List.set_cons_succ]
          apply Ord.walk_light
          next => (simp only [List.getElem?_toArray, List.getElem?_cons_succ, List.getElem?_cons_zero]; rfl)
          next => rfl
          next => (intro w hSw; clear hSw; go_simp; first | done | with_reducible rfl)
          simp only [Act.put, List.setIfInBounds_toArray, List.set_cons_zero, List.set_cons_succ]
          apply Ord.walk_light
          next => (simp only [List.getElem?_toArray, List.getElem?_cons_succ, List.getElem?_cons_zero]; rfl)
          next => rfl
          next => (intro w hSw; obtain ⟨g1, g2, g3, g4, g5⟩ := hSw; obtain ⟨k0, k1, k2, k3, k4, k5⟩ := fiveE g4; go_simp; first | done | with_reducible rfl)
          simp only [Act.put, List.setIfInBounds_toArray, List.set_cons_zero, List.set_cons_succ]
          apply Ord.walk_light
          next => (simp only [List.getElem?_toArray, List.getElem?_cons_succ, List.getElem?_cons_zero]; rfl)
          next => rfl
          next => (intro w hSw; clear hSw; go_simp; first | done | with_reducible rfl)
          simp only [Act.put, List.setIfInBounds_toArray, List.set_cons_zero, List.set_cons_succ]
          apply Ord.walk_light
          next => (simp only [List.getElem?_toArray, List.getElem?_cons_succ, List.getElem?_cons_zero]; rfl)
          next => rfl
          next => (intro w hSw; clear hSw; go_simp; first | done | with_reducible rfl)
          simp only [Act.put, List.setIfInBounds_toArray, List.set_cons_zero, List.set_cons_succ]
          apply Ord.walk_light
          next => (simp only [List.getElem?_toArray, List.getElem?_cons_succ, List.getElem?_cons_zero]; rfl)
          next => rfl
          next => (intro w hSw; clear hSw; go_simp; first | done | with_reducible rfl)
          simp only [Act.put, List.setIfInBounds_toArray, List.set_cons_zero, List.set_cons_succ]
          apply Ord.walk_heavy
          next => (simp only [List.getElem?_toArray, List.getElem?_cons_succ, List.getElem?_cons_zero]; rfl)
          next => rfl
          intro K hK
          go_wp2_with fail
          refine (ctu_to qu true false false false false false n p k n _ EU.out (by omega) (by omega)).mono ?_; rintro e w' ⟨rfl, hb⟩; dsimp only
          refine hK.out _ _ ⟨H1.below hb H1.lt, H2.below hb H2.lt, H3.below hb H3.lt, H4.below hb H4.lt, B.trans (hb.mono B.size)⟩ (fun hHeld => ?_)
          clear H1 H2 H3 H4 B hb
          obtain ⟨H1, H2, H3, H4, B⟩ := hHeld
          clear hK K
          try simp only [Act.put, List.setIfInBounds_toArray, List.set_cons_zero, List.set_cons_succ]
          apply Ord.walk_heavy
          next => (simp only [List.getElem?_toArray, List.getElem?_cons_succ, List.getElem?_cons_zero]; rfl)
          next => rfl
          intro K hK
          go_wp2_with fail
          refine (ctd_to qd true on false false false true cd p k (p - n) _ ED.out (by omega) (by omega)).mono ?_; rintro e w' ⟨rfl, hb⟩; dsimp only
          refine hK.out _ _ ⟨H1.below hb H1.lt, H2.below hb H2.lt, H3.below hb H3.lt, H4.below hb H4.lt, B.trans (hb.mono B.size)⟩ (fun hHeld => ?_)
          clear H1 H2 H3 H4 B hb
          obtain ⟨H1, H2, H3, H4, B⟩ := hHeld
          clear hK K
          try simp only [Act.put, List.setIfInBounds_toArray, List.set_cons_zero, List.set_cons_succ]
          apply Ord.walk_heavy
          next => (simp only [List.getElem?_toArray, List.getElem?_cons_succ, List.getElem?_cons_zero]; rfl)
          next => rfl
          intro K hK
          go_wp2_with fail
          refine (rt_to qr true false false false false false 0 p k 0 _ ER.out (by omega) (by omega)).mono ?_; rintro e w' ⟨rfl, hb⟩; dsimp only
          refine hK.out _ _ ⟨H1.below hb H1.lt, H2.below hb H2.lt, H3.below hb H3.lt, H4.below hb H4.lt, B.trans (hb.mono B.size)⟩ (fun hHeld => ?_)
          clear H1 H2 H3 H4 B hb
          obtain ⟨H1, H2, H3, H4, B⟩ := hHeld
          clear hK K
          try simp only [Act.put, List.setIfInBounds_toArray, List.set_cons_zero, List.set_cons_succ]
          apply Ord.walk_heavy
          next => (simp only [List.getElem?_toArray, List.getElem?_cons_succ, List.getElem?_cons_zero]; rfl)
          next => rfl
          intro K hK
          go_wp2_with fail
          refine (ft_to qf true false false true false false 0 p k 0 _ EF.out (by omega) (by omega)).mono ?_; rintro e w' ⟨rfl, hb⟩; dsimp only
          refine hK.out _ _ ⟨H1.below hb H1.lt, H2.below hb H2.lt, H3.below hb H3.lt, H4.below hb H4.lt, B.trans (hb.mono B.size)⟩ (fun hHeld => ?_)
          clear H1 H2 H3 H4 B hb
          obtain ⟨H1, H2, H3, H4, B⟩ := hHeld
          clear hK K
          try simp only [Act.put, List.setIfInBounds_toArray, List.set_cons_zero, List.set_cons_succ]
          refine Ord.walk_tail ?_; simp only [List.drop_succ_cons, List.drop_zero]
          obtain ⟨c0', c1', c2', c3', c4', c5'⟩ := fiveE H1; obtain ⟨d0', d1', d2, d3, d4, d5⟩ := fiveE H2; obtain ⟨g0, g1, g2, g3, g4, g5⟩ := fiveE H3; obtain ⟨j0, j1, j2, j3, j4, j5⟩ := fiveE H4
          obtain ⟨⟨m1, m2, m3, m4, m5, m6⟩, L1, L2, L3, L4⟩ := NE.out
          have l1 := H1.lt; have l2 := H2.lt; have l3 := H3.lt; have l4 := H4.lt
          go_upto_region 12 with (fail)
          refine Aid.wp_abs (fun w' => Aid.Has w' b1 [.int .i64 4, .bool false, .bool false, .bool false, .int .i64 n] 26 ∧ Aid.Has w' b2 [.int .i64 5, .bool false, .bool false, .bool true, .int .i64 (p - n)] 26 ∧ Aid.Has w' b3 [.int .i64 6, .bool false, .bool false, .bool false, .int .i64 0] 26 ∧ Aid.Has w' b4 [.int .i64 7, .bool true, .bool false, .bool false, .int .i64 0] 26 ∧ Below w.heap.size w w') ⟨((((((((((((((((((((H1).set 0 _).set 1 _).set 2 _).set 3 _).set 4 _).other _ _ (by first | exact m1 | exact m2 | exact m3 | exact m4 | exact m5 | exact m6 | exact Ne.symm m1 | exact Ne.symm m2 | exact Ne.symm m3 | exact Ne.symm m4 | exact Ne.symm m5 | exact Ne.symm m6)).other _ _ (by first | exact m1 | exact m2 | exact m3 | exact m4 | exact m5 | exact m6 | exact Ne.symm m1 | exact Ne.symm m2 | exact Ne.symm m3 | exact Ne.symm m4 | exact Ne.symm m5 | exact Ne.symm m6)).other _ _ (by first | exact m1 | exact m2 | exact m3 | exact m4 | exact m5 | exact m6 | exact Ne.symm m1 | exact Ne.symm m2 | exact Ne.symm m3 | exact Ne.symm m4 | exact Ne.symm m5 | exact Ne.symm m6)).other _ _ (by first | exact m1 | exact m2 | exact m3 | exact m4 | exact m5 | exact m6 | exact Ne.symm m1 | exact Ne.symm m2 | exact Ne.symm m3 | exact Ne.symm m4 | exact Ne.symm m5 | exact Ne.symm m6)).other _ _ (by first | exact m1 | exact m2 | exact m3 | exact m4 | exact m5 | exact m6 | exact Ne.symm m1 | exact Ne.symm m2 | exact Ne.symm m3 | exact Ne.symm m4 | exact Ne.symm m5 | exact Ne.symm m6)).other _ _ (by first | exact m1 | exact m2 | exact m3 | exact m4 | exact m5 | exact m6 | exact Ne.symm m1 | exact Ne.symm m2 | exact Ne.symm m3 | exact Ne.symm m4 | exact Ne.symm m5 | exact Ne.symm m6)).other _ _ (by first | exact m1 | exact m2 | exact m3 | exact m4 | exact m5 | exact m6 | exact Ne.symm m1 | exact Ne.symm m2 | exact Ne.symm m3 | exact Ne.symm m4 | exact Ne.symm m5 | exact Ne.symm m6)).other _ _ (by first | exact m1 | exact m2 | exact m3 | exact m4 | exact m5 | exact m6 | exact Ne.symm m1 | exact Ne.symm m2 | exact Ne.symm m3 | exact Ne.symm m4 | exact Ne.symm m5 | exact Ne.symm m6)).other _ _ (by first | exact m1 | exact m2 | exact m3 | exact m4 | exact m5 | exact m6 | exact Ne.symm m1 | exact Ne.symm m2 | exact Ne.symm m3 | exact Ne.symm m4 | exact Ne.symm m5 | exact Ne.symm m6)).other _ _ (by first | exact m1 | exact m2 | exact m3 | exact m4 | exact m5 | exact m6 | exact Ne.symm m1 | exact Ne.symm m2 | exact Ne.symm m3 | exact Ne.symm m4 | exact Ne.symm m5 | exact Ne.symm m6)).other _ _ (by first | exact m1 | exact m2 | exact m3 | exact m4 | exact m5 | exact m6 | exact Ne.symm m1 | exact Ne.symm m2 | exact Ne.symm m3 | exact Ne.symm m4 | exact Ne.symm m5 | exact Ne.symm m6)).other _ _ (by first | exact m1 | exact m2 | exact m3 | exact m4 | exact m5 | exact m6 | exact Ne.symm m1 | exact Ne.symm m2 | exact Ne.symm m3 | exact Ne.symm m4 | exact Ne.symm m5 | exact Ne.symm m6)).other _ _ (by first | exact m1 | exact m2 | exact m3 | exact m4 | exact m5 | exact m6 | exact Ne.symm m1 | exact Ne.symm m2 | exact Ne.symm m3 | exact Ne.symm m4 | exact Ne.symm m5 | exact Ne.symm m6)).other _ _ (by first | exact m1 | exact m2 | exact m3 | exact m4 | exact m5 | exact m6 | exact Ne.symm m1 | exact Ne.symm m2 | exact Ne.symm m3 | exact Ne.symm m4 | exact Ne.symm m5 | exact Ne.symm m6)).other _ _ (by first | exact m1 | exact m2 | exact m3 | exact m4 | exact m5 | exact m6 | exact Ne.symm m1 | exact Ne.symm m2 | exact Ne.symm m3 | exact Ne.symm m4 | exact Ne.symm m5 | exact Ne.symm m6), ((((((((((((((((((((H2).other _ _ (by first | exact m1 | exact m2 | exact m3 | exact m4 | exact m5 | exact m6 | exact Ne.symm m1 | exact Ne.symm m2 | exact Ne.symm m3 | exact Ne.symm m4 | exact Ne.symm m5 | exact Ne.symm m6)).other _ _ (by first | exact m1 | exact m2 | exact m3 | exact m4 | exact m5 | exact m6 | exact Ne.symm m1 | exact Ne.symm m2 | exact Ne.symm m3 | exact Ne.symm m4 | exact Ne.symm m5 | exact Ne.symm m6)).other _ _ (by first | exact m1 | exact m2 | exact m3 | exact m4 | exact m5 | exact m6 | exact Ne.symm m1 | exact Ne.symm m2 | exact Ne.symm m3 | exact Ne.symm m4 | exact Ne.symm m5 | exact Ne.symm m6)).other _ _ (by first | exact m1 | exact m2 | exact m3 | exact m4 | exact m5 | exact m6 | exact Ne.symm m1 | exact Ne.symm m2 | exact Ne.symm m3 | exact Ne.symm m4 | exact Ne.symm m5 | exact Ne.symm m6)).other _ _ (by first | exact m1 | exact m2 | exact m3 | exact m4 | exact m5 | exact m6 | exact Ne.symm m1 | exact Ne.symm m2 | exact Ne.symm m3 | exact Ne.symm m4 | exact Ne.symm m5 | exact Ne.symm m6)).set 0 _).set 1 _).set 2 _).set 3 _).set 4 _).other _ _ (by first | exact m1 | exact m2 | exact m3 | exact m4 | exact m5 | exact m6 | exact Ne.symm m1 | exact Ne.symm m2 | exact Ne.symm m3 | exact Ne.symm m4 | exact Ne.symm m5 | exact Ne.symm m6)).other _ _ (by first | exact m1 | exact m2 | exact m3 | exact m4 | exact m5 | exact m6 | exact Ne.symm m1 | exact Ne.symm m2 | exact Ne.symm m3 | exact Ne.symm m4 | exact Ne.symm m5 | exact Ne.symm m6)).other _ _ (by first | exact m1 | exact m2 | exact m3 | exact m4 | exact m5 | exact m6 | exact Ne.symm m1 | exact Ne.symm m2 | exact Ne.symm m3 | exact Ne.symm m4 | exact Ne.symm m5 | exact Ne.symm m6)).other _ _ (by first | exact m1 | exact m2 | exact m3 | exact m4 | exact m5 | exact m6 | exact Ne.symm m1 | exact Ne.symm m2 | exact Ne.symm m3 | exact Ne.symm m4 | exact Ne.symm m5 | exact Ne.symm m6)).other _ _ (by first | exact m1 | exact m2 | exact m3 | exact m4 | exact m5 | exact m6 | exact Ne.symm m1 | exact Ne.symm m2 | exact Ne.symm m3 | exact Ne.symm m4 | exact Ne.symm m5 | exact Ne.symm m6)).other _ _ (by first | exact m1 | exact m2 | exact m3 | exact m4 | exact m5 | exact m6 | exact Ne.symm m1 | exact Ne.symm m2 | exact Ne.symm m3 | exact Ne.symm m4 | exact Ne.symm m5 | exact Ne.symm m6)).other _ _ (by first | exact m1 | exact m2 | exact m3 | exact m4 | exact m5 | exact m6 | exact Ne.symm m1 | exact Ne.symm m2 | exact Ne.symm m3 | exact Ne.symm m4 | exact Ne.symm m5 | exact Ne.symm m6)).other _ _ (by first | exact m1 | exact m2 | exact m3 | exact m4 | exact m5 | exact m6 | exact Ne.symm m1 | exact Ne.symm m2 | exact Ne.symm m3 | exact Ne.symm m4 | exact Ne.symm m5 | exact Ne.symm m6)).other _ _ (by first | exact m1 | exact m2 | exact m3 | exact m4 | exact m5 | exact m6 | exact Ne.symm m1 | exact Ne.symm m2 | exact Ne.symm m3 | exact Ne.symm m4 | exact Ne.symm m5 | exact Ne.symm m6)).other _ _ (by first | exact m1 | exact m2 | exact m3 | exact m4 | exact m5 | exact m6 | exact Ne.symm m1 | exact Ne.symm m2 | exact Ne.symm m3 | exact Ne.symm m4 | exact Ne.symm m5 | exact Ne.symm m6), ((((((((((((((((((((H3).other _ _ (by first | exact m1 | exact m2 | exact m3 | exact m4 | exact m5 | exact m6 | exact Ne.symm m1 | exact Ne.symm m2 | exact Ne.symm m3 | exact Ne.symm m4 | exact Ne.symm m5 | exact Ne.symm m6)).other _ _ (by first | exact m1 | exact m2 | exact m3 | exact m4 | exact m5 | exact m6 | exact Ne.symm m1 | exact Ne.symm m2 | exact Ne.symm m3 | exact Ne.symm m4 | exact Ne.symm m5 | exact Ne.symm m6)).other _ _ (by first | exact m1 | exact m2 | exact m3 | exact m4 | exact m5 | exact m6 | exact Ne.symm m1 | exact Ne.symm m2 | exact Ne.symm m3 | exact Ne.symm m4 | exact Ne.symm m5 | exact Ne.symm m6)).other _ _ (by first | exact m1 | exact m2 | exact m3 | exact m4 | exact m5 | exact m6 | exact Ne.symm m1 | exact Ne.symm m2 | exact Ne.symm m3 | exact Ne.symm m4 | exact Ne.symm m5 | exact Ne.symm m6)).other _ _ (by first | exact m1 | exact m2 | exact m3 | exact m4 | exact m5 | exact m6 | exact Ne.symm m1 | exact Ne.symm m2 | exact Ne.symm m3 | exact Ne.symm m4 | exact Ne.symm m5 | exact Ne.symm m6)).other _ _ (by first | exact m1 | exact m2 | exact m3 | exact m4 | exact m5 | exact m6 | exact Ne.symm m1 | exact Ne.symm m2 | exact Ne.symm m3 | exact Ne.symm m4 | exact Ne.symm m5 | exact Ne.symm m6)).other _ _ (by first | exact m1 | exact m2 | exact m3 | exact m4 | exact m5 | exact m6 | exact Ne.symm m1 | exact Ne.symm m2 | exact Ne.symm m3 | exact Ne.symm m4 | exact Ne.symm m5 | exact Ne.symm m6)).other _ _ (by first | exact m1 | exact m2 | exact m3 | exact m4 | exact m5 | exact m6 | exact Ne.symm m1 | exact Ne.symm m2 | exact Ne.symm m3 | exact Ne.symm m4 | exact Ne.symm m5 | exact Ne.symm m6)).other _ _ (by first | exact m1 | exact m2 | exact m3 | exact m4 | exact m5 | exact m6 | exact Ne.symm m1 | exact Ne.symm m2 | exact Ne.symm m3 | exact Ne.symm m4 | exact Ne.symm m5 | exact Ne.symm m6)).other _ _ (by first | exact m1 | exact m2 | exact m3 | exact m4 | exact m5 | exact m6 | exact Ne.symm m1 | exact Ne.symm m2 | exact Ne.symm m3 | exact Ne.symm m4 | exact Ne.symm m5 | exact Ne.symm m6)).set 0 _).set 1 _).set 2 _).set 3 _).set 4 _).other _ _ (by first | exact m1 | exact m2 | exact m3 | exact m4 | exact m5 | exact m6 | exact Ne.symm m1 | exact Ne.symm m2 | exact Ne.symm m3 | exact Ne.symm m4 | exact Ne.symm m5 | exact Ne.symm m6)).other _ _ (by first | exact m1 | exact m2 | exact m3 | exact m4 | exact m5 | exact m6 | exact Ne.symm m1 | exact Ne.symm m2 | exact Ne.symm m3 | exact Ne.symm m4 | exact Ne.symm m5 | exact Ne.symm m6)).other _ _ (by first | exact m1 | exact m2 | exact m3 | exact m4 | exact m5 | exact m6 | exact Ne.symm m1 | exact Ne.symm m2 | exact Ne.symm m3 | exact Ne.symm m4 | exact Ne.symm m5 | exact Ne.symm m6)).other _ _ (by first | exact m1 | exact m2 | exact m3 | exact m4 | exact m5 | exact m6 | exact Ne.symm m1 | exact Ne.symm m2 | exact Ne.symm m3 | exact Ne.symm m4 | exact Ne.symm m5 | exact Ne.symm m6)).other _ _ (by first | exact m1 | exact m2 | exact m3 | exact m4 | exact m5 | exact m6 | exact Ne.symm m1 | exact Ne.symm m2 | exact Ne.symm m3 | exact Ne.symm m4 | exact Ne.symm m5 | exact Ne.symm m6), ((((((((((((((((((((H4).other _ _ (by first | exact m1 | exact m2 | exact m3 | exact m4 | exact m5 | exact m6 | exact Ne.symm m1 | exact Ne.symm m2 | exact Ne.symm m3 | exact Ne.symm m4 | exact Ne.symm m5 | exact Ne.symm m6)).other _ _ (by first | exact m1 | exact m2 | exact m3 | exact m4 | exact m5 | exact m6 | exact Ne.symm m1 | exact Ne.symm m2 | exact Ne.symm m3 | exact Ne.symm m4 | exact Ne.symm m5 | exact Ne.symm m6)).other _ _ (by first | exact m1 | exact m2 | exact m3 | exact m4 | exact m5 | exact m6 | exact Ne.symm m1 | exact Ne.symm m2 | exact Ne.symm m3 | exact Ne.symm m4 | exact Ne.symm m5 | exact Ne.symm m6)).other _ _ (by first | exact m1 | exact m2 | exact m3 | exact m4 | exact m5 | exact m6 | exact Ne.symm m1 | exact Ne.symm m2 | exact Ne.symm m3 | exact Ne.symm m4 | exact Ne.symm m5 | exact Ne.symm m6)).other _ _ (by first | exact m1 | exact m2 | exact m3 | exact m4 | exact m5 | exact m6 | exact Ne.symm m1 | exact Ne.symm m2 | exact Ne.symm m3 | exact Ne.symm m4 | exact Ne.symm m5 | exact Ne.symm m6)).other _ _ (by first | exact m1 | exact m2 | exact m3 | exact m4 | exact m5 | exact m6 | exact Ne.symm m1 | exact Ne.symm m2 | exact Ne.symm m3 | exact Ne.symm m4 | exact Ne.symm m5 | exact Ne.symm m6)).other _ _ (by first | exact m1 | exact m2 | exact m3 | exact m4 | exact m5 | exact m6 | exact Ne.symm m1 | exact Ne.symm m2 | exact Ne.symm m3 | exact Ne.symm m4 | exact Ne.symm m5 | exact Ne.symm m6)).other _ _ (by first | exact m1 | exact m2 | exact m3 | exact m4 | exact m5 | exact m6 | exact Ne.symm m1 | exact Ne.symm m2 | exact Ne.symm m3 | exact Ne.symm m4 | exact Ne.symm m5 | exact Ne.symm m6)).other _ _ (by first | exact m1 | exact m2 | exact m3 | exact m4 | exact m5 | exact m6 | exact Ne.symm m1 | exact Ne.symm m2 | exact Ne.symm m3 | exact Ne.symm m4 | exact Ne.symm m5 | exact Ne.symm m6)).other _ _ (by first | exact m1 | exact m2 | exact m3 | exact m4 | exact m5 | exact m6 | exact Ne.symm m1 | exact Ne.symm m2 | exact Ne.symm m3 | exact Ne.symm m4 | exact Ne.symm m5 | exact Ne.symm m6)).other _ _ (by first | exact m1 | exact m2 | exact m3 | exact m4 | exact m5 | exact m6 | exact Ne.symm m1 | exact Ne.symm m2 | exact Ne.symm m3 | exact Ne.symm m4 | exact Ne.symm m5 | exact Ne.symm m6)).other _ _ (by first | exact m1 | exact m2 | exact m3 | exact m4 | exact m5 | exact m6 | exact Ne.symm m1 | exact Ne.symm m2 | exact Ne.symm m3 | exact Ne.symm m4 | exact Ne.symm m5 | exact Ne.symm m6)).other _ _ (by first | exact m1 | exact m2 | exact m3 | exact m4 | exact m5 | exact m6 | exact Ne.symm m1 | exact Ne.symm m2 | exact Ne.symm m3 | exact Ne.symm m4 | exact Ne.symm m5 | exact Ne.symm m6)).other _ _ (by first | exact m1 | exact m2 | exact m3 | exact m4 | exact m5 | exact m6 | exact Ne.symm m1 | exact Ne.symm m2 | exact Ne.symm m3 | exact Ne.symm m4 | exact Ne.symm m5 | exact Ne.symm m6)).other _ _ (by first | exact m1 | exact m2 | exact m3 | exact m4 | exact m5 | exact m6 | exact Ne.symm m1 | exact Ne.symm m2 | exact Ne.symm m3 | exact Ne.symm m4 | exact Ne.symm m5 | exact Ne.symm m6)).set 0 _).set 1 _).set 2 _).set 3 _).set 4 _, ((((((((((((((((((((B).setCell (by first | exact L1 | exact L2 | exact L3 | exact L4) _).setCell (by first | exact L1 | exact L2 | exact L3 | exact L4) _).setCell (by first | exact L1 | exact L2 | exact L3 | exact L4) _).setCell (by first | exact L1 | exact L2 | exact L3 | exact L4) _).setCell (by first | exact L1 | exact L2 | exact L3 | exact L4) _).setCell (by first | exact L1 | exact L2 | exact L3 | exact L4) _).setCell (by first | exact L1 | exact L2 | exact L3 | exact L4) _).setCell (by first | exact L1 | exact L2 | exact L3 | exact L4) _).setCell (by first | exact L1 | exact L2 | exact L3 | exact L4) _).setCell (by first | exact L1 | exact L2 | exact L3 | exact L4) _).setCell (by first | exact L1 | exact L2 | exact L3 | exact L4) _).setCell (by first | exact L1 | exact L2 | exact L3 | exact L4) _).setCell (by first | exact L1 | exact L2 | exact L3 | exact L4) _).setCell (by first | exact L1 | exact L2 | exact L3 | exact L4) _).setCell (by first | exact L1 | exact L2 | exact L3 | exact L4) _).setCell (by first | exact L1 | exact L2 | exact L3 | exact L4) _).setCell (by first | exact L1 | exact L2 | exact L3 | exact L4) _).setCell (by first | exact L1 | exact L2 | exact L3 | exact L4) _).setCell (by first | exact L1 | exact L2 | exact L3 | exact L4) _).setCell (by first | exact L1 | exact L2 | exact L3 | exact L4) _⟩ (fun wf hwf => ?_)
          clear c0' c1' c2' c3' c4' c5' d0' d1' d2 d3 d4 d5 g0 g1 g2 g3 g4 g5 j0 j1 j2 j3 j4 j5 m1 m2 m3 m4 m5 m6 l1 l2 l3 l4 H1 H2 H3 H4 B
          obtain ⟨H1, H2, H3, H4, B⟩ := hwf
          obtain ⟨c0', c1', c2', c3', c4', c5'⟩ := fiveE H1; obtain ⟨d0', d1', d2, d3, d4, d5⟩ := fiveE H2; obtain ⟨g0, g1, g2, g3, g4, g5⟩ := fiveE H3; obtain ⟨j0, j1, j2, j3, j4, j5⟩ := fiveE H4
          go_wp2_with fail
          go_roundw
          case rel => exact ⟨k + 1, n, (p - n), false, true, false, false, false, true, by omega, by go_num, rfl, by first | rfl | go_num, by omega, by push_cast; omega, by simp <;> omega, by omega, by omega, H1, H2, H3, H4, B⟩
          case measure => simp [intOf]; omega
      · by_cases hge : p ≤ n + 1
        ·
          have hd1 : decide (p ≤ n + 1) = true := by simpa using hge
          have hd2 : max (p - (n + 1)) 0 = 0 := by omega
          have EU : Bk.ctu ⟨4, qu, false, false, n⟩ true (Bk.clip p 32767) = ⟨4, true, true, false, (n + 1)⟩ := by rw [P.out]; simp [Bk.ctu] <;> omega
          have ED : Bk.ctd ⟨5, qd, false, on, cd⟩ true (Bk.clip p 32767) = ⟨5, true, true, true, 0⟩ := by have h := HCD.out; rw [P.out]; simp [Bk.ctd, h] <;> omega
          have ER : Bk.rt ⟨6, qr, false, false, 0⟩ true = ⟨6, true, true, false, 0⟩ := by simp [Bk.rt]
          have EF : Bk.ft ⟨7, qf, false, false, 0⟩ true = ⟨7, false, true, false, 0⟩ := by simp [Bk.ft]
          replace EU := Aid.hid EU; replace ED := Aid.hid ED; replace ER := Aid.hid ER; replace EF := Aid.hid EF
          refine Ord.wp_region_walk (fun w' => Aid.Has w' b1 [.int .i64 4, .bool qu, .bool false, .bool false, .int .i64 n] 26 ∧ Aid.Has w' b2 [.int .i64 5, .bool qd, .bool false, .bool on, .int .i64 cd] 26 ∧ Aid.Has w' b3 [.int .i64 6, .bool qr, .bool false, .bool false, .int .i64 0] 26 ∧ Aid.Has w' b4 [.int .i64 7, .bool qf, .bool false, .bool false, .int .i64 0] 26 ∧ Below w.heap.size w w') 20 [(true, 0), (true, 1), (true, 2), (true, 3), (true, 5), (true, 6), (true, 7), (true, 8), (true, 10), (true, 11), (true, 12), (true, 13), (true, 15), (true, 16), (true, 17), (true, 18), (false, 4), (false, 9), (false, 14), (false, 19)] (by kernel_rfl) (by kernel_rfl) (fun _ _ d _ _ h => by cases d <;> exact h) (⟨H1, H2, H3, H4, B⟩) ?_
          generalize wr.drew = wd at *
          apply Ord.walk_light
          next => (simp only [List.getElem?_toArray, List.getElem?_cons_zero]; rfl)
          next => rfl
          next => (intro w hSw; obtain ⟨g1, g2, g3, g4, g5⟩ := hSw; obtain ⟨k0, k1, k2, k3, k4, k5⟩ := fiveE g1; go_simp; first | done | with_reducible rfl)
          simp only [Act.put, List.setIfInBounds_toArray, List.set_cons_zero, List.set_cons_succ]
          apply Ord.walk_light
          next => (simp only [List.getElem?_toArray, List.getElem?_cons_succ, List.getElem?_cons_zero]; rfl)
          next => rfl
          next => (intro w hSw; clear hSw; go_simp; first | done | with_reducible rfl)
          simp only [Act.put, List.setIfInBounds_toArray, List.set_cons_zero, List.set_cons_succ]
          apply Ord.walk_light
          next => (simp only [List.getElem?_toArray, List.getElem?_cons_succ, List.getElem?_cons_zero]; rfl)
          next => rfl
          next => (intro w hSw; clear hSw; go_simp; first | done | with_reducible rfl)
          simp only [Act.put, List.setIfInBounds_toArray, List.set_cons_zero, List.set_cons_succ]
          apply Ord.walk_light
          next => (simp only [List.getElem?_toArray, List.getElem?_cons_succ, List.getElem?_cons_zero]; rfl)
          next => rfl
          next => (intro w hSw; clear hSw; go_simp; first | done | with_reducible rfl)
          simp only [Act.put, List.setIfInBounds_toArray, List.set_cons_zero, List.set_cons_succ]
          apply Ord.walk_light
          next => (simp only [List.getElem?_toArray, List.getElem?_cons_succ, List.getElem?_cons_zero]; rfl)
          next => rfl
          next => (intro w hSw; obtain ⟨g1, g2, g3, g4, g5⟩ := hSw; obtain ⟨k0, k1, k2, k3, k4, k5⟩ := fiveE g2; go_simp; first | done | with_reducible rfl)
          simp only [Act.put, List.setIfInBounds_toArray, List.set_cons_zero, List.set_cons_succ]
          apply Ord.walk_light
          next => (simp only [List.getElem?_toArray, List.getElem?_cons_succ, List.getElem?_cons_zero]; rfl)
          next => rfl
          next => (intro w hSw; clear hSw; go_simp; first | done | with_reducible rfl)
          simp only [Act.put, List.setIfInBounds_toArray, List.set_cons_zero, List.set_cons_succ]
          apply Ord.walk_light
          next => (simp only [List.getElem?_toArray, List.getElem?_cons_succ, List.getElem?_cons_zero]; rfl)
          next => rfl
          next => (intro w hSw; clear hSw; go_simp; first | done | with_reducible rfl)
          simp only [Act.put, List.setIfInBounds_toArray, List.set_cons_zero, List.set_cons_succ]
          apply Ord.walk_light
          next => (simp only [List.getElem?_toArray, List.getElem?_cons_succ, List.getElem?_cons_zero]; rfl)
          next => rfl
          next => (intro w hSw; clear hSw; go_simp; first | done | with_reducible rfl)
          simp only [Act.put, List.setIfInBounds_toArray, List.set_cons_zero, List.set_cons_succ]
          apply Ord.walk_light
          next => (simp only [List.getElem?_toArray, List.getElem?_cons_succ, List.getElem?_cons_zero]; rfl)
          next => rfl
          next => (intro w hSw; obtain ⟨g1, g2, g3, g4, g5⟩ := hSw; obtain ⟨k0, k1, k2, k3, k4, k5⟩ := fiveE g3; go_simp; first | done | with_reducible rfl)
          simp only [Act.put, List.setIfInBounds_toArray, List.set_cons_zero, List.set_cons_succ]
          apply Ord.walk_light
          next => (simp only [List.getElem?_toArray, List.getElem?_cons_succ, List.getElem?_cons_zero]; rfl)
          next => rfl
          next => (intro w hSw; clear hSw; go_simp; first | done | with_reducible rfl)
          simp only [Act.put, List.setIfInBounds_toArray, List.set_cons_zero, List.set_cons_succ]
          apply Ord.walk_light
          next => (simp only [List.getElem?_toArray, List.getElem?_cons_succ, List.getElem?_cons_zero]; rfl)
          next => rfl
          next => (intro w hSw; clear hSw; go_simp; first | done | with_reducible rfl)
          simp only [Act.put, List.setIfInBounds_toArray, List.set_cons_zero, List.set_cons_succ]
          apply Ord.walk_light
          next => (simp only [List.getElem?_toArray, List.getElem?_cons_succ, List.getElem?_cons_zero]; rfl)
          next => rfl
          next => (intro w hSw; clear hSw; go_simp; first | done | with_reducible rfl)
          simp only [Act.put, List.setIfInBounds_toArray, List.set_cons_zero, List.set_cons_succ]
          apply Ord.walk_light
          next => (simp only [List.getElem?_toArray, List.getElem?_cons_succ, List.getElem?_cons_zero]; rfl)
          next => rfl
          next => (intro w hSw; obtain ⟨g1, g2, g3, g4, g5⟩ := hSw; obtain ⟨k0, k1, k2, k3, k4, k5⟩ := fiveE g4; go_simp; first | done | with_reducible rfl)
          simp only [Act.put, List.setIfInBounds_toArray, List.set_cons_zero, List.set_cons_succ]
          apply Ord.walk_light
          next => (simp only [List.getElem?_toArray, List.getElem?_cons_succ, List.getElem?_cons_zero]; rfl)
          next => rfl
          next => (intro w hSw; clear hSw; go_simp; first | done | with_reducible rfl)
          simp only [Act.put, List.setIfInBounds_toArray, List.set_cons_zero, List.set_cons_succ]
          apply Ord.walk_light
          next => (simp only [List.getElem?_toArray, List.getElem?_cons_succ, List.getElem?_cons_zero]; rfl)
          next => rfl
          next => (intro w hSw; clear hSw; go_simp; first | done | with_reducible rfl)
          simp only [Act.put, List.setIfInBounds_toArray, List.set_cons_zero, List.set_cons_succ]
          apply Ord.walk_light
          next => (simp only [List.getElem?_toArray, List.getElem?_cons_succ, List.getElem?_cons_zero]; rfl)
          next => rfl
          next => (intro w hSw; clear hSw; go_simp; first | done | with_reducible rfl)
          simp only [Act.put, List.setIfInBounds_toArray, List.set_cons_zero, List.set_cons_succ]
          apply Ord.walk_heavy
          next => (simp only [List.getElem?_toArray, List.getElem?_cons_succ, List.getElem?_cons_zero]; rfl)
          next => rfl
          intro K hK
          go_wp2_with fail
          refine (ctu_to qu false false true true true false n p k (n + 1) _ EU.out (by omega) (by omega)).mono ?_; rintro e w' ⟨rfl, hb⟩; dsimp only
          refine hK.out _ _ ⟨H1.below hb H1.lt, H2.below hb H2.lt, H3.below hb H3.lt, H4.below hb H4.lt, B.trans (hb.mono B.size)⟩ (fun hHeld => ?_)
          clear H1 H2 H3 H4 B hb
          obtain ⟨H1, H2, H3, H4, B⟩ := hHeld
          clear hK K
          try simp only [Act.put, List.setIfInBounds_toArray, List.set_cons_zero, List.set_cons_succ]
          apply Ord.walk_heavy
          next => (simp only [List.getElem?_toArray, List.getElem?_cons_succ, List.getElem?_cons_zero]; rfl)
          next => rfl
          intro K hK
          go_wp2_with fail
          refine (ctd_to qd false on true true true true cd p k 0 _ ED.out (by omega) (by omega)).mono ?_; rintro e w' ⟨rfl, hb⟩; dsimp only
          refine hK.out _ _ ⟨H1.below hb H1.lt, H2.below hb H2.lt, H3.below hb H3.lt, H4.below hb H4.lt, B.trans (hb.mono B.size)⟩ (fun hHeld => ?_)
          clear H1 H2 H3 H4 B hb
          obtain ⟨H1, H2, H3, H4, B⟩ := hHeld
          clear hK K
          try simp only [Act.put, List.setIfInBounds_toArray, List.set_cons_zero, List.set_cons_succ]
          apply Ord.walk_heavy
          next => (simp only [List.getElem?_toArray, List.getElem?_cons_succ, List.getElem?_cons_zero]; rfl)
          next => rfl
          intro K hK
          go_wp2_with fail
          refine (rt_to qr false false true true true false 0 p k 0 _ ER.out (by omega) (by omega)).mono ?_; rintro e w' ⟨rfl, hb⟩; dsimp only
          refine hK.out _ _ ⟨H1.below hb H1.lt, H2.below hb H2.lt, H3.below hb H3.lt, H4.below hb H4.lt, B.trans (hb.mono B.size)⟩ (fun hHeld => ?_)
          clear H1 H2 H3 H4 B hb
          obtain ⟨H1, H2, H3, H4, B⟩ := hHeld
          clear hK K
          try simp only [Act.put, List.setIfInBounds_toArray, List.set_cons_zero, List.set_cons_succ]
          apply Ord.walk_heavy
          next => (simp only [List.getElem?_toArray, List.getElem?_cons_succ, List.getElem?_cons_zero]; rfl)
          next => rfl
          intro K hK
          go_wp2_with fail
          refine (ft_to qf false false true false true false 0 p k 0 _ EF.out (by omega) (by omega)).mono ?_; rintro e w' ⟨rfl, hb⟩; dsimp only
          refine hK.out _ _ ⟨H1.below hb H1.lt, H2.below hb H2.lt, H3.below hb H3.lt, H4.below hb H4.lt, B.trans (hb.mono B.size)⟩ (fun hHeld => ?_)
          clear H1 H2 H3 H4 B hb
          obtain ⟨H1, H2, H3, H4, B⟩ := hHeld
          clear hK K
          try simp only [Act.put, List.setIfInBounds_toArray, List.set_cons_zero, List.set_cons_succ]
          refine Ord.walk_tail ?_; simp only [List.drop_succ_cons, List.drop_zero]
          obtain ⟨c0', c1', c2', c3', c4', c5'⟩ := fiveE H1; obtain ⟨d0', d1', d2, d3, d4, d5⟩ := fiveE H2; obtain ⟨g0, g1, g2, g3, g4, g5⟩ := fiveE H3; obtain ⟨j0, j1, j2, j3, j4, j5⟩ := fiveE H4
          obtain ⟨⟨m1, m2, m3, m4, m5, m6⟩, L1, L2, L3, L4⟩ := NE.out
          have l1 := H1.lt; have l2 := H2.lt; have l3 := H3.lt; have l4 := H4.lt
          go_upto_region 12 with (fail)
          refine Aid.wp_abs (fun w' => Aid.Has w' b1 [.int .i64 4, .bool true, .bool true, .bool false, .int .i64 (n + 1)] 26 ∧ Aid.Has w' b2 [.int .i64 5, .bool true, .bool true, .bool true, .int .i64 0] 26 ∧ Aid.Has w' b3 [.int .i64 6, .bool true, .bool true, .bool false, .int .i64 0] 26 ∧ Aid.Has w' b4 [.int .i64 7, .bool false, .bool true, .bool false, .int .i64 0] 26 ∧ Below w.heap.size w w') ⟨((((((((((((((((((((H1).set 0 _).set 1 _).set 2 _).set 3 _).set 4 _).other _ _ (by first | exact m1 | exact m2 | exact m3 | exact m4 | exact m5 | exact m6 | exact Ne.symm m1 | exact Ne.symm m2 | exact Ne.symm m3 | exact Ne.symm m4 | exact Ne.symm m5 | exact Ne.symm m6)).other _ _ (by first | exact m1 | exact m2 | exact m3 | exact m4 | exact m5 | exact m6 | exact Ne.symm m1 | exact Ne.symm m2 | exact Ne.symm m3 | exact Ne.symm m4 | exact Ne.symm m5 | exact Ne.symm m6)).other _ _ (by first | exact m1 | exact m2 | exact m3 | exact m4 | exact m5 | exact m6 | exact Ne.symm m1 | exact Ne.symm m2 | exact Ne.symm m3 | exact Ne.symm m4 | exact Ne.symm m5 | exact Ne.symm m6)).other _ _ (by first | exact m1 | exact m2 | exact m3 | exact m4 | exact m5 | exact m6 | exact Ne.symm m1 | exact Ne.symm m2 | exact Ne.symm m3 | exact Ne.symm m4 | exact Ne.symm m5 | exact Ne.symm m6)).other _ _ (by first | exact m1 | exact m2 | exact m3 | exact m4 | exact m5 | exact m6 | exact Ne.symm m1 | exact Ne.symm m2 | exact Ne.symm m3 | exact Ne.symm m4 | exact Ne.symm m5 | exact Ne.symm m6)).other _ _ (by first | exact m1 | exact m2 | exact m3 | exact m4 | exact m5 | exact m6 | exact Ne.symm m1 | exact Ne.symm m2 | exact Ne.symm m3 | exact Ne.symm m4 | exact Ne.symm m5 | exact Ne.symm m6)).other _ _ (by first | exact m1 | exact m2 | exact m3 | exact m4 | exact m5 | exact m6 | exact Ne.symm m1 | exact Ne.symm m2 | exact Ne.symm m3 | exact Ne.symm m4 | exact Ne.symm m5 | exact Ne.symm m6)).other _ _ (by first | exact m1 | exact m2 | exact m3 | exact m4 | exact m5 | exact m6 | exact Ne.symm m1 | exact Ne.symm m2 | exact Ne.symm m3 | exact Ne.symm m4 | exact Ne.symm m5 | exact Ne.symm m6)).other _ _ (by first | exact m1 | exact m2 | exact m3 | exact m4 | exact m5 | exact m6 | exact Ne.symm m1 | exact Ne.symm m2 | exact Ne.symm m3 | exact Ne.symm m4 | exact Ne.symm m5 | exact Ne.symm m6)).other _ _ (by first | exact m1 | exact m2 | exact m3 | exact m4 | exact m5 | exact m6 | exact Ne.symm m1 | exact Ne.symm m2 | exact Ne.symm m3 | exact Ne.symm m4 | exact Ne.symm m5 | exact Ne.symm m6)).other _ _ (by first | exact m1 | exact m2 | exact m3 | exact m4 | exact m5 | exact m6 | exact Ne.symm m1 | exact Ne.symm m2 | exact Ne.symm m3 | exact Ne.symm m4 | exact Ne.symm m5 | exact Ne.symm m6)).other _ _ (by first | exact m1 | exact m2 | exact m3 | exact m4 | exact m5 | exact m6 | exact Ne.symm m1 | exact Ne.symm m2 | exact Ne.symm m3 | exact Ne.symm m4 | exact Ne.symm m5 | exact Ne.symm m6)).other _ _ (by first | exact m1 | exact m2 | exact m3 | exact m4 | exact m5 | exact m6 | exact Ne.symm m1 | exact Ne.symm m2 | exact Ne.symm m3 | exact Ne.symm m4 | exact Ne.symm m5 | exact Ne.symm m6)).other _ _ (by first | exact m1 | exact m2 | exact m3 | exact m4 | exact m5 | exact m6 | exact Ne.symm m1 | exact Ne.symm m2 | exact Ne.symm m3 | exact Ne.symm m4 | exact Ne.symm m5 | exact Ne.symm m6)).other _ _ (by first | exact m1 | exact m2 | exact m3 | exact m4 | exact m5 | exact m6 | exact Ne.symm m1 | exact Ne.symm m2 | exact Ne.symm m3 | exact Ne.symm m4 | exact Ne.symm m5 | exact Ne.symm m6), ((((((((((((((((((((H2).other _ _ (by first | exact m1 | exact m2 | exact m3 | exact m4 | exact m5 | exact m6 | exact Ne.symm m1 | exact Ne.symm m2 | exact Ne.symm m3 | exact Ne.symm m4 | exact Ne.symm m5 | exact Ne.symm m6)).other _ _ (by first | exact m1 | exact m2 | exact m3 | exact m4 | exact m5 | exact m6 | exact Ne.symm m1 | exact Ne.symm m2 | exact Ne.symm m3 | exact Ne.symm m4 | exact Ne.symm m5 | exact Ne.symm m6)).other _ _ (by first | exact m1 | exact m2 | exact m3 | exact m4 | exact m5 | exact m6 | exact Ne.symm m1 | exact Ne.symm m2 | exact Ne.symm m3 | exact Ne.symm m4 | exact Ne.symm m5 | exact Ne.symm m6)).other _ _ (by first | exact m1 | exact m2 | exact m3 | exact m4 | exact m5 | exact m6 | exact Ne.symm m1 | exact Ne.symm m2 | exact Ne.symm m3 | exact Ne.symm m4 | exact Ne.symm m5 | exact Ne.symm m6)).other _ _ (by first | exact m1 | exact m2 | exact m3 | exact m4 | exact m5 | exact m6 | exact Ne.symm m1 | exact Ne.symm m2 | exact Ne.symm m3 | exact Ne.symm m4 | exact Ne.symm m5 | exact Ne.symm m6)).set 0 _).set 1 _).set 2 _).set 3 _).set 4 _).other _ _ (by first | exact m1 | exact m2 | exact m3 | exact m4 | exact m5 | exact m6 | exact Ne.symm m1 | exact Ne.symm m2 | exact Ne.symm m3 | exact Ne.symm m4 | exact Ne.symm m5 | exact Ne.symm m6)).other _ _ (by first | exact m1 | exact m2 | exact m3 | exact m4 | exact m5 | exact m6 | exact Ne.symm m1 | exact Ne.symm m2 | exact Ne.symm m3 | exact Ne.symm m4 | exact Ne.symm m5 | exact Ne.symm m6)).other _ _ (by first | exact m1 | exact m2 | exact m3 | exact m4 | exact m5 | exact m6 | exact Ne.symm m1 | exact Ne.symm m2 | exact Ne.symm m3 | exact Ne.symm m4 | exact Ne.symm m5 | exact Ne.symm m6)).other _ _ (by first | exact m1 | exact m2 | exact m3 | exact m4 | exact m5 | exact m6 | exact Ne.symm m1 | exact Ne.symm m2 | exact Ne.symm m3 | exact Ne.symm m4 | exact Ne.symm m5 | exact Ne.symm m6)).other _ _ (by first | exact m1 | exact m2 | exact m3 | exact m4 | exact m5 | exact m6 | exact Ne.symm m1 | exact Ne.symm m2 | exact Ne.symm m3 | exact Ne.symm m4 | exact Ne.symm m5 | exact Ne.symm m6)).other _ _ (by first | exact m1 | exact m2 | exact m3 | exact m4 | exact m5 | exact m6 | exact Ne.symm m1 | exact Ne.symm m2 | exact Ne.symm m3 | exact Ne.symm m4 | exact Ne.symm m5 | exact Ne.symm m6)).other _ _ (by first | exact m1 | exact m2 | exact m3 | exact m4 | exact m5 | exact m6 | exact Ne.symm m1 | exact Ne.symm m2 | exact Ne.symm m3 | exact Ne.symm m4 | exact Ne.symm m5 | exact Ne.symm m6)).other _ _ (by first | exact m1 | exact m2 | exact m3 | exact m4 | exact m5 | exact m6 | exact Ne.symm m1 | exact Ne.symm m2 | exact Ne.symm m3 | exact Ne.symm m4 | exact Ne.symm m5 | exact Ne.symm m6)).other _ _ (by first | exact m1 | exact m2 | exact m3 | exact m4 | exact m5 | exact m6 | exact Ne.symm m1 | exact Ne.symm m2 | exact Ne.symm m3 | exact Ne.symm m4 | exact Ne.symm m5 | exact Ne.symm m6)).other _ _ (by first | exact m1 | exact m2 | exact m3 | exact m4 | exact m5 | exact m6 | exact Ne.symm m1 | exact Ne.symm m2 | exact Ne.symm m3 | exact Ne.symm m4 | exact Ne.symm m5 | exact Ne.symm m6), ((((((((((((((((((((H3).other _ _ (by first | exact m1 | exact m2 | exact m3 | exact m4 | exact m5 | exact m6 | exact Ne.symm m1 | exact Ne.symm m2 | exact Ne.symm m3 | exact Ne.symm m4 | exact Ne.symm m5 | exact Ne.symm m6)).other _ _ (by first | exact m1 | exact m2 | exact m3 | exact m4 | exact m5 | exact m6 | exact Ne.symm m1 | exact Ne.symm m2 | exact Ne.symm m3 | exact Ne.symm m4 | exact Ne.symm m5 | exact Ne.symm m6)).other _ _ (by first | exact m1 | exact m2 | exact m3 | exact m4 | exact m5 | exact m6 | exact Ne.symm m1 | exact Ne.symm m2 | exact Ne.symm m3 | exact Ne.symm m4 | exact Ne.symm m5 | exact Ne.symm m6)).other _ _ (by first | exact m1 | exact m2 | exact m3 | exact m4 | exact m5 | exact m6 | exact Ne.symm m1 | exact Ne.symm m2 | exact Ne.symm m3 | exact Ne.symm m4 | exact Ne.symm m5 | exact Ne.symm m6)).other _ _ (by first | exact m1 | exact m2 | exact m3 | exact m4 | exact m5 | exact m6 | exact Ne.symm m1 | exact Ne.symm m2 | exact Ne.symm m3 | exact Ne.symm m4 | exact Ne.symm m5 | exact Ne.symm m6)).other _ _ (by first | exact m1 | exact m2 | exact m3 | exact m4 | exact m5 | exact m6 | exact Ne.symm m1 | exact Ne.symm m2 | exact Ne.symm m3 | exact Ne.symm m4 | exact Ne.symm m5 | exact Ne.symm m6)).other _ _ (by first | exact m1 | exact m2 | exact m3 | exact m4 | exact m5 | exact m6 | exact Ne.symm m1 | exact Ne.symm m2 | exact Ne.symm m3 | exact Ne.symm m4 | exact Ne.symm m5 | exact Ne.symm m6)).other _ _ (by first | exact m1 | exact m2 | exact m3 | exact m4 | exact m5 | exact m6 | exact Ne.symm m1 | exact Ne.symm m2 | exact Ne.symm m3 | exact Ne.symm m4 | exact Ne.symm m5 | exact Ne.symm m6)).other _ _ (by first | exact m1 | exact m2 | exact m3 | exact m4 | exact m5 | exact m6 | exact Ne.symm m1 | exact Ne.symm m2 | exact Ne.symm m3 | exact Ne.symm m4 | exact Ne.symm m5 | exact Ne.symm m6)).other _ _ (by first | exact m1 | exact m2 | exact m3 | exact m4 | exact m5 | exact m6 | exact Ne.symm m1 | exact Ne.symm m2 | exact Ne.symm m3 | exact Ne.symm m4 | exact Ne.symm m5 | exact Ne.symm m6)).set 0 _).set 1 _).set 2 _).set 3 _).set 4 _).other _ _ (by first | exact m1 | exact m2 | exact m3 | exact m4 | exact m5 | exact m6 | exact Ne.symm m1 | exact Ne.symm m2 | exact Ne.symm m3 | exact Ne.symm m4 | exact Ne.symm m5 | exact Ne.symm m6)).other _ _ (by first | exact m1 | exact m2 | exact m3 | exact m4 | exact m5 | exact m6 | exact Ne.symm m1 | exact Ne.symm m2 | exact Ne.symm m3 | exact Ne.symm m4 | exact Ne.symm m5 | exact Ne.symm m6)).other _ _ (by first | exact m1 | exact m2 | exact m3 | exact m4 | exact m5 | exact m6 | exact Ne.symm m1 | exact Ne.symm m2 | exact Ne.symm m3 | exact Ne.symm m4 | exact Ne.symm m5 | exact Ne.symm m6)).other _ _ (by first | exact m1 | exact m2 | exact m3 | exact m4 | exact m5 | exact m6 | exact Ne.symm m1 | exact Ne.symm m2 | exact Ne.symm m3 | exact Ne.symm m4 | exact Ne.symm m5 | exact Ne.symm m6)).other _ _ (by first | exact m1 | exact m2 | exact m3 | exact m4 | exact m5 | exact m6 | exact Ne.symm m1 | exact Ne.symm m2 | exact Ne.symm m3 | exact Ne.symm m4 | exact Ne.symm m5 | exact Ne.symm m6), ((((((((((((((((((((H4).other _ _ (by first | exact m1 | exact m2 | exact m3 | exact m4 | exact m5 | exact m6 | exact Ne.symm m1 | exact Ne.symm m2 | exact Ne.symm m3 | exact Ne.symm m4 | exact Ne.symm m5 | exact Ne.symm m6)).other _ _ (by first | exact m1 | exact m2 | exact m3 | exact m4 | exact m5 | exact m6 | exact Ne.symm m1 | exact Ne.symm m2 | exact Ne.symm m3 | exact Ne.symm m4 | exact Ne.symm m5 | exact Ne.symm m6)).other _ _ (by first | exact m1 | exact m2 | exact m3 | exact m4 | exact m5 | exact m6 | exact Ne.symm m1 | exact Ne.symm m2 | exact Ne.symm m3 | exact Ne.symm m4 | exact Ne.symm m5 | exact Ne.symm m6)).other _ _ (by first | exact m1 | exact m2 | exact m3 | exact m4 | exact m5 | exact m6 | exact Ne.symm m1 | exact Ne.symm m2 | exact Ne.symm m3 | exact Ne.symm m4 | exact Ne.symm m5 | exact Ne.symm m6)).other _ _ (by first | exact m1 | exact m2 | exact m3 | exact m4 | exact m5 | exact m6 | exact Ne.symm m1 | exact Ne.symm m2 | exact Ne.symm m3 | exact Ne.symm m4 | exact Ne.symm m5 | exact Ne.symm m6)).other _ _ (by first | exact m1 | exact m2 | exact m3 | exact m4 | exact m5 | exact m6 | exact Ne.symm m1 | exact Ne.symm m2 | exact Ne.symm m3 | exact Ne.symm m4 | exact Ne.symm m5 | exact Ne.symm m6)).other _ _ (by first | exact m1 | exact m2 | exact m3 | exact m4 | exact m5 | exact m6 | exact Ne.symm m1 | exact Ne.symm m2 | exact Ne.symm m3 | exact Ne.symm m4 | exact Ne.symm m5 | exact Ne.symm m6)).other _ _ (by first | exact m1 | exact m2 | exact m3 | exact m4 | exact m5 | exact m6 | exact Ne.symm m1 | exact Ne.symm m2 | exact Ne.symm m3 | exact Ne.symm m4 | exact Ne.symm m5 | exact Ne.symm m6)).other _ _ (by first | exact m1 | exact m2 | exact m3 | exact m4 | exact m5 | exact m6 | exact Ne.symm m1 | exact Ne.symm m2 | exact Ne.symm m3 | exact Ne.symm m4 | exact Ne.symm m5 | exact Ne.symm m6)).other _ _ (by first | exact m1 | exact m2 | exact m3 | exact m4 | exact m5 | exact m6 | exact Ne.symm m1 | exact Ne.symm m2 | exact Ne.symm m3 | exact Ne.symm m4 | exact Ne.symm m5 | exact Ne.symm m6)).other _ _ (by first | exact m1 | exact m2 | exact m3 | exact m4 | exact m5 | exact m6 | exact Ne.symm m1 | exact Ne.symm m2 | exact Ne.symm m3 | exact Ne.symm m4 | exact Ne.symm m5 | exact Ne.symm m6)).other _ _ (by first | exact m1 | exact m2 | exact m3 | exact m4 | exact m5 | exact m6 | exact Ne.symm m1 | exact Ne.symm m2 | exact Ne.symm m3 | exact Ne.symm m4 | exact Ne.symm m5 | exact Ne.symm m6)).other _ _ (by first | exact m1 | exact m2 | exact m3 | exact m4 | exact m5 | exact m6 | exact Ne.symm m1 | exact Ne.symm m2 | exact Ne.symm m3 | exact Ne.symm m4 | exact Ne.symm m5 | exact Ne.symm m6)).other _ _ (by first | exact m1 | exact m2 | exact m3 | exact m4 | exact m5 | exact m6 | exact Ne.symm m1 | exact Ne.symm m2 | exact Ne.symm m3 | exact Ne.symm m4 | exact Ne.symm m5 | exact Ne.symm m6)).other _ _ (by first | exact m1 | exact m2 | exact m3 | exact m4 | exact m5 | exact m6 | exact Ne.symm m1 | exact Ne.symm m2 | exact Ne.symm m3 | exact Ne.symm m4 | exact Ne.symm m5 | exact Ne.symm m6)).set 0 _).set 1 _).set 2 _).set 3 _).set 4 _, ((((((((((((((((((((B).setCell (by first | exact L1 | exact L2 | exact L3 | exact L4) _).setCell (by first | exact L1 | exact L2 | exact L3 | exact L4) _).setCell (by first | exact L1 | exact L2 | exact L3 | exact L4) _).setCell (by first | exact L1 | exact L2 | exact L3 | exact L4) _).setCell (by first | exact L1 | exact L2 | exact L3 | exact L4) _).setCell (by first | exact L1 | exact L2 | exact L3 | exact L4) _).setCell (by first | exact L1 | exact L2 | exact L3 | exact L4) _).setCell (by first | exact L1 | exact L2 | exact L3 | exact L4) _).setCell (by first | exact L1 | exact L2 | exact L3 | exact L4) _).setCell (by first | exact L1 | exact L2 | exact L3 | exact L4) _).setCell (by first | exact L1 | exact L2 | exact L3 | exact L4) _).setCell (by first | exact L1 | exact L2 | exact L3 | exact L4) _).setCell (by first | exact L1 | exact L2 | exact L3 | exact L4) _).setCell (by first | exact L1 | exact L2 | exact L3 | exact L4) _).setCell (by first | exact L1 | exact L2 | exact L3 | exact L4) _).setCell (by first | exact L1 | exact L2 | exact L3 | exact L4) _).setCell (by first | exact L1 | exact L2 | exact L3 | exact L4) _).setCell (by first | exact L1 | exact L2 | exact L3 | exact L4) _).setCell (by first | exact L1 | exact L2 | exact L3 | exact L4) _).setCell (by first | exact L1 | exact L2 | exact L3 | exact L4) _⟩ (fun wf hwf => ?_)
          clear c0' c1' c2' c3' c4' c5' d0' d1' d2 d3 d4 d5 g0 g1 g2 g3 g4 g5 j0 j1 j2 j3 j4 j5 m1 m2 m3 m4 m5 m6 l1 l2 l3 l4 H1 H2 H3 H4 B
          obtain ⟨H1, H2, H3, H4, B⟩ := hwf
          obtain ⟨c0', c1', c2', c3', c4', c5'⟩ := fiveE H1; obtain ⟨d0', d1', d2, d3, d4, d5⟩ := fiveE H2; obtain ⟨g0, g1, g2, g3, g4, g5⟩ := fiveE H3; obtain ⟨j0, j1, j2, j3, j4, j5⟩ := fiveE H4
          go_wp2_with fail
          go_roundw
          case rel => exact ⟨k + 1, (n + 1), 0, true, true, true, true, true, false, by omega, by go_num, rfl, by first | rfl | go_num, by omega, by push_cast; omega, by simp <;> omega, by omega, by omega, H1, H2, H3, H4, B⟩
          case measure => simp [intOf]; omega
        ·
          have hd1 : decide (p ≤ n + 1) = false := by simpa using hge
          have hd2 : max (p - (n + 1)) 0 = p - (n + 1) := by omega
          have EU : Bk.ctu ⟨4, qu, false, false, n⟩ true (Bk.clip p 32767) = ⟨4, false, true, false, (n + 1)⟩ := by rw [P.out]; simp [Bk.ctu] <;> omega
          have ED : Bk.ctd ⟨5, qd, false, on, cd⟩ true (Bk.clip p 32767) = ⟨5, false, true, true, (p - (n + 1))⟩ := by have h := HCD.out; rw [P.out]; simp [Bk.ctd, h] <;> omega
          have ER : Bk.rt ⟨6, qr, false, false, 0⟩ true = ⟨6, true, true, false, 0⟩ := by simp [Bk.rt]
          have EF : Bk.ft ⟨7, qf, false, false, 0⟩ true = ⟨7, false, true, false, 0⟩ := by simp [Bk.ft]
          replace EU := Aid.hid EU; replace ED := Aid.hid ED; replace ER := Aid.hid ER; replace EF := Aid.hid EF
          refine Ord.wp_region_walk (fun w' => Aid.Has w' b1 [.int .i64 4, .bool qu, .bool false, .bool false, .int .i64 n] 26 ∧ Aid.Has w' b2 [.int .i64 5, .bool qd, .bool false, .bool on, .int .i64 cd] 26 ∧ Aid.Has w' b3 [.int .i64 6, .bool qr, .bool false, .bool false, .int .i64 0] 26 ∧ Aid.Has w' b4 [.int .i64 7, .bool qf, .bool false, .bool false, .int .i64 0] 26 ∧ Below w.heap.size w w') 20 [(true, 0), (true, 1), (true, 2), (true, 3), (true, 5), (true, 6), (true, 7), (true, 8), (true, 10), (true, 11), (true, 12), (true, 13), (true, 15), (true, 16), (true, 17), (true, 18), (false, 4), (false, 9), (false, 14), (false, 19)] (by kernel_rfl) (by kernel_rfl) (fun _ _ d _ _ h => by cases d <;> exact h) (⟨H1, H2, H3, H4, B⟩) ?_
          generalize wr.drew = wd at *
          apply Ord.walk_light
          next => (simp only [List.getElem?_toArray, List.getElem?_cons_zero]; rfl)
          next => rfl
          next => (intro w hSw; obtain ⟨g1, g2, g3, g4, g5⟩ := hSw; obtain ⟨k0, k1, k2, k3, k4, k5⟩ := fiveE g1; go_simp; first | done | with_reducible rfl)
          simp only [Act.put, List.setIfInBounds_toArray, List.set_cons_zero, List.set_cons_succ]
          apply Ord.walk_light
          next => (simp only [List.getElem?_toArray, List.getElem?_cons_succ, List.getElem?_cons_zero]; rfl)
          next => rfl
          next => (intro w hSw; clear hSw; go_simp; first | done | with_reducible rfl)
          simp only [Act.put, List.setIfInBounds_toArray, List.set_cons_zero, List.set_cons_succ]
          apply Ord.walk_light
          next => (simp only [List.getElem?_toArray, List.getElem?_cons_succ, List.getElem?_cons_zero]; rfl)
          next => rfl
          next => (intro w hSw; clear hSw; go_simp; first | done | with_reducible rfl)
          simp only [Act.put, List.setIfInBounds_toArray, List.set_cons_zero, List.set_cons_succ]
          apply Ord.walk_light
          next => (simp only [List.getElem?_toArray, List.getElem?_cons_succ, List.getElem?_cons_zero]; rfl)
          next => rfl
          next => (intro w hSw; clear hSw; go_simp; first | done | with_reducible rfl)
          simp only [Act.put, List.setIfInBounds_toArray, List.set_cons_zero, List.set_cons_succ]
          apply Ord.walk_light
          next => (simp only [List.getElem?_toArray, List.getElem?_cons_succ, List.getElem?_cons_zero]; rfl)
          next => rfl
          next => (intro w hSw; obtain ⟨g1, g2, g3, g4, g5⟩ := hSw; obtain ⟨k0, k1, k2, k3, k4, k5⟩ := fiveE g2; go_simp; first | done | with_reducible rfl)
          simp only [Act.put, List.setIfInBounds_toArray, List.set_cons_zero, List.set_cons_succ]
          apply Ord.walk_light
          next => (simp only [List.getElem?_toArray, List.getElem?_cons_succ, List.getElem?_cons_zero]; rfl)
          next => rfl
          next => (intro w hSw; clear hSw; go_simp; first | done | with_reducible rfl)
          simp only [Act.put, List.setIfInBounds_toArray, List.set_cons_zero, List.set_cons_succ]
          apply Ord.walk_light
          next => (simp only [List.getElem?_toArray, List.getElem?_cons_succ, List.getElem?_cons_zero]; rfl)
          next => rfl
          next => (intro w hSw; clear hSw; go_simp; first | done | with_reducible rfl)
          simp only [Act.put, List.setIfInBounds_toArray, List.set_cons_zero, List.set_cons_succ]
          apply Ord.walk_light
          next => (simp only [List.getElem?_toArray, List.getElem?_cons_succ, List.getElem?_cons_zero]; rfl)
          next => rfl
          next => (intro w hSw; clear hSw; go_simp; first | done | with_reducible rfl)
          simp only [Act.put, List.setIfInBounds_toArray, List.set_cons_zero, List.set_cons_succ]
          apply Ord.walk_light
          next => (simp only [List.getElem?_toArray, List.getElem?_cons_succ, List.getElem?_cons_zero]; rfl)
          next => rfl
          next => (intro w hSw; obtain ⟨g1, g2, g3, g4, g5⟩ := hSw; obtain ⟨k0, k1, k2, k3, k4, k5⟩ := fiveE g3; go_simp; first | done | with_reducible rfl)
          simp only [Act.put, List.setIfInBounds_toArray, List.set_cons_zero, List.set_cons_succ]
          apply Ord.walk_light
          next => (simp only [List.getElem?_toArray, List.getElem?_cons_succ, List.getElem?_cons_zero]; rfl)
          next => rfl
          next => (intro w hSw; clear hSw; go_simp; first | done | with_reducible rfl)
          simp only [Act.put, List.setIfInBounds_toArray, List.set_cons_zero, List.set_cons_succ]
          apply Ord.walk_light
          next => (simp only [List.getElem?_toArray, List.getElem?_cons_succ, List.getElem?_cons_zero]; rfl)
          next => rfl
          next => (intro w hSw; clear hSw; go_simp; first | done | with_reducible rfl)
          simp only [Act.put, List.setIfInBounds_toArray, List.set_cons_zero, List.set_cons_succ]
          apply Ord.walk_light
          next => (simp only [List.getElem?_toArray, List.getElem?_cons_succ, List.getElem?_cons_zero]; rfl)
          next => rfl
          next => (intro w hSw; clear hSw; go_simp; first | done | with_reducible rfl)
          simp only [Act.put, List.setIfInBounds_toArray, List.set_cons_zero, List.set_cons_succ]
          apply Ord.walk_light
          next => (simp only [List.getElem?_toArray, List.getElem?_cons_succ, List.getElem?_cons_zero]; rfl)
          next => rfl
          next => (intro w hSw; obtain ⟨g1, g2, g3, g4, g5⟩ := hSw; obtain ⟨k0, k1, k2, k3, k4, k5⟩ := fiveE g4; go_simp; first | done | with_reducible rfl)
          simp only [Act.put, List.setIfInBounds_toArray, List.set_cons_zero, List.set_cons_succ]
          apply Ord.walk_light
          next => (simp only [List.getElem?_toArray, List.getElem?_cons_succ, List.getElem?_cons_zero]; rfl)
          next => rfl
          next => (intro w hSw; clear hSw; go_simp; first | done | with_reducible rfl)
          simp only [Act.put, List.setIfInBounds_toArray, List.set_cons_zero, List.set_cons_succ]
          apply Ord.walk_light
          next => (simp only [List.getElem?_toArray, List.getElem?_cons_succ, List.getElem?_cons_zero]; rfl)
          next => rfl
          next => (intro w hSw; clear hSw; go_simp; first | done | with_reducible rfl)
          simp only [Act.put, List.setIfInBounds_toArray, List.set_cons_zero, List.set_cons_succ]
          apply Ord.walk_light
          next => (simp only [List.getElem?_toArray, List.getElem?_cons_succ, List.getElem?_cons_zero]; rfl)
          next => rfl
          next => (intro w hSw; clear hSw; go_simp; first | done | with_reducible rfl)
          simp only [Act.put, List.setIfInBounds_toArray, List.set_cons_zero, List.set_cons_succ]
          apply Ord.walk_heavy
          next => (simp only [List.getElem?_toArray, List.getElem?_cons_succ, List.getElem?_cons_zero]; rfl)
          next => rfl
          intro K hK
          go_wp2_with fail
          refine (ctu_to qu false false true false true false n p k (n + 1) _ EU.out (by omega) (by omega)).mono ?_; rintro e w' ⟨rfl, hb⟩; dsimp only
          refine hK.out _ _ ⟨H1.below hb H1.lt, H2.below hb H2.lt, H3.below hb H3.lt, H4.below hb H4.lt, B.trans (hb.mono B.size)⟩ (fun hHeld => ?_)
          clear H1 H2 H3 H4 B hb
          obtain ⟨H1, H2, H3, H4, B⟩ := hHeld
          clear hK K
          try simp only [Act.put, List.setIfInBounds_toArray, List.set_cons_zero, List.set_cons_succ]
          apply Ord.walk_heavy
          next => (simp only [List.getElem?_toArray, List.getElem?_cons_succ, List.getElem?_cons_zero]; rfl)
          next => rfl
          intro K hK
          go_wp2_with fail
          refine (ctd_to qd false on true false true true cd p k (p - (n + 1)) _ ED.out (by omega) (by omega)).mono ?_; rintro e w' ⟨rfl, hb⟩; dsimp only
          refine hK.out _ _ ⟨H1.below hb H1.lt, H2.below hb H2.lt, H3.below hb H3.lt, H4.below hb H4.lt, B.trans (hb.mono B.size)⟩ (fun hHeld => ?_)
          clear H1 H2 H3 H4 B hb
          obtain ⟨H1, H2, H3, H4, B⟩ := hHeld
          clear hK K
          try simp only [Act.put, List.setIfInBounds_toArray, List.set_cons_zero, List.set_cons_succ]
          apply Ord.walk_heavy
          next => (simp only [List.getElem?_toArray, List.getElem?_cons_succ, List.getElem?_cons_zero]; rfl)
          next => rfl
          intro K hK
          go_wp2_with fail
          refine (rt_to qr false false true true true false 0 p k 0 _ ER.out (by omega) (by omega)).mono ?_; rintro e w' ⟨rfl, hb⟩; dsimp only
          refine hK.out _ _ ⟨H1.below hb H1.lt, H2.below hb H2.lt, H3.below hb H3.lt, H4.below hb H4.lt, B.trans (hb.mono B.size)⟩ (fun hHeld => ?_)
          clear H1 H2 H3 H4 B hb
          obtain ⟨H1, H2, H3, H4, B⟩ := hHeld
          clear hK K
          try simp only [Act.put, List.setIfInBounds_toArray, List.set_cons_zero, List.set_cons_succ]
          apply Ord.walk_heavy
          next => (simp only [List.getElem?_toArray, List.getElem?_cons_succ, List.getElem?_cons_zero]; rfl)
          next => rfl
          intro K hK
          go_wp2_with fail
          refine (ft_to qf false false true false true false 0 p k 0 _ EF.out (by omega) (by omega)).mono ?_; rintro e w' ⟨rfl, hb⟩; dsimp only
          refine hK.out _ _ ⟨H1.below hb H1.lt, H2.below hb H2.lt, H3.below hb H3.lt, H4.below hb H4.lt, B.trans (hb.mono B.size)⟩ (fun hHeld => ?_)
          clear H1 H2 H3 H4 B hb
          obtain ⟨H1, H2, H3, H4, B⟩ := hHeld
          clear hK K
          try simp only [Act.put, List.setIfInBounds_toArray, List.set_cons_zero, List.set_cons_succ]
          refine Ord.walk_tail ?_; simp only [List.drop_succ_cons, List.drop_zero]
          obtain ⟨c0', c1', c2', c3', c4', c5'⟩ := fiveE H1; obtain ⟨d0', d1', d2, d3, d4, d5⟩ := fiveE H2; obtain ⟨g0, g1, g2, g3, g4, g5⟩ := fiveE H3; obtain ⟨j0, j1, j2, j3, j4, j5⟩ := fiveE H4
          obtain ⟨⟨m1, m2, m3, m4, m5, m6⟩, L1, L2, L3, L4⟩ := NE.out
          have l1 := H1.lt; have l2 := H2.lt; have l3 := H3.lt; have l4 := H4.lt
          go_upto_region 12 with (fail)
          refine Aid.wp_abs (fun w' => Aid.Has w' b1 [.int .i64 4, .bool false, .bool true, .bool false, .int .i64 (n + 1)] 26 ∧ Aid.Has w' b2 [.int .i64 5, .bool false, .bool true, .bool true, .int .i64 (p - (n + 1))] 26 ∧ Aid.Has w' b3 [.int .i64 6, .bool true, .bool true, .bool false, .int .i64 0] 26 ∧ Aid.Has w' b4 [.int .i64 7, .bool false, .bool true, .bool false, .int .i64 0] 26 ∧ Below w.heap.size w w') ⟨((((((((((((((((((((H1).set 0 _).set 1 _).set 2 _).set 3 _).set 4 _).other _ _ (by first | exact m1 | exact m2 | exact m3 | exact m4 | exact m5 | exact m6 | exact Ne.symm m1 | exact Ne.symm m2 | exact Ne.symm m3 | exact Ne.symm m4 | exact Ne.symm m5 | exact Ne.symm m6)).other _ _ (by first | exact m1 | exact m2 | exact m3 | exact m4 | exact m5 | exact m6 | exact Ne.symm m1 | exact Ne.symm m2 | exact Ne.symm m3 | exact Ne.symm m4 | exact Ne.symm m5 | exact Ne.symm m6)).other _ _ (by first | exact m1 | exact m2 | exact m3 | exact m4 | exact m5 | exact m6 | exact Ne.symm m1 | exact Ne.symm m2 | exact Ne.symm m3 | exact Ne.symm m4 | exact Ne.symm m5 | exact Ne.symm m6)).other _ _ (by first | exact m1 | exact m2 | exact m3 | exact m4 | exact m5 | exact m6 | exact Ne.symm m1 | exact Ne.symm m2 | exact Ne.symm m3 | exact Ne.symm m4 | exact Ne.symm m5 | exact Ne.symm m6)).other _ _ (by first | exact m1 | exact m2 | exact m3 | exact m4 | exact m5 | exact m6 | exact Ne.symm m1 | exact Ne.symm m2 | exact Ne.symm m3 | exact Ne.symm m4 | exact Ne.symm m5 | exact Ne.symm m6)).other _ _ (by first | exact m1 | exact m2 | exact m3 | exact m4 | exact m5 | exact m6 | exact Ne.symm m1 | exact Ne.symm m2 | exact Ne.symm m3 | exact Ne.symm m4 | exact Ne.symm m5 | exact Ne.symm m6)).other _ _ (by first | exact m1 | exact m2 | exact m3 | exact m4 | exact m5 | exact m6 | exact Ne.symm m1 | exact Ne.symm m2 | exact Ne.symm m3 | exact Ne.symm m4 | exact Ne.symm m5 | exact Ne.symm m6)).other _ _ (by first | exact m1 | exact m2 | exact m3 | exact m4 | exact m5 | exact m6 | exact Ne.symm m1 | exact Ne.symm m2 | exact Ne.symm m3 | exact Ne.symm m4 | exact Ne.symm m5 | exact Ne.symm m6)).other _ _ (by first | exact m1 | exact m2 | exact m3 | exact m4 | exact m5 | exact m6 | exact Ne.symm m1 | exact Ne.symm m2 | exact Ne.symm m3 | exact Ne.symm m4 | exact Ne.symm m5 | exact Ne.symm m6)).other _ _ (by first | exact m1 | exact m2 | exact m3 | exact m4 | exact m5 | exact m6 | exact Ne.symm m1 | exact Ne.symm m2 | exact Ne.symm m3 | exact Ne.symm m4 | exact Ne.symm m5 | exact Ne.symm m6)).other _ _ (by first | exact m1 | exact m2 | exact m3 | exact m4 | exact m5 | exact m6 | exact Ne.symm m1 | exact Ne.symm m2 | exact Ne.symm m3 | exact Ne.symm m4 | exact Ne.symm m5 | exact Ne.symm m6)).other _ _ (by first | exact m1 | exact m2 | exact m3 | exact m4 | exact m5 | exact m6 | exact Ne.symm m1 | exact Ne.symm m2 | exact Ne.symm m3 | exact Ne.symm m4 | exact Ne.symm m5 | exact Ne.symm m6)).other _ _ (by first | exact m1 | exact m2 | exact m3 | exact m4 | exact m5 | exact m6 | exact Ne.symm m1 | exact Ne.symm m2 | exact Ne.symm m3 | exact Ne.symm m4 | exact Ne.symm m5 | exact Ne.symm m6)).other _ _ (by first | exact m1 | exact m2 | exact m3 | exact m4 | exact m5 | exact m6 | exact Ne.symm m1 | exact Ne.symm m2 | exact Ne.symm m3 | exact Ne.symm m4 | exact Ne.symm m5 | exact Ne.symm m6)).other _ _ (by first | exact m1 | exact m2 | exact m3 | exact m4 | exact m5 | exact m6 | exact Ne.symm m1 | exact Ne.symm m2 | exact Ne.symm m3 | exact Ne.symm m4 | exact Ne.symm m5 | exact Ne.symm m6), ((((((((((((((((((((H2).other _ _ (by first | exact m1 | exact m2 | exact m3 | exact m4 | exact m5 | exact m6 | exact Ne.symm m1 | exact Ne.symm m2 | exact Ne.symm m3 | exact Ne.symm m4 | exact Ne.symm m5 | exact Ne.symm m6)).other _ _ (by first | exact m1 | exact m2 | exact m3 | exact m4 | exact m5 | exact m6 | exact Ne.symm m1 | exact Ne.symm m2 | exact Ne.symm m3 | exact Ne.symm m4 | exact Ne.symm m5 | exact Ne.symm m6)).other _ _ (by first | exact m1 | exact m2 | exact m3 | exact m4 | exact m5 | exact m6 | exact Ne.symm m1 | exact Ne.symm m2 | exact Ne.symm m3 | exact Ne.symm m4 | exact Ne.symm m5 | exact Ne.symm m6)).other _ _ (by first | exact m1 | exact m2 | exact m3 | exact m4 | exact m5 | exact m6 | exact Ne.symm m1 | exact Ne.symm m2 | exact Ne.symm m3 | exact Ne.symm m4 | exact Ne.symm m5 | exact Ne.symm m6)).other _ _ (by first | exact m1 | exact m2 | exact m3 | exact m4 | exact m5 | exact m6 | exact Ne.symm m1 | exact Ne.symm m2 | exact Ne.symm m3 | exact Ne.symm m4 | exact Ne.symm m5 | exact Ne.symm m6)).set 0 _).set 1 _).set 2 _).set 3 _).set 4 _).other _ _ (by first | exact m1 | exact m2 | exact m3 | exact m4 | exact m5 | exact m6 | exact Ne.symm m1 | exact Ne.symm m2 | exact Ne.symm m3 | exact Ne.symm m4 | exact Ne.symm m5 | exact Ne.symm m6)).other _ _ (by first | exact m1 | exact m2 | exact m3 | exact m4 | exact m5 | exact m6 | exact Ne.symm m1 | exact Ne.symm m2 | exact Ne.symm m3 | exact Ne.symm m4 | exact Ne.symm m5 | exact Ne.symm m6)).other _ _ (by first | exact m1 | exact m2 | exact m3 | exact m4 | exact m5 | exact m6 | exact Ne.symm m1 | exact Ne.symm m2 | exact Ne.symm m3 | exact Ne.symm m4 | exact Ne.symm m5 | exact Ne.symm m6)).other _ _ (by first | exact m1 | exact m2 | exact m3 | exact m4 | exact m5 | exact m6 | exact Ne.symm m1 | exact Ne.symm m2 | exact Ne.symm m3 | exact Ne.symm m4 | exact Ne.symm m5 | exact Ne.symm m6)).other _ _ (by first | exact m1 | exact m2 | exact m3 | exact m4 | exact m5 | exact m6 | exact Ne.symm m1 | exact Ne.symm m2 | exact Ne.symm m3 | exact Ne.symm m4 | exact Ne.symm m5 | exact Ne.symm m6)).other _ _ (by first | exact m1 | exact m2 | exact m3 | exact m4 | exact m5 | exact m6 | exact Ne.symm m1 | exact Ne.symm m2 | exact Ne.symm m3 | exact Ne.symm m4 | exact Ne.symm m5 | exact Ne.symm m6)).other _ _ (by first | exact m1 | exact m2 | exact m3 | exact m4 | exact m5 | exact m6 | exact Ne.symm m1 | exact Ne.symm m2 | exact Ne.symm m3 | exact Ne.symm m4 | exact Ne.symm m5 | exact Ne.symm m6)).other _ _ (by first | exact m1 | exact m2 | exact m3 | exact m4 | exact m5 | exact m6 | exact Ne.symm m1 | exact Ne.symm m2 | exact Ne.symm m3 | exact Ne.symm m4 | exact Ne.symm m5 | exact Ne.symm m6)).other _ _ (by first | exact m1 | exact m2 | exact m3 | exact m4 | exact m5 | exact m6 | exact Ne.symm m1 | exact Ne.symm m2 | exact Ne.symm m3 | exact Ne.symm m4 | exact Ne.symm m5 | exact Ne.symm m6)).other _ _ (by first | exact m1 | exact m2 | exact m3 | exact m4 | exact m5 | exact m6 | exact Ne.symm m1 | exact Ne.symm m2 | exact Ne.symm m3 | exact Ne.symm m4 | exact Ne.symm m5 | exact Ne.symm m6), ((((((((((((((((((((H3).other _ _ (by first | exact m1 | exact m2 | exact m3 | exact m4 | exact m5 | exact m6 | exact Ne.symm m1 | exact Ne.symm m2 | exact Ne.symm m3 | exact Ne.symm m4 | exact Ne.symm m5 | exact Ne.symm m6)).other _ _ (by first | exact m1 | exact m2 | exact m3 | exact m4 | exact m5 | exact m6 | exact Ne.symm m1 | exact Ne.symm m2 | exact Ne.symm m3 | exact Ne.symm m4 | exact Ne.symm m5 | exact Ne.symm m6)).other _ _ (by first | exact m1 | exact m2 | exact m3 | exact m4 | exact m5 | exact m6 | exact Ne.symm m1 | exact Ne.symm m2 | exact Ne.symm m3 | exact Ne.symm m4 | exact Ne.symm m5 | exact Ne.symm m6)).other _ _ (by first | exact m1 | exact m2 | exact m3 | exact m4 | exact m5 | exact m6 | exact Ne.symm m1 | exact Ne.symm m2 | exact Ne.symm m3 | exact Ne.symm m4 | exact Ne.symm m5 | exact Ne.symm m6)).other _ _ (by first | exact m1 | exact m2 | exact m3 | exact m4 | exact m5 | exact m6 | exact Ne.symm m1 | exact Ne.symm m2 | exact Ne.symm m3 | exact Ne.symm m4 | exact Ne.symm m5 | exact Ne.symm m6)).other _ _ (by first | exact m1 | exact m2 | exact m3 | exact m4 | exact m5 | exact m6 | exact Ne.symm m1 | exact Ne.symm m2 | exact Ne.symm m3 | exact Ne.symm m4 | exact Ne.symm m5 | exact Ne.symm m6)).other _ _ (by first | exact m1 | exact m2 | exact m3 | exact m4 | exact m5 | exact m6 | exact Ne.symm m1 | exact Ne.symm m2 | exact Ne.symm m3 | exact Ne.symm m4 | exact Ne.symm m5 | exact Ne.symm m6)).other _ _ (by first | exact m1 | exact m2 | exact m3 | exact m4 | exact m5 | exact m6 | exact Ne.symm m1 | exact Ne.symm m2 | exact Ne.symm m3 | exact Ne.symm m4 | exact Ne.symm m5 | exact Ne.symm m6)).other _ _ (by first | exact m1 | exact m2 | exact m3 | exact m4 | exact m5 | exact m6 | exact Ne.symm m1 | exact Ne.symm m2 | exact Ne.symm m3 | exact Ne.symm m4 | exact Ne.symm m5 | exact Ne.symm m6)).other _ _ (by first | exact m1 | exact m2 | exact m3 | exact m4 | exact m5 | exact m6 | exact Ne.symm m1 | exact Ne.symm m2 | exact Ne.symm m3 | exact Ne.symm m4 | exact Ne.symm m5 | exact Ne.symm m6)).set 0 _).set 1 _).set 2 _).set 3 _).set 4 _).other _ _ (by first | exact m1 | exact m2 | exact m3 | exact m4 | exact m5 | exact m6 | exact Ne.symm m1 | exact Ne.symm m2 | exact Ne.symm m3 | exact Ne.symm m4 | exact Ne.symm m5 | exact Ne.symm m6)).other _ _ (by first | exact m1 | exact m2 | exact m3 | exact m4 | exact m5 | exact m6 | exact Ne.symm m1 | exact Ne.symm m2 | exact Ne.symm m3 | exact Ne.symm m4 | exact Ne.symm m5 | exact Ne.symm m6)).other _ _ (by first | exact m1 | exact m2 | exact m3 | exact m4 | exact m5 | exact m6 | exact Ne.symm m1 | exact Ne.symm m2 | exact Ne.symm m3 | exact Ne.symm m4 | exact Ne.symm m5 | exact Ne.symm m6)).other _ _ (by first | exact m1 | exact m2 | exact m3 | exact m4 | exact m5 | exact m6 | exact Ne.symm m1 | exact Ne.symm m2 | exact Ne.symm m3 | exact Ne.symm m4 | exact Ne.symm m5 | exact Ne.symm m6)).other _ _ (by first | exact m1 | exact m2 | exact m3 | exact m4 | exact m5 | exact m6 | exact Ne.symm m1 | exact Ne.symm m2 | exact Ne.symm m3 | exact Ne.symm m4 | exact Ne.symm m5 | exact Ne.symm m6), ((((((((((((((((((((H4).other _ _ (by first | exact m1 | exact m2 | exact m3 | exact m4 | exact m5 | exact m6 | exact Ne.symm m1 | exact Ne.symm m2 | exact Ne.symm m3 | exact Ne.symm m4 | exact Ne.symm m5 | exact Ne.symm m6)).other _ _ (by first | exact m1 | exact m2 | exact m3 | exact m4 | exact m5 | exact m6 | exact Ne.symm m1 | exact Ne.symm m2 | exact Ne.symm m3 | exact Ne.symm m4 | exact Ne.symm m5 | exact Ne.symm m6)).other _ _ (by first | exact m1 | exact m2 | exact m3 | exact m4 | exact m5 | exact m6 | exact Ne.symm m1 | exact Ne.symm m2 | exact Ne.symm m3 | exact Ne.symm m4 | exact Ne.symm m5 | exact Ne.symm m6)).other _ _ (by first | exact m1 | exact m2 | exact m3 | exact m4 | exact m5 | exact m6 | exact Ne.symm m1 | exact Ne.symm m2 | exact Ne.symm m3 | exact Ne.symm m4 | exact Ne.symm m5 | exact Ne.symm m6)).other _ _ (by first | exact m1 | exact m2 | exact m3 | exact m4 | exact m5 | exact m6 | exact Ne.symm m1 | exact Ne.symm m2 | exact Ne.symm m3 | exact Ne.symm m4 | exact Ne.symm m5 | exact Ne.symm m6)).other _ _ (by first | exact m1 | exact m2 | exact m3 | exact m4 | exact m5 | exact m6 | exact Ne.symm m1 | exact Ne.symm m2 | exact Ne.symm m3 | exact Ne.symm m4 | exact Ne.symm m5 | exact Ne.symm m6)).other _ _ (by first | exact m1 | exact m2 | exact m3 | exact m4 | exact m5 | exact m6 | exact Ne.symm m1 | exact Ne.symm m2 | exact Ne.symm m3 | exact Ne.symm m4 | exact Ne.symm m5 | exact Ne.symm m6)).other _ _ (by first | exact m1 | exact m2 | exact m3 | exact m4 | exact m5 | exact m6 | exact Ne.symm m1 | exact Ne.symm m2 | exact Ne.symm m3 | exact Ne.symm m4 | exact Ne.symm m5 | exact Ne.symm m6)).other _ _ (by first | exact m1 | exact m2 | exact m3 | exact m4 | exact m5 | exact m6 | exact Ne.symm m1 | exact Ne.symm m2 | exact Ne.symm m3 | exact Ne.symm m4 | exact Ne.symm m5 | exact Ne.symm m6)).other _ _ (by first | exact m1 | exact m2 | exact m3 | exact m4 | exact m5 | exact m6 | exact Ne.symm m1 | exact Ne.symm m2 | exact Ne.symm m3 | exact Ne.symm m4 | exact Ne.symm m5 | exact Ne.symm m6)).other _ _ (by first | exact m1 | exact m2 | exact m3 | exact m4 | exact m5 | exact m6 | exact Ne.symm m1 | exact Ne.symm m2 | exact Ne.symm m3 | exact Ne.symm m4 | exact Ne.symm m5 | exact Ne.symm m6)).other _ _ (by first | exact m1 | exact m2 | exact m3 | exact m4 | exact m5 | exact m6 | exact Ne.symm m1 | exact Ne.symm m2 | exact Ne.symm m3 | exact Ne.symm m4 | exact Ne.symm m5 | exact Ne.symm m6)).other _ _ (by first | exact m1 | exact m2 | exact m3 | exact m4 | exact m5 | exact m6 | exact Ne.symm m1 | exact Ne.symm m2 | exact Ne.symm m3 | exact Ne.symm m4 | exact Ne.symm m5 | exact Ne.symm m6)).other _ _ (by first | exact m1 | exact m2 | exact m3 | exact m4 | exact m5 | exact m6 | exact Ne.symm m1 | exact Ne.symm m2 | exact Ne.symm m3 | exact Ne.symm m4 | exact Ne.symm m5 | exact Ne.symm m6)).other _ _ (by first | exact m1 | exact m2 | exact m3 | exact m4 | exact m5 | exact m6 | exact Ne.symm m1 | exact Ne.symm m2 | exact Ne.symm m3 | exact Ne.symm m4 | exact Ne.symm m5 | exact Ne.symm m6)).set 0 _).set 1 _).set 2 _).set 3 _).set 4 _, ((((((((((((((((((((B).setCell (by first | exact L1 | exact L2 | exact L3 | exact L4) _).setCell (by first | exact L1 | exact L2 | exact L3 | exact L4) _).setCell (by first | exact L1 | exact L2 | exact L3 | exact L4) _).setCell (by first | exact L1 | exact L2 | exact L3 | exact L4) _).setCell (by first | exact L1 | exact L2 | exact L3 | exact L4) _).setCell (by first | exact L1 | exact L2 | exact L3 | exact L4) _).setCell (by first | exact L1 | exact L2 | exact L3 | exact L4) _).setCell (by first | exact L1 | exact L2 | exact L3 | exact L4) _).setCell (by first | exact L1 | exact L2 | exact L3 | exact L4) _).setCell (by first | exact L1 | exact L2 | exact L3 | exact L4) _).setCell (by first | exact L1 | exact L2 | exact L3 | exact L4) _).setCell (by first | exact L1 | exact L2 | exact L3 | exact L4) _).setCell (by first | exact L1 | exact L2 | exact L3 | exact L4) _).setCell (by first | exact L1 | exact L2 | exact L3 | exact L4) _).setCell (by first | exact L1 | exact L2 | exact L3 | exact L4) _).setCell (by first | exact L1 | exact L2 | exact L3 | exact L4) _).setCell (by first | exact L1 | exact L2 | exact L3 | exact L4) _).setCell (by first | exact L1 | exact L2 | exact L3 | exact L4) _).setCell (by first | exact L1 | exact L2 | exact L3 | exact L4) _).setCell (by first | exact L1 | exact L2 | exact L3 | exact L4) _⟩ (fun wf hwf => ?_)
          clear c0' c1' c2' c3' c4' c5' d0' d1' d2 d3 d4 d5 g0 g1 g2 g3 g4 g5 j0 j1 j2 j3 j4 j5 m1 m2 m3 m4 m5 m6 l1 l2 l3 l4 H1 H2 H3 H4 B
          obtain ⟨H1, H2, H3, H4, B⟩ := hwf
          obtain ⟨c0', c1', c2', c3', c4', c5'⟩ := fiveE H1; obtain ⟨d0', d1', d2, d3, d4, d5⟩ := fiveE H2; obtain ⟨g0, g1, g2, g3, g4, g5⟩ := fiveE H3; obtain ⟨j0, j1, j2, j3, j4, j5⟩ := fiveE H4
          go_wp2_with fail
          go_roundw
          case rel => exact ⟨k + 1, (n + 1), (p - (n + 1)), true, true, false, false, true, false, by omega, by go_num, rfl, by first | rfl | go_num, by omega, by push_cast; omega, by simp <;> omega, by omega, by omega, H1, H2, H3, H4, B⟩
          case measure => simp [intOf]; omega
      · by_cases hge : p ≤ n
        ·
          have hd1 : decide (p ≤ n) = true := by simpa using hge
          have hd2 : max (p - (n)) 0 = 0 := by omega
          have EU : Bk.ctu ⟨4, qu, true, false, n⟩ true (Bk.clip p 32767) = ⟨4, true, true, false, n⟩ := by rw [P.out]; simp [Bk.ctu] <;> omega
          have ED : Bk.ctd ⟨5, qd, true, on, cd⟩ true (Bk.clip p 32767) = ⟨5, true, true, true, 0⟩ := by have h := HCD.out; rw [P.out]; simp [Bk.ctd, h] <;> omega
          have ER : Bk.rt ⟨6, qr, true, false, 0⟩ true = ⟨6, false, true, false, 0⟩ := by simp [Bk.rt]
          have EF : Bk.ft ⟨7, qf, true, false, 0⟩ true = ⟨7, false, true, false, 0⟩ := by simp [Bk.ft]
          replace EU := Aid.hid EU; replace ED := Aid.hid ED; replace ER := Aid.hid ER; replace EF := Aid.hid EF
          refine Ord.wp_region_walk (fun w' => Aid.Has w' b1 [.int .i64 4, .bool qu, .bool true, .bool false, .int .i64 n] 26 ∧ Aid.Has w' b2 [.int .i64 5, .bool qd, .bool true, .bool on, .int .i64 cd] 26 ∧ Aid.Has w' b3 [.int .i64 6, .bool qr, .bool true, .bool false, .int .i64 0] 26 ∧ Aid.Has w' b4 [.int .i64 7, .bool qf, .bool true, .bool false, .int .i64 0] 26 ∧ Below w.heap.size w w') 20 [(true, 0), (true, 1), (true, 2), (true, 3), (true, 5), (true, 6), (true, 7), (true, 8), (true, 10), (true, 11), (true, 12), (true, 13), (true, 15), (true, 16), (true, 17), (true, 18), (false, 4), (false, 9), (false, 14), (false, 19)] (by kernel_rfl) (by kernel_rfl) (fun _ _ d _ _ h => by cases d <;> exact h) (⟨H1, H2, H3, H4, B⟩) ?_
          generalize wr.drew = wd at *
          apply Ord.walk_light
          next => (simp only [List.getElem?_toArray, List.getElem?_cons_zero]; rfl)
          next => rfl
          next => (intro w hSw; obtain ⟨g1, g2, g3, g4, g5⟩ := hSw; obtain ⟨k0, k1, k2, k3, k4, k5⟩ := fiveE g1; go_simp; first | done | with_reducible rfl)
          simp only [Act.put, List.setIfInBounds_toArray, List.set_cons_zero, List.set_cons_succ]
          apply Ord.walk_light
          next => (simp only [List.getElem?_toArray, List.getElem?_cons_succ, List.getElem?_cons_zero]; rfl)
          next => rfl
          next => (intro w hSw; clear hSw; go_simp; first | done | with_reducible rfl)
          simp only [Act.put, List.setIfInBounds_toArray, List.set_cons_zero, List.set_cons_succ]
          apply Ord.walk_light
          next => (simp only [List.getElem?_toArray, List.getElem?_cons_succ, List.getElem?_cons_zero]; rfl)
          next => rfl
          next => (intro w hSw; clear hSw; go_simp; first | done | with_reducible rfl)
          simp only [Act.put, List.setIfInBounds_toArray, List.set_cons_zero, List.set_cons_succ]
          apply Ord.walk_light
          next => (simp only [List.getElem?_toArray, List.getElem?_cons_succ, List.getElem?_cons_zero]; rfl)
          next => rfl
          next => (intro w hSw; clear hSw; go_simp; first | done | with_reducible rfl)
          simp only [Act.put, List.setIfInBounds_toArray, List.set_cons_zero, List.set_cons_succ]
          apply Ord.walk_light
          next => (simp only [List.getElem?_toArray, List.getElem?_cons_succ, List.getElem?_cons_zero]; rfl)
          next => rfl
          next => (intro w hSw; obtain ⟨g1, g2, g3, g4, g5⟩ := hSw; obtain ⟨k0, k1, k2, k3, k4, k5⟩ := fiveE g2; go_simp; first | done | with_reducible rfl)
          simp only [Act.put, List.setIfInBounds_toArray, List.set_cons_zero, List.set_cons_succ]
          apply Ord.walk_light
          next => (simp only [List.getElem?_toArray, List.getElem?_cons_succ, List.getElem?_cons_zero]; rfl)
          next => rfl
          next => (intro w hSw; clear hSw; go_simp; first | done | with_reducible rfl)
          simp only [Act.put, List.setIfInBounds_toArray, List.set_cons_zero, List.set_cons_succ]
          apply Ord.walk_light
          next => (simp only [List.getElem?_toArray, List.getElem?_cons_succ, List.getElem?_cons_zero]; rfl)
          next => rfl
          next => (intro w hSw; clear hSw; go_simp; first | done | with_reducible rfl)
          simp only [Act.put, List.setIfInBounds_toArray, List.set_cons_zero, List.set_cons_succ]
          apply Ord.walk_light
          next => (simp only [List.getElem?_toArray, List.getElem?_cons_succ, List.getElem?_cons_zero]; rfl)
          next => rfl
          next => (intro w hSw; clear hSw; go_simp; first | done | with_reducible rfl)
          simp only [Act.put, List.setIfInBounds_toArray, List.set_cons_zero, List.set_cons_succ]
          apply Ord.walk_light
          next => (simp only [List.getElem?_toArray, List.getElem?_cons_succ, List.getElem?_cons_zero]; rfl)
          next => rfl
          next => (intro w hSw; obtain ⟨g1, g2, g3, g4, g5⟩ := hSw; obtain ⟨k0, k1, k2, k3, k4, k5⟩ := fiveE g3; go_simp; first | done | with_reducible rfl)
          simp only [Act.put, List.setIfInBounds_toArray, List.set_cons_zero, List.set_cons_succ]
          apply Ord.walk_light
          next => (simp only [List.getElem?_toArray, List.getElem?_cons_succ, List.getElem?_cons_zero]; rfl)
          next => rfl
          next => (intro w hSw; clear hSw; go_simp; first | done | with_reducible rfl)
          simp only [Act.put, List.setIfInBounds_toArray, List.set_cons_zero, List.set_cons_succ]
          apply Ord.walk_light
          next => (simp only [List.getElem?_toArray, List.getElem?_cons_succ, List.getElem?_cons_zero]; rfl)
          next => rfl
          next => (intro w hSw; clear hSw; go_simp; first | done | with_reducible rfl)
          simp only [Act.put, List.setIfInBounds_toArray, List.set_cons_zero, List.set_cons_succ]
          apply Ord.walk_light
          next => (simp only [List.getElem?_toArray, List.getElem?_cons_succ, List.getElem?_cons_zero]; rfl)
          next => rfl
          next => (intro w hSw; clear hSw; go_simp; first | done | with_reducible rfl)
          simp only [Act.put, List.setIfInBounds_toArray, List.set_cons_zero, List.set_cons_succ]
          apply Ord.walk_light
          next => (simp only [List.getElem?_toArray, List.getElem?_cons_succ, List.getElem?_cons_zero]; rfl)
          next => rfl
          next => (intro w hSw; obtain ⟨g1, g2, g3, g4, g5⟩ := hSw; obtain ⟨k0, k1, k2, k3, k4, k5⟩ := fiveE g4; go_simp; first | done | with_reducible rfl)
          simp only [Act.put, List.setIfInBounds_toArray, List.set_cons_zero, List.set_cons_succ]
          apply Ord.walk_light
          next => (simp only [List.getElem?_toArray, List.getElem?_cons_succ, List.getElem?_cons_zero]; rfl)
          next => rfl
          next => (intro w hSw; clear hSw; go_simp; first | done | with_reducible rfl)
          simp only [Act.put, List.setIfInBounds_toArray, List.set_cons_zero, List.set_cons_succ]
          apply Ord.walk_light
          next => (simp only [List.getElem?_toArray, List.getElem?_cons_succ, List.getElem?_cons_zero]; rfl)
          next => rfl
          next => (intro w hSw; clear hSw; go_simp; first | done | with_reducible rfl)
          simp only [Act.put, List.setIfInBounds_toArray, List.set_cons_zero, List.set_cons_succ]
          apply Ord.walk_light
          next => (simp only [List.getElem?_toArray, List.getElem?_cons_succ, List.getElem?_cons_zero]; rfl)
          next => rfl
          next => (intro w hSw; clear hSw; go_simp; first | done | with_reducible rfl)
          simp only [Act.put, List.setIfInBounds_toArray, List.set_cons_zero, List.set_cons_succ]
          apply Ord.walk_heavy
          next => (simp only [List.getElem?_toArray, List.getElem?_cons_succ, List.getElem?_cons_zero]; rfl)
          next => rfl
          intro K hK
          go_wp2_with fail
          refine (ctu_to qu true false true true true false n p k n _ EU.out (by omega) (by omega)).mono ?_; rintro e w' ⟨rfl, hb⟩; dsimp only
          refine hK.out _ _ ⟨H1.below hb H1.lt, H2.below hb H2.lt, H3.below hb H3.lt, H4.below hb H4.lt, B.trans (hb.mono B.size)⟩ (fun hHeld => ?_)
          clear H1 H2 H3 H4 B hb
          obtain ⟨H1, H2, H3, H4, B⟩ := hHeld
          clear hK K
          try simp only [Act.put, List.setIfInBounds_toArray, List.set_cons_zero, List.set_cons_succ]
          apply Ord.walk_heavy
          next => (simp only [List.getElem?_toArray, List.getElem?_cons_succ, List.getElem?_cons_zero]; rfl)
          next => rfl
          intro K hK
          go_wp2_with fail
          refine (ctd_to qd true on true true true true cd p k 0 _ ED.out (by omega) (by omega)).mono ?_; rintro e w' ⟨rfl, hb⟩; dsimp only
          refine hK.out _ _ ⟨H1.below hb H1.lt, H2.below hb H2.lt, H3.below hb H3.lt, H4.below hb H4.lt, B.trans (hb.mono B.size)⟩ (fun hHeld => ?_)
          clear H1 H2 H3 H4 B hb
          obtain ⟨H1, H2, H3, H4, B⟩ := hHeld
          clear hK K
          try simp only [Act.put, List.setIfInBounds_toArray, List.set_cons_zero, List.set_cons_succ]
          apply Ord.walk_heavy
          next => (simp only [List.getElem?_toArray, List.getElem?_cons_succ, List.getElem?_cons_zero]; rfl)
          next => rfl
          intro K hK
          go_wp2_with fail
          refine (rt_to qr true false true false true false 0 p k 0 _ ER.out (by omega) (by omega)).mono ?_; rintro e w' ⟨rfl, hb⟩; dsimp only
          refine hK.out _ _ ⟨H1.below hb H1.lt, H2.below hb H2.lt, H3.below hb H3.lt, H4.below hb H4.lt, B.trans (hb.mono B.size)⟩ (fun hHeld => ?_)
          clear H1 H2 H3 H4 B hb
          obtain ⟨H1, H2, H3, H4, B⟩ := hHeld
          clear hK K
          try simp only [Act.put, List.setIfInBounds_toArray, List.set_cons_zero, List.set_cons_succ]
          apply Ord.walk_heavy
          next => (simp only [List.getElem?_toArray, List.getElem?_cons_succ, List.getElem?_cons_zero]; rfl)
          next => rfl
          intro K hK
          go_wp2_with fail
          refine (ft_to qf true false true false true false 0 p k 0 _ EF.out (by omega) (by omega)).mono ?_; rintro e w' ⟨rfl, hb⟩; dsimp only
          refine hK.out _ _ ⟨H1.below hb H1.lt, H2.below hb H2.lt, H3.below hb H3.lt, H4.below hb H4.lt, B.trans (hb.mono B.size)⟩ (fun hHeld => ?_)
          clear H1 H2 H3 H4 B hb
          obtain ⟨H1, H2, H3, H4, B⟩ := hHeld
          clear hK K
          try simp only [Act.put, List.setIfInBounds_toArray, List.set_cons_zero, List.set_cons_succ]
          refine Ord.walk_tail ?_; simp only [List.drop_succ_cons, List.drop_zero]
          obtain ⟨c0', c1', c2', c3', c4', c5'⟩ := fiveE H1; obtain ⟨d0', d1', d2, d3, d4, d5⟩ := fiveE H2; obtain ⟨g0, g1, g2, g3, g4, g5⟩ := fiveE H3; obtain ⟨j0, j1, j2, j3, j4, j5⟩ := fiveE H4
          obtain ⟨⟨m1, m2, m3, m4, m5, m6⟩, L1, L2, L3, L4⟩ := NE.out
          have l1 := H1.lt; have l2 := H2.lt; have l3 := H3.lt; have l4 := H4.lt
          go_upto_region 12 with (fail)
          refine Aid.wp_abs (fun w' => Aid.Has w' b1 [.int .i64 4, .bool true, .bool true, .bool false, .int .i64 n] 26 ∧ Aid.Has w' b2 [.int .i64 5, .bool true, .bool true, .bool true, .int .i64 0] 26 ∧ Aid.Has w' b3 [.int .i64 6, .bool false, .bool true, .bool false, .int .i64 0] 26 ∧ Aid.Has w' b4 [.int .i64 7, .bool false, .bool true, .bool false, .int .i64 0] 26 ∧ Below w.heap.size w w') ⟨((((((((((((((((((((H1).set 0 _).set 1 _).set 2 _).set 3 _).set 4 _).other _ _ (by first | exact m1 | exact m2 | exact m3 | exact m4 | exact m5 | exact m6 | exact Ne.symm m1 | exact Ne.symm m2 | exact Ne.symm m3 | exact Ne.symm m4 | exact Ne.symm m5 | exact Ne.symm m6)).other _ _ (by first | exact m1 | exact m2 | exact m3 | exact m4 | exact m5 | exact m6 | exact Ne.symm m1 | exact Ne.symm m2 | exact Ne.symm m3 | exact Ne.symm m4 | exact Ne.symm m5 | exact Ne.symm m6)).other _ _ (by first | exact m1 | exact m2 | exact m3 | exact m4 | exact m5 | exact m6 | exact Ne.symm m1 | exact Ne.symm m2 | exact Ne.symm m3 | exact Ne.symm m4 | exact Ne.symm m5 | exact Ne.symm m6)).other _ _ (by first | exact m1 | exact m2 | exact m3 | exact m4 | exact m5 | exact m6 | exact Ne.symm m1 | exact Ne.symm m2 | exact Ne.symm m3 | exact Ne.symm m4 | exact Ne.symm m5 | exact Ne.symm m6)).other _ _ (by first | exact m1 | exact m2 | exact m3 | exact m4 | exact m5 | exact m6 | exact Ne.symm m1 | exact Ne.symm m2 | exact Ne.symm m3 | exact Ne.symm m4 | exact Ne.symm m5 | exact Ne.symm m6)).other _ _ (by first | exact m1 | exact m2 | exact m3 | exact m4 | exact m5 | exact m6 | exact Ne.symm m1 | exact Ne.symm m2 | exact Ne.symm m3 | exact Ne.symm m4 | exact Ne.symm m5 | exact Ne.symm m6)).other _ _ (by first | exact m1 | exact m2 | exact m3 | exact m4 | exact m5 | exact m6 | exact Ne.symm m1 | exact Ne.symm m2 | exact Ne.symm m3 | exact Ne.symm m4 | exact Ne.symm m5 | exact Ne.symm m6)).other _ _ (by first | exact m1 | exact m2 | exact m3 | exact m4 | exact m5 | exact m6 | exact Ne.symm m1 | exact Ne.symm m2 | exact Ne.symm m3 | exact Ne.symm m4 | exact Ne.symm m5 | exact Ne.symm m6)).other _ _ (by first | exact m1 | exact m2 | exact m3 | exact m4 | exact m5 | exact m6 | exact Ne.symm m1 | exact Ne.symm m2 | exact Ne.symm m3 | exact Ne.symm m4 | exact Ne.symm m5 | exact Ne.symm m6)).other _ _ (by first | exact m1 | exact m2 | exact m3 | exact m4 | exact m5 | exact m6 | exact Ne.symm m1 | exact Ne.symm m2 | exact Ne.symm m3 | exact Ne.symm m4 | exact Ne.symm m5 | exact Ne.symm m6)).other _ _ (by first | exact m1 | exact m2 | exact m3 | exact m4 | exact m5 | exact m6 | exact Ne.symm m1 | exact Ne.symm m2 | exact Ne.symm m3 | exact Ne.symm m4 | exact Ne.symm m5 | exact Ne.symm m6)).other _ _ (by first | exact m1 | exact m2 | exact m3 | exact m4 | exact m5 | exact m6 | exact Ne.symm m1 | exact Ne.symm m2 | exact Ne.symm m3 | exact Ne.symm m4 | exact Ne.symm m5 | exact Ne.symm m6)).other _ _ (by first | exact m1 | exact m2 | exact m3 | exact m4 | exact m5 | exact m6 | exact Ne.symm m1 | exact Ne.symm m2 | exact Ne.symm m3 | exact Ne.symm m4 | exact Ne.symm m5 | exact Ne.symm m6)).other _ _ (by first | exact m1 | exact m2 | exact m3 | exact m4 | exact m5 | exact m6 | exact Ne.symm m1 | exact Ne.symm m2 | exact Ne.symm m3 | exact Ne.symm m4 | exact Ne.symm m5 | exact Ne.symm m6)).other _ _ (by first | exact m1 | exact m2 | exact m3 | exact m4 | exact m5 | exact m6 | exact Ne.symm m1 | exact Ne.symm m2 | exact Ne.symm m3 | exact Ne.symm m4 | exact Ne.symm m5 | exact Ne.symm m6), ((((((((((((((((((((H2).other _ _ (by first | exact m1 | exact m2 | exact m3 | exact m4 | exact m5 | exact m6 | exact Ne.symm m1 | exact Ne.symm m2 | exact Ne.symm m3 | exact Ne.symm m4 | exact Ne.symm m5 | exact Ne.symm m6)).other _ _ (by first | exact m1 | exact m2 | exact m3 | exact m4 | exact m5 | exact m6 | exact Ne.symm m1 | exact Ne.symm m2 | exact Ne.symm m3 | exact Ne.symm m4 | exact Ne.symm m5 | exact Ne.symm m6)).other _ _ (by first | exact m1 | exact m2 | exact m3 | exact m4 | exact m5 | exact m6 | exact Ne.symm m1 | exact Ne.symm m2 | exact Ne.symm m3 | exact Ne.symm m4 | exact Ne.symm m5 | exact Ne.symm m6)).other _ _ (by first | exact m1 | exact m2 | exact m3 | exact m4 | exact m5 | exact m6 | exact Ne.symm m1 | exact Ne.symm m2 | exact Ne.symm m3 | exact Ne.symm m4 | exact Ne.symm m5 | exact Ne.symm m6)).other _ _ (by first | exact m1 | exact m2 | exact m3 | exact m4 | exact m5 | exact m6 | exact Ne.symm m1 | exact Ne.symm m2 | exact Ne.symm m3 | exact Ne.symm m4 | exact Ne.symm m5 | exact Ne.symm m6)).set 0 _).set 1 _).set 2 _).set 3 _).set 4 _).other _ _ (by first | exact m1 | exact m2 | exact m3 | exact m4 | exact m5 | exact m6 | exact Ne.symm m1 | exact Ne.symm m2 | exact Ne.symm m3 | exact Ne.symm m4 | exact Ne.symm m5 | exact Ne.symm m6)).other _ _ (by first | exact m1 | exact m2 | exact m3 | exact m4 | exact m5 | exact m6 | exact Ne.symm m1 | exact Ne.symm m2 | exact Ne.symm m3 | exact Ne.symm m4 | exact Ne.symm m5 | exact Ne.symm m6)).other _ _ (by first | exact m1 | exact m2 | exact m3 | exact m4 | exact m5 | exact m6 | exact Ne.symm m1 | exact Ne.symm m2 | exact Ne.symm m3 | exact Ne.symm m4 | exact Ne.symm m5 | exact Ne.symm m6)).other _ _ (by first | exact m1 | exact m2 | exact m3 | exact m4 | exact m5 | exact m6 | exact Ne.symm m1 | exact Ne.symm m2 | exact Ne.symm m3 | exact Ne.symm m4 | exact Ne.symm m5 | exact Ne.symm m6)).other _ _ (by first | exact m1 | exact m2 | exact m3 | exact m4 | exact m5 | exact m6 | exact Ne.symm m1 | exact Ne.symm m2 | exact Ne.symm m3 | exact Ne.symm m4 | exact Ne.symm m5 | exact Ne.symm m6)).other _ _ (by first | exact m1 | exact m2 | exact m3 | exact m4 | exact m5 | exact m6 | exact Ne.symm m1 | exact Ne.symm m2 | exact Ne.symm m3 | exact Ne.symm m4 | exact Ne.symm m5 | exact Ne.symm m6)).other _ _ (by first | exact m1 | exact m2 | exact m3 | exact m4 | exact m5 | exact m6 | exact Ne.symm m1 | exact Ne.symm m2 | exact Ne.symm m3 | exact Ne.symm m4 | exact Ne.symm m5 | exact Ne.symm m6)).other _ _ (by first | exact m1 | exact m2 | exact m3 | exact m4 | exact m5 | exact m6 | exact Ne.symm m1 | exact Ne.symm m2 | exact Ne.symm m3 | exact Ne.symm m4 | exact Ne.symm m5 | exact Ne.symm m6)).other _ _ (by first | exact m1 | exact m2 | exact m3 | exact m4 | exact m5 | exact m6 | exact Ne.symm m1 | exact Ne.symm m2 | exact Ne.symm m3 | exact Ne.symm m4 | exact Ne.symm m5 | exact Ne.symm m6)).other _ _ (by first | exact m1 | exact m2 | exact m3 | exact m4 | exact m5 | exact m6 | exact Ne.symm m1 | exact Ne.symm m2 | exact Ne.symm m3 | exact Ne.symm m4 | exact Ne.symm m5 | exact Ne.symm m6), ((((((((((((((((((((H3).other _ _ (by first | exact m1 | exact m2 | exact m3 | exact m4 | exact m5 | exact m6 | exact Ne.symm m1 | exact Ne.symm m2 | exact Ne.symm m3 | exact Ne.symm m4 | exact Ne.symm m5 | exact Ne.symm m6)).other _ _ (by first | exact m1 | exact m2 | exact m3 | exact m4 | exact m5 | exact m6 | exact Ne.symm m1 | exact Ne.symm m2 | exact Ne.symm m3 | exact Ne.symm m4 | exact Ne.symm m5 | exact Ne.symm m6)).other _ _ (by first | exact m1 | exact m2 | exact m3 | exact m4 | exact m5 | exact m6 | exact Ne.symm m1 | exact Ne.symm m2 | exact Ne.symm m3 | exact Ne.symm m4 | exact Ne.symm m5 | exact Ne.symm m6)).other _ _ (by first | exact m1 | exact m2 | exact m3 | exact m4 | exact m5 | exact m6 | exact Ne.symm m1 | exact Ne.symm m2 | exact Ne.symm m3 | exact Ne.symm m4 | exact Ne.symm m5 | exact Ne.symm m6)).other _ _ (by first | exact m1 | exact m2 | exact m3 | exact m4 | exact m5 | exact m6 | exact Ne.symm m1 | exact Ne.symm m2 | exact Ne.symm m3 | exact Ne.symm m4 | exact Ne.symm m5 | exact Ne.symm m6)).other _ _ (by first | exact m1 | exact m2 | exact m3 | exact m4 | exact m5 | exact m6 | exact Ne.symm m1 | exact Ne.symm m2 | exact Ne.symm m3 | exact Ne.symm m4 | exact Ne.symm m5 | exact Ne.symm m6)).other _ _ (by first | exact m1 | exact m2 | exact m3 | exact m4 | exact m5 | exact m6 | exact Ne.symm m1 | exact Ne.symm m2 | exact Ne.symm m3 | exact Ne.symm m4 | exact Ne.symm m5 | exact Ne.symm m6)).other _ _ (by first | exact m1 | exact m2 | exact m3 | exact m4 | exact m5 | exact m6 | exact Ne.symm m1 | exact Ne.symm m2 | exact Ne.symm m3 | exact Ne.symm m4 | exact Ne.symm m5 | exact Ne.symm m6)).other _ _ (by first | exact m1 | exact m2 | exact m3 | exact m4 | exact m5 | exact m6 | exact Ne.symm m1 | exact Ne.symm m2 | exact Ne.symm m3 | exact Ne.symm m4 | exact Ne.symm m5 | exact Ne.symm m6)).other _ _ (by first | exact m1 | exact m2 | exact m3 | exact m4 | exact m5 | exact m6 | exact Ne.symm m1 | exact Ne.symm m2 | exact Ne.symm m3 | exact Ne.symm m4 | exact Ne.symm m5 | exact Ne.symm m6)).set 0 _).set 1 _).set 2 _).set 3 _).set 4 _).other _ _ (by first | exact m1 | exact m2 | exact m3 | exact m4 | exact m5 | exact m6 | exact Ne.symm m1 | exact Ne.symm m2 | exact Ne.symm m3 | exact Ne.symm m4 | exact Ne.symm m5 | exact Ne.symm m6)).other _ _ (by first | exact m1 | exact m2 | exact m3 | exact m4 | exact m5 | exact m6 | exact Ne.symm m1 | exact Ne.symm m2 | exact Ne.symm m3 | exact Ne.symm m4 | exact Ne.symm m5 | exact Ne.symm m6)).other _ _ (by first | exact m1 | exact m2 | exact m3 | exact m4 | exact m5 | exact m6 | exact Ne.symm m1 | exact Ne.symm m2 | exact Ne.symm m3 | exact Ne.symm m4 | exact Ne.symm m5 | exact Ne.symm m6)).other _ _ (by first | exact m1 | exact m2 | exact m3 | exact m4 | exact m5 | exact m6 | exact Ne.symm m1 | exact Ne.symm m2 | exact Ne.symm m3 | exact Ne.symm m4 | exact Ne.symm m5 | exact Ne.symm m6)).other _ _ (by first | exact m1 | exact m2 | exact m3 | exact m4 | exact m5 | exact m6 | exact Ne.symm m1 | exact Ne.symm m2 | exact Ne.symm m3 | exact Ne.symm m4 | exact Ne.symm m5 | exact Ne.symm m6), ((((((((((((((((((((H4).other _ _ (by first | exact m1 | exact m2 | exact m3 | exact m4 | exact m5 | exact m6 | exact Ne.symm m1 | exact Ne.symm m2 | exact Ne.symm m3 | exact Ne.symm m4 | exact Ne.symm m5 | exact Ne.symm m6)).other _ _ (by first | exact m1 | exact m2 | exact m3 | exact m4 | exact m5 | exact m6 | exact Ne.symm m1 | exact Ne.symm m2 | exact Ne.symm m3 | exact Ne.symm m4 | exact Ne.symm m5 | exact Ne.symm m6)).other _ _ (by first | exact m1 | exact m2 | exact m3 | exact m4 | exact m5 | exact m6 | exact Ne.symm m1 | exact Ne.symm m2 | exact Ne.symm m3 | exact Ne.symm m4 | exact Ne.symm m5 | exact Ne.symm m6)).other _ _ (by first | exact m1 | exact m2 | exact m3 | exact m4 | exact m5 | exact m6 | exact Ne.symm m1 | exact Ne.symm m2 | exact Ne.symm m3 | exact Ne.symm m4 | exact Ne.symm m5 | exact Ne.symm m6)).other _ _ (by first | exact m1 | exact m2 | exact m3 | exact m4 | exact m5 | exact m6 | exact Ne.symm m1 | exact Ne.symm m2 | exact Ne.symm m3 | exact Ne.symm m4 | exact Ne.symm m5 | exact Ne.symm m6)).other _ _ (by first | exact m1 | exact m2 | exact m3 | exact m4 | exact m5 | exact m6 | exact Ne.symm m1 | exact Ne.symm m2 | exact Ne.symm m3 | exact Ne.symm m4 | exact Ne.symm m5 | exact Ne.symm m6)).other _ _ (by first | exact m1 | exact m2 | exact m3 | exact m4 | exact m5 | exact m6 | exact Ne.symm m1 | exact Ne.symm m2 | exact Ne.symm m3 | exact Ne.symm m4 | exact Ne.symm m5 | exact Ne.symm m6)).other _ _ (by first | exact m1 | exact m2 | exact m3 | exact m4 | exact m5 | exact m6 | exact Ne.symm m1 | exact Ne.symm m2 | exact Ne.symm m3 | exact Ne.symm m4 | exact Ne.symm m5 | exact Ne.symm m6)).other _ _ (by first | exact m1 | exact m2 | exact m3 | exact m4 | exact m5 | exact m6 | exact Ne.symm m1 | exact Ne.symm m2 | exact Ne.symm m3 | exact Ne.symm m4 | exact Ne.symm m5 | exact Ne.symm m6)).other _ _ (by first | exact m1 | exact m2 | exact m3 | exact m4 | exact m5 | exact m6 | exact Ne.symm m1 | exact Ne.symm m2 | exact Ne.symm m3 | exact Ne.symm m4 | exact Ne.symm m5 | exact Ne.symm m6)).other _ _ (by first | exact m1 | exact m2 | exact m3 | exact m4 | exact m5 | exact m6 | exact Ne.symm m1 | exact Ne.symm m2 | exact Ne.symm m3 | exact Ne.symm m4 | exact Ne.symm m5 | exact Ne.symm m6)).other _ _ (by first | exact m1 | exact m2 | exact m3 | exact m4 | exact m5 | exact m6 | exact Ne.symm m1 | exact Ne.symm m2 | exact Ne.symm m3 | exact Ne.symm m4 | exact Ne.symm m5 | exact Ne.symm m6)).other _ _ (by first | exact m1 | exact m2 | exact m3 | exact m4 | exact m5 | exact m6 | exact Ne.symm m1 | exact Ne.symm m2 | exact Ne.symm m3 | exact Ne.symm m4 | exact Ne.symm m5 | exact Ne.symm m6)).other _ _ (by first | exact m1 | exact m2 | exact m3 | exact m4 | exact m5 | exact m6 | exact Ne.symm m1 | exact Ne.symm m2 | exact Ne.symm m3 | exact Ne.symm m4 | exact Ne.symm m5 | exact Ne.symm m6)).other _ _ (by first | exact m1 | exact m2 | exact m3 | exact m4 | exact m5 | exact m6 | exact Ne.symm m1 | exact Ne.symm m2 | exact Ne.symm m3 | exact Ne.symm m4 | exact Ne.symm m5 | exact Ne.symm m6)).set 0 _).set 1 _).set 2 _).set 3 _).set 4 _, ((((((((((((((((((((B).setCell (by first | exact L1 | exact L2 | exact L3 | exact L4) _).setCell (by first | exact L1 | exact L2 | exact L3 | exact L4) _).setCell (by first | exact L1 | exact L2 | exact L3 | exact L4) _).setCell (by first | exact L1 | exact L2 | exact L3 | exact L4) _).setCell (by first | exact L1 | exact L2 | exact L3 | exact L4) _).setCell (by first | exact L1 | exact L2 | exact L3 | exact L4) _).setCell (by first | exact L1 | exact L2 | exact L3 | exact L4) _).setCell (by first | exact L1 | exact L2 | exact L3 | exact L4) _).setCell (by first | exact L1 | exact L2 | exact L3 | exact L4) _).setCell (by first | exact L1 | exact L2 | exact L3 | exact L4) _).setCell (by first | exact L1 | exact L2 | exact L3 | exact L4) _).setCell (by first | exact L1 | exact L2 | exact L3 | exact L4) _).setCell (by first | exact L1 | exact L2 | exact L3 | exact L4) _).setCell (by first | exact L1 | exact L2 | exact L3 | exact L4) _).setCell (by first | exact L1 | exact L2 | exact L3 | exact L4) _).setCell (by first | exact L1 | exact L2 | exact L3 | exact L4) _).setCell (by first | exact L1 | exact L2 | exact L3 | exact L4) _).setCell (by first | exact L1 | exact L2 | exact L3 | exact L4) _).setCell (by first | exact L1 | exact L2 | exact L3 | exact L4) _).setCell (by first | exact L1 | exact L2 | exact L3 | exact L4) _⟩ (fun wf hwf => ?_)
          clear c0' c1' c2' c3' c4' c5' d0' d1' d2 d3 d4 d5 g0 g1 g2 g3 g4 g5 j0 j1 j2 j3 j4 j5 m1 m2 m3 m4 m5 m6 l1 l2 l3 l4 H1 H2 H3 H4 B
          obtain ⟨H1, H2, H3, H4, B⟩ := hwf
          obtain ⟨c0', c1', c2', c3', c4', c5'⟩ := fiveE H1; obtain ⟨d0', d1', d2, d3, d4, d5⟩ := fiveE H2; obtain ⟨g0, g1, g2, g3, g4, g5⟩ := fiveE H3; obtain ⟨j0, j1, j2, j3, j4, j5⟩ := fiveE H4
          go_wp2_with fail
          go_roundw
          case rel => exact ⟨k + 1, n, 0, true, true, true, true, false, false, by omega, by go_num, rfl, by first | rfl | go_num, by omega, by push_cast; omega, by simp <;> omega, by omega, by omega, H1, H2, H3, H4, B⟩
          case measure => simp [intOf]; omega
        ·
          have hd1 : decide (p ≤ n) = false := by simpa using hge
          have hd2 : max (p - (n)) 0 = p - (n) := by omega
          have EU : Bk.ctu ⟨4, qu, true, false, n⟩ true (Bk.clip p 32767) = ⟨4, false, true, false, n⟩ := by rw [P.out]; simp [Bk.ctu] <;> omega
          have ED : Bk.ctd ⟨5, qd, true, on, cd⟩ true (Bk.clip p 32767) = ⟨5, false, true, true, (p - n)⟩ := by have h := HCD.out; rw [P.out]; simp [Bk.ctd, h] <;> omega
          have ER : Bk.rt ⟨6, qr, true, false, 0⟩ true = ⟨6, false, true, false, 0⟩ := by simp [Bk.rt]
          have EF : Bk.ft ⟨7, qf, true, false, 0⟩ true = ⟨7, false, true, false, 0⟩ := by simp [Bk.ft]
          replace EU := Aid.hid EU; replace ED := Aid.hid ED; replace ER := Aid.hid ER; replace EF := Aid.hid EF
          refine Ord.wp_region_walk (fun w' => Aid.Has w' b1 [.int .i64 4, .bool qu, .bool true, .bool false, .int .i64 n] 26 ∧ Aid.Has w' b2 [.int .i64 5, .bool qd, .bool true, .bool on, .int .i64 cd] 26 ∧ Aid.Has w' b3 [.int .i64 6, .bool qr, .bool true, .bool false, .int .i64 0] 26 ∧ Aid.Has w' b4 [.int .i64 7, .bool qf, .bool true, .bool false, .int .i64 0] 26 ∧ Below w.heap.size w w') 20 [(true, 0), (true, 1), (true, 2), (true, 3), (true, 5), (true, 6), (true, 7), (true, 8), (true, 10), (true, 11), (true, 12), (true, 13), (true, 15), (true, 16), (true, 17), (true, 18), (false, 4), (false, 9), (false, 14), (false, 19)] (by kernel_rfl) (by kernel_rfl) (fun _ _ d _ _ h => by cases d <;> exact h) (⟨H1, H2, H3, H4, B⟩) ?_
          generalize wr.drew = wd at *
          apply Ord.walk_light
          next => (simp only [List.getElem?_toArray, List.getElem?_cons_zero]; rfl)
          next => rfl
          next => (intro w hSw; obtain ⟨g1, g2, g3, g4, g5⟩ := hSw; obtain ⟨k0, k1, k2, k3, k4, k5⟩ := fiveE g1; go_simp; first | done | with_reducible rfl)
          simp only [Act.put, List.setIfInBounds_toArray, List.set_cons_zero, List.set_cons_succ]
          apply Ord.walk_light
          next => (simp only [List.getElem?_toArray, List.getElem?_cons_succ, List.getElem?_cons_zero]; rfl)
          next => rfl
          next => (intro w hSw; clear hSw; go_simp; first | done | with_reducible rfl)
          simp only [Act.put, List.setIfInBounds_toArray, List.set_cons_zero, List.set_cons_succ]
          apply Ord.walk_light
          next => (simp only [List.getElem?_toArray, List.getElem?_cons_succ, List.getElem?_cons_zero]; rfl)
          next => rfl
          next => (intro w hSw; clear hSw; go_simp; first | done | with_reducible rfl)
          simp only [Act.put, List.setIfInBounds_toArray, List.set_cons_zero, List.set_cons_succ]
          apply Ord.walk_light
          next => (simp only [List.getElem?_toArray, List.getElem?_cons_succ, List.getElem?_cons_zero]; rfl)
          next => rfl
          next => (intro w hSw; clear hSw; go_simp; first | done | with_reducible rfl)
          simp only [Act.put, List.setIfInBounds_toArray, List.set_cons_zero, List.set_cons_succ]
          apply Ord.walk_light
          next => (simp only [List.getElem?_toArray, List.getElem?_cons_succ, List.getElem?_cons_zero]; rfl)
          next => rfl
          next => (intro w hSw; obtain ⟨g1, g2, g3, g4, g5⟩ := hSw; obtain ⟨k0, k1, k2, k3, k4, k5⟩ := fiveE g2; go_simp; first | done | with_reducible rfl)
          simp only [Act.put, List.setIfInBounds_toArray, List.set_cons_zero, List.set_cons_succ]
          apply Ord.walk_light
          next => (simp only [List.getElem?_toArray, List.getElem?_cons_succ, List.getElem?_cons_zero]; rfl)
          next => rfl
          next => (intro w hSw; clear hSw; go_simp; first | done | with_reducible rfl)
          simp only [Act.put, List.setIfInBounds_toArray, List.set_cons_zero, List.set_cons_succ]
          apply Ord.walk_light
          next => (simp only [List.getElem?_toArray, List.getElem?_cons_succ, List.getElem?_cons_zero]; rfl)
          next => rfl
          next => (intro w hSw; clear hSw; go_simp; first | done | with_reducible rfl)
          simp only [Act.put, List.setIfInBounds_toArray, List.set_cons_zero, List.set_cons_succ]
          apply Ord.walk_light
          next => (simp only [List.getElem?_toArray, List.getElem?_cons_succ, List.getElem?_cons_zero]; rfl)
          next => rfl
          next => (intro w hSw; clear hSw; go_simp; first | done | with_reducible rfl)
          simp only [Act.put, List.setIfInBounds_toArray, List.set_cons_zero, List.set_cons_succ]
          apply Ord.walk_light
          next => (simp only [List.getElem?_toArray, List.getElem?_cons_succ, List.getElem?_cons_zero]; rfl)
          next => rfl
          next => (intro w hSw; obtain ⟨g1, g2, g3, g4, g5⟩ := hSw; obtain ⟨k0, k1, k2, k3, k4, k5⟩ := fiveE g3; go_simp; first | done | with_reducible rfl)
          simp only [Act.put, List.setIfInBounds_toArray, List.set_cons_zero, List.set_cons_succ]
          apply Ord.walk_light
          next => (simp only [List.getElem?_toArray, List.getElem?_cons_succ, List.getElem?_cons_zero]; rfl)
          next => rfl
          next => (intro w hSw; clear hSw; go_simp; first | done | with_reducible rfl)
          simp only [Act.put, List.setIfInBounds_toArray, List.set_cons_zero, List.set_cons_succ]
          apply Ord.walk_light
          next => (simp only [List.getElem?_toArray, List.getElem?_cons_succ, List.getElem?_cons_zero]; rfl)
          next => rfl
          next => (intro w hSw; clear hSw; go_simp; first | done | with_reducible rfl)
          simp only [Act.put, List.setIfInBounds_toArray, List.set_cons_zero, List.set_cons_succ]
          apply Ord.walk_light
          next => (simp only [List.getElem?_toArray, List.getElem?_cons_succ, List.getElem?_cons_zero]; rfl)
          next => rfl
          next => (intro w hSw; clear hSw; go_simp; first | done | with_reducible rfl)
          simp only [Act.put, List.setIfInBounds_toArray, List.set_cons_zero, List.set_cons_succ]
          apply Ord.walk_light
          next => (simp only [List.getElem?_toArray, List.getElem?_cons_succ, List.getElem?_cons_zero]; rfl)
          next => rfl
          next => (intro w hSw; obtain ⟨g1, g2, g3, g4, g5⟩ := hSw; obtain ⟨k0, k1, k2, k3, k4, k5⟩ := fiveE g4; go_simp; first | done | with_reducible rfl)
          simp only [Act.put, List.setIfInBounds_toArray, List.set_cons_zero, List.set_cons_succ]
          apply Ord.walk_light
          next => (simp only [List.getElem?_toArray, List.getElem?_cons_succ, List.getElem?_cons_zero]; rfl)
          next => rfl
          next => (intro w hSw; clear hSw; go_simp; first | done | with_reducible rfl)
          simp only [Act.put, List.setIfInBounds_toArray, List.set_cons_zero, List.set_cons_succ]
          apply Ord.walk_light
          next => (simp only [List.getElem?_toArray, List.getElem?_cons_succ, List.getElem?_cons_zero]; rfl)
          next => rfl
          next => (intro w hSw; clear hSw; go_simp; first | done | with_reducible rfl)
          simp only [Act.put, List.setIfInBounds_toArray, List.set_cons_zero, List.set_cons_succ]
          apply Ord.walk_light
          next => (simp only [List.getElem?_toArray, List.getElem?_cons_succ, List.getElem?_cons_zero]; rfl)
          next => rfl
          next => (intro w hSw; clear hSw; go_simp; first | done | with_reducible rfl)
          simp only [Act.put, List.setIfInBounds_toArray, List.set_cons_zero, List.set_cons_succ]
          apply Ord.walk_heavy
          next => (simp only [List.getElem?_toArray, List.getElem?_cons_succ, List.getElem?_cons_zero]; rfl)
          next => rfl
          intro K hK
          go_wp2_with fail
          refine (ctu_to qu true false true false true false n p k n _ EU.out (by omega) (by omega)).mono ?_; rintro e w' ⟨rfl, hb⟩; dsimp only
          refine hK.out _ _ ⟨H1.below hb H1.lt, H2.below hb H2.lt, H3.below hb H3.lt, H4.below hb H4.lt, B.trans (hb.mono B.size)⟩ (fun hHeld => ?_)
          clear H1 H2 H3 H4 B hb
          obtain ⟨H1, H2, H3, H4, B⟩ := hHeld
          clear hK K
          try simp only [Act.put, List.setIfInBounds_toArray, List.set_cons_zero, List.set_cons_succ]
          apply Ord.walk_heavy
          next => (simp only [List.getElem?_toArray, List.getElem?_cons_succ, List.getElem?_cons_zero]; rfl)
          next => rfl
          intro K hK
          go_wp2_with fail
          refine (ctd_to qd true on true false true true cd p k (p - n) _ ED.out (by omega) (by omega)).mono ?_; rintro e w' ⟨rfl, hb⟩; dsimp only
          refine hK.out _ _ ⟨H1.below hb H1.lt, H2.below hb H2.lt, H3.below hb H3.lt, H4.below hb H4.lt, B.trans (hb.mono B.size)⟩ (fun hHeld => ?_)
          clear H1 H2 H3 H4 B hb
          obtain ⟨H1, H2, H3, H4, B⟩ := hHeld
          clear hK K
          try simp only [Act.put, List.setIfInBounds_toArray, List.set_cons_zero, List.set_cons_succ]
          apply Ord.walk_heavy
          next => (simp only [List.getElem?_toArray, List.getElem?_cons_succ, List.getElem?_cons_zero]; rfl)
          next => rfl
          intro K hK
          go_wp2_with fail
          refine (rt_to qr true false true false true false 0 p k 0 _ ER.out (by omega) (by omega)).mono ?_; rintro e w' ⟨rfl, hb⟩; dsimp only
          refine hK.out _ _ ⟨H1.below hb H1.lt, H2.below hb H2.lt, H3.below hb H3.lt, H4.below hb H4.lt, B.trans (hb.mono B.size)⟩ (fun hHeld => ?_)
          clear H1 H2 H3 H4 B hb
          obtain ⟨H1, H2, H3, H4, B⟩ := hHeld
          clear hK K
          try simp only [Act.put, List.setIfInBounds_toArray, List.set_cons_zero, List.set_cons_succ]
          apply Ord.walk_heavy
          next => (simp only [List.getElem?_toArray, List.getElem?_cons_succ, List.getElem?_cons_zero]; rfl)
          next => rfl
          intro K hK
          go_wp2_with fail
          refine (ft_to qf true false true false true false 0 p k 0 _ EF.out (by omega) (by omega)).mono ?_; rintro e w' ⟨rfl, hb⟩; dsimp only
          refine hK.out _ _ ⟨H1.below hb H1.lt, H2.below hb H2.lt, H3.below hb H3.lt, H4.below hb H4.lt, B.trans (hb.mono B.size)⟩ (fun hHeld => ?_)
          clear H1 H2 H3 H4 B hb
          obtain ⟨H1, H2, H3, H4, B⟩ := hHeld
          clear hK K
          try simp only [Act.put, List.setIfInBounds_toArray, List.set_cons_zero, List.set_cons_succ]
          refine Ord.walk_tail ?_; simp only [List.drop_succ_cons, List.drop_zero]
          obtain ⟨c0', c1', c2', c3', c4', c5'⟩ := fiveE H1; obtain ⟨d0', d1', d2, d3, d4, d5⟩ := fiveE H2; obtain ⟨g0, g1, g2, g3, g4, g5⟩ := fiveE H3; obtain ⟨j0, j1, j2, j3, j4, j5⟩ := fiveE H4
          obtain ⟨⟨m1, m2, m3, m4, m5, m6⟩, L1, L2, L3, L4⟩ := NE.out
          have l1 := H1.lt; have l2 := H2.lt; have l3 := H3.lt; have l4 := H4.lt
          go_upto_region 12 with (fail)
          refine Aid.wp_abs (fun w' => Aid.Has w' b1 [.int .i64 4, .bool false, .bool true, .bool false, .int .i64 n] 26 ∧ Aid.Has w' b2 [.int .i64 5, .bool false, .bool true, .bool true, .int .i64 (p - n)] 26 ∧ Aid.Has w' b3 [.int .i64 6, .bool false, .bool true, .bool false, .int .i64 0] 26 ∧ Aid.Has w' b4 [.int .i64 7, .bool false, .bool true, .bool false, .int .i64 0] 26 ∧ Below w.heap.size w w') ⟨((((((((((((((((((((H1).set 0 _).set 1 _).set 2 _).set 3 _).set 4 _).other _ _ (by first | exact m1 | exact m2 | exact m3 | exact m4 | exact m5 | exact m6 | exact Ne.symm m1 | exact Ne.symm m2 | exact Ne.symm m3 | exact Ne.symm m4 | exact Ne.symm m5 | exact Ne.symm m6)).other _ _ (by first | exact m1 | exact m2 | exact m3 | exact m4 | exact m5 | exact m6 | exact Ne.symm m1 | exact Ne.symm m2 | exact Ne.symm m3 | exact Ne.symm m4 | exact Ne.symm m5 | exact Ne.symm m6)).other _ _ (by first | exact m1 | exact m2 | exact m3 | exact m4 | exact m5 | exact m6 | exact Ne.symm m1 | exact Ne.symm m2 | exact Ne.symm m3 | exact Ne.symm m4 | exact Ne.symm m5 | exact Ne.symm m6)).other _ _ (by first | exact m1 | exact m2 | exact m3 | exact m4 | exact m5 | exact m6 | exact Ne.symm m1 | exact Ne.symm m2 | exact Ne.symm m3 | exact Ne.symm m4 | exact Ne.symm m5 | exact Ne.symm m6)).other _ _ (by first | exact m1 | exact m2 | exact m3 | exact m4 | exact m5 | exact m6 | exact Ne.symm m1 | exact Ne.symm m2 | exact Ne.symm m3 | exact Ne.symm m4 | exact Ne.symm m5 | exact Ne.symm m6)).other _ _ (by first | exact m1 | exact m2 | exact m3 | exact m4 | exact m5 | exact m6 | exact Ne.symm m1 | exact Ne.symm m2 | exact Ne.symm m3 | exact Ne.symm m4 | exact Ne.symm m5 | exact Ne.symm m6)).other _ _ (by first | exact m1 | exact m2 | exact m3 | exact m4 | exact m5 | exact m6 | exact Ne.symm m1 | exact Ne.symm m2 | exact Ne.symm m3 | exact Ne.symm m4 | exact Ne.symm m5 | exact Ne.symm m6)).other _ _ (by first | exact m1 | exact m2 | exact m3 | exact m4 | exact m5 | exact m6 | exact Ne.symm m1 | exact Ne.symm m2 | exact Ne.symm m3 | exact Ne.symm m4 | exact Ne.symm m5 | exact Ne.symm m6)).other _ _ (by first | exact m1 | exact m2 | exact m3 | exact m4 | exact m5 | exact m6 | exact Ne.symm m1 | exact Ne.symm m2 | exact Ne.symm m3 | exact Ne.symm m4 | exact Ne.symm m5 | exact Ne.symm m6)).other _ _ (by first | exact m1 | exact m2 | exact m3 | exact m4 | exact m5 | exact m6 | exact Ne.symm m1 | exact Ne.symm m2 | exact Ne.symm m3 | exact Ne.symm m4 | exact Ne.symm m5 | exact Ne.symm m6)).other _ _ (by first | exact m1 | exact m2 | exact m3 | exact m4 | exact m5 | exact m6 | exact Ne.symm m1 | exact Ne.symm m2 | exact Ne.symm m3 | exact Ne.symm m4 | exact Ne.symm m5 | exact Ne.symm m6)).other _ _ (by first | exact m1 | exact m2 | exact m3 | exact m4 | exact m5 | exact m6 | exact Ne.symm m1 | exact Ne.symm m2 | exact Ne.symm m3 | exact Ne.symm m4 | exact Ne.symm m5 | exact Ne.symm m6)).other _ _ (by first | exact m1 | exact m2 | exact m3 | exact m4 | exact m5 | exact m6 | exact Ne.symm m1 | exact Ne.symm m2 | exact Ne.symm m3 | exact Ne.symm m4 | exact Ne.symm m5 | exact Ne.symm m6)).other _ _ (by first | exact m1 | exact m2 | exact m3 | exact m4 | exact m5 | exact m6 | exact Ne.symm m1 | exact Ne.symm m2 | exact Ne.symm m3 | exact Ne.symm m4 | exact Ne.symm m5 | exact Ne.symm m6)).other _ _ (by first | exact m1 | exact m2 | exact m3 | exact m4 | exact m5 | exact m6 | exact Ne.symm m1 | exact Ne.symm m2 | exact Ne.symm m3 | exact Ne.symm m4 | exact Ne.symm m5 | exact Ne.symm m6), ((((((((((((((((((((H2).other _ _ (by first | exact m1 | exact m2 | exact m3 | exact m4 | exact m5 | exact m6 | exact Ne.symm m1 | exact Ne.symm m2 | exact Ne.symm m3 | exact Ne.symm m4 | exact Ne.symm m5 | exact Ne.symm m6)).other _ _ (by first | exact m1 | exact m2 | exact m3 | exact m4 | exact m5 | exact m6 | exact Ne.symm m1 | exact Ne.symm m2 | exact Ne.symm m3 | exact Ne.symm m4 | exact Ne.symm m5 | exact Ne.symm m6)).other _ _ (by first | exact m1 | exact m2 | exact m3 | exact m4 | exact m5 | exact m6 | exact Ne.symm m1 | exact Ne.symm m2 | exact Ne.symm m3 | exact Ne.symm m4 | exact Ne.symm m5 | exact Ne.symm m6)).other _ _ (by first | exact m1 | exact m2 | exact m3 | exact m4 | exact m5 | exact m6 | exact Ne.symm m1 | exact Ne.symm m2 | exact Ne.symm m3 | exact Ne.symm m4 | exact Ne.symm m5 | exact Ne.symm m6)).other _ _ (by first | exact m1 | exact m2 | exact m3 | exact m4 | exact m5 | exact m6 | exact Ne.symm m1 | exact Ne.symm m2 | exact Ne.symm m3 | exact Ne.symm m4 | exact Ne.symm m5 | exact Ne.symm m6)).set 0 _).set 1 _).set 2 _).set 3 _).set 4 _).other _ _ (by first | exact m1 | exact m2 | exact m3 | exact m4 | exact m5 | exact m6 | exact Ne.symm m1 | exact Ne.symm m2 | exact Ne.symm m3 | exact Ne.symm m4 | exact Ne.symm m5 | exact Ne.symm m6)).other _ _ (by first | exact m1 | exact m2 | exact m3 | exact m4 | exact m5 | exact m6 | exact Ne.symm m1 | exact Ne.symm m2 | exact Ne.symm m3 | exact Ne.symm m4 | exact Ne.symm m5 | exact Ne.symm m6)).other _ _ (by first | exact m1 | exact m2 | exact m3 | exact m4 | exact m5 | exact m6 | exact Ne.symm m1 | exact Ne.symm m2 | exact Ne.symm m3 | exact Ne.symm m4 | exact Ne.symm m5 | exact Ne.symm m6)).other _ _ (by first | exact m1 | exact m2 | exact m3 | exact m4 | exact m5 | exact m6 | exact Ne.symm m1 | exact Ne.symm m2 | exact Ne.symm m3 | exact Ne.symm m4 | exact Ne.symm m5 | exact Ne.symm m6)).other _ _ (by first | exact m1 | exact m2 | exact m3 | exact m4 | exact m5 | exact m6 | exact Ne.symm m1 | exact Ne.symm m2 | exact Ne.symm m3 | exact Ne.symm m4 | exact Ne.symm m5 | exact Ne.symm m6)).other _ _ (by first | exact m1 | exact m2 | exact m3 | exact m4 | exact m5 | exact m6 | exact Ne.symm m1 | exact Ne.symm m2 | exact Ne.symm m3 | exact Ne.symm m4 | exact Ne.symm m5 | exact Ne.symm m6)).other _ _ (by first | exact m1 | exact m2 | exact m3 | exact m4 | exact m5 | exact m6 | exact Ne.symm m1 | exact Ne.symm m2 | exact Ne.symm m3 | exact Ne.symm m4 | exact Ne.symm m5 | exact Ne.symm m6)).other _ _ (by first | exact m1 | exact m2 | exact m3 | exact m4 | exact m5 | exact m6 | exact Ne.symm m1 | exact Ne.symm m2 | exact Ne.symm m3 | exact Ne.symm m4 | exact Ne.symm m5 | exact Ne.symm m6)).other _ _ (by first | exact m1 | exact m2 | exact m3 | exact m4 | exact m5 | exact m6 | exact Ne.symm m1 | exact Ne.symm m2 | exact Ne.symm m3 | exact Ne.symm m4 | exact Ne.symm m5 | exact Ne.symm m6)).other _ _ (by first | exact m1 | exact m2 | exact m3 | exact m4 | exact m5 | exact m6 | exact Ne.symm m1 | exact Ne.symm m2 | exact Ne.symm m3 | exact Ne.symm m4 | exact Ne.symm m5 | exact Ne.symm m6), ((((((((((((((((((((H3).other _ _ (by first | exact m1 | exact m2 | exact m3 | exact m4 | exact m5 | exact m6 | exact Ne.symm m1 | exact Ne.symm m2 | exact Ne.symm m3 | exact Ne.symm m4 | exact Ne.symm m5 | exact Ne.symm m6)).other _ _ (by first | exact m1 | exact m2 | exact m3 | exact m4 | exact m5 | exact m6 | exact Ne.symm m1 | exact Ne.symm m2 | exact Ne.symm m3 | exact Ne.symm m4 | exact Ne.symm m5 | exact Ne.symm m6)).other _ _ (by first | exact m1 | exact m2 | exact m3 | exact m4 | exact m5 | exact m6 | exact Ne.symm m1 | exact Ne.symm m2 | exact Ne.symm m3 | exact Ne.symm m4 | exact Ne.symm m5 | exact Ne.symm m6)).other _ _ (by first | exact m1 | exact m2 | exact m3 | exact m4 | exact m5 | exact m6 | exact Ne.symm m1 | exact Ne.symm m2 | exact Ne.symm m3 | exact Ne.symm m4 | exact Ne.symm m5 | exact Ne.symm m6)).other _ _ (by first | exact m1 | exact m2 | exact m3 | exact m4 | exact m5 | exact m6 | exact Ne.symm m1 | exact Ne.symm m2 | exact Ne.symm m3 | exact Ne.symm m4 | exact Ne.symm m5 | exact Ne.symm m6)).other _ _ (by first | exact m1 | exact m2 | exact m3 | exact m4 | exact m5 | exact m6 | exact Ne.symm m1 | exact Ne.symm m2 | exact Ne.symm m3 | exact Ne.symm m4 | exact Ne.symm m5 | exact Ne.symm m6)).other _ _ (by first | exact m1 | exact m2 | exact m3 | exact m4 | exact m5 | exact m6 | exact Ne.symm m1 | exact Ne.symm m2 | exact Ne.symm m3 | exact Ne.symm m4 | exact Ne.symm m5 | exact Ne.symm m6)).other _ _ (by first | exact m1 | exact m2 | exact m3 | exact m4 | exact m5 | exact m6 | exact Ne.symm m1 | exact Ne.symm m2 | exact Ne.symm m3 | exact Ne.symm m4 | exact Ne.symm m5 | exact Ne.symm m6)).other _ _ (by first | exact m1 | exact m2 | exact m3 | exact m4 | exact m5 | exact m6 | exact Ne.symm m1 | exact Ne.symm m2 | exact Ne.symm m3 | exact Ne.symm m4 | exact Ne.symm m5 | exact Ne.symm m6)).other _ _ (by first | exact m1 | exact m2 | exact m3 | exact m4 | exact m5 | exact m6 | exact Ne.symm m1 | exact Ne.symm m2 | exact Ne.symm m3 | exact Ne.symm m4 | exact Ne.symm m5 | exact Ne.symm m6)).set 0 _).set 1 _).set 2 _).set 3 _).set 4 _).other _ _ (by first | exact m1 | exact m2 | exact m3 | exact m4 | exact m5 | exact m6 | exact Ne.symm m1 | exact Ne.symm m2 | exact Ne.symm m3 | exact Ne.symm m4 | exact Ne.symm m5 | exact Ne.symm m6)).other _ _ (by first | exact m1 | exact m2 | exact m3 | exact m4 | exact m5 | exact m6 | exact Ne.symm m1 | exact Ne.symm m2 | exact Ne.symm m3 | exact Ne.symm m4 | exact Ne.symm m5 | exact Ne.symm m6)).other _ _ (by first | exact m1 | exact m2 | exact m3 | exact m4 | exact m5 | exact m6 | exact Ne.symm m1 | exact Ne.symm m2 | exact Ne.symm m3 | exact Ne.symm m4 | exact Ne.symm m5 | exact Ne.symm m6)).other _ _ (by first | exact m1 | exact m2 | exact m3 | exact m4 | exact m5 | exact m6 | exact Ne.symm m1 | exact Ne.symm m2 | exact Ne.symm m3 | exact Ne.symm m4 | exact Ne.symm m5 | exact Ne.symm m6)).other _ _ (by first | exact m1 | exact m2 | exact m3 | exact m4 | exact m5 | exact m6 | exact Ne.symm m1 | exact Ne.symm m2 | exact Ne.symm m3 | exact Ne.symm m4 | exact Ne.symm m5 | exact Ne.symm m6), ((((((((((((((((((((H4).other _ _ (by first | exact m1 | exact m2 | exact m3 | exact m4 | exact m5 | exact m6 | exact Ne.symm m1 | exact Ne.symm m2 | exact Ne.symm m3 | exact Ne.symm m4 | exact Ne.symm m5 | exact Ne.symm m6)).other _ _ (by first | exact m1 | exact m2 | exact m3 | exact m4 | exact m5 | exact m6 | exact Ne.symm m1 | exact Ne.symm m2 | exact Ne.symm m3 | exact Ne.symm m4 | exact Ne.symm m5 | exact Ne.symm m6)).other _ _ (by first | exact m1 | exact m2 | exact m3 | exact m4 | exact m5 | exact m6 | exact Ne.symm m1 | exact Ne.symm m2 | exact Ne.symm m3 | exact Ne.symm m4 | exact Ne.symm m5 | exact Ne.symm m6)).other _ _ (by first | exact m1 | exact m2 | exact m3 | exact m4 | exact m5 | exact m6 | exact Ne.symm m1 | exact Ne.symm m2 | exact Ne.symm m3 | exact Ne.symm m4 | exact Ne.symm m5 | exact Ne.symm m6)).other _ _ (by first | exact m1 | exact m2 | exact m3 | exact m4 | exact m5 | exact m6 | exact Ne.symm m1 | exact Ne.symm m2 | exact Ne.symm m3 | exact Ne.symm m4 | exact Ne.symm m5 | exact Ne.symm m6)).other _ _ (by first | exact m1 | exact m2 | exact m3 | exact m4 | exact m5 | exact m6 | exact Ne.symm m1 | exact Ne.symm m2 | exact Ne.symm m3 | exact Ne.symm m4 | exact Ne.symm m5 | exact Ne.symm m6)).other _ _ (by first | exact m1 | exact m2 | exact m3 | exact m4 | exact m5 | exact m6 | exact Ne.symm m1 | exact Ne.symm m2 | exact Ne.symm m3 | exact Ne.symm m4 | exact Ne.symm m5 | exact Ne.symm m6)).other _ _ (by first | exact m1 | exact m2 | exact m3 | exact m4 | exact m5 | exact m6 | exact Ne.symm m1 | exact Ne.symm m2 | exact Ne.symm m3 | exact Ne.symm m4 | exact Ne.symm m5 | exact Ne.symm m6)).other _ _ (by first | exact m1 | exact m2 | exact m3 | exact m4 | exact m5 | exact m6 | exact Ne.symm m1 | exact Ne.symm m2 | exact Ne.symm m3 | exact Ne.symm m4 | exact Ne.symm m5 | exact Ne.symm m6)).other _ _ (by first | exact m1 | exact m2 | exact m3 | exact m4 | exact m5 | exact m6 | exact Ne.symm m1 | exact Ne.symm m2 | exact Ne.symm m3 | exact Ne.symm m4 | exact Ne.symm m5 | exact Ne.symm m6)).other _ _ (by first | exact m1 | exact m2 | exact m3 | exact m4 | exact m5 | exact m6 | exact Ne.symm m1 | exact Ne.symm m2 | exact Ne.symm m3 | exact Ne.symm m4 | exact Ne.symm m5 | exact Ne.symm m6)).other _ _ (by first | exact m1 | exact m2 | exact m3 | exact m4 | exact m5 | exact m6 | exact Ne.symm m1 | exact Ne.symm m2 | exact Ne.symm m3 | exact Ne.symm m4 | exact Ne.symm m5 | exact Ne.symm m6)).other _ _ (by first | exact m1 | exact m2 | exact m3 | exact m4 | exact m5 | exact m6 | exact Ne.symm m1 | exact Ne.symm m2 | exact Ne.symm m3 | exact Ne.symm m4 | exact Ne.symm m5 | exact Ne.symm m6)).other _ _ (by first | exact m1 | exact m2 | exact m3 | exact m4 | exact m5 | exact m6 | exact Ne.symm m1 | exact Ne.symm m2 | exact Ne.symm m3 | exact Ne.symm m4 | exact Ne.symm m5 | exact Ne.symm m6)).other _ _ (by first | exact m1 | exact m2 | exact m3 | exact m4 | exact m5 | exact m6 | exact Ne.symm m1 | exact Ne.symm m2 | exact Ne.symm m3 | exact Ne.symm m4 | exact Ne.symm m5 | exact Ne.symm m6)).set 0 _).set 1 _).set 2 _).set 3 _).set 4 _, ((((((((((((((((((((B).setCell (by first | exact L1 | exact L2 | exact L3 | exact L4) _).setCell (by first | exact L1 | exact L2 | exact L3 | exact L4) _).setCell (by first | exact L1 | exact L2 | exact L3 | exact L4) _).setCell (by first | exact L1 | exact L2 | exact L3 | exact L4) _).setCell (by first | exact L1 | exact L2 | exact L3 | exact L4) _).setCell (by first | exact L1 | exact L2 | exact L3 | exact L4) _).setCell (by first | exact L1 | exact L2 | exact L3 | exact L4) _).setCell (by first | exact L1 | exact L2 | exact L3 | exact L4) _).setCell (by first | exact L1 | exact L2 | exact L3 | exact L4) _).setCell (by first | exact L1 | exact L2 | exact L3 | exact L4) _).setCell (by first | exact L1 | exact L2 | exact L3 | exact L4) _).setCell (by first | exact L1 | exact L2 | exact L3 | exact L4) _).setCell (by first | exact L1 | exact L2 | exact L3 | exact L4) _).setCell (by first | exact L1 | exact L2 | exact L3 | exact L4) _).setCell (by first | exact L1 | exact L2 | exact L3 | exact L4) _).setCell (by first | exact L1 | exact L2 | exact L3 | exact L4) _).setCell (by first | exact L1 | exact L2 | exact L3 | exact L4) _).setCell (by first | exact L1 | exact L2 | exact L3 | exact L4) _).setCell (by first | exact L1 | exact L2 | exact L3 | exact L4) _).setCell (by first | exact L1 | exact L2 | exact L3 | exact L4) _⟩ (fun wf hwf => ?_)
          clear c0' c1' c2' c3' c4' c5' d0' d1' d2 d3 d4 d5 g0 g1 g2 g3 g4 g5 j0 j1 j2 j3 j4 j5 m1 m2 m3 m4 m5 m6 l1 l2 l3 l4 H1 H2 H3 H4 B
          obtain ⟨H1, H2, H3, H4, B⟩ := hwf
          obtain ⟨c0', c1', c2', c3', c4', c5'⟩ := fiveE H1; obtain ⟨d0', d1', d2, d3, d4, d5⟩ := fiveE H2; obtain ⟨g0, g1, g2, g3, g4, g5⟩ := fiveE H3; obtain ⟨j0, j1, j2, j3, j4, j5⟩ := fiveE H4
          go_wp2_with fail
          go_roundw
          case rel => exact ⟨k + 1, n, (p - n), true, true, false, false, false, false, by omega, by go_num, rfl, by first | rfl | go_num, by omega, by push_cast; omega, by simp <;> omega, by omega, by omega, H1, H2, H3, H4, B⟩
          case measure => simp [intOf]; omega
    · go_wp2_with fail
      refine (awake_any _).mono ?_; rintro e w' ⟨rfl, hb⟩
      go_wp2_with fail
      go_ret
      exact ⟨rfl, B.trans (hb.mono B.size)⟩

set_option maxRecDepth 100000 in
set_option maxHeartbeats 1000000 in
theorem edges_long (x : Int) (a : Option Addr) (len cap : Nat) (w : World) (hlen : 60 < len) :
    Calls Try.prog 4 #[.slice a len cap, .int .i64 x] w fun e w' => e = .returned (.bool true) ∧ Below w.heap.size w w' := by
  go_enter Try.func4, Try.ntmps4
  try simp only [List.append_eq, List.cons_append, List.nil_append]
  go_wp2_with fail
  refine (awake_any _).mono ?_; rintro e w' ⟨rfl, hb⟩
  go_wp2_with fail
  go_ret
  exact ⟨rfl, hb⟩
end Go.Proofs.Ytamalbkiblgbdaa
