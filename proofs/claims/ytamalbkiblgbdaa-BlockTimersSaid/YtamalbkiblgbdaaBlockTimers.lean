/- The law BlockTimers, walked. -/
import Derived.Test.YtamalbkiblgbdaaBlockAwake
import Derived.Test.YtamalbkiblgbdaaOrd
import Derived.Deep.Cut
namespace Go.Proofs.Ytamalbkiblgbdaa
open Go.RowKit

theorem five {w : World} {b : Nat} {v0 v1 v2 v3 v4 : Value} {t : TypeId} (h : Aid.Has w b [v0, v1, v2, v3, v4] t) :
    w.cell? ⟨b, 0, none⟩ = some v0 ∧ w.cell? ⟨b, 1, none⟩ = some v1 ∧ w.cell? ⟨b, 2, none⟩ = some v2 ∧ w.cell? ⟨b, 3, none⟩ = some v3 ∧ w.cell? ⟨b, 4, none⟩ = some v4 ∧ (∀ j, w.frozen? ⟨b, j, none⟩ = false) :=
  ⟨h.cell 0 _ rfl, h.cell 1 _ rfl, h.cell 2 _ rfl, h.cell 3 _ rfl, h.cell 4 _ rfl, h.frozen⟩

set_option maxRecDepth 100000 in
set_option maxHeartbeats 1000000 in
theorem timers_slice (x : Int) (a : Option Addr) (b off len cap : Nat) (zs : Nat → Int) (w : World) (hlen : len ≤ 40) (ha : 0 < len → a = some ⟨b, off, none⟩) (hbb : 0 < len → b < w.heap.size)
    (hz : ∀ i, i < len → w.cell? ⟨b, off + i, none⟩ = some (.int .i64 (zs i))) :
    Calls Try.prog 3 #[.int .i64 x, .slice a len cap] w fun e w' => e = .returned (.bool true) ∧ Below w.heap.size w w' := by
  obtain ⟨y, hy⟩ : ∃ y, low x 100 = y := ⟨_, rfl⟩
  have y0 : 0 ≤ y := hy ▸ (low_in x 100 (by decide)).1
  have y1 : y < 100 := hy ▸ (low_in x 100 (by decide)).2
  have F1 := Aid.hid hy; clear hy
  have P : Hid (Bk.clip (1 + y) 32767 = 1 + y) := Aid.hid (by unfold Bk.clip; omega)
  have Z := Aid.hid hz; clear hz
  have HA := Aid.hid ha; clear ha
  go_enter Try.func3, Try.ntmps3
  try simp only [List.append_eq, List.cons_append, List.nil_append]
  go_wp2_with fail
  refine (low_is _ _ y F1.out (by decide) (by decide) _).mono ?_; rintro e w' ⟨rfl, rfl⟩
  go_wp2_with fail
  refine (new_any _ _).mono ?_; rintro e w1 ⟨rfl, hb1⟩
  unfold Bk.v
  go_wp2_with fail
  refine (ton_to false false false true false true true 0 (1 + y) 7 0 _ (by rw [P.out]; simp [Bk.ton]; omega) (by decide) (by decide)).mono ?_; rintro e w2 ⟨rfl, hb2⟩
  have B2 : Below w.heap.size w w2 := hb1.trans (hb2.mono hb1.size)
  have L2 := B2.size
  clear hb1 hb2
  go_wp2_with fail
  refine (new_any _ _).mono ?_; rintro e w3 ⟨rfl, hb3⟩
  unfold Bk.v
  go_wp2_with fail
  refine (tof_to false false false true true true false 0 (1 + y) 7 0 _ (by simp [Bk.tof]) (by decide) (by decide)).mono ?_; rintro e w4 ⟨rfl, hb4⟩
  have hb4' := hb3.trans (hb4.mono hb3.size)
  clear hb3 hb4
  go_wp2_with fail
  refine (tof_to true true false false true false false 0 (1 + y) 0 0 _ (by rw [P.out]; simp [Bk.tof, Bk.clip]; omega) (by decide) (by decide)).mono ?_; rintro e w5 ⟨rfl, hb5⟩
  have hb5' := hb4'.trans (hb5.mono hb4'.size)
  have H1 : Aid.Has w5 w2.heap.size [.int .i64 1, .bool false, .bool true, .bool true, .int .i64 0] 26 := Aid.Has.below (Aid.Has.new _ _ _) hb5' (by simp)
  have B5 : Below w.heap.size w w5 := (B2.alloc L2 _).trans (hb5'.mono (by simp; omega))
  have L5 := B5.size
  have N12 : w2.heap.size < w5.heap.size := H1.lt
  clear B2 hb4' hb5 hb5'
  generalize w2.heap.size = b1 at *
  go_wp2_with fail
  refine (new_any _ _).mono ?_; rintro e w6 ⟨rfl, hb6⟩
  unfold Bk.v
  go_wp2_with fail
  refine (tp_to false false false true true true true 0 (1 + y) 7 0 _ (by rw [P.out]; simp [Bk.tp]; omega) (by decide) (by decide)).mono ?_; rintro e w7 ⟨rfl, hb7⟩
  have hb7' := hb6.trans (hb7.mono hb6.size)
  have H1 : Aid.Has w7 b1 [.int .i64 1, .bool false, .bool true, .bool true, .int .i64 0] 26 := Aid.Has.below (H1.alloc _) hb7' (by have := H1.lt; simp; omega)
  have H2 : Aid.Has w7 w5.heap.size [.int .i64 2, .bool true, .bool false, .bool false, .int .i64 0] 26 := Aid.Has.below (Aid.Has.new _ _ _) hb7' (by simp)
  have B7 : Below w.heap.size w w7 := (B5.alloc L5 _).trans (hb7'.mono (by simp; omega))
  have L7 := B7.size
  clear B5 hb6 hb7 hb7'
  generalize w5.heap.size = b2 at *
  have N1 := H1.lt
  have N2 := H2.lt
  have c0 := H1.cell 0 _ rfl
  have c1 := H1.cell 1 _ rfl
  have c2 := H1.cell 2 _ rfl
  have c3 := H1.cell 3 _ rfl
  have c4 := H1.cell 4 _ rfl
  have cf := H1.frozen
  have d0 := H2.cell 0 _ rfl
  have d1 := H2.cell 1 _ rfl
  have d2 := H2.cell 2 _ rfl
  have d3 := H2.cell 3 _ rfl
  have d4 := H2.cell 4 _ rfl
  have df := H2.frozen
  go_wp2_with fail
  clear c0 c1 c2 c3 c4 cf d0 d1 d2 d3 d4 df
  have H3 : Aid.Has (w7.alloc (.cells #[.int .i64 3, .bool true, .bool true, .bool true, .int .i64 0] 26)) w7.heap.size [.int .i64 3, .bool true, .bool true, .bool true, .int .i64 0] 26 := Aid.Has.new _ _ _
  replace H1 := H1.alloc (.cells #[.int .i64 3, .bool true, .bool true, .bool true, .int .i64 0] 26)
  replace H2 := H2.alloc (.cells #[.int .i64 3, .bool true, .bool true, .bool true, .int .i64 0] 26)
  replace B7 := B7.alloc L7 (.cells #[.int .i64 3, .bool true, .bool true, .bool true, .int .i64 0] 26)
  generalize w7.alloc (.cells #[.int .i64 3, .bool true, .bool true, .bool true, .int .i64 0] 26) = w8 at *
  generalize w7.heap.size = b3 at *
  have n12 : Hid (b1 ≠ b2 ∧ b1 ≠ b3 ∧ b2 ≠ b3) := Aid.hid (by refine ⟨?_, ?_, ?_⟩ <;> omega)
  clear N1 N2
  go_loopw [8, 9] (fun t i wr => ∃ (k : Nat) (s c : Int) (q1 q2 l : Bool), k ≤ len ∧ i = .int .i64 k ∧ t = .int .i64 s ∧ 0 ≤ s ∧ s ≤ 20 * k ∧ c = min s (1 + y) ∧ q1 = decide (1 + y ≤ s) ∧ q2 = decide (s < 1 + y) ∧
      Aid.Has wr b1 [.int .i64 1, .bool q1, .bool true, .bool true, .int .i64 c] 26 ∧ Aid.Has wr b2 [.int .i64 2, .bool q2, .bool false, .bool false, .int .i64 c] 26 ∧ Aid.Has wr b3 [.int .i64 3, .bool q2, .bool l, .bool q2, .int .i64 c] 26 ∧
      Below w.heap.size w wr) (fun _ i _ => len - (intOf i).toNat)
  case atStart => exact ⟨0, 0, 0, false, true, true, Nat.zero_le _, rfl, rfl, by decide, by decide, by omega, by simp; omega, by simp; omega, H1, H2, H3, B7⟩
  case round =>
    obtain ⟨k, s, c, q1, q2, l, hk, rfl, rfl, hs0, hs1, hc, hq1, hq2, H1, H2, H3, B⟩ := hrel
    have HC := Aid.hid hc; have HQ1 := Aid.hid hq1; have HQ2 := Aid.hid hq2
    clear hc hq1 hq2
    by_cases hlt : k < len
    · have hb := hbb (by omega)
      obtain rfl := HA.out (by omega)
      obtain ⟨d, hd⟩ : ∃ d, low (zs k) 20 = d := ⟨_, rfl⟩
      have d0 : 0 ≤ d := hd ▸ (low_in (zs k) 20 (by decide)).1
      have d1 : d < 20 := hd ▸ (low_in (zs k) 20 (by decide)).2
      have D := Aid.hid hd; clear hd
      have zk : wr.cell? ⟨b, off + k, none⟩ = some (.int .i64 (zs k)) := (B.cell (p := ⟨b, off + k, none⟩) hb).trans (Z.out k hlt)
      go_wp2_with fail
      refine (low_is _ _ d D.out (by decide) (by decide) _).mono ?_; rintro e w' ⟨rfl, rfl⟩
      go_wp2_with fail
      clear zk
      obtain ⟨c', hc'⟩ : ∃ c', c' = min (s + d) (1 + y) := ⟨_, rfl⟩
      have HC' := Aid.hid hc'; clear hc'
      obtain ⟨q1', hq1'⟩ : ∃ q, q = decide (1 + y ≤ s + d) := ⟨_, rfl⟩
      obtain ⟨q2', hq2'⟩ : ∃ q, q = decide (s + d < 1 + y) := ⟨_, rfl⟩
      have HQ1' := Aid.hid hq1'; have HQ2' := Aid.hid hq2'; clear hq1' hq2'
      replace H1 := H1.drew; replace H2 := H2.drew; replace H3 := H3.drew; replace B := B.drew
      by_cases hod : (k : Int) % 2 = 1
      · by_cases hlt2 : s + d < 1 + y
        ·
          have ho : ((k : Int).tmod 2 == 1) = true := by rw [Int.tmod_eq_emod_of_nonneg (by omega)]; simpa using hod
          have hp : decide (s + d < 1 + y) = true := by simpa using hlt2
          have hp' : decide (1 + y ≤ s + d) = false := by simp; omega
          obtain rfl : c' = s + d := by rw [HC'.out]; omega
          obtain rfl : q1' = false := by rw [HQ1'.out, hp']
          obtain rfl : q2' = true := by rw [HQ2'.out, hp]
          refine Ord.wp_region_walk (fun w' => Aid.Has w' b1 [.int .i64 1, .bool q1, .bool true, .bool true, .int .i64 c] 26 ∧ Aid.Has w' b2 [.int .i64 2, .bool q2, .bool false, .bool false, .int .i64 c] 26 ∧ Aid.Has w' b3 [.int .i64 3, .bool q2, .bool l, .bool q2, .int .i64 c] 26 ∧ Below w.heap.size w w') 20 [(true, 0), (true, 1), (true, 2), (true, 4), (true, 5), (true, 6), (true, 8), (true, 9), (true, 10), (true, 11), (true, 17), (true, 18), (false, 3), (false, 7), (true, 12), (true, 13), (true, 14), (true, 15), (true, 16), (false, 19)] (by kernel_rfl) (by kernel_rfl) (fun _ _ d _ _ h => by cases d <;> exact h) (⟨H1, H2, H3, B⟩) ?_
          generalize wr.drew = wd at *
          apply Ord.walk_light
          next => (simp only [List.getElem?_toArray, List.getElem?_cons_zero]; rfl)
          next => rfl
          next => (intro w hSw; obtain ⟨g1, g2, g3, g4⟩ := hSw; obtain ⟨k0, k1, k2, k3, k4, k5⟩ := five g1; go_simp; first | done | with_reducible rfl)
          simp only [Act.put, List.setIfInBounds_toArray, List.set_cons_zero, List.set_cons_succ]
          apply Ord.walk_light
          next => (simp only [List.getElem?_toArray, List.getElem?_cons_succ, List.getElem?_cons_zero]; rfl)
          next => rfl
          next => (intro w hSw; clear hSw; go_simp; first | done | with_reducible rfl)
          simp only [Act.put, List.setIfInBounds_toArray, List.set_cons_zero, List.set_cons_succ]
          apply Ord.walk_light
          next => (simp only [List.getElem?_toArray, List.getElem?_cons_succ, List.getElem?_cons_zero]; rfl)
          next => rfl
          next => (intro w hSw; clear hSw; go_simp; first | done | with_reducible rfl)
          simp only [Act.put, List.setIfInBounds_toArray, List.set_cons_zero, List.set_cons_succ]
          apply Ord.walk_light
          next => (simp only [List.getElem?_toArray, List.getElem?_cons_succ, List.getElem?_cons_zero]; rfl)
          next => rfl
          next => (intro w hSw; obtain ⟨g1, g2, g3, g4⟩ := hSw; obtain ⟨k0, k1, k2, k3, k4, k5⟩ := five g2; go_simp; first | done | with_reducible rfl)
          simp only [Act.put, List.setIfInBounds_toArray, List.set_cons_zero, List.set_cons_succ]
          apply Ord.walk_light
          next => (simp only [List.getElem?_toArray, List.getElem?_cons_succ, List.getElem?_cons_zero]; rfl)
          next => rfl
          next => (intro w hSw; clear hSw; go_simp; first | done | with_reducible rfl)
          simp only [Act.put, List.setIfInBounds_toArray, List.set_cons_zero, List.set_cons_succ]
          apply Ord.walk_light
          next => (simp only [List.getElem?_toArray, List.getElem?_cons_succ, List.getElem?_cons_zero]; rfl)
          next => rfl
          next => (intro w hSw; clear hSw; go_simp; first | done | with_reducible rfl)
          simp only [Act.put, List.setIfInBounds_toArray, List.set_cons_zero, List.set_cons_succ]
          apply Ord.walk_light
          next => (simp only [List.getElem?_toArray, List.getElem?_cons_succ, List.getElem?_cons_zero]; rfl)
          next => rfl
          next => (intro w hSw; obtain ⟨g1, g2, g3, g4⟩ := hSw; obtain ⟨k0, k1, k2, k3, k4, k5⟩ := five g3; go_simp; first | done | with_reducible rfl)
          simp only [Act.put, List.setIfInBounds_toArray, List.set_cons_zero, List.set_cons_succ]
          apply Ord.walk_light
          next => (simp only [List.getElem?_toArray, List.getElem?_cons_succ, List.getElem?_cons_zero]; rfl)
          next => rfl
          next => (intro w hSw; clear hSw; go_simp; first | done | with_reducible rfl)
          simp only [Act.put, List.setIfInBounds_toArray, List.set_cons_zero, List.set_cons_succ]
          apply Ord.walk_light
          next => (simp only [List.getElem?_toArray, List.getElem?_cons_succ, List.getElem?_cons_zero]; rfl)
          next => rfl
          next => (intro w hSw; clear hSw; go_simp; first | done | with_reducible rfl)
          simp only [Act.put, List.setIfInBounds_toArray, List.set_cons_zero, List.set_cons_succ]
          apply Ord.walk_light
          next => (simp only [List.getElem?_toArray, List.getElem?_cons_succ, List.getElem?_cons_zero]; rfl)
          next => rfl
          next => (intro w hSw; clear hSw; go_simp; first | done | with_reducible rfl)
          simp only [Act.put, List.setIfInBounds_toArray, List.set_cons_zero, List.set_cons_succ]
          apply Ord.walk_light
          next => (simp only [List.getElem?_toArray, List.getElem?_cons_succ, List.getElem?_cons_zero]; rfl)
          next => rfl
          next => (intro w hSw; clear hSw; go_simp; first | done | with_reducible rfl)
          simp only [Act.put, List.setIfInBounds_toArray, List.set_cons_zero, List.set_cons_succ]
          apply Ord.walk_light
          next => (simp only [List.getElem?_toArray, List.getElem?_cons_succ, List.getElem?_cons_zero]; rfl)
          next => rfl
          next => (intro w hSw; clear hSw; go_simp; first | done | with_reducible rfl)
          simp only [Act.put, List.setIfInBounds_toArray, List.set_cons_zero, List.set_cons_succ]
          apply Ord.walk_heavy
          next => (simp only [List.getElem?_toArray, List.getElem?_cons_succ, List.getElem?_cons_zero]; rfl)
          next => rfl
          intro K hK
          go_wp2_with fail
          refine (ton_run s d (1 + y) c (s + d) q1 false _ (by omega) (by omega) (by omega) (by omega) (by omega) HC.out HC'.out HQ1'.out).mono ?_; rintro e w' ⟨rfl, hb⟩; dsimp only
          refine hK.out _ _ ⟨H1.below hb H1.lt, H2.below hb H2.lt, H3.below hb H3.lt, B.trans (hb.mono B.size)⟩ (fun hHeld => ?_)
          clear H1 H2 H3 B hb
          obtain ⟨H1, H2, H3, B⟩ := hHeld
          clear hK K
          try simp only [Act.put, List.setIfInBounds_toArray, List.set_cons_zero, List.set_cons_succ]
          apply Ord.walk_heavy
          next => (simp only [List.getElem?_toArray, List.getElem?_cons_succ, List.getElem?_cons_zero]; rfl)
          next => rfl
          intro K hK
          go_wp2_with fail
          refine (tof_run s d (1 + y) c (s + d) q2 true _ (by omega) (by omega) (by omega) (by omega) (by omega) HC.out HC'.out HQ2.out HQ2'.out).mono ?_; rintro e w' ⟨rfl, hb⟩; dsimp only
          refine hK.out _ _ ⟨H1.below hb H1.lt, H2.below hb H2.lt, H3.below hb H3.lt, B.trans (hb.mono B.size)⟩ (fun hHeld => ?_)
          clear H1 H2 H3 B hb
          obtain ⟨H1, H2, H3, B⟩ := hHeld
          clear hK K
          try simp only [Act.put, List.setIfInBounds_toArray, List.set_cons_zero, List.set_cons_succ]
          apply Ord.walk_light
          next => (simp only [List.getElem?_toArray, List.getElem?_cons_succ, List.getElem?_cons_zero]; rfl)
          next => rfl
          next => (intro w hSw; clear hSw; go_simp; first | done | with_reducible rfl)
          simp only [Act.put, List.setIfInBounds_toArray, List.set_cons_zero, List.set_cons_succ]
          apply Ord.walk_light
          next => (simp only [List.getElem?_toArray, List.getElem?_cons_succ, List.getElem?_cons_zero]; rfl)
          next => rfl
          next => (intro w hSw; clear hSw; go_simp; first | done | with_reducible rfl)
          simp only [Act.put, List.setIfInBounds_toArray, List.set_cons_zero, List.set_cons_succ]
          apply Ord.walk_light
          next => (simp only [List.getElem?_toArray, List.getElem?_cons_succ, List.getElem?_cons_zero]; rfl)
          next => rfl
          next => (intro w hSw; clear hSw; go_simp; first | done | with_reducible rfl)
          simp only [Act.put, List.setIfInBounds_toArray, List.set_cons_zero, List.set_cons_succ]
          apply Ord.walk_light
          next => (simp only [List.getElem?_toArray, List.getElem?_cons_succ, List.getElem?_cons_zero]; rfl)
          next => rfl
          next => (intro w hSw; clear hSw; go_simp; first | done | with_reducible rfl)
          simp only [Act.put, List.setIfInBounds_toArray, List.set_cons_zero, List.set_cons_succ]
          apply Ord.walk_light
          next => (simp only [List.getElem?_toArray, List.getElem?_cons_succ, List.getElem?_cons_zero]; rfl)
          next => rfl
          next => (intro w hSw; clear hSw; go_simp; first | done | with_reducible rfl)
          simp only [Act.put, List.setIfInBounds_toArray, List.set_cons_zero, List.set_cons_succ]
          apply Ord.walk_heavy
          next => (simp only [List.getElem?_toArray, List.getElem?_cons_succ, List.getElem?_cons_zero]; rfl)
          next => rfl
          intro K hK
          go_wp2_with fail
          refine (tp_run s d (1 + y) c (s + d) q2 true l true _ (by omega) (by omega) (by omega) (by omega) (by omega) HC.out HC'.out HQ2.out HQ2'.out (fun _ => by omega)).mono ?_; rintro e w' ⟨rfl, hb⟩; dsimp only
          refine hK.out _ _ ⟨H1.below hb H1.lt, H2.below hb H2.lt, H3.below hb H3.lt, B.trans (hb.mono B.size)⟩ (fun hHeld => ?_)
          clear H1 H2 H3 B hb
          obtain ⟨H1, H2, H3, B⟩ := hHeld
          clear hK K
          try simp only [Act.put, List.setIfInBounds_toArray, List.set_cons_zero, List.set_cons_succ]
          refine Ord.walk_tail ?_; simp only [List.drop_succ_cons, List.drop_zero]
          obtain ⟨c0, c1, c2, c3, c4, c5⟩ := five H1; obtain ⟨d0', d1', d2, d3, d4, d5⟩ := five H2; obtain ⟨g0, g1, g2, g3, g4, g5⟩ := five H3
          obtain ⟨m1, m2, m3⟩ := n12.out
          have l1 := H1.lt; have l2 := H2.lt; have l3 := H3.lt
          go_upto_region 16 with (fail)
          refine Aid.wp_abs (fun w' => Aid.Has w' b1 [.int .i64 1, .bool false, .bool true, .bool true, .int .i64 (s + d)] 26 ∧ Aid.Has w' b2 [.int .i64 2, .bool true, .bool false, .bool false, .int .i64 (s + d)] 26 ∧ Aid.Has w' b3 [.int .i64 3, .bool true, .bool true, .bool true, .int .i64 (s + d)] 26 ∧ Below w.heap.size w w') ⟨(((((((((((((((H1).set 0 _).set 1 _).set 2 _).set 3 _).set 4 _).other _ _ (by first | exact m1 | exact m2 | exact m3 | exact Ne.symm m1 | exact Ne.symm m2 | exact Ne.symm m3)).other _ _ (by first | exact m1 | exact m2 | exact m3 | exact Ne.symm m1 | exact Ne.symm m2 | exact Ne.symm m3)).other _ _ (by first | exact m1 | exact m2 | exact m3 | exact Ne.symm m1 | exact Ne.symm m2 | exact Ne.symm m3)).other _ _ (by first | exact m1 | exact m2 | exact m3 | exact Ne.symm m1 | exact Ne.symm m2 | exact Ne.symm m3)).other _ _ (by first | exact m1 | exact m2 | exact m3 | exact Ne.symm m1 | exact Ne.symm m2 | exact Ne.symm m3)).other _ _ (by first | exact m1 | exact m2 | exact m3 | exact Ne.symm m1 | exact Ne.symm m2 | exact Ne.symm m3)).other _ _ (by first | exact m1 | exact m2 | exact m3 | exact Ne.symm m1 | exact Ne.symm m2 | exact Ne.symm m3)).other _ _ (by first | exact m1 | exact m2 | exact m3 | exact Ne.symm m1 | exact Ne.symm m2 | exact Ne.symm m3)).other _ _ (by first | exact m1 | exact m2 | exact m3 | exact Ne.symm m1 | exact Ne.symm m2 | exact Ne.symm m3)).other _ _ (by first | exact m1 | exact m2 | exact m3 | exact Ne.symm m1 | exact Ne.symm m2 | exact Ne.symm m3), (((((((((((((((H2).other _ _ (by first | exact m1 | exact m2 | exact m3 | exact Ne.symm m1 | exact Ne.symm m2 | exact Ne.symm m3)).other _ _ (by first | exact m1 | exact m2 | exact m3 | exact Ne.symm m1 | exact Ne.symm m2 | exact Ne.symm m3)).other _ _ (by first | exact m1 | exact m2 | exact m3 | exact Ne.symm m1 | exact Ne.symm m2 | exact Ne.symm m3)).other _ _ (by first | exact m1 | exact m2 | exact m3 | exact Ne.symm m1 | exact Ne.symm m2 | exact Ne.symm m3)).other _ _ (by first | exact m1 | exact m2 | exact m3 | exact Ne.symm m1 | exact Ne.symm m2 | exact Ne.symm m3)).set 0 _).set 1 _).set 2 _).set 3 _).set 4 _).other _ _ (by first | exact m1 | exact m2 | exact m3 | exact Ne.symm m1 | exact Ne.symm m2 | exact Ne.symm m3)).other _ _ (by first | exact m1 | exact m2 | exact m3 | exact Ne.symm m1 | exact Ne.symm m2 | exact Ne.symm m3)).other _ _ (by first | exact m1 | exact m2 | exact m3 | exact Ne.symm m1 | exact Ne.symm m2 | exact Ne.symm m3)).other _ _ (by first | exact m1 | exact m2 | exact m3 | exact Ne.symm m1 | exact Ne.symm m2 | exact Ne.symm m3)).other _ _ (by first | exact m1 | exact m2 | exact m3 | exact Ne.symm m1 | exact Ne.symm m2 | exact Ne.symm m3), (((((((((((((((H3).other _ _ (by first | exact m1 | exact m2 | exact m3 | exact Ne.symm m1 | exact Ne.symm m2 | exact Ne.symm m3)).other _ _ (by first | exact m1 | exact m2 | exact m3 | exact Ne.symm m1 | exact Ne.symm m2 | exact Ne.symm m3)).other _ _ (by first | exact m1 | exact m2 | exact m3 | exact Ne.symm m1 | exact Ne.symm m2 | exact Ne.symm m3)).other _ _ (by first | exact m1 | exact m2 | exact m3 | exact Ne.symm m1 | exact Ne.symm m2 | exact Ne.symm m3)).other _ _ (by first | exact m1 | exact m2 | exact m3 | exact Ne.symm m1 | exact Ne.symm m2 | exact Ne.symm m3)).other _ _ (by first | exact m1 | exact m2 | exact m3 | exact Ne.symm m1 | exact Ne.symm m2 | exact Ne.symm m3)).other _ _ (by first | exact m1 | exact m2 | exact m3 | exact Ne.symm m1 | exact Ne.symm m2 | exact Ne.symm m3)).other _ _ (by first | exact m1 | exact m2 | exact m3 | exact Ne.symm m1 | exact Ne.symm m2 | exact Ne.symm m3)).other _ _ (by first | exact m1 | exact m2 | exact m3 | exact Ne.symm m1 | exact Ne.symm m2 | exact Ne.symm m3)).other _ _ (by first | exact m1 | exact m2 | exact m3 | exact Ne.symm m1 | exact Ne.symm m2 | exact Ne.symm m3)).set 0 _).set 1 _).set 2 _).set 3 _).set 4 _, (((((((((((((((B).setCell (by first | exact L2 | exact L5 | exact L7) _).setCell (by first | exact L2 | exact L5 | exact L7) _).setCell (by first | exact L2 | exact L5 | exact L7) _).setCell (by first | exact L2 | exact L5 | exact L7) _).setCell (by first | exact L2 | exact L5 | exact L7) _).setCell (by first | exact L2 | exact L5 | exact L7) _).setCell (by first | exact L2 | exact L5 | exact L7) _).setCell (by first | exact L2 | exact L5 | exact L7) _).setCell (by first | exact L2 | exact L5 | exact L7) _).setCell (by first | exact L2 | exact L5 | exact L7) _).setCell (by first | exact L2 | exact L5 | exact L7) _).setCell (by first | exact L2 | exact L5 | exact L7) _).setCell (by first | exact L2 | exact L5 | exact L7) _).setCell (by first | exact L2 | exact L5 | exact L7) _).setCell (by first | exact L2 | exact L5 | exact L7) _⟩ (fun wf hwf => ?_)
          clear c0 c1 c2 c3 c4 c5 d0' d1' d2 d3 d4 d5 g0 g1 g2 g3 g4 g5 m1 m2 m3 l1 l2 l3 H1 H2 H3 B
          obtain ⟨H1, H2, H3, B⟩ := hwf
          obtain ⟨c0, c1, c2, c3, c4, c5⟩ := five H1; obtain ⟨d0', d1', d2, d3, d4, d5⟩ := five H2; obtain ⟨g0, g1, g2, g3, g4, g5⟩ := five H3
          go_wp2_with fail
          go_roundw
          case rel => exact ⟨k + 1, s + d, s + d, false, true, true, by omega, by go_num, rfl, by omega, by push_cast; omega, HC'.out, HQ1'.out, HQ2'.out, H1, H2, H3, B⟩
          case measure => simp [intOf]; omega
        ·
          have ho : ((k : Int).tmod 2 == 1) = true := by rw [Int.tmod_eq_emod_of_nonneg (by omega)]; simpa using hod
          have hp : decide (s + d < 1 + y) = false := by simpa using hlt2
          have hp' : decide (1 + y ≤ s + d) = true := by simp; omega
          obtain rfl : c' = 1 + y := by rw [HC'.out]; omega
          obtain rfl : q1' = true := by rw [HQ1'.out, hp']
          obtain rfl : q2' = false := by rw [HQ2'.out, hp]
          refine Ord.wp_region_walk (fun w' => Aid.Has w' b1 [.int .i64 1, .bool q1, .bool true, .bool true, .int .i64 c] 26 ∧ Aid.Has w' b2 [.int .i64 2, .bool q2, .bool false, .bool false, .int .i64 c] 26 ∧ Aid.Has w' b3 [.int .i64 3, .bool q2, .bool l, .bool q2, .int .i64 c] 26 ∧ Below w.heap.size w w') 20 [(true, 0), (true, 1), (true, 2), (true, 4), (true, 5), (true, 6), (true, 8), (true, 9), (true, 10), (true, 11), (true, 17), (true, 18), (false, 3), (false, 7), (true, 12), (true, 13), (true, 14), (true, 15), (true, 16), (false, 19)] (by kernel_rfl) (by kernel_rfl) (fun _ _ d _ _ h => by cases d <;> exact h) (⟨H1, H2, H3, B⟩) ?_
          generalize wr.drew = wd at *
          apply Ord.walk_light
          next => (simp only [List.getElem?_toArray, List.getElem?_cons_zero]; rfl)
          next => rfl
          next => (intro w hSw; obtain ⟨g1, g2, g3, g4⟩ := hSw; obtain ⟨k0, k1, k2, k3, k4, k5⟩ := five g1; go_simp; first | done | with_reducible rfl)
          simp only [Act.put, List.setIfInBounds_toArray, List.set_cons_zero, List.set_cons_succ]
          apply Ord.walk_light
          next => (simp only [List.getElem?_toArray, List.getElem?_cons_succ, List.getElem?_cons_zero]; rfl)
          next => rfl
          next => (intro w hSw; clear hSw; go_simp; first | done | with_reducible rfl)
          simp only [Act.put, List.setIfInBounds_toArray, List.set_cons_zero, List.set_cons_succ]
          apply Ord.walk_light
          next => (simp only [List.getElem?_toArray, List.getElem?_cons_succ, List.getElem?_cons_zero]; rfl)
          next => rfl
          next => (intro w hSw; clear hSw; go_simp; first | done | with_reducible rfl)
          simp only [Act.put, List.setIfInBounds_toArray, List.set_cons_zero, List.set_cons_succ]
          apply Ord.walk_light
          next => (simp only [List.getElem?_toArray, List.getElem?_cons_succ, List.getElem?_cons_zero]; rfl)
          next => rfl
          next => (intro w hSw; obtain ⟨g1, g2, g3, g4⟩ := hSw; obtain ⟨k0, k1, k2, k3, k4, k5⟩ := five g2; go_simp; first | done | with_reducible rfl)
          simp only [Act.put, List.setIfInBounds_toArray, List.set_cons_zero, List.set_cons_succ]
          apply Ord.walk_light
          next => (simp only [List.getElem?_toArray, List.getElem?_cons_succ, List.getElem?_cons_zero]; rfl)
          next => rfl
          next => (intro w hSw; clear hSw; go_simp; first | done | with_reducible rfl)
          simp only [Act.put, List.setIfInBounds_toArray, List.set_cons_zero, List.set_cons_succ]
          apply Ord.walk_light
          next => (simp only [List.getElem?_toArray, List.getElem?_cons_succ, List.getElem?_cons_zero]; rfl)
          next => rfl
          next => (intro w hSw; clear hSw; go_simp; first | done | with_reducible rfl)
          simp only [Act.put, List.setIfInBounds_toArray, List.set_cons_zero, List.set_cons_succ]
          apply Ord.walk_light
          next => (simp only [List.getElem?_toArray, List.getElem?_cons_succ, List.getElem?_cons_zero]; rfl)
          next => rfl
          next => (intro w hSw; obtain ⟨g1, g2, g3, g4⟩ := hSw; obtain ⟨k0, k1, k2, k3, k4, k5⟩ := five g3; go_simp; first | done | with_reducible rfl)
          simp only [Act.put, List.setIfInBounds_toArray, List.set_cons_zero, List.set_cons_succ]
          apply Ord.walk_light
          next => (simp only [List.getElem?_toArray, List.getElem?_cons_succ, List.getElem?_cons_zero]; rfl)
          next => rfl
          next => (intro w hSw; clear hSw; go_simp; first | done | with_reducible rfl)
          simp only [Act.put, List.setIfInBounds_toArray, List.set_cons_zero, List.set_cons_succ]
          apply Ord.walk_light
          next => (simp only [List.getElem?_toArray, List.getElem?_cons_succ, List.getElem?_cons_zero]; rfl)
          next => rfl
          next => (intro w hSw; clear hSw; go_simp; first | done | with_reducible rfl)
          simp only [Act.put, List.setIfInBounds_toArray, List.set_cons_zero, List.set_cons_succ]
          apply Ord.walk_light
          next => (simp only [List.getElem?_toArray, List.getElem?_cons_succ, List.getElem?_cons_zero]; rfl)
          next => rfl
          next => (intro w hSw; clear hSw; go_simp; first | done | with_reducible rfl)
          simp only [Act.put, List.setIfInBounds_toArray, List.set_cons_zero, List.set_cons_succ]
          apply Ord.walk_light
          next => (simp only [List.getElem?_toArray, List.getElem?_cons_succ, List.getElem?_cons_zero]; rfl)
          next => rfl
          next => (intro w hSw; clear hSw; go_simp; first | done | with_reducible rfl)
          simp only [Act.put, List.setIfInBounds_toArray, List.set_cons_zero, List.set_cons_succ]
          apply Ord.walk_light
          next => (simp only [List.getElem?_toArray, List.getElem?_cons_succ, List.getElem?_cons_zero]; rfl)
          next => rfl
          next => (intro w hSw; clear hSw; go_simp; first | done | with_reducible rfl)
          simp only [Act.put, List.setIfInBounds_toArray, List.set_cons_zero, List.set_cons_succ]
          apply Ord.walk_heavy
          next => (simp only [List.getElem?_toArray, List.getElem?_cons_succ, List.getElem?_cons_zero]; rfl)
          next => rfl
          intro K hK
          go_wp2_with fail
          refine (ton_run s d (1 + y) c (1 + y) q1 true _ (by omega) (by omega) (by omega) (by omega) (by omega) HC.out HC'.out HQ1'.out).mono ?_; rintro e w' ⟨rfl, hb⟩; dsimp only
          refine hK.out _ _ ⟨H1.below hb H1.lt, H2.below hb H2.lt, H3.below hb H3.lt, B.trans (hb.mono B.size)⟩ (fun hHeld => ?_)
          clear H1 H2 H3 B hb
          obtain ⟨H1, H2, H3, B⟩ := hHeld
          clear hK K
          try simp only [Act.put, List.setIfInBounds_toArray, List.set_cons_zero, List.set_cons_succ]
          apply Ord.walk_heavy
          next => (simp only [List.getElem?_toArray, List.getElem?_cons_succ, List.getElem?_cons_zero]; rfl)
          next => rfl
          intro K hK
          go_wp2_with fail
          refine (tof_run s d (1 + y) c (1 + y) q2 false _ (by omega) (by omega) (by omega) (by omega) (by omega) HC.out HC'.out HQ2.out HQ2'.out).mono ?_; rintro e w' ⟨rfl, hb⟩; dsimp only
          refine hK.out _ _ ⟨H1.below hb H1.lt, H2.below hb H2.lt, H3.below hb H3.lt, B.trans (hb.mono B.size)⟩ (fun hHeld => ?_)
          clear H1 H2 H3 B hb
          obtain ⟨H1, H2, H3, B⟩ := hHeld
          clear hK K
          try simp only [Act.put, List.setIfInBounds_toArray, List.set_cons_zero, List.set_cons_succ]
          apply Ord.walk_light
          next => (simp only [List.getElem?_toArray, List.getElem?_cons_succ, List.getElem?_cons_zero]; rfl)
          next => rfl
          next => (intro w hSw; clear hSw; go_simp; first | done | with_reducible rfl)
          simp only [Act.put, List.setIfInBounds_toArray, List.set_cons_zero, List.set_cons_succ]
          apply Ord.walk_light
          next => (simp only [List.getElem?_toArray, List.getElem?_cons_succ, List.getElem?_cons_zero]; rfl)
          next => rfl
          next => (intro w hSw; clear hSw; go_simp; first | done | with_reducible rfl)
          simp only [Act.put, List.setIfInBounds_toArray, List.set_cons_zero, List.set_cons_succ]
          apply Ord.walk_light
          next => (simp only [List.getElem?_toArray, List.getElem?_cons_succ, List.getElem?_cons_zero]; rfl)
          next => rfl
          next => (intro w hSw; clear hSw; go_simp; first | done | with_reducible rfl)
          simp only [Act.put, List.setIfInBounds_toArray, List.set_cons_zero, List.set_cons_succ]
          apply Ord.walk_light
          next => (simp only [List.getElem?_toArray, List.getElem?_cons_succ, List.getElem?_cons_zero]; rfl)
          next => rfl
          next => (intro w hSw; clear hSw; go_simp; first | done | with_reducible rfl)
          simp only [Act.put, List.setIfInBounds_toArray, List.set_cons_zero, List.set_cons_succ]
          apply Ord.walk_light
          next => (simp only [List.getElem?_toArray, List.getElem?_cons_succ, List.getElem?_cons_zero]; rfl)
          next => rfl
          next => (intro w hSw; clear hSw; go_simp; first | done | with_reducible rfl)
          simp only [Act.put, List.setIfInBounds_toArray, List.set_cons_zero, List.set_cons_succ]
          apply Ord.walk_heavy
          next => (simp only [List.getElem?_toArray, List.getElem?_cons_succ, List.getElem?_cons_zero]; rfl)
          next => rfl
          intro K hK
          go_wp2_with fail
          refine (tp_run s d (1 + y) c (1 + y) q2 false l false _ (by omega) (by omega) (by omega) (by omega) (by omega) HC.out HC'.out HQ2.out HQ2'.out (fun h => by cases h)).mono ?_; rintro e w' ⟨rfl, hb⟩; dsimp only
          refine hK.out _ _ ⟨H1.below hb H1.lt, H2.below hb H2.lt, H3.below hb H3.lt, B.trans (hb.mono B.size)⟩ (fun hHeld => ?_)
          clear H1 H2 H3 B hb
          obtain ⟨H1, H2, H3, B⟩ := hHeld
          clear hK K
          try simp only [Act.put, List.setIfInBounds_toArray, List.set_cons_zero, List.set_cons_succ]
          refine Ord.walk_tail ?_; simp only [List.drop_succ_cons, List.drop_zero]
          obtain ⟨c0, c1, c2, c3, c4, c5⟩ := five H1; obtain ⟨d0', d1', d2, d3, d4, d5⟩ := five H2; obtain ⟨g0, g1, g2, g3, g4, g5⟩ := five H3
          obtain ⟨m1, m2, m3⟩ := n12.out
          have l1 := H1.lt; have l2 := H2.lt; have l3 := H3.lt
          go_upto_region 16 with (fail)
          refine Aid.wp_abs (fun w' => Aid.Has w' b1 [.int .i64 1, .bool true, .bool true, .bool true, .int .i64 (1 + y)] 26 ∧ Aid.Has w' b2 [.int .i64 2, .bool false, .bool false, .bool false, .int .i64 (1 + y)] 26 ∧ Aid.Has w' b3 [.int .i64 3, .bool false, .bool false, .bool false, .int .i64 (1 + y)] 26 ∧ Below w.heap.size w w') ⟨(((((((((((((((H1).set 0 _).set 1 _).set 2 _).set 3 _).set 4 _).other _ _ (by first | exact m1 | exact m2 | exact m3 | exact Ne.symm m1 | exact Ne.symm m2 | exact Ne.symm m3)).other _ _ (by first | exact m1 | exact m2 | exact m3 | exact Ne.symm m1 | exact Ne.symm m2 | exact Ne.symm m3)).other _ _ (by first | exact m1 | exact m2 | exact m3 | exact Ne.symm m1 | exact Ne.symm m2 | exact Ne.symm m3)).other _ _ (by first | exact m1 | exact m2 | exact m3 | exact Ne.symm m1 | exact Ne.symm m2 | exact Ne.symm m3)).other _ _ (by first | exact m1 | exact m2 | exact m3 | exact Ne.symm m1 | exact Ne.symm m2 | exact Ne.symm m3)).other _ _ (by first | exact m1 | exact m2 | exact m3 | exact Ne.symm m1 | exact Ne.symm m2 | exact Ne.symm m3)).other _ _ (by first | exact m1 | exact m2 | exact m3 | exact Ne.symm m1 | exact Ne.symm m2 | exact Ne.symm m3)).other _ _ (by first | exact m1 | exact m2 | exact m3 | exact Ne.symm m1 | exact Ne.symm m2 | exact Ne.symm m3)).other _ _ (by first | exact m1 | exact m2 | exact m3 | exact Ne.symm m1 | exact Ne.symm m2 | exact Ne.symm m3)).other _ _ (by first | exact m1 | exact m2 | exact m3 | exact Ne.symm m1 | exact Ne.symm m2 | exact Ne.symm m3), (((((((((((((((H2).other _ _ (by first | exact m1 | exact m2 | exact m3 | exact Ne.symm m1 | exact Ne.symm m2 | exact Ne.symm m3)).other _ _ (by first | exact m1 | exact m2 | exact m3 | exact Ne.symm m1 | exact Ne.symm m2 | exact Ne.symm m3)).other _ _ (by first | exact m1 | exact m2 | exact m3 | exact Ne.symm m1 | exact Ne.symm m2 | exact Ne.symm m3)).other _ _ (by first | exact m1 | exact m2 | exact m3 | exact Ne.symm m1 | exact Ne.symm m2 | exact Ne.symm m3)).other _ _ (by first | exact m1 | exact m2 | exact m3 | exact Ne.symm m1 | exact Ne.symm m2 | exact Ne.symm m3)).set 0 _).set 1 _).set 2 _).set 3 _).set 4 _).other _ _ (by first | exact m1 | exact m2 | exact m3 | exact Ne.symm m1 | exact Ne.symm m2 | exact Ne.symm m3)).other _ _ (by first | exact m1 | exact m2 | exact m3 | exact Ne.symm m1 | exact Ne.symm m2 | exact Ne.symm m3)).other _ _ (by first | exact m1 | exact m2 | exact m3 | exact Ne.symm m1 | exact Ne.symm m2 | exact Ne.symm m3)).other _ _ (by first | exact m1 | exact m2 | exact m3 | exact Ne.symm m1 | exact Ne.symm m2 | exact Ne.symm m3)).other _ _ (by first | exact m1 | exact m2 | exact m3 | exact Ne.symm m1 | exact Ne.symm m2 | exact Ne.symm m3), (((((((((((((((H3).other _ _ (by first | exact m1 | exact m2 | exact m3 | exact Ne.symm m1 | exact Ne.symm m2 | exact Ne.symm m3)).other _ _ (by first | exact m1 | exact m2 | exact m3 | exact Ne.symm m1 | exact Ne.symm m2 | exact Ne.symm m3)).other _ _ (by first | exact m1 | exact m2 | exact m3 | exact Ne.symm m1 | exact Ne.symm m2 | exact Ne.symm m3)).other _ _ (by first | exact m1 | exact m2 | exact m3 | exact Ne.symm m1 | exact Ne.symm m2 | exact Ne.symm m3)).other _ _ (by first | exact m1 | exact m2 | exact m3 | exact Ne.symm m1 | exact Ne.symm m2 | exact Ne.symm m3)).other _ _ (by first | exact m1 | exact m2 | exact m3 | exact Ne.symm m1 | exact Ne.symm m2 | exact Ne.symm m3)).other _ _ (by first | exact m1 | exact m2 | exact m3 | exact Ne.symm m1 | exact Ne.symm m2 | exact Ne.symm m3)).other _ _ (by first | exact m1 | exact m2 | exact m3 | exact Ne.symm m1 | exact Ne.symm m2 | exact Ne.symm m3)).other _ _ (by first | exact m1 | exact m2 | exact m3 | exact Ne.symm m1 | exact Ne.symm m2 | exact Ne.symm m3)).other _ _ (by first | exact m1 | exact m2 | exact m3 | exact Ne.symm m1 | exact Ne.symm m2 | exact Ne.symm m3)).set 0 _).set 1 _).set 2 _).set 3 _).set 4 _, (((((((((((((((B).setCell (by first | exact L2 | exact L5 | exact L7) _).setCell (by first | exact L2 | exact L5 | exact L7) _).setCell (by first | exact L2 | exact L5 | exact L7) _).setCell (by first | exact L2 | exact L5 | exact L7) _).setCell (by first | exact L2 | exact L5 | exact L7) _).setCell (by first | exact L2 | exact L5 | exact L7) _).setCell (by first | exact L2 | exact L5 | exact L7) _).setCell (by first | exact L2 | exact L5 | exact L7) _).setCell (by first | exact L2 | exact L5 | exact L7) _).setCell (by first | exact L2 | exact L5 | exact L7) _).setCell (by first | exact L2 | exact L5 | exact L7) _).setCell (by first | exact L2 | exact L5 | exact L7) _).setCell (by first | exact L2 | exact L5 | exact L7) _).setCell (by first | exact L2 | exact L5 | exact L7) _).setCell (by first | exact L2 | exact L5 | exact L7) _⟩ (fun wf hwf => ?_)
          clear c0 c1 c2 c3 c4 c5 d0' d1' d2 d3 d4 d5 g0 g1 g2 g3 g4 g5 m1 m2 m3 l1 l2 l3 H1 H2 H3 B
          obtain ⟨H1, H2, H3, B⟩ := hwf
          obtain ⟨c0, c1, c2, c3, c4, c5⟩ := five H1; obtain ⟨d0', d1', d2, d3, d4, d5⟩ := five H2; obtain ⟨g0, g1, g2, g3, g4, g5⟩ := five H3
          go_wp2_with fail
          go_roundw
          case rel => exact ⟨k + 1, s + d, 1 + y, true, false, false, by omega, by go_num, rfl, by omega, by push_cast; omega, HC'.out, HQ1'.out, HQ2'.out, H1, H2, H3, B⟩
          case measure => simp [intOf]; omega
      · by_cases hlt2 : s + d < 1 + y
        ·
          have ho : ((k : Int).tmod 2 == 1) = false := by rw [Int.tmod_eq_emod_of_nonneg (by omega)]; simpa using hod
          have hp : decide (s + d < 1 + y) = true := by simpa using hlt2
          have hp' : decide (1 + y ≤ s + d) = false := by simp; omega
          obtain rfl : c' = s + d := by rw [HC'.out]; omega
          obtain rfl : q1' = false := by rw [HQ1'.out, hp']
          obtain rfl : q2' = true := by rw [HQ2'.out, hp]
          refine Ord.wp_region_walk (fun w' => Aid.Has w' b1 [.int .i64 1, .bool q1, .bool true, .bool true, .int .i64 c] 26 ∧ Aid.Has w' b2 [.int .i64 2, .bool q2, .bool false, .bool false, .int .i64 c] 26 ∧ Aid.Has w' b3 [.int .i64 3, .bool q2, .bool l, .bool q2, .int .i64 c] 26 ∧ Below w.heap.size w w') 20 [(true, 0), (true, 1), (true, 2), (true, 4), (true, 5), (true, 6), (true, 8), (true, 9), (true, 10), (true, 11), (true, 17), (true, 18), (false, 3), (false, 7), (true, 12), (true, 13), (true, 14), (true, 15), (true, 16), (false, 19)] (by kernel_rfl) (by kernel_rfl) (fun _ _ d _ _ h => by cases d <;> exact h) (⟨H1, H2, H3, B⟩) ?_
          generalize wr.drew = wd at *
          apply Ord.walk_light
          next => (simp only [List.getElem?_toArray, List.getElem?_cons_zero]; rfl)
          next => rfl
          next => (intro w hSw; obtain ⟨g1, g2, g3, g4⟩ := hSw; obtain ⟨k0, k1, k2, k3, k4, k5⟩ := five g1; go_simp; first | done | with_reducible rfl)
          simp only [Act.put, List.setIfInBounds_toArray, List.set_cons_zero, List.set_cons_succ]
          apply Ord.walk_light
          next => (simp only [List.getElem?_toArray, List.getElem?_cons_succ, List.getElem?_cons_zero]; rfl)
          next => rfl
          next => (intro w hSw; clear hSw; go_simp; first | done | with_reducible rfl)
          simp only [Act.put, List.setIfInBounds_toArray, List.set_cons_zero, List.set_cons_succ]
          apply Ord.walk_light
          next => (simp only [List.getElem?_toArray, List.getElem?_cons_succ, List.getElem?_cons_zero]; rfl)
          next => rfl
          next => (intro w hSw; clear hSw; go_simp; first | done | with_reducible rfl)
          simp only [Act.put, List.setIfInBounds_toArray, List.set_cons_zero, List.set_cons_succ]
          apply Ord.walk_light
          next => (simp only [List.getElem?_toArray, List.getElem?_cons_succ, List.getElem?_cons_zero]; rfl)
          next => rfl
          next => (intro w hSw; obtain ⟨g1, g2, g3, g4⟩ := hSw; obtain ⟨k0, k1, k2, k3, k4, k5⟩ := five g2; go_simp; first | done | with_reducible rfl)
          simp only [Act.put, List.setIfInBounds_toArray, List.set_cons_zero, List.set_cons_succ]
          apply Ord.walk_light
          next => (simp only [List.getElem?_toArray, List.getElem?_cons_succ, List.getElem?_cons_zero]; rfl)
          next => rfl
          next => (intro w hSw; clear hSw; go_simp; first | done | with_reducible rfl)
          simp only [Act.put, List.setIfInBounds_toArray, List.set_cons_zero, List.set_cons_succ]
          apply Ord.walk_light
          next => (simp only [List.getElem?_toArray, List.getElem?_cons_succ, List.getElem?_cons_zero]; rfl)
          next => rfl
          next => (intro w hSw; clear hSw; go_simp; first | done | with_reducible rfl)
          simp only [Act.put, List.setIfInBounds_toArray, List.set_cons_zero, List.set_cons_succ]
          apply Ord.walk_light
          next => (simp only [List.getElem?_toArray, List.getElem?_cons_succ, List.getElem?_cons_zero]; rfl)
          next => rfl
          next => (intro w hSw; obtain ⟨g1, g2, g3, g4⟩ := hSw; obtain ⟨k0, k1, k2, k3, k4, k5⟩ := five g3; go_simp; first | done | with_reducible rfl)
          simp only [Act.put, List.setIfInBounds_toArray, List.set_cons_zero, List.set_cons_succ]
          apply Ord.walk_light
          next => (simp only [List.getElem?_toArray, List.getElem?_cons_succ, List.getElem?_cons_zero]; rfl)
          next => rfl
          next => (intro w hSw; clear hSw; go_simp; first | done | with_reducible rfl)
          simp only [Act.put, List.setIfInBounds_toArray, List.set_cons_zero, List.set_cons_succ]
          apply Ord.walk_light
          next => (simp only [List.getElem?_toArray, List.getElem?_cons_succ, List.getElem?_cons_zero]; rfl)
          next => rfl
          next => (intro w hSw; clear hSw; go_simp; first | done | with_reducible rfl)
          simp only [Act.put, List.setIfInBounds_toArray, List.set_cons_zero, List.set_cons_succ]
          apply Ord.walk_light
          next => (simp only [List.getElem?_toArray, List.getElem?_cons_succ, List.getElem?_cons_zero]; rfl)
          next => rfl
          next => (intro w hSw; clear hSw; go_simp; first | done | with_reducible rfl)
          simp only [Act.put, List.setIfInBounds_toArray, List.set_cons_zero, List.set_cons_succ]
          apply Ord.walk_light
          next => (simp only [List.getElem?_toArray, List.getElem?_cons_succ, List.getElem?_cons_zero]; rfl)
          next => rfl
          next => (intro w hSw; clear hSw; go_simp; first | done | with_reducible rfl)
          simp only [Act.put, List.setIfInBounds_toArray, List.set_cons_zero, List.set_cons_succ]
          apply Ord.walk_light
          next => (simp only [List.getElem?_toArray, List.getElem?_cons_succ, List.getElem?_cons_zero]; rfl)
          next => rfl
          next => (intro w hSw; clear hSw; go_simp; first | done | with_reducible rfl)
          simp only [Act.put, List.setIfInBounds_toArray, List.set_cons_zero, List.set_cons_succ]
          apply Ord.walk_heavy
          next => (simp only [List.getElem?_toArray, List.getElem?_cons_succ, List.getElem?_cons_zero]; rfl)
          next => rfl
          intro K hK
          go_wp2_with fail
          refine (ton_run s d (1 + y) c (s + d) q1 false _ (by omega) (by omega) (by omega) (by omega) (by omega) HC.out HC'.out HQ1'.out).mono ?_; rintro e w' ⟨rfl, hb⟩; dsimp only
          refine hK.out _ _ ⟨H1.below hb H1.lt, H2.below hb H2.lt, H3.below hb H3.lt, B.trans (hb.mono B.size)⟩ (fun hHeld => ?_)
          clear H1 H2 H3 B hb
          obtain ⟨H1, H2, H3, B⟩ := hHeld
          clear hK K
          try simp only [Act.put, List.setIfInBounds_toArray, List.set_cons_zero, List.set_cons_succ]
          apply Ord.walk_heavy
          next => (simp only [List.getElem?_toArray, List.getElem?_cons_succ, List.getElem?_cons_zero]; rfl)
          next => rfl
          intro K hK
          go_wp2_with fail
          refine (tof_run s d (1 + y) c (s + d) q2 true _ (by omega) (by omega) (by omega) (by omega) (by omega) HC.out HC'.out HQ2.out HQ2'.out).mono ?_; rintro e w' ⟨rfl, hb⟩; dsimp only
          refine hK.out _ _ ⟨H1.below hb H1.lt, H2.below hb H2.lt, H3.below hb H3.lt, B.trans (hb.mono B.size)⟩ (fun hHeld => ?_)
          clear H1 H2 H3 B hb
          obtain ⟨H1, H2, H3, B⟩ := hHeld
          clear hK K
          try simp only [Act.put, List.setIfInBounds_toArray, List.set_cons_zero, List.set_cons_succ]
          apply Ord.walk_light
          next => (simp only [List.getElem?_toArray, List.getElem?_cons_succ, List.getElem?_cons_zero]; rfl)
          next => rfl
          next => (intro w hSw; clear hSw; go_simp; first | done | with_reducible rfl)
          simp only [Act.put, List.setIfInBounds_toArray, List.set_cons_zero, List.set_cons_succ]
          apply Ord.walk_idle
          next => (simp only [List.getElem?_toArray, List.getElem?_cons_succ, List.getElem?_cons_zero]; rfl)
          next => rfl
          simp only [Act.put, List.setIfInBounds_toArray, List.set_cons_zero, List.set_cons_succ]
          apply Ord.walk_idle
          next => (simp only [List.getElem?_toArray, List.getElem?_cons_succ, List.getElem?_cons_zero]; rfl)
          next => rfl
          simp only [Act.put, List.setIfInBounds_toArray, List.set_cons_zero, List.set_cons_succ]
          apply Ord.walk_idle
          next => (simp only [List.getElem?_toArray, List.getElem?_cons_succ, List.getElem?_cons_zero]; rfl)
          next => rfl
          simp only [Act.put, List.setIfInBounds_toArray, List.set_cons_zero, List.set_cons_succ]
          apply Ord.walk_light
          next => (simp only [List.getElem?_toArray, List.getElem?_cons_succ, List.getElem?_cons_zero]; rfl)
          next => rfl
          next => (intro w hSw; clear hSw; go_simp; first | done | with_reducible rfl)
          simp only [Act.put, List.setIfInBounds_toArray, List.set_cons_zero, List.set_cons_succ]
          apply Ord.walk_heavy
          next => (simp only [List.getElem?_toArray, List.getElem?_cons_succ, List.getElem?_cons_zero]; rfl)
          next => rfl
          intro K hK
          go_wp2_with fail
          refine (tp_run s d (1 + y) c (s + d) q2 true l false _ (by omega) (by omega) (by omega) (by omega) (by omega) HC.out HC'.out HQ2.out HQ2'.out (fun h => by cases h)).mono ?_; rintro e w' ⟨rfl, hb⟩; dsimp only
          refine hK.out _ _ ⟨H1.below hb H1.lt, H2.below hb H2.lt, H3.below hb H3.lt, B.trans (hb.mono B.size)⟩ (fun hHeld => ?_)
          clear H1 H2 H3 B hb
          obtain ⟨H1, H2, H3, B⟩ := hHeld
          clear hK K
          try simp only [Act.put, List.setIfInBounds_toArray, List.set_cons_zero, List.set_cons_succ]
          refine Ord.walk_tail ?_; simp only [List.drop_succ_cons, List.drop_zero]
          obtain ⟨c0, c1, c2, c3, c4, c5⟩ := five H1; obtain ⟨d0', d1', d2, d3, d4, d5⟩ := five H2; obtain ⟨g0, g1, g2, g3, g4, g5⟩ := five H3
          obtain ⟨m1, m2, m3⟩ := n12.out
          have l1 := H1.lt; have l2 := H2.lt; have l3 := H3.lt
          go_upto_region 16 with (fail)
          refine Aid.wp_abs (fun w' => Aid.Has w' b1 [.int .i64 1, .bool false, .bool true, .bool true, .int .i64 (s + d)] 26 ∧ Aid.Has w' b2 [.int .i64 2, .bool true, .bool false, .bool false, .int .i64 (s + d)] 26 ∧ Aid.Has w' b3 [.int .i64 3, .bool true, .bool false, .bool true, .int .i64 (s + d)] 26 ∧ Below w.heap.size w w') ⟨(((((((((((((((H1).set 0 _).set 1 _).set 2 _).set 3 _).set 4 _).other _ _ (by first | exact m1 | exact m2 | exact m3 | exact Ne.symm m1 | exact Ne.symm m2 | exact Ne.symm m3)).other _ _ (by first | exact m1 | exact m2 | exact m3 | exact Ne.symm m1 | exact Ne.symm m2 | exact Ne.symm m3)).other _ _ (by first | exact m1 | exact m2 | exact m3 | exact Ne.symm m1 | exact Ne.symm m2 | exact Ne.symm m3)).other _ _ (by first | exact m1 | exact m2 | exact m3 | exact Ne.symm m1 | exact Ne.symm m2 | exact Ne.symm m3)).other _ _ (by first | exact m1 | exact m2 | exact m3 | exact Ne.symm m1 | exact Ne.symm m2 | exact Ne.symm m3)).other _ _ (by first | exact m1 | exact m2 | exact m3 | exact Ne.symm m1 | exact Ne.symm m2 | exact Ne.symm m3)).other _ _ (by first | exact m1 | exact m2 | exact m3 | exact Ne.symm m1 | exact Ne.symm m2 | exact Ne.symm m3)).other _ _ (by first | exact m1 | exact m2 | exact m3 | exact Ne.symm m1 | exact Ne.symm m2 | exact Ne.symm m3)).other _ _ (by first | exact m1 | exact m2 | exact m3 | exact Ne.symm m1 | exact Ne.symm m2 | exact Ne.symm m3)).other _ _ (by first | exact m1 | exact m2 | exact m3 | exact Ne.symm m1 | exact Ne.symm m2 | exact Ne.symm m3), (((((((((((((((H2).other _ _ (by first | exact m1 | exact m2 | exact m3 | exact Ne.symm m1 | exact Ne.symm m2 | exact Ne.symm m3)).other _ _ (by first | exact m1 | exact m2 | exact m3 | exact Ne.symm m1 | exact Ne.symm m2 | exact Ne.symm m3)).other _ _ (by first | exact m1 | exact m2 | exact m3 | exact Ne.symm m1 | exact Ne.symm m2 | exact Ne.symm m3)).other _ _ (by first | exact m1 | exact m2 | exact m3 | exact Ne.symm m1 | exact Ne.symm m2 | exact Ne.symm m3)).other _ _ (by first | exact m1 | exact m2 | exact m3 | exact Ne.symm m1 | exact Ne.symm m2 | exact Ne.symm m3)).set 0 _).set 1 _).set 2 _).set 3 _).set 4 _).other _ _ (by first | exact m1 | exact m2 | exact m3 | exact Ne.symm m1 | exact Ne.symm m2 | exact Ne.symm m3)).other _ _ (by first | exact m1 | exact m2 | exact m3 | exact Ne.symm m1 | exact Ne.symm m2 | exact Ne.symm m3)).other _ _ (by first | exact m1 | exact m2 | exact m3 | exact Ne.symm m1 | exact Ne.symm m2 | exact Ne.symm m3)).other _ _ (by first | exact m1 | exact m2 | exact m3 | exact Ne.symm m1 | exact Ne.symm m2 | exact Ne.symm m3)).other _ _ (by first | exact m1 | exact m2 | exact m3 | exact Ne.symm m1 | exact Ne.symm m2 | exact Ne.symm m3), (((((((((((((((H3).other _ _ (by first | exact m1 | exact m2 | exact m3 | exact Ne.symm m1 | exact Ne.symm m2 | exact Ne.symm m3)).other _ _ (by first | exact m1 | exact m2 | exact m3 | exact Ne.symm m1 | exact Ne.symm m2 | exact Ne.symm m3)).other _ _ (by first | exact m1 | exact m2 | exact m3 | exact Ne.symm m1 | exact Ne.symm m2 | exact Ne.symm m3)).other _ _ (by first | exact m1 | exact m2 | exact m3 | exact Ne.symm m1 | exact Ne.symm m2 | exact Ne.symm m3)).other _ _ (by first | exact m1 | exact m2 | exact m3 | exact Ne.symm m1 | exact Ne.symm m2 | exact Ne.symm m3)).other _ _ (by first | exact m1 | exact m2 | exact m3 | exact Ne.symm m1 | exact Ne.symm m2 | exact Ne.symm m3)).other _ _ (by first | exact m1 | exact m2 | exact m3 | exact Ne.symm m1 | exact Ne.symm m2 | exact Ne.symm m3)).other _ _ (by first | exact m1 | exact m2 | exact m3 | exact Ne.symm m1 | exact Ne.symm m2 | exact Ne.symm m3)).other _ _ (by first | exact m1 | exact m2 | exact m3 | exact Ne.symm m1 | exact Ne.symm m2 | exact Ne.symm m3)).other _ _ (by first | exact m1 | exact m2 | exact m3 | exact Ne.symm m1 | exact Ne.symm m2 | exact Ne.symm m3)).set 0 _).set 1 _).set 2 _).set 3 _).set 4 _, (((((((((((((((B).setCell (by first | exact L2 | exact L5 | exact L7) _).setCell (by first | exact L2 | exact L5 | exact L7) _).setCell (by first | exact L2 | exact L5 | exact L7) _).setCell (by first | exact L2 | exact L5 | exact L7) _).setCell (by first | exact L2 | exact L5 | exact L7) _).setCell (by first | exact L2 | exact L5 | exact L7) _).setCell (by first | exact L2 | exact L5 | exact L7) _).setCell (by first | exact L2 | exact L5 | exact L7) _).setCell (by first | exact L2 | exact L5 | exact L7) _).setCell (by first | exact L2 | exact L5 | exact L7) _).setCell (by first | exact L2 | exact L5 | exact L7) _).setCell (by first | exact L2 | exact L5 | exact L7) _).setCell (by first | exact L2 | exact L5 | exact L7) _).setCell (by first | exact L2 | exact L5 | exact L7) _).setCell (by first | exact L2 | exact L5 | exact L7) _⟩ (fun wf hwf => ?_)
          clear c0 c1 c2 c3 c4 c5 d0' d1' d2 d3 d4 d5 g0 g1 g2 g3 g4 g5 m1 m2 m3 l1 l2 l3 H1 H2 H3 B
          obtain ⟨H1, H2, H3, B⟩ := hwf
          obtain ⟨c0, c1, c2, c3, c4, c5⟩ := five H1; obtain ⟨d0', d1', d2, d3, d4, d5⟩ := five H2; obtain ⟨g0, g1, g2, g3, g4, g5⟩ := five H3
          go_wp2_with fail
          go_roundw
          case rel => exact ⟨k + 1, s + d, s + d, false, true, false, by omega, by go_num, rfl, by omega, by push_cast; omega, HC'.out, HQ1'.out, HQ2'.out, H1, H2, H3, B⟩
          case measure => simp [intOf]; omega
        ·
          have ho : ((k : Int).tmod 2 == 1) = false := by rw [Int.tmod_eq_emod_of_nonneg (by omega)]; simpa using hod
          have hp : decide (s + d < 1 + y) = false := by simpa using hlt2
          have hp' : decide (1 + y ≤ s + d) = true := by simp; omega
          obtain rfl : c' = 1 + y := by rw [HC'.out]; omega
          obtain rfl : q1' = true := by rw [HQ1'.out, hp']
          obtain rfl : q2' = false := by rw [HQ2'.out, hp]
          refine Ord.wp_region_walk (fun w' => Aid.Has w' b1 [.int .i64 1, .bool q1, .bool true, .bool true, .int .i64 c] 26 ∧ Aid.Has w' b2 [.int .i64 2, .bool q2, .bool false, .bool false, .int .i64 c] 26 ∧ Aid.Has w' b3 [.int .i64 3, .bool q2, .bool l, .bool q2, .int .i64 c] 26 ∧ Below w.heap.size w w') 20 [(true, 0), (true, 1), (true, 2), (true, 4), (true, 5), (true, 6), (true, 8), (true, 9), (true, 10), (true, 11), (true, 17), (true, 18), (false, 3), (false, 7), (true, 12), (true, 13), (true, 14), (true, 15), (true, 16), (false, 19)] (by kernel_rfl) (by kernel_rfl) (fun _ _ d _ _ h => by cases d <;> exact h) (⟨H1, H2, H3, B⟩) ?_
          generalize wr.drew = wd at *
          apply Ord.walk_light
          next => (simp only [List.getElem?_toArray, List.getElem?_cons_zero]; rfl)
          next => rfl
          next => (intro w hSw; obtain ⟨g1, g2, g3, g4⟩ := hSw; obtain ⟨k0, k1, k2, k3, k4, k5⟩ := five g1; go_simp; first | done | with_reducible rfl)
          simp only [Act.put, List.setIfInBounds_toArray, List.set_cons_zero, List.set_cons_succ]
          apply Ord.walk_light
          next => (simp only [List.getElem?_toArray, List.getElem?_cons_succ, List.getElem?_cons_zero]; rfl)
          next => rfl
          next => (intro w hSw; clear hSw; go_simp; first | done | with_reducible rfl)
          simp only [Act.put, List.setIfInBounds_toArray, List.set_cons_zero, List.set_cons_succ]
          apply Ord.walk_light
          next => (simp only [List.getElem?_toArray, List.getElem?_cons_succ, List.getElem?_cons_zero]; rfl)
          next => rfl
          next => (intro w hSw; clear hSw; go_simp; first | done | with_reducible rfl)
          simp only [Act.put, List.setIfInBounds_toArray, List.set_cons_zero, List.set_cons_succ]
          apply Ord.walk_light
          next => (simp only [List.getElem?_toArray, List.getElem?_cons_succ, List.getElem?_cons_zero]; rfl)
          next => rfl
          next => (intro w hSw; obtain ⟨g1, g2, g3, g4⟩ := hSw; obtain ⟨k0, k1, k2, k3, k4, k5⟩ := five g2; go_simp; first | done | with_reducible rfl)
          simp only [Act.put, List.setIfInBounds_toArray, List.set_cons_zero, List.set_cons_succ]
          apply Ord.walk_light
          next => (simp only [List.getElem?_toArray, List.getElem?_cons_succ, List.getElem?_cons_zero]; rfl)
          next => rfl
          next => (intro w hSw; clear hSw; go_simp; first | done | with_reducible rfl)
          simp only [Act.put, List.setIfInBounds_toArray, List.set_cons_zero, List.set_cons_succ]
          apply Ord.walk_light
          next => (simp only [List.getElem?_toArray, List.getElem?_cons_succ, List.getElem?_cons_zero]; rfl)
          next => rfl
          next => (intro w hSw; clear hSw; go_simp; first | done | with_reducible rfl)
          simp only [Act.put, List.setIfInBounds_toArray, List.set_cons_zero, List.set_cons_succ]
          apply Ord.walk_light
          next => (simp only [List.getElem?_toArray, List.getElem?_cons_succ, List.getElem?_cons_zero]; rfl)
          next => rfl
          next => (intro w hSw; obtain ⟨g1, g2, g3, g4⟩ := hSw; obtain ⟨k0, k1, k2, k3, k4, k5⟩ := five g3; go_simp; first | done | with_reducible rfl)
          simp only [Act.put, List.setIfInBounds_toArray, List.set_cons_zero, List.set_cons_succ]
          apply Ord.walk_light
          next => (simp only [List.getElem?_toArray, List.getElem?_cons_succ, List.getElem?_cons_zero]; rfl)
          next => rfl
          next => (intro w hSw; clear hSw; go_simp; first | done | with_reducible rfl)
          simp only [Act.put, List.setIfInBounds_toArray, List.set_cons_zero, List.set_cons_succ]
          apply Ord.walk_light
          next => (simp only [List.getElem?_toArray, List.getElem?_cons_succ, List.getElem?_cons_zero]; rfl)
          next => rfl
          next => (intro w hSw; clear hSw; go_simp; first | done | with_reducible rfl)
          simp only [Act.put, List.setIfInBounds_toArray, List.set_cons_zero, List.set_cons_succ]
          apply Ord.walk_light
          next => (simp only [List.getElem?_toArray, List.getElem?_cons_succ, List.getElem?_cons_zero]; rfl)
          next => rfl
          next => (intro w hSw; clear hSw; go_simp; first | done | with_reducible rfl)
          simp only [Act.put, List.setIfInBounds_toArray, List.set_cons_zero, List.set_cons_succ]
          apply Ord.walk_light
          next => (simp only [List.getElem?_toArray, List.getElem?_cons_succ, List.getElem?_cons_zero]; rfl)
          next => rfl
          next => (intro w hSw; clear hSw; go_simp; first | done | with_reducible rfl)
          simp only [Act.put, List.setIfInBounds_toArray, List.set_cons_zero, List.set_cons_succ]
          apply Ord.walk_light
          next => (simp only [List.getElem?_toArray, List.getElem?_cons_succ, List.getElem?_cons_zero]; rfl)
          next => rfl
          next => (intro w hSw; clear hSw; go_simp; first | done | with_reducible rfl)
          simp only [Act.put, List.setIfInBounds_toArray, List.set_cons_zero, List.set_cons_succ]
          apply Ord.walk_heavy
          next => (simp only [List.getElem?_toArray, List.getElem?_cons_succ, List.getElem?_cons_zero]; rfl)
          next => rfl
          intro K hK
          go_wp2_with fail
          refine (ton_run s d (1 + y) c (1 + y) q1 true _ (by omega) (by omega) (by omega) (by omega) (by omega) HC.out HC'.out HQ1'.out).mono ?_; rintro e w' ⟨rfl, hb⟩; dsimp only
          refine hK.out _ _ ⟨H1.below hb H1.lt, H2.below hb H2.lt, H3.below hb H3.lt, B.trans (hb.mono B.size)⟩ (fun hHeld => ?_)
          clear H1 H2 H3 B hb
          obtain ⟨H1, H2, H3, B⟩ := hHeld
          clear hK K
          try simp only [Act.put, List.setIfInBounds_toArray, List.set_cons_zero, List.set_cons_succ]
          apply Ord.walk_heavy
          next => (simp only [List.getElem?_toArray, List.getElem?_cons_succ, List.getElem?_cons_zero]; rfl)
          next => rfl
          intro K hK
          go_wp2_with fail
          refine (tof_run s d (1 + y) c (1 + y) q2 false _ (by omega) (by omega) (by omega) (by omega) (by omega) HC.out HC'.out HQ2.out HQ2'.out).mono ?_; rintro e w' ⟨rfl, hb⟩; dsimp only
          refine hK.out _ _ ⟨H1.below hb H1.lt, H2.below hb H2.lt, H3.below hb H3.lt, B.trans (hb.mono B.size)⟩ (fun hHeld => ?_)
          clear H1 H2 H3 B hb
          obtain ⟨H1, H2, H3, B⟩ := hHeld
          clear hK K
          try simp only [Act.put, List.setIfInBounds_toArray, List.set_cons_zero, List.set_cons_succ]
          apply Ord.walk_light
          next => (simp only [List.getElem?_toArray, List.getElem?_cons_succ, List.getElem?_cons_zero]; rfl)
          next => rfl
          next => (intro w hSw; clear hSw; go_simp; first | done | with_reducible rfl)
          simp only [Act.put, List.setIfInBounds_toArray, List.set_cons_zero, List.set_cons_succ]
          apply Ord.walk_idle
          next => (simp only [List.getElem?_toArray, List.getElem?_cons_succ, List.getElem?_cons_zero]; rfl)
          next => rfl
          simp only [Act.put, List.setIfInBounds_toArray, List.set_cons_zero, List.set_cons_succ]
          apply Ord.walk_idle
          next => (simp only [List.getElem?_toArray, List.getElem?_cons_succ, List.getElem?_cons_zero]; rfl)
          next => rfl
          simp only [Act.put, List.setIfInBounds_toArray, List.set_cons_zero, List.set_cons_succ]
          apply Ord.walk_idle
          next => (simp only [List.getElem?_toArray, List.getElem?_cons_succ, List.getElem?_cons_zero]; rfl)
          next => rfl
          simp only [Act.put, List.setIfInBounds_toArray, List.set_cons_zero, List.set_cons_succ]
          apply Ord.walk_light
          next => (simp only [List.getElem?_toArray, List.getElem?_cons_succ, List.getElem?_cons_zero]; rfl)
          next => rfl
          next => (intro w hSw; clear hSw; go_simp; first | done | with_reducible rfl)
          simp only [Act.put, List.setIfInBounds_toArray, List.set_cons_zero, List.set_cons_succ]
          apply Ord.walk_heavy
          next => (simp only [List.getElem?_toArray, List.getElem?_cons_succ, List.getElem?_cons_zero]; rfl)
          next => rfl
          intro K hK
          go_wp2_with fail
          refine (tp_run s d (1 + y) c (1 + y) q2 false l false _ (by omega) (by omega) (by omega) (by omega) (by omega) HC.out HC'.out HQ2.out HQ2'.out (fun h => by cases h)).mono ?_; rintro e w' ⟨rfl, hb⟩; dsimp only
          refine hK.out _ _ ⟨H1.below hb H1.lt, H2.below hb H2.lt, H3.below hb H3.lt, B.trans (hb.mono B.size)⟩ (fun hHeld => ?_)
          clear H1 H2 H3 B hb
          obtain ⟨H1, H2, H3, B⟩ := hHeld
          clear hK K
          try simp only [Act.put, List.setIfInBounds_toArray, List.set_cons_zero, List.set_cons_succ]
          refine Ord.walk_tail ?_; simp only [List.drop_succ_cons, List.drop_zero]
          obtain ⟨c0, c1, c2, c3, c4, c5⟩ := five H1; obtain ⟨d0', d1', d2, d3, d4, d5⟩ := five H2; obtain ⟨g0, g1, g2, g3, g4, g5⟩ := five H3
          obtain ⟨m1, m2, m3⟩ := n12.out
          have l1 := H1.lt; have l2 := H2.lt; have l3 := H3.lt
          go_upto_region 16 with (fail)
          refine Aid.wp_abs (fun w' => Aid.Has w' b1 [.int .i64 1, .bool true, .bool true, .bool true, .int .i64 (1 + y)] 26 ∧ Aid.Has w' b2 [.int .i64 2, .bool false, .bool false, .bool false, .int .i64 (1 + y)] 26 ∧ Aid.Has w' b3 [.int .i64 3, .bool false, .bool false, .bool false, .int .i64 (1 + y)] 26 ∧ Below w.heap.size w w') ⟨(((((((((((((((H1).set 0 _).set 1 _).set 2 _).set 3 _).set 4 _).other _ _ (by first | exact m1 | exact m2 | exact m3 | exact Ne.symm m1 | exact Ne.symm m2 | exact Ne.symm m3)).other _ _ (by first | exact m1 | exact m2 | exact m3 | exact Ne.symm m1 | exact Ne.symm m2 | exact Ne.symm m3)).other _ _ (by first | exact m1 | exact m2 | exact m3 | exact Ne.symm m1 | exact Ne.symm m2 | exact Ne.symm m3)).other _ _ (by first | exact m1 | exact m2 | exact m3 | exact Ne.symm m1 | exact Ne.symm m2 | exact Ne.symm m3)).other _ _ (by first | exact m1 | exact m2 | exact m3 | exact Ne.symm m1 | exact Ne.symm m2 | exact Ne.symm m3)).other _ _ (by first | exact m1 | exact m2 | exact m3 | exact Ne.symm m1 | exact Ne.symm m2 | exact Ne.symm m3)).other _ _ (by first | exact m1 | exact m2 | exact m3 | exact Ne.symm m1 | exact Ne.symm m2 | exact Ne.symm m3)).other _ _ (by first | exact m1 | exact m2 | exact m3 | exact Ne.symm m1 | exact Ne.symm m2 | exact Ne.symm m3)).other _ _ (by first | exact m1 | exact m2 | exact m3 | exact Ne.symm m1 | exact Ne.symm m2 | exact Ne.symm m3)).other _ _ (by first | exact m1 | exact m2 | exact m3 | exact Ne.symm m1 | exact Ne.symm m2 | exact Ne.symm m3), (((((((((((((((H2).other _ _ (by first | exact m1 | exact m2 | exact m3 | exact Ne.symm m1 | exact Ne.symm m2 | exact Ne.symm m3)).other _ _ (by first | exact m1 | exact m2 | exact m3 | exact Ne.symm m1 | exact Ne.symm m2 | exact Ne.symm m3)).other _ _ (by first | exact m1 | exact m2 | exact m3 | exact Ne.symm m1 | exact Ne.symm m2 | exact Ne.symm m3)).other _ _ (by first | exact m1 | exact m2 | exact m3 | exact Ne.symm m1 | exact Ne.symm m2 | exact Ne.symm m3)).other _ _ (by first | exact m1 | exact m2 | exact m3 | exact Ne.symm m1 | exact Ne.symm m2 | exact Ne.symm m3)).set 0 _).set 1 _).set 2 _).set 3 _).set 4 _).other _ _ (by first | exact m1 | exact m2 | exact m3 | exact Ne.symm m1 | exact Ne.symm m2 | exact Ne.symm m3)).other _ _ (by first | exact m1 | exact m2 | exact m3 | exact Ne.symm m1 | exact Ne.symm m2 | exact Ne.symm m3)).other _ _ (by first | exact m1 | exact m2 | exact m3 | exact Ne.symm m1 | exact Ne.symm m2 | exact Ne.symm m3)).other _ _ (by first | exact m1 | exact m2 | exact m3 | exact Ne.symm m1 | exact Ne.symm m2 | exact Ne.symm m3)).other _ _ (by first | exact m1 | exact m2 | exact m3 | exact Ne.symm m1 | exact Ne.symm m2 | exact Ne.symm m3), (((((((((((((((H3).other _ _ (by first | exact m1 | exact m2 | exact m3 | exact Ne.symm m1 | exact Ne.symm m2 | exact Ne.symm m3)).other _ _ (by first | exact m1 | exact m2 | exact m3 | exact Ne.symm m1 | exact Ne.symm m2 | exact Ne.symm m3)).other _ _ (by first | exact m1 | exact m2 | exact m3 | exact Ne.symm m1 | exact Ne.symm m2 | exact Ne.symm m3)).other _ _ (by first | exact m1 | exact m2 | exact m3 | exact Ne.symm m1 | exact Ne.symm m2 | exact Ne.symm m3)).other _ _ (by first | exact m1 | exact m2 | exact m3 | exact Ne.symm m1 | exact Ne.symm m2 | exact Ne.symm m3)).other _ _ (by first | exact m1 | exact m2 | exact m3 | exact Ne.symm m1 | exact Ne.symm m2 | exact Ne.symm m3)).other _ _ (by first | exact m1 | exact m2 | exact m3 | exact Ne.symm m1 | exact Ne.symm m2 | exact Ne.symm m3)).other _ _ (by first | exact m1 | exact m2 | exact m3 | exact Ne.symm m1 | exact Ne.symm m2 | exact Ne.symm m3)).other _ _ (by first | exact m1 | exact m2 | exact m3 | exact Ne.symm m1 | exact Ne.symm m2 | exact Ne.symm m3)).other _ _ (by first | exact m1 | exact m2 | exact m3 | exact Ne.symm m1 | exact Ne.symm m2 | exact Ne.symm m3)).set 0 _).set 1 _).set 2 _).set 3 _).set 4 _, (((((((((((((((B).setCell (by first | exact L2 | exact L5 | exact L7) _).setCell (by first | exact L2 | exact L5 | exact L7) _).setCell (by first | exact L2 | exact L5 | exact L7) _).setCell (by first | exact L2 | exact L5 | exact L7) _).setCell (by first | exact L2 | exact L5 | exact L7) _).setCell (by first | exact L2 | exact L5 | exact L7) _).setCell (by first | exact L2 | exact L5 | exact L7) _).setCell (by first | exact L2 | exact L5 | exact L7) _).setCell (by first | exact L2 | exact L5 | exact L7) _).setCell (by first | exact L2 | exact L5 | exact L7) _).setCell (by first | exact L2 | exact L5 | exact L7) _).setCell (by first | exact L2 | exact L5 | exact L7) _).setCell (by first | exact L2 | exact L5 | exact L7) _).setCell (by first | exact L2 | exact L5 | exact L7) _).setCell (by first | exact L2 | exact L5 | exact L7) _⟩ (fun wf hwf => ?_)
          clear c0 c1 c2 c3 c4 c5 d0' d1' d2 d3 d4 d5 g0 g1 g2 g3 g4 g5 m1 m2 m3 l1 l2 l3 H1 H2 H3 B
          obtain ⟨H1, H2, H3, B⟩ := hwf
          obtain ⟨c0, c1, c2, c3, c4, c5⟩ := five H1; obtain ⟨d0', d1', d2, d3, d4, d5⟩ := five H2; obtain ⟨g0, g1, g2, g3, g4, g5⟩ := five H3
          go_wp2_with fail
          go_roundw
          case rel => exact ⟨k + 1, s + d, 1 + y, true, false, false, by omega, by go_num, rfl, by omega, by push_cast; omega, HC'.out, HQ1'.out, HQ2'.out, H1, H2, H3, B⟩
          case measure => simp [intOf]; omega
    · go_wp2_with fail
      refine (awake_any _).mono ?_; rintro e w' ⟨rfl, hb⟩
      go_wp2_with fail
      go_ret
      exact ⟨rfl, B.trans (hb.mono B.size)⟩

set_option maxRecDepth 100000 in
set_option maxHeartbeats 1000000 in
theorem timers_long (x : Int) (a : Option Addr) (len cap : Nat) (w : World) (hlen : 40 < len) :
    Calls Try.prog 3 #[.int .i64 x, .slice a len cap] w fun e w' => e = .returned (.bool true) ∧ Below w.heap.size w w' := by
  go_enter Try.func3, Try.ntmps3
  try simp only [List.append_eq, List.cons_append, List.nil_append]
  go_wp2_with fail
  refine (awake_any _).mono ?_; rintro e w' ⟨rfl, hb⟩
  go_wp2_with fail
  go_ret
  exact ⟨rfl, hb⟩
end Go.Proofs.Ytamalbkiblgbdaa
