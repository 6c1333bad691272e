/- The law BlockWaits, walked. -/
import Derived.Test.YtamalbkiblgbdaaBlockWaitsA
import Derived.Test.YtamalbkiblgbdaaBlockWaitsSpec
import Derived.Test.YtamalbkiblgbdaaOrd
import Derived.Deep.Cut
namespace Go.Proofs.Ytamalbkiblgbdaa
open Go.RowKit


set_option maxRecDepth 100000 in
set_option maxHeartbeats 4000000 in
theorem waits_tof_faa (k0 cv0 pt x y : Int) (q l o : Bool) (w : World) (hk : low k0 3 = 1) :
    Calls Try.prog 5 #[.agg #[.int .i64 k0, .bool q, .bool l, .bool o, .int .i64 cv0], .bool false, .int .i64 pt, .int .i64 x, .int .i64 y] w fun e w' => e = .returned (.bool true) ∧ Below w.heap.size w w' := by
  obtain ⟨X, hX⟩ : ∃ r, low x 501 = r := ⟨_, rfl⟩
  obtain ⟨Y, hY⟩ : ∃ r, low y 501 = r := ⟨_, rfl⟩
  obtain ⟨c, hc⟩ : ∃ r, low cv0 32768 = r := ⟨_, rfl⟩
  obtain ⟨X0, X1⟩ : 0 ≤ X ∧ X < 501 := hX ▸ low_in x 501 (by decide)
  obtain ⟨Y0, Y1⟩ : 0 ≤ Y ∧ Y < 501 := hY ▸ low_in y 501 (by decide)
  obtain ⟨C0, C1⟩ : 0 ≤ c ∧ c < 32768 := hc ▸ low_in cv0 32768 (by decide)
  obtain ⟨p0, p1⟩ := Bk.clip_in pt 32767 (by decide)
  obtain ⟨q1, o1, c1, qa, oa, ca, E1, E2, E3, r0, r1⟩ := waits_tof q l o false c (Bk.clip pt 32767) X Y X0 Y0 C0 (by omega) p0 p1 
  have d1 : Bk.clip X 1000 = X := by unfold Bk.clip; omega
  have d2 : Bk.clip Y 1000 = Y := by unfold Bk.clip; omega
  have d3 : Bk.clip (X + Y) 1000 = X + Y := by unfold Bk.clip; omega
  rw [← d3] at E1; rw [← d1] at E2; rw [← d2] at E3
  have HX := Aid.hid hX; have HY := Aid.hid hY; have HC := Aid.hid hc; have HK := Aid.hid hk
  have G1 := Aid.hid E1; have G2 := Aid.hid E2; have G3 := Aid.hid E3
  clear hX hY hc hk E1 E2 E3 d1 d2 d3 p0 p1
  go_enter Try.func5, Try.ntmps5
  try simp only [List.append_eq, List.cons_append, List.nil_append]
  go_wp2_with fail
  refine (low_is _ _ X HX.out (by decide) (by decide) _).mono ?_; rintro e w' ⟨rfl, rfl⟩
  go_wp2_with fail
  refine (low_is _ _ Y HY.out (by decide) (by decide) _).mono ?_; rintro e w' ⟨rfl, rfl⟩
  go_wp2_with fail
  have H : Aid.Has (w.alloc (.cells #[.int .i64 k0, .bool q, .bool l, .bool o, .int .i64 cv0] 26)) w.heap.size [.int .i64 k0, .bool q, .bool l, .bool o, .int .i64 cv0] 26 := Aid.Has.new _ _ _
  have B : Below w.heap.size w (w.alloc (.cells #[.int .i64 k0, .bool q, .bool l, .bool o, .int .i64 cv0] 26)) := (Below.refl _ _).alloc (Nat.le_refl _) _
  obtain ⟨b5, E5⟩ : ∃ b, w.heap.size = b := ⟨_, rfl⟩
  rw [E5] at H
  simp only [E5]
  go_cut [] from 17 (fun w' => Aid.Has w' b5 [.int .i64 2, .bool q, .bool l, .bool o, .int .i64 c] 26 ∧ Below w.heap.size w w')
  case first =>
    replace H := H.drew
    replace B := B.drew
    refine Ord.wp_region_go (fun w' => Aid.Has w' b5 [.int .i64 k0, .bool q, .bool l, .bool o, .int .i64 cv0] 26 ∧ Below w.heap.size w w') 10 [1, 2, 4, 6, 7, 9] (by kernel_rfl) (by kernel_rfl) (fun _ _ d _ _ h => by cases d <;> exact h) (⟨H, B⟩) ?_
    generalize (w.alloc (.cells #[.int .i64 k0, .bool q, .bool l, .bool o, .int .i64 cv0] 26)).drew = wd at *
    apply Ord.go_light (i := 1) (by kernel_rfl)
    next => (simp only [List.getElem?_toArray, List.getElem?_cons_succ, List.getElem?_cons_zero]; rfl)
    next => rfl
    next => (intro w hSw; clear hSw; go_simp; first | done | with_reducible rfl)
    simp only [Act.put, List.setIfInBounds_toArray, List.set_cons_zero, List.set_cons_succ]
    apply Ord.go_light (i := 2) (by kernel_rfl)
    next => (simp only [List.getElem?_toArray, List.getElem?_cons_succ, List.getElem?_cons_zero]; rfl)
    next => rfl
    next => (intro w hSw; obtain ⟨g1, g2⟩ := hSw; obtain ⟨k0, k1, k2, k3, k4, k5⟩ := fiveW g1; go_simp; first | done | with_reducible rfl)
    simp only [Act.put, List.setIfInBounds_toArray, List.set_cons_zero, List.set_cons_succ]
    apply Ord.go_light (i := 6) (by kernel_rfl)
    next => (simp only [List.getElem?_toArray, List.getElem?_cons_succ, List.getElem?_cons_zero]; rfl)
    next => rfl
    next => (intro w hSw; clear hSw; go_simp; first | done | with_reducible rfl)
    simp only [Act.put, List.setIfInBounds_toArray, List.set_cons_zero, List.set_cons_succ]
    apply Ord.go_light (i := 7) (by kernel_rfl)
    next => (simp only [List.getElem?_toArray, List.getElem?_cons_succ, List.getElem?_cons_zero]; rfl)
    next => rfl
    next => (intro w hSw; obtain ⟨g1, g2⟩ := hSw; obtain ⟨k0, k1, k2, k3, k4, k5⟩ := fiveW g1; go_simp; first | done | with_reducible rfl)
    simp only [Act.put, List.setIfInBounds_toArray, List.set_cons_zero, List.set_cons_succ]
    refine Ord.go_two (i := 0) (j := 3) (by kernel_rfl) (by kernel_rfl) ?_ ?_
    ·
      apply Ord.go_done1
      next => (simp only [List.getElem?_toArray, List.getElem?_cons_zero]; rfl)
      next => rfl
      intro K hK
      go_wp2_with fail
      have HS := Aid.Has.new wd [.int .i64 1, .int .i64 2, .int .i64 3] 3
      refine hK.out _ _ ⟨H.alloc _, B.alloc B.size _⟩ (fun hHeld => ?_)
      clear H B
      obtain ⟨H, B⟩ := hHeld
      generalize wd.alloc (.cells #[.int .i64 1, .int .i64 2, .int .i64 3] 3) = wd2 at *
      clear hK K
      try simp only [Act.put, List.setIfInBounds_toArray, List.set_cons_zero, List.set_cons_succ]
      refine Ord.go_one (i := 3) (by kernel_rfl) (by kernel_rfl) ?_
      apply Ord.go_done1
      next => (simp only [List.getElem?_toArray, List.getElem?_cons_succ, List.getElem?_cons_zero]; rfl)
      next => rfl
      intro K hK
      go_wp2_with fail
      refine (low_is _ _ 1 HK.out (by decide) (by decide) _).mono ?_; rintro e w' ⟨rfl, rfl⟩; dsimp only
      refine hK.out _ _ ⟨H, B⟩ (fun _ => ?_)
      clear hK K
      try simp only [Act.put, List.setIfInBounds_toArray, List.set_cons_zero, List.set_cons_succ]
      apply Ord.go_light (i := 4) (by kernel_rfl)
      next => (simp only [List.getElem?_toArray, List.getElem?_cons_succ, List.getElem?_cons_zero]; rfl)
      next => rfl
      next => (intro w hSw; clear hSw; go_simp; first | done | with_reducible rfl)
      simp only [Act.put, List.setIfInBounds_toArray, List.set_cons_zero, List.set_cons_succ]
      refine Ord.go_two (i := 5) (j := 8) (by kernel_rfl) (by kernel_rfl) ?_ ?_
      ·
        apply Ord.go_done1
        next => (simp only [List.getElem?_toArray, List.getElem?_cons_succ, List.getElem?_cons_zero]; rfl)
        next => rfl
        intro K hK
        have hcell := HS.cell 1 _ rfl
        go_wp2_with fail
        refine hK.out _ _ ⟨H, B⟩ (fun _ => ?_)
        clear hK K
        try simp only [Act.put, List.setIfInBounds_toArray, List.set_cons_zero, List.set_cons_succ]
        apply Ord.go_light (i := 9) (by kernel_rfl)
        next => (simp only [List.getElem?_toArray, List.getElem?_cons_succ, List.getElem?_cons_zero]; rfl)
        next => rfl
        next => (intro w hSw; clear hSw; go_simp; first | done | with_reducible rfl)
        simp only [Act.put, List.setIfInBounds_toArray, List.set_cons_zero, List.set_cons_succ]
        refine Ord.go_one (i := 8) (by kernel_rfl) (by kernel_rfl) ?_
        apply Ord.go_done1
        next => (simp only [List.getElem?_toArray, List.getElem?_cons_succ, List.getElem?_cons_zero]; rfl)
        next => rfl
        intro K hK
        go_wp2_with fail
        refine (low_is _ _ c HC.out (by decide) (by decide) _).mono ?_; rintro e w' ⟨rfl, rfl⟩; dsimp only
        refine hK.out _ _ ⟨H, B⟩ (fun _ => ?_)
        clear hK K
        try simp only [Act.put, List.setIfInBounds_toArray, List.set_cons_zero, List.set_cons_succ]
        refine Ord.go_tail ?_; simp only [List.drop_succ_cons, List.drop_zero]
        obtain ⟨c0, c1', c2, c3, c4, cf⟩ := fiveW H
        go_wp2_with fail
        go_meet
        case rel => exact ⟨(H.set 0 _).set 4 _, (B.setCell (Nat.le_of_eq E5) _).setCell (Nat.le_of_eq E5) _⟩
      ·
        apply Ord.go_done1
        next => (simp only [List.getElem?_toArray, List.getElem?_cons_succ, List.getElem?_cons_zero]; rfl)
        next => rfl
        intro K hK
        go_wp2_with fail
        refine (low_is _ _ c HC.out (by decide) (by decide) _).mono ?_; rintro e w' ⟨rfl, rfl⟩; dsimp only
        refine hK.out _ _ ⟨H, B⟩ (fun _ => ?_)
        clear hK K
        try simp only [Act.put, List.setIfInBounds_toArray, List.set_cons_zero, List.set_cons_succ]
        refine Ord.go_one (i := 5) (by kernel_rfl) (by kernel_rfl) ?_
        apply Ord.go_done1
        next => (simp only [List.getElem?_toArray, List.getElem?_cons_succ, List.getElem?_cons_zero]; rfl)
        next => rfl
        intro K hK
        have hcell := HS.cell 1 _ rfl
        go_wp2_with fail
        refine hK.out _ _ ⟨H, B⟩ (fun _ => ?_)
        clear hK K
        try simp only [Act.put, List.setIfInBounds_toArray, List.set_cons_zero, List.set_cons_succ]
        apply Ord.go_light (i := 9) (by kernel_rfl)
        next => (simp only [List.getElem?_toArray, List.getElem?_cons_succ, List.getElem?_cons_zero]; rfl)
        next => rfl
        next => (intro w hSw; clear hSw; go_simp; first | done | with_reducible rfl)
        simp only [Act.put, List.setIfInBounds_toArray, List.set_cons_zero, List.set_cons_succ]
        refine Ord.go_tail ?_; simp only [List.drop_succ_cons, List.drop_zero]
        obtain ⟨c0, c1', c2, c3, c4, cf⟩ := fiveW H
        go_wp2_with fail
        go_meet
        case rel => exact ⟨(H.set 0 _).set 4 _, (B.setCell (Nat.le_of_eq E5) _).setCell (Nat.le_of_eq E5) _⟩
    ·
      apply Ord.go_done1
      next => (simp only [List.getElem?_toArray, List.getElem?_cons_succ, List.getElem?_cons_zero]; rfl)
      next => rfl
      intro K hK
      go_wp2_with fail
      refine (low_is _ _ 1 HK.out (by decide) (by decide) _).mono ?_; rintro e w' ⟨rfl, rfl⟩; dsimp only
      refine hK.out _ _ ⟨H, B⟩ (fun _ => ?_)
      clear hK K
      try simp only [Act.put, List.setIfInBounds_toArray, List.set_cons_zero, List.set_cons_succ]
      refine Ord.go_two (i := 0) (j := 8) (by kernel_rfl) (by kernel_rfl) ?_ ?_
      ·
        apply Ord.go_done1
        next => (simp only [List.getElem?_toArray, List.getElem?_cons_zero]; rfl)
        next => rfl
        intro K hK
        go_wp2_with fail
        have HS := Aid.Has.new wd [.int .i64 1, .int .i64 2, .int .i64 3] 3
        refine hK.out _ _ ⟨H.alloc _, B.alloc B.size _⟩ (fun hHeld => ?_)
        clear H B
        obtain ⟨H, B⟩ := hHeld
        generalize wd.alloc (.cells #[.int .i64 1, .int .i64 2, .int .i64 3] 3) = wd2 at *
        clear hK K
        try simp only [Act.put, List.setIfInBounds_toArray, List.set_cons_zero, List.set_cons_succ]
        apply Ord.go_light (i := 4) (by kernel_rfl)
        next => (simp only [List.getElem?_toArray, List.getElem?_cons_succ, List.getElem?_cons_zero]; rfl)
        next => rfl
        next => (intro w hSw; clear hSw; go_simp; first | done | with_reducible rfl)
        simp only [Act.put, List.setIfInBounds_toArray, List.set_cons_zero, List.set_cons_succ]
        refine Ord.go_two (i := 5) (j := 8) (by kernel_rfl) (by kernel_rfl) ?_ ?_
        ·
          apply Ord.go_done1
          next => (simp only [List.getElem?_toArray, List.getElem?_cons_succ, List.getElem?_cons_zero]; rfl)
          next => rfl
          intro K hK
          have hcell := HS.cell 1 _ rfl
          go_wp2_with fail
          refine hK.out _ _ ⟨H, B⟩ (fun _ => ?_)
          clear hK K
          try simp only [Act.put, List.setIfInBounds_toArray, List.set_cons_zero, List.set_cons_succ]
          apply Ord.go_light (i := 9) (by kernel_rfl)
          next => (simp only [List.getElem?_toArray, List.getElem?_cons_succ, List.getElem?_cons_zero]; rfl)
          next => rfl
          next => (intro w hSw; clear hSw; go_simp; first | done | with_reducible rfl)
          simp only [Act.put, List.setIfInBounds_toArray, List.set_cons_zero, List.set_cons_succ]
          refine Ord.go_one (i := 8) (by kernel_rfl) (by kernel_rfl) ?_
          apply Ord.go_done1
          next => (simp only [List.getElem?_toArray, List.getElem?_cons_succ, List.getElem?_cons_zero]; rfl)
          next => rfl
          intro K hK
          go_wp2_with fail
          refine (low_is _ _ c HC.out (by decide) (by decide) _).mono ?_; rintro e w' ⟨rfl, rfl⟩; dsimp only
          refine hK.out _ _ ⟨H, B⟩ (fun _ => ?_)
          clear hK K
          try simp only [Act.put, List.setIfInBounds_toArray, List.set_cons_zero, List.set_cons_succ]
          refine Ord.go_tail ?_; simp only [List.drop_succ_cons, List.drop_zero]
          obtain ⟨c0, c1', c2, c3, c4, cf⟩ := fiveW H
          go_wp2_with fail
          go_meet
          case rel => exact ⟨(H.set 0 _).set 4 _, (B.setCell (Nat.le_of_eq E5) _).setCell (Nat.le_of_eq E5) _⟩
        ·
          apply Ord.go_done1
          next => (simp only [List.getElem?_toArray, List.getElem?_cons_succ, List.getElem?_cons_zero]; rfl)
          next => rfl
          intro K hK
          go_wp2_with fail
          refine (low_is _ _ c HC.out (by decide) (by decide) _).mono ?_; rintro e w' ⟨rfl, rfl⟩; dsimp only
          refine hK.out _ _ ⟨H, B⟩ (fun _ => ?_)
          clear hK K
          try simp only [Act.put, List.setIfInBounds_toArray, List.set_cons_zero, List.set_cons_succ]
          refine Ord.go_one (i := 5) (by kernel_rfl) (by kernel_rfl) ?_
          apply Ord.go_done1
          next => (simp only [List.getElem?_toArray, List.getElem?_cons_succ, List.getElem?_cons_zero]; rfl)
          next => rfl
          intro K hK
          have hcell := HS.cell 1 _ rfl
          go_wp2_with fail
          refine hK.out _ _ ⟨H, B⟩ (fun _ => ?_)
          clear hK K
          try simp only [Act.put, List.setIfInBounds_toArray, List.set_cons_zero, List.set_cons_succ]
          apply Ord.go_light (i := 9) (by kernel_rfl)
          next => (simp only [List.getElem?_toArray, List.getElem?_cons_succ, List.getElem?_cons_zero]; rfl)
          next => rfl
          next => (intro w hSw; clear hSw; go_simp; first | done | with_reducible rfl)
          simp only [Act.put, List.setIfInBounds_toArray, List.set_cons_zero, List.set_cons_succ]
          refine Ord.go_tail ?_; simp only [List.drop_succ_cons, List.drop_zero]
          obtain ⟨c0, c1', c2, c3, c4, cf⟩ := fiveW H
          go_wp2_with fail
          go_meet
          case rel => exact ⟨(H.set 0 _).set 4 _, (B.setCell (Nat.le_of_eq E5) _).setCell (Nat.le_of_eq E5) _⟩
      ·
        apply Ord.go_done1
        next => (simp only [List.getElem?_toArray, List.getElem?_cons_succ, List.getElem?_cons_zero]; rfl)
        next => rfl
        intro K hK
        go_wp2_with fail
        refine (low_is _ _ c HC.out (by decide) (by decide) _).mono ?_; rintro e w' ⟨rfl, rfl⟩; dsimp only
        refine hK.out _ _ ⟨H, B⟩ (fun _ => ?_)
        clear hK K
        try simp only [Act.put, List.setIfInBounds_toArray, List.set_cons_zero, List.set_cons_succ]
        refine Ord.go_one (i := 0) (by kernel_rfl) (by kernel_rfl) ?_
        apply Ord.go_done1
        next => (simp only [List.getElem?_toArray, List.getElem?_cons_zero]; rfl)
        next => rfl
        intro K hK
        go_wp2_with fail
        have HS := Aid.Has.new wd [.int .i64 1, .int .i64 2, .int .i64 3] 3
        refine hK.out _ _ ⟨H.alloc _, B.alloc B.size _⟩ (fun hHeld => ?_)
        clear H B
        obtain ⟨H, B⟩ := hHeld
        generalize wd.alloc (.cells #[.int .i64 1, .int .i64 2, .int .i64 3] 3) = wd2 at *
        clear hK K
        try simp only [Act.put, List.setIfInBounds_toArray, List.set_cons_zero, List.set_cons_succ]
        apply Ord.go_light (i := 4) (by kernel_rfl)
        next => (simp only [List.getElem?_toArray, List.getElem?_cons_succ, List.getElem?_cons_zero]; rfl)
        next => rfl
        next => (intro w hSw; clear hSw; go_simp; first | done | with_reducible rfl)
        simp only [Act.put, List.setIfInBounds_toArray, List.set_cons_zero, List.set_cons_succ]
        refine Ord.go_one (i := 5) (by kernel_rfl) (by kernel_rfl) ?_
        apply Ord.go_done1
        next => (simp only [List.getElem?_toArray, List.getElem?_cons_succ, List.getElem?_cons_zero]; rfl)
        next => rfl
        intro K hK
        have hcell := HS.cell 1 _ rfl
        go_wp2_with fail
        refine hK.out _ _ ⟨H, B⟩ (fun _ => ?_)
        clear hK K
        try simp only [Act.put, List.setIfInBounds_toArray, List.set_cons_zero, List.set_cons_succ]
        apply Ord.go_light (i := 9) (by kernel_rfl)
        next => (simp only [List.getElem?_toArray, List.getElem?_cons_succ, List.getElem?_cons_zero]; rfl)
        next => rfl
        next => (intro w hSw; clear hSw; go_simp; first | done | with_reducible rfl)
        simp only [Act.put, List.setIfInBounds_toArray, List.set_cons_zero, List.set_cons_succ]
        refine Ord.go_tail ?_; simp only [List.drop_succ_cons, List.drop_zero]
        obtain ⟨c0, c1', c2, c3, c4, cf⟩ := fiveW H
        go_wp2_with fail
        go_meet
        case rel => exact ⟨(H.set 0 _).set 4 _, (B.setCell (Nat.le_of_eq E5) _).setCell (Nat.le_of_eq E5) _⟩
  case rest =>
    clear H B
    obtain ⟨H, B⟩ := hcut
    obtain ⟨f0, f1, f2, f3, f4, ff⟩ := fiveW H
    go_wp2_with fail
    refine (tof_to q l o false qa false oa c pt (X + Y) ca _ G1.out C0 (by omega)).mono ?_; rintro e w1 ⟨rfl, hb1⟩
    have H1 : Aid.Has w1 b5 [.int .i64 2, .bool q, .bool l, .bool o, .int .i64 c] 26 := Aid.Has.below (H) hb1 (by exact H.lt)
    have B1 : Below w.heap.size w w1 := (B).trans (hb1.mono (by exact B.size))
    clear H B hb1 f0 f1 f2 f3 f4 ff
    have L1 := B1.size
    have N1 := H1.lt
    obtain ⟨f0, f1, f2, f3, f4, ff⟩ := fiveW H1
    go_wp2_with fail
    refine (tof_to q l o false q1 false o1 c pt X c1 _ G2.out C0 (by omega)).mono ?_; rintro e w2 ⟨rfl, hb2⟩
    go_wp2_with fail
    refine (tof_to q1 false o1 false qa false oa c1 pt Y ca _ G3.out r0 r1).mono ?_; rintro e w3 ⟨rfl, hb3⟩
    have hb := hb2.trans (hb3.mono hb2.size)
    have H3 : Aid.Has w3 w1.heap.size [.int .i64 2, .bool qa, .bool false, .bool oa, .int .i64 ca] 26 := Aid.Has.below (Aid.Has.new _ _ _) hb (by simp)
    have B3 : Below w.heap.size w w3 := (B1.alloc L1 _).trans (hb.mono (by simp; omega))
    clear H1 B1 hb2 hb3 hb f0 f1 f2 f3 f4 ff
    have N3 := H3.lt
    have L3 := B3.size
    generalize w1.heap.size = b6 at *
    obtain ⟨f0, f1, f2, f3, f4, ff⟩ := fiveW H3
    go_wp2_with fail
    refine (awake_any _).mono ?_; rintro e w4 ⟨rfl, hb4⟩
    go_wp2_with fail
    go_ret
    first
      | exact ⟨rfl, (B3.alloc L3 _).trans (hb4.mono (by simp; omega))⟩
      | exact ⟨rfl, E5 ▸ ((B3.alloc L3 _).trans (hb4.mono (by simp; omega)))⟩

set_option maxRecDepth 100000 in
set_option maxHeartbeats 4000000 in
theorem waits_tof_tta (k0 cv0 pt x y : Int) (q l : Bool) (w : World) (hk : low k0 3 = 1) :
    Calls Try.prog 5 #[.agg #[.int .i64 k0, .bool q, .bool l, .bool true, .int .i64 cv0], .bool true, .int .i64 pt, .int .i64 x, .int .i64 y] w fun e w' => e = .returned (.bool true) ∧ Below w.heap.size w w' := by
  obtain ⟨X, hX⟩ : ∃ r, low x 501 = r := ⟨_, rfl⟩
  obtain ⟨Y, hY⟩ : ∃ r, low y 501 = r := ⟨_, rfl⟩
  obtain ⟨c, hc⟩ : ∃ r, low cv0 32768 = r := ⟨_, rfl⟩
  obtain ⟨X0, X1⟩ : 0 ≤ X ∧ X < 501 := hX ▸ low_in x 501 (by decide)
  obtain ⟨Y0, Y1⟩ : 0 ≤ Y ∧ Y < 501 := hY ▸ low_in y 501 (by decide)
  obtain ⟨C0, C1⟩ : 0 ≤ c ∧ c < 32768 := hc ▸ low_in cv0 32768 (by decide)
  obtain ⟨p0, p1⟩ := Bk.clip_in pt 32767 (by decide)
  obtain ⟨q1, o1, c1, qa, oa, ca, E1, E2, E3, r0, r1⟩ := waits_tof q l true true c (Bk.clip pt 32767) X Y X0 Y0 C0 (by omega) p0 p1 
  have d1 : Bk.clip X 1000 = X := by unfold Bk.clip; omega
  have d2 : Bk.clip Y 1000 = Y := by unfold Bk.clip; omega
  have d3 : Bk.clip (X + Y) 1000 = X + Y := by unfold Bk.clip; omega
  rw [← d3] at E1; rw [← d1] at E2; rw [← d2] at E3
  have HX := Aid.hid hX; have HY := Aid.hid hY; have HC := Aid.hid hc; have HK := Aid.hid hk
  have G1 := Aid.hid E1; have G2 := Aid.hid E2; have G3 := Aid.hid E3
  clear hX hY hc hk E1 E2 E3 d1 d2 d3 p0 p1
  go_enter Try.func5, Try.ntmps5
  try simp only [List.append_eq, List.cons_append, List.nil_append]
  go_wp2_with fail
  refine (low_is _ _ X HX.out (by decide) (by decide) _).mono ?_; rintro e w' ⟨rfl, rfl⟩
  go_wp2_with fail
  refine (low_is _ _ Y HY.out (by decide) (by decide) _).mono ?_; rintro e w' ⟨rfl, rfl⟩
  go_wp2_with fail
  have H : Aid.Has (w.alloc (.cells #[.int .i64 k0, .bool q, .bool l, .bool true, .int .i64 cv0] 26)) w.heap.size [.int .i64 k0, .bool q, .bool l, .bool true, .int .i64 cv0] 26 := Aid.Has.new _ _ _
  have B : Below w.heap.size w (w.alloc (.cells #[.int .i64 k0, .bool q, .bool l, .bool true, .int .i64 cv0] 26)) := (Below.refl _ _).alloc (Nat.le_refl _) _
  obtain ⟨b5, E5⟩ : ∃ b, w.heap.size = b := ⟨_, rfl⟩
  rw [E5] at H
  simp only [E5]
  go_cut [] from 17 (fun w' => Aid.Has w' b5 [.int .i64 2, .bool q, .bool l, .bool true, .int .i64 c] 26 ∧ Below w.heap.size w w')
  case first =>
    replace H := H.drew
    replace B := B.drew
    refine Ord.wp_region_go (fun w' => Aid.Has w' b5 [.int .i64 k0, .bool q, .bool l, .bool true, .int .i64 cv0] 26 ∧ Below w.heap.size w w') 10 [1, 2, 4, 6, 7, 9] (by kernel_rfl) (by kernel_rfl) (fun _ _ d _ _ h => by cases d <;> exact h) (⟨H, B⟩) ?_
    generalize (w.alloc (.cells #[.int .i64 k0, .bool q, .bool l, .bool true, .int .i64 cv0] 26)).drew = wd at *
    apply Ord.go_light (i := 1) (by kernel_rfl)
    next => (simp only [List.getElem?_toArray, List.getElem?_cons_succ, List.getElem?_cons_zero]; rfl)
    next => rfl
    next => (intro w hSw; clear hSw; go_simp; first | done | with_reducible rfl)
    simp only [Act.put, List.setIfInBounds_toArray, List.set_cons_zero, List.set_cons_succ]
    apply Ord.go_light (i := 2) (by kernel_rfl)
    next => (simp only [List.getElem?_toArray, List.getElem?_cons_succ, List.getElem?_cons_zero]; rfl)
    next => rfl
    next => (intro w hSw; obtain ⟨g1, g2⟩ := hSw; obtain ⟨k0, k1, k2, k3, k4, k5⟩ := fiveW g1; go_simp; first | done | with_reducible rfl)
    simp only [Act.put, List.setIfInBounds_toArray, List.set_cons_zero, List.set_cons_succ]
    apply Ord.go_light (i := 6) (by kernel_rfl)
    next => (simp only [List.getElem?_toArray, List.getElem?_cons_succ, List.getElem?_cons_zero]; rfl)
    next => rfl
    next => (intro w hSw; clear hSw; go_simp; first | done | with_reducible rfl)
    simp only [Act.put, List.setIfInBounds_toArray, List.set_cons_zero, List.set_cons_succ]
    apply Ord.go_light (i := 7) (by kernel_rfl)
    next => (simp only [List.getElem?_toArray, List.getElem?_cons_succ, List.getElem?_cons_zero]; rfl)
    next => rfl
    next => (intro w hSw; obtain ⟨g1, g2⟩ := hSw; obtain ⟨k0, k1, k2, k3, k4, k5⟩ := fiveW g1; go_simp; first | done | with_reducible rfl)
    simp only [Act.put, List.setIfInBounds_toArray, List.set_cons_zero, List.set_cons_succ]
    refine Ord.go_two (i := 0) (j := 3) (by kernel_rfl) (by kernel_rfl) ?_ ?_
    ·
      apply Ord.go_done1
      next => (simp only [List.getElem?_toArray, List.getElem?_cons_zero]; rfl)
      next => rfl
      intro K hK
      go_wp2_with fail
      have HS := Aid.Has.new wd [.int .i64 1, .int .i64 2, .int .i64 3] 3
      refine hK.out _ _ ⟨H.alloc _, B.alloc B.size _⟩ (fun hHeld => ?_)
      clear H B
      obtain ⟨H, B⟩ := hHeld
      generalize wd.alloc (.cells #[.int .i64 1, .int .i64 2, .int .i64 3] 3) = wd2 at *
      clear hK K
      try simp only [Act.put, List.setIfInBounds_toArray, List.set_cons_zero, List.set_cons_succ]
      refine Ord.go_one (i := 3) (by kernel_rfl) (by kernel_rfl) ?_
      apply Ord.go_done1
      next => (simp only [List.getElem?_toArray, List.getElem?_cons_succ, List.getElem?_cons_zero]; rfl)
      next => rfl
      intro K hK
      go_wp2_with fail
      refine (low_is _ _ 1 HK.out (by decide) (by decide) _).mono ?_; rintro e w' ⟨rfl, rfl⟩; dsimp only
      refine hK.out _ _ ⟨H, B⟩ (fun _ => ?_)
      clear hK K
      try simp only [Act.put, List.setIfInBounds_toArray, List.set_cons_zero, List.set_cons_succ]
      apply Ord.go_light (i := 4) (by kernel_rfl)
      next => (simp only [List.getElem?_toArray, List.getElem?_cons_succ, List.getElem?_cons_zero]; rfl)
      next => rfl
      next => (intro w hSw; clear hSw; go_simp; first | done | with_reducible rfl)
      simp only [Act.put, List.setIfInBounds_toArray, List.set_cons_zero, List.set_cons_succ]
      refine Ord.go_two (i := 5) (j := 8) (by kernel_rfl) (by kernel_rfl) ?_ ?_
      ·
        apply Ord.go_done1
        next => (simp only [List.getElem?_toArray, List.getElem?_cons_succ, List.getElem?_cons_zero]; rfl)
        next => rfl
        intro K hK
        have hcell := HS.cell 1 _ rfl
        go_wp2_with fail
        refine hK.out _ _ ⟨H, B⟩ (fun _ => ?_)
        clear hK K
        try simp only [Act.put, List.setIfInBounds_toArray, List.set_cons_zero, List.set_cons_succ]
        apply Ord.go_light (i := 9) (by kernel_rfl)
        next => (simp only [List.getElem?_toArray, List.getElem?_cons_succ, List.getElem?_cons_zero]; rfl)
        next => rfl
        next => (intro w hSw; clear hSw; go_simp; first | done | with_reducible rfl)
        simp only [Act.put, List.setIfInBounds_toArray, List.set_cons_zero, List.set_cons_succ]
        refine Ord.go_one (i := 8) (by kernel_rfl) (by kernel_rfl) ?_
        apply Ord.go_done1
        next => (simp only [List.getElem?_toArray, List.getElem?_cons_succ, List.getElem?_cons_zero]; rfl)
        next => rfl
        intro K hK
        go_wp2_with fail
        refine (low_is _ _ c HC.out (by decide) (by decide) _).mono ?_; rintro e w' ⟨rfl, rfl⟩; dsimp only
        refine hK.out _ _ ⟨H, B⟩ (fun _ => ?_)
        clear hK K
        try simp only [Act.put, List.setIfInBounds_toArray, List.set_cons_zero, List.set_cons_succ]
        refine Ord.go_tail ?_; simp only [List.drop_succ_cons, List.drop_zero]
        obtain ⟨c0, c1', c2, c3, c4, cf⟩ := fiveW H
        go_wp2_with fail
        go_meet
        case rel => exact ⟨(H.set 0 _).set 4 _, (B.setCell (Nat.le_of_eq E5) _).setCell (Nat.le_of_eq E5) _⟩
      ·
        apply Ord.go_done1
        next => (simp only [List.getElem?_toArray, List.getElem?_cons_succ, List.getElem?_cons_zero]; rfl)
        next => rfl
        intro K hK
        go_wp2_with fail
        refine (low_is _ _ c HC.out (by decide) (by decide) _).mono ?_; rintro e w' ⟨rfl, rfl⟩; dsimp only
        refine hK.out _ _ ⟨H, B⟩ (fun _ => ?_)
        clear hK K
        try simp only [Act.put, List.setIfInBounds_toArray, List.set_cons_zero, List.set_cons_succ]
        refine Ord.go_one (i := 5) (by kernel_rfl) (by kernel_rfl) ?_
        apply Ord.go_done1
        next => (simp only [List.getElem?_toArray, List.getElem?_cons_succ, List.getElem?_cons_zero]; rfl)
        next => rfl
        intro K hK
        have hcell := HS.cell 1 _ rfl
        go_wp2_with fail
        refine hK.out _ _ ⟨H, B⟩ (fun _ => ?_)
        clear hK K
        try simp only [Act.put, List.setIfInBounds_toArray, List.set_cons_zero, List.set_cons_succ]
        apply Ord.go_light (i := 9) (by kernel_rfl)
        next => (simp only [List.getElem?_toArray, List.getElem?_cons_succ, List.getElem?_cons_zero]; rfl)
        next => rfl
        next => (intro w hSw; clear hSw; go_simp; first | done | with_reducible rfl)
        simp only [Act.put, List.setIfInBounds_toArray, List.set_cons_zero, List.set_cons_succ]
        refine Ord.go_tail ?_; simp only [List.drop_succ_cons, List.drop_zero]
        obtain ⟨c0, c1', c2, c3, c4, cf⟩ := fiveW H
        go_wp2_with fail
        go_meet
        case rel => exact ⟨(H.set 0 _).set 4 _, (B.setCell (Nat.le_of_eq E5) _).setCell (Nat.le_of_eq E5) _⟩
    ·
      apply Ord.go_done1
      next => (simp only [List.getElem?_toArray, List.getElem?_cons_succ, List.getElem?_cons_zero]; rfl)
      next => rfl
      intro K hK
      go_wp2_with fail
      refine (low_is _ _ 1 HK.out (by decide) (by decide) _).mono ?_; rintro e w' ⟨rfl, rfl⟩; dsimp only
      refine hK.out _ _ ⟨H, B⟩ (fun _ => ?_)
      clear hK K
      try simp only [Act.put, List.setIfInBounds_toArray, List.set_cons_zero, List.set_cons_succ]
      refine Ord.go_two (i := 0) (j := 8) (by kernel_rfl) (by kernel_rfl) ?_ ?_
      ·
        apply Ord.go_done1
        next => (simp only [List.getElem?_toArray, List.getElem?_cons_zero]; rfl)
        next => rfl
        intro K hK
        go_wp2_with fail
        have HS := Aid.Has.new wd [.int .i64 1, .int .i64 2, .int .i64 3] 3
        refine hK.out _ _ ⟨H.alloc _, B.alloc B.size _⟩ (fun hHeld => ?_)
        clear H B
        obtain ⟨H, B⟩ := hHeld
        generalize wd.alloc (.cells #[.int .i64 1, .int .i64 2, .int .i64 3] 3) = wd2 at *
        clear hK K
        try simp only [Act.put, List.setIfInBounds_toArray, List.set_cons_zero, List.set_cons_succ]
        apply Ord.go_light (i := 4) (by kernel_rfl)
        next => (simp only [List.getElem?_toArray, List.getElem?_cons_succ, List.getElem?_cons_zero]; rfl)
        next => rfl
        next => (intro w hSw; clear hSw; go_simp; first | done | with_reducible rfl)
        simp only [Act.put, List.setIfInBounds_toArray, List.set_cons_zero, List.set_cons_succ]
        refine Ord.go_two (i := 5) (j := 8) (by kernel_rfl) (by kernel_rfl) ?_ ?_
        ·
          apply Ord.go_done1
          next => (simp only [List.getElem?_toArray, List.getElem?_cons_succ, List.getElem?_cons_zero]; rfl)
          next => rfl
          intro K hK
          have hcell := HS.cell 1 _ rfl
          go_wp2_with fail
          refine hK.out _ _ ⟨H, B⟩ (fun _ => ?_)
          clear hK K
          try simp only [Act.put, List.setIfInBounds_toArray, List.set_cons_zero, List.set_cons_succ]
          apply Ord.go_light (i := 9) (by kernel_rfl)
          next => (simp only [List.getElem?_toArray, List.getElem?_cons_succ, List.getElem?_cons_zero]; rfl)
          next => rfl
          next => (intro w hSw; clear hSw; go_simp; first | done | with_reducible rfl)
          simp only [Act.put, List.setIfInBounds_toArray, List.set_cons_zero, List.set_cons_succ]
          refine Ord.go_one (i := 8) (by kernel_rfl) (by kernel_rfl) ?_
          apply Ord.go_done1
          next => (simp only [List.getElem?_toArray, List.getElem?_cons_succ, List.getElem?_cons_zero]; rfl)
          next => rfl
          intro K hK
          go_wp2_with fail
          refine (low_is _ _ c HC.out (by decide) (by decide) _).mono ?_; rintro e w' ⟨rfl, rfl⟩; dsimp only
          refine hK.out _ _ ⟨H, B⟩ (fun _ => ?_)
          clear hK K
          try simp only [Act.put, List.setIfInBounds_toArray, List.set_cons_zero, List.set_cons_succ]
          refine Ord.go_tail ?_; simp only [List.drop_succ_cons, List.drop_zero]
          obtain ⟨c0, c1', c2, c3, c4, cf⟩ := fiveW H
          go_wp2_with fail
          go_meet
          case rel => exact ⟨(H.set 0 _).set 4 _, (B.setCell (Nat.le_of_eq E5) _).setCell (Nat.le_of_eq E5) _⟩
        ·
          apply Ord.go_done1
          next => (simp only [List.getElem?_toArray, List.getElem?_cons_succ, List.getElem?_cons_zero]; rfl)
          next => rfl
          intro K hK
          go_wp2_with fail
          refine (low_is _ _ c HC.out (by decide) (by decide) _).mono ?_; rintro e w' ⟨rfl, rfl⟩; dsimp only
          refine hK.out _ _ ⟨H, B⟩ (fun _ => ?_)
          clear hK K
          try simp only [Act.put, List.setIfInBounds_toArray, List.set_cons_zero, List.set_cons_succ]
          refine Ord.go_one (i := 5) (by kernel_rfl) (by kernel_rfl) ?_
          apply Ord.go_done1
          next => (simp only [List.getElem?_toArray, List.getElem?_cons_succ, List.getElem?_cons_zero]; rfl)
          next => rfl
          intro K hK
          have hcell := HS.cell 1 _ rfl
          go_wp2_with fail
          refine hK.out _ _ ⟨H, B⟩ (fun _ => ?_)
          clear hK K
          try simp only [Act.put, List.setIfInBounds_toArray, List.set_cons_zero, List.set_cons_succ]
          apply Ord.go_light (i := 9) (by kernel_rfl)
          next => (simp only [List.getElem?_toArray, List.getElem?_cons_succ, List.getElem?_cons_zero]; rfl)
          next => rfl
          next => (intro w hSw; clear hSw; go_simp; first | done | with_reducible rfl)
          simp only [Act.put, List.setIfInBounds_toArray, List.set_cons_zero, List.set_cons_succ]
          refine Ord.go_tail ?_; simp only [List.drop_succ_cons, List.drop_zero]
          obtain ⟨c0, c1', c2, c3, c4, cf⟩ := fiveW H
          go_wp2_with fail
          go_meet
          case rel => exact ⟨(H.set 0 _).set 4 _, (B.setCell (Nat.le_of_eq E5) _).setCell (Nat.le_of_eq E5) _⟩
      ·
        apply Ord.go_done1
        next => (simp only [List.getElem?_toArray, List.getElem?_cons_succ, List.getElem?_cons_zero]; rfl)
        next => rfl
        intro K hK
        go_wp2_with fail
        refine (low_is _ _ c HC.out (by decide) (by decide) _).mono ?_; rintro e w' ⟨rfl, rfl⟩; dsimp only
        refine hK.out _ _ ⟨H, B⟩ (fun _ => ?_)
        clear hK K
        try simp only [Act.put, List.setIfInBounds_toArray, List.set_cons_zero, List.set_cons_succ]
        refine Ord.go_one (i := 0) (by kernel_rfl) (by kernel_rfl) ?_
        apply Ord.go_done1
        next => (simp only [List.getElem?_toArray, List.getElem?_cons_zero]; rfl)
        next => rfl
        intro K hK
        go_wp2_with fail
        have HS := Aid.Has.new wd [.int .i64 1, .int .i64 2, .int .i64 3] 3
        refine hK.out _ _ ⟨H.alloc _, B.alloc B.size _⟩ (fun hHeld => ?_)
        clear H B
        obtain ⟨H, B⟩ := hHeld
        generalize wd.alloc (.cells #[.int .i64 1, .int .i64 2, .int .i64 3] 3) = wd2 at *
        clear hK K
        try simp only [Act.put, List.setIfInBounds_toArray, List.set_cons_zero, List.set_cons_succ]
        apply Ord.go_light (i := 4) (by kernel_rfl)
        next => (simp only [List.getElem?_toArray, List.getElem?_cons_succ, List.getElem?_cons_zero]; rfl)
        next => rfl
        next => (intro w hSw; clear hSw; go_simp; first | done | with_reducible rfl)
        simp only [Act.put, List.setIfInBounds_toArray, List.set_cons_zero, List.set_cons_succ]
        refine Ord.go_one (i := 5) (by kernel_rfl) (by kernel_rfl) ?_
        apply Ord.go_done1
        next => (simp only [List.getElem?_toArray, List.getElem?_cons_succ, List.getElem?_cons_zero]; rfl)
        next => rfl
        intro K hK
        have hcell := HS.cell 1 _ rfl
        go_wp2_with fail
        refine hK.out _ _ ⟨H, B⟩ (fun _ => ?_)
        clear hK K
        try simp only [Act.put, List.setIfInBounds_toArray, List.set_cons_zero, List.set_cons_succ]
        apply Ord.go_light (i := 9) (by kernel_rfl)
        next => (simp only [List.getElem?_toArray, List.getElem?_cons_succ, List.getElem?_cons_zero]; rfl)
        next => rfl
        next => (intro w hSw; clear hSw; go_simp; first | done | with_reducible rfl)
        simp only [Act.put, List.setIfInBounds_toArray, List.set_cons_zero, List.set_cons_succ]
        refine Ord.go_tail ?_; simp only [List.drop_succ_cons, List.drop_zero]
        obtain ⟨c0, c1', c2, c3, c4, cf⟩ := fiveW H
        go_wp2_with fail
        go_meet
        case rel => exact ⟨(H.set 0 _).set 4 _, (B.setCell (Nat.le_of_eq E5) _).setCell (Nat.le_of_eq E5) _⟩
  case rest =>
    clear H B
    obtain ⟨H, B⟩ := hcut
    obtain ⟨f0, f1, f2, f3, f4, ff⟩ := fiveW H
    go_wp2_with fail
    refine (tof_to q l true true qa true oa c pt (X + Y) ca _ G1.out C0 (by omega)).mono ?_; rintro e w1 ⟨rfl, hb1⟩
    have H1 : Aid.Has w1 b5 [.int .i64 2, .bool q, .bool l, .bool true, .int .i64 c] 26 := Aid.Has.below (H) hb1 (by exact H.lt)
    have B1 : Below w.heap.size w w1 := (B).trans (hb1.mono (by exact B.size))
    clear H B hb1 f0 f1 f2 f3 f4 ff
    have L1 := B1.size
    have N1 := H1.lt
    obtain ⟨f0, f1, f2, f3, f4, ff⟩ := fiveW H1
    go_wp2_with fail
    refine (tof_to q l true true q1 true o1 c pt X c1 _ G2.out C0 (by omega)).mono ?_; rintro e w2 ⟨rfl, hb2⟩
    go_wp2_with fail
    refine (tof_to q1 true o1 true qa true oa c1 pt Y ca _ G3.out r0 r1).mono ?_; rintro e w3 ⟨rfl, hb3⟩
    have hb := hb2.trans (hb3.mono hb2.size)
    have H3 : Aid.Has w3 w1.heap.size [.int .i64 2, .bool qa, .bool true, .bool oa, .int .i64 ca] 26 := Aid.Has.below (Aid.Has.new _ _ _) hb (by simp)
    have B3 : Below w.heap.size w w3 := (B1.alloc L1 _).trans (hb.mono (by simp; omega))
    clear H1 B1 hb2 hb3 hb f0 f1 f2 f3 f4 ff
    have N3 := H3.lt
    have L3 := B3.size
    generalize w1.heap.size = b6 at *
    obtain ⟨f0, f1, f2, f3, f4, ff⟩ := fiveW H3
    go_wp2_with fail
    refine (awake_any _).mono ?_; rintro e w4 ⟨rfl, hb4⟩
    go_wp2_with fail
    go_ret
    first
      | exact ⟨rfl, (B3.alloc L3 _).trans (hb4.mono (by simp; omega))⟩
      | exact ⟨rfl, E5 ▸ ((B3.alloc L3 _).trans (hb4.mono (by simp; omega)))⟩

set_option maxRecDepth 100000 in
set_option maxHeartbeats 4000000 in
theorem waits_tof_tfa (k0 cv0 pt x y : Int) (q l : Bool) (w : World) (hk : low k0 3 = 1) :
    Calls Try.prog 5 #[.agg #[.int .i64 k0, .bool q, .bool l, .bool false, .int .i64 cv0], .bool true, .int .i64 pt, .int .i64 x, .int .i64 y] w fun e w' => e = .returned (.bool true) ∧ Below w.heap.size w w' := by
  obtain ⟨X, hX⟩ : ∃ r, low x 501 = r := ⟨_, rfl⟩
  obtain ⟨Y, hY⟩ : ∃ r, low y 501 = r := ⟨_, rfl⟩
  obtain ⟨c, hc⟩ : ∃ r, low cv0 32768 = r := ⟨_, rfl⟩
  obtain ⟨X0, X1⟩ : 0 ≤ X ∧ X < 501 := hX ▸ low_in x 501 (by decide)
  obtain ⟨Y0, Y1⟩ : 0 ≤ Y ∧ Y < 501 := hY ▸ low_in y 501 (by decide)
  obtain ⟨C0, C1⟩ : 0 ≤ c ∧ c < 32768 := hc ▸ low_in cv0 32768 (by decide)
  obtain ⟨p0, p1⟩ := Bk.clip_in pt 32767 (by decide)
  obtain ⟨q1, o1, c1, qa, oa, ca, E1, E2, E3, r0, r1⟩ := waits_tof q l false true c (Bk.clip pt 32767) X Y X0 Y0 C0 (by omega) p0 p1 
  have d1 : Bk.clip X 1000 = X := by unfold Bk.clip; omega
  have d2 : Bk.clip Y 1000 = Y := by unfold Bk.clip; omega
  have d3 : Bk.clip (X + Y) 1000 = X + Y := by unfold Bk.clip; omega
  rw [← d3] at E1; rw [← d1] at E2; rw [← d2] at E3
  have HX := Aid.hid hX; have HY := Aid.hid hY; have HC := Aid.hid hc; have HK := Aid.hid hk
  have G1 := Aid.hid E1; have G2 := Aid.hid E2; have G3 := Aid.hid E3
  clear hX hY hc hk E1 E2 E3 d1 d2 d3 p0 p1
  go_enter Try.func5, Try.ntmps5
  try simp only [List.append_eq, List.cons_append, List.nil_append]
  go_wp2_with fail
  refine (low_is _ _ X HX.out (by decide) (by decide) _).mono ?_; rintro e w' ⟨rfl, rfl⟩
  go_wp2_with fail
  refine (low_is _ _ Y HY.out (by decide) (by decide) _).mono ?_; rintro e w' ⟨rfl, rfl⟩
  go_wp2_with fail
  have H : Aid.Has (w.alloc (.cells #[.int .i64 k0, .bool q, .bool l, .bool false, .int .i64 cv0] 26)) w.heap.size [.int .i64 k0, .bool q, .bool l, .bool false, .int .i64 cv0] 26 := Aid.Has.new _ _ _
  have B : Below w.heap.size w (w.alloc (.cells #[.int .i64 k0, .bool q, .bool l, .bool false, .int .i64 cv0] 26)) := (Below.refl _ _).alloc (Nat.le_refl _) _
  obtain ⟨b5, E5⟩ : ∃ b, w.heap.size = b := ⟨_, rfl⟩
  rw [E5] at H
  simp only [E5]
  go_cut [] from 17 (fun w' => Aid.Has w' b5 [.int .i64 2, .bool q, .bool l, .bool false, .int .i64 c] 26 ∧ Below w.heap.size w w')
  case first =>
    replace H := H.drew
    replace B := B.drew
    refine Ord.wp_region_go (fun w' => Aid.Has w' b5 [.int .i64 k0, .bool q, .bool l, .bool false, .int .i64 cv0] 26 ∧ Below w.heap.size w w') 10 [1, 2, 4, 6, 7, 9] (by kernel_rfl) (by kernel_rfl) (fun _ _ d _ _ h => by cases d <;> exact h) (⟨H, B⟩) ?_
    generalize (w.alloc (.cells #[.int .i64 k0, .bool q, .bool l, .bool false, .int .i64 cv0] 26)).drew = wd at *
    apply Ord.go_light (i := 1) (by kernel_rfl)
    next => (simp only [List.getElem?_toArray, List.getElem?_cons_succ, List.getElem?_cons_zero]; rfl)
    next => rfl
    next => (intro w hSw; clear hSw; go_simp; first | done | with_reducible rfl)
    simp only [Act.put, List.setIfInBounds_toArray, List.set_cons_zero, List.set_cons_succ]
    apply Ord.go_light (i := 2) (by kernel_rfl)
    next => (simp only [List.getElem?_toArray, List.getElem?_cons_succ, List.getElem?_cons_zero]; rfl)
    next => rfl
    next => (intro w hSw; obtain ⟨g1, g2⟩ := hSw; obtain ⟨k0, k1, k2, k3, k4, k5⟩ := fiveW g1; go_simp; first | done | with_reducible rfl)
    simp only [Act.put, List.setIfInBounds_toArray, List.set_cons_zero, List.set_cons_succ]
    apply Ord.go_light (i := 6) (by kernel_rfl)
    next => (simp only [List.getElem?_toArray, List.getElem?_cons_succ, List.getElem?_cons_zero]; rfl)
    next => rfl
    next => (intro w hSw; clear hSw; go_simp; first | done | with_reducible rfl)
    simp only [Act.put, List.setIfInBounds_toArray, List.set_cons_zero, List.set_cons_succ]
    apply Ord.go_light (i := 7) (by kernel_rfl)
    next => (simp only [List.getElem?_toArray, List.getElem?_cons_succ, List.getElem?_cons_zero]; rfl)
    next => rfl
    next => (intro w hSw; obtain ⟨g1, g2⟩ := hSw; obtain ⟨k0, k1, k2, k3, k4, k5⟩ := fiveW g1; go_simp; first | done | with_reducible rfl)
    simp only [Act.put, List.setIfInBounds_toArray, List.set_cons_zero, List.set_cons_succ]
    refine Ord.go_two (i := 0) (j := 3) (by kernel_rfl) (by kernel_rfl) ?_ ?_
    ·
      apply Ord.go_done1
      next => (simp only [List.getElem?_toArray, List.getElem?_cons_zero]; rfl)
      next => rfl
      intro K hK
      go_wp2_with fail
      have HS := Aid.Has.new wd [.int .i64 1, .int .i64 2, .int .i64 3] 3
      refine hK.out _ _ ⟨H.alloc _, B.alloc B.size _⟩ (fun hHeld => ?_)
      clear H B
      obtain ⟨H, B⟩ := hHeld
      generalize wd.alloc (.cells #[.int .i64 1, .int .i64 2, .int .i64 3] 3) = wd2 at *
      clear hK K
      try simp only [Act.put, List.setIfInBounds_toArray, List.set_cons_zero, List.set_cons_succ]
      refine Ord.go_one (i := 3) (by kernel_rfl) (by kernel_rfl) ?_
      apply Ord.go_done1
      next => (simp only [List.getElem?_toArray, List.getElem?_cons_succ, List.getElem?_cons_zero]; rfl)
      next => rfl
      intro K hK
      go_wp2_with fail
      refine (low_is _ _ 1 HK.out (by decide) (by decide) _).mono ?_; rintro e w' ⟨rfl, rfl⟩; dsimp only
      refine hK.out _ _ ⟨H, B⟩ (fun _ => ?_)
      clear hK K
      try simp only [Act.put, List.setIfInBounds_toArray, List.set_cons_zero, List.set_cons_succ]
      apply Ord.go_light (i := 4) (by kernel_rfl)
      next => (simp only [List.getElem?_toArray, List.getElem?_cons_succ, List.getElem?_cons_zero]; rfl)
      next => rfl
      next => (intro w hSw; clear hSw; go_simp; first | done | with_reducible rfl)
      simp only [Act.put, List.setIfInBounds_toArray, List.set_cons_zero, List.set_cons_succ]
      refine Ord.go_two (i := 5) (j := 8) (by kernel_rfl) (by kernel_rfl) ?_ ?_
      ·
        apply Ord.go_done1
        next => (simp only [List.getElem?_toArray, List.getElem?_cons_succ, List.getElem?_cons_zero]; rfl)
        next => rfl
        intro K hK
        have hcell := HS.cell 1 _ rfl
        go_wp2_with fail
        refine hK.out _ _ ⟨H, B⟩ (fun _ => ?_)
        clear hK K
        try simp only [Act.put, List.setIfInBounds_toArray, List.set_cons_zero, List.set_cons_succ]
        apply Ord.go_light (i := 9) (by kernel_rfl)
        next => (simp only [List.getElem?_toArray, List.getElem?_cons_succ, List.getElem?_cons_zero]; rfl)
        next => rfl
        next => (intro w hSw; clear hSw; go_simp; first | done | with_reducible rfl)
        simp only [Act.put, List.setIfInBounds_toArray, List.set_cons_zero, List.set_cons_succ]
        refine Ord.go_one (i := 8) (by kernel_rfl) (by kernel_rfl) ?_
        apply Ord.go_done1
        next => (simp only [List.getElem?_toArray, List.getElem?_cons_succ, List.getElem?_cons_zero]; rfl)
        next => rfl
        intro K hK
        go_wp2_with fail
        refine (low_is _ _ c HC.out (by decide) (by decide) _).mono ?_; rintro e w' ⟨rfl, rfl⟩; dsimp only
        refine hK.out _ _ ⟨H, B⟩ (fun _ => ?_)
        clear hK K
        try simp only [Act.put, List.setIfInBounds_toArray, List.set_cons_zero, List.set_cons_succ]
        refine Ord.go_tail ?_; simp only [List.drop_succ_cons, List.drop_zero]
        obtain ⟨c0, c1', c2, c3, c4, cf⟩ := fiveW H
        go_wp2_with fail
        go_meet
        case rel => exact ⟨(H.set 0 _).set 4 _, (B.setCell (Nat.le_of_eq E5) _).setCell (Nat.le_of_eq E5) _⟩
      ·
        apply Ord.go_done1
        next => (simp only [List.getElem?_toArray, List.getElem?_cons_succ, List.getElem?_cons_zero]; rfl)
        next => rfl
        intro K hK
        go_wp2_with fail
        refine (low_is _ _ c HC.out (by decide) (by decide) _).mono ?_; rintro e w' ⟨rfl, rfl⟩; dsimp only
        refine hK.out _ _ ⟨H, B⟩ (fun _ => ?_)
        clear hK K
        try simp only [Act.put, List.setIfInBounds_toArray, List.set_cons_zero, List.set_cons_succ]
        refine Ord.go_one (i := 5) (by kernel_rfl) (by kernel_rfl) ?_
        apply Ord.go_done1
        next => (simp only [List.getElem?_toArray, List.getElem?_cons_succ, List.getElem?_cons_zero]; rfl)
        next => rfl
        intro K hK
        have hcell := HS.cell 1 _ rfl
        go_wp2_with fail
        refine hK.out _ _ ⟨H, B⟩ (fun _ => ?_)
        clear hK K
        try simp only [Act.put, List.setIfInBounds_toArray, List.set_cons_zero, List.set_cons_succ]
        apply Ord.go_light (i := 9) (by kernel_rfl)
        next => (simp only [List.getElem?_toArray, List.getElem?_cons_succ, List.getElem?_cons_zero]; rfl)
        next => rfl
        next => (intro w hSw; clear hSw; go_simp; first | done | with_reducible rfl)
        simp only [Act.put, List.setIfInBounds_toArray, List.set_cons_zero, List.set_cons_succ]
        refine Ord.go_tail ?_; simp only [List.drop_succ_cons, List.drop_zero]
        obtain ⟨c0, c1', c2, c3, c4, cf⟩ := fiveW H
        go_wp2_with fail
        go_meet
        case rel => exact ⟨(H.set 0 _).set 4 _, (B.setCell (Nat.le_of_eq E5) _).setCell (Nat.le_of_eq E5) _⟩
    ·
      apply Ord.go_done1
      next => (simp only [List.getElem?_toArray, List.getElem?_cons_succ, List.getElem?_cons_zero]; rfl)
      next => rfl
      intro K hK
      go_wp2_with fail
      refine (low_is _ _ 1 HK.out (by decide) (by decide) _).mono ?_; rintro e w' ⟨rfl, rfl⟩; dsimp only
      refine hK.out _ _ ⟨H, B⟩ (fun _ => ?_)
      clear hK K
      try simp only [Act.put, List.setIfInBounds_toArray, List.set_cons_zero, List.set_cons_succ]
      refine Ord.go_two (i := 0) (j := 8) (by kernel_rfl) (by kernel_rfl) ?_ ?_
      ·
        apply Ord.go_done1
        next => (simp only [List.getElem?_toArray, List.getElem?_cons_zero]; rfl)
        next => rfl
        intro K hK
        go_wp2_with fail
        have HS := Aid.Has.new wd [.int .i64 1, .int .i64 2, .int .i64 3] 3
        refine hK.out _ _ ⟨H.alloc _, B.alloc B.size _⟩ (fun hHeld => ?_)
        clear H B
        obtain ⟨H, B⟩ := hHeld
        generalize wd.alloc (.cells #[.int .i64 1, .int .i64 2, .int .i64 3] 3) = wd2 at *
        clear hK K
        try simp only [Act.put, List.setIfInBounds_toArray, List.set_cons_zero, List.set_cons_succ]
        apply Ord.go_light (i := 4) (by kernel_rfl)
        next => (simp only [List.getElem?_toArray, List.getElem?_cons_succ, List.getElem?_cons_zero]; rfl)
        next => rfl
        next => (intro w hSw; clear hSw; go_simp; first | done | with_reducible rfl)
        simp only [Act.put, List.setIfInBounds_toArray, List.set_cons_zero, List.set_cons_succ]
        refine Ord.go_two (i := 5) (j := 8) (by kernel_rfl) (by kernel_rfl) ?_ ?_
        ·
          apply Ord.go_done1
          next => (simp only [List.getElem?_toArray, List.getElem?_cons_succ, List.getElem?_cons_zero]; rfl)
          next => rfl
          intro K hK
          have hcell := HS.cell 1 _ rfl
          go_wp2_with fail
          refine hK.out _ _ ⟨H, B⟩ (fun _ => ?_)
          clear hK K
          try simp only [Act.put, List.setIfInBounds_toArray, List.set_cons_zero, List.set_cons_succ]
          apply Ord.go_light (i := 9) (by kernel_rfl)
          next => (simp only [List.getElem?_toArray, List.getElem?_cons_succ, List.getElem?_cons_zero]; rfl)
          next => rfl
          next => (intro w hSw; clear hSw; go_simp; first | done | with_reducible rfl)
          simp only [Act.put, List.setIfInBounds_toArray, List.set_cons_zero, List.set_cons_succ]
          refine Ord.go_one (i := 8) (by kernel_rfl) (by kernel_rfl) ?_
          apply Ord.go_done1
          next => (simp only [List.getElem?_toArray, List.getElem?_cons_succ, List.getElem?_cons_zero]; rfl)
          next => rfl
          intro K hK
          go_wp2_with fail
          refine (low_is _ _ c HC.out (by decide) (by decide) _).mono ?_; rintro e w' ⟨rfl, rfl⟩; dsimp only
          refine hK.out _ _ ⟨H, B⟩ (fun _ => ?_)
          clear hK K
          try simp only [Act.put, List.setIfInBounds_toArray, List.set_cons_zero, List.set_cons_succ]
          refine Ord.go_tail ?_; simp only [List.drop_succ_cons, List.drop_zero]
          obtain ⟨c0, c1', c2, c3, c4, cf⟩ := fiveW H
          go_wp2_with fail
          go_meet
          case rel => exact ⟨(H.set 0 _).set 4 _, (B.setCell (Nat.le_of_eq E5) _).setCell (Nat.le_of_eq E5) _⟩
        ·
          apply Ord.go_done1
          next => (simp only [List.getElem?_toArray, List.getElem?_cons_succ, List.getElem?_cons_zero]; rfl)
          next => rfl
          intro K hK
          go_wp2_with fail
          refine (low_is _ _ c HC.out (by decide) (by decide) _).mono ?_; rintro e w' ⟨rfl, rfl⟩; dsimp only
          refine hK.out _ _ ⟨H, B⟩ (fun _ => ?_)
          clear hK K
          try simp only [Act.put, List.setIfInBounds_toArray, List.set_cons_zero, List.set_cons_succ]
          refine Ord.go_one (i := 5) (by kernel_rfl) (by kernel_rfl) ?_
          apply Ord.go_done1
          next => (simp only [List.getElem?_toArray, List.getElem?_cons_succ, List.getElem?_cons_zero]; rfl)
          next => rfl
          intro K hK
          have hcell := HS.cell 1 _ rfl
          go_wp2_with fail
          refine hK.out _ _ ⟨H, B⟩ (fun _ => ?_)
          clear hK K
          try simp only [Act.put, List.setIfInBounds_toArray, List.set_cons_zero, List.set_cons_succ]
          apply Ord.go_light (i := 9) (by kernel_rfl)
          next => (simp only [List.getElem?_toArray, List.getElem?_cons_succ, List.getElem?_cons_zero]; rfl)
          next => rfl
          next => (intro w hSw; clear hSw; go_simp; first | done | with_reducible rfl)
          simp only [Act.put, List.setIfInBounds_toArray, List.set_cons_zero, List.set_cons_succ]
          refine Ord.go_tail ?_; simp only [List.drop_succ_cons, List.drop_zero]
          obtain ⟨c0, c1', c2, c3, c4, cf⟩ := fiveW H
          go_wp2_with fail
          go_meet
          case rel => exact ⟨(H.set 0 _).set 4 _, (B.setCell (Nat.le_of_eq E5) _).setCell (Nat.le_of_eq E5) _⟩
      ·
        apply Ord.go_done1
        next => (simp only [List.getElem?_toArray, List.getElem?_cons_succ, List.getElem?_cons_zero]; rfl)
        next => rfl
        intro K hK
        go_wp2_with fail
        refine (low_is _ _ c HC.out (by decide) (by decide) _).mono ?_; rintro e w' ⟨rfl, rfl⟩; dsimp only
        refine hK.out _ _ ⟨H, B⟩ (fun _ => ?_)
        clear hK K
        try simp only [Act.put, List.setIfInBounds_toArray, List.set_cons_zero, List.set_cons_succ]
        refine Ord.go_one (i := 0) (by kernel_rfl) (by kernel_rfl) ?_
        apply Ord.go_done1
        next => (simp only [List.getElem?_toArray, List.getElem?_cons_zero]; rfl)
        next => rfl
        intro K hK
        go_wp2_with fail
        have HS := Aid.Has.new wd [.int .i64 1, .int .i64 2, .int .i64 3] 3
        refine hK.out _ _ ⟨H.alloc _, B.alloc B.size _⟩ (fun hHeld => ?_)
        clear H B
        obtain ⟨H, B⟩ := hHeld
        generalize wd.alloc (.cells #[.int .i64 1, .int .i64 2, .int .i64 3] 3) = wd2 at *
        clear hK K
        try simp only [Act.put, List.setIfInBounds_toArray, List.set_cons_zero, List.set_cons_succ]
        apply Ord.go_light (i := 4) (by kernel_rfl)
        next => (simp only [List.getElem?_toArray, List.getElem?_cons_succ, List.getElem?_cons_zero]; rfl)
        next => rfl
        next => (intro w hSw; clear hSw; go_simp; first | done | with_reducible rfl)
        simp only [Act.put, List.setIfInBounds_toArray, List.set_cons_zero, List.set_cons_succ]
        refine Ord.go_one (i := 5) (by kernel_rfl) (by kernel_rfl) ?_
        apply Ord.go_done1
        next => (simp only [List.getElem?_toArray, List.getElem?_cons_succ, List.getElem?_cons_zero]; rfl)
        next => rfl
        intro K hK
        have hcell := HS.cell 1 _ rfl
        go_wp2_with fail
        refine hK.out _ _ ⟨H, B⟩ (fun _ => ?_)
        clear hK K
        try simp only [Act.put, List.setIfInBounds_toArray, List.set_cons_zero, List.set_cons_succ]
        apply Ord.go_light (i := 9) (by kernel_rfl)
        next => (simp only [List.getElem?_toArray, List.getElem?_cons_succ, List.getElem?_cons_zero]; rfl)
        next => rfl
        next => (intro w hSw; clear hSw; go_simp; first | done | with_reducible rfl)
        simp only [Act.put, List.setIfInBounds_toArray, List.set_cons_zero, List.set_cons_succ]
        refine Ord.go_tail ?_; simp only [List.drop_succ_cons, List.drop_zero]
        obtain ⟨c0, c1', c2, c3, c4, cf⟩ := fiveW H
        go_wp2_with fail
        go_meet
        case rel => exact ⟨(H.set 0 _).set 4 _, (B.setCell (Nat.le_of_eq E5) _).setCell (Nat.le_of_eq E5) _⟩
  case rest =>
    clear H B
    obtain ⟨H, B⟩ := hcut
    obtain ⟨f0, f1, f2, f3, f4, ff⟩ := fiveW H
    go_wp2_with fail
    refine (tof_to q l false true qa true oa c pt (X + Y) ca _ G1.out C0 (by omega)).mono ?_; rintro e w1 ⟨rfl, hb1⟩
    have H1 : Aid.Has w1 b5 [.int .i64 2, .bool q, .bool l, .bool false, .int .i64 c] 26 := Aid.Has.below (H) hb1 (by exact H.lt)
    have B1 : Below w.heap.size w w1 := (B).trans (hb1.mono (by exact B.size))
    clear H B hb1 f0 f1 f2 f3 f4 ff
    have L1 := B1.size
    have N1 := H1.lt
    obtain ⟨f0, f1, f2, f3, f4, ff⟩ := fiveW H1
    go_wp2_with fail
    refine (tof_to q l false true q1 true o1 c pt X c1 _ G2.out C0 (by omega)).mono ?_; rintro e w2 ⟨rfl, hb2⟩
    go_wp2_with fail
    refine (tof_to q1 true o1 true qa true oa c1 pt Y ca _ G3.out r0 r1).mono ?_; rintro e w3 ⟨rfl, hb3⟩
    have hb := hb2.trans (hb3.mono hb2.size)
    have H3 : Aid.Has w3 w1.heap.size [.int .i64 2, .bool qa, .bool true, .bool oa, .int .i64 ca] 26 := Aid.Has.below (Aid.Has.new _ _ _) hb (by simp)
    have B3 : Below w.heap.size w w3 := (B1.alloc L1 _).trans (hb.mono (by simp; omega))
    clear H1 B1 hb2 hb3 hb f0 f1 f2 f3 f4 ff
    have N3 := H3.lt
    have L3 := B3.size
    generalize w1.heap.size = b6 at *
    obtain ⟨f0, f1, f2, f3, f4, ff⟩ := fiveW H3
    go_wp2_with fail
    refine (awake_any _).mono ?_; rintro e w4 ⟨rfl, hb4⟩
    go_wp2_with fail
    go_ret
    first
      | exact ⟨rfl, (B3.alloc L3 _).trans (hb4.mono (by simp; omega))⟩
      | exact ⟨rfl, E5 ▸ ((B3.alloc L3 _).trans (hb4.mono (by simp; omega)))⟩

end Go.Proofs.Ytamalbkiblgbdaa
