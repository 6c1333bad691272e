/- The law OpBounds. -/
import Derived.Test.YtbclpknmeaaajaaDoorOpAwake
import Derived.Test.YtbclpknmeaaajaaDoorOrd
import Derived.Deep.Cut
namespace Go.Proofs.YtbclpknmeaaajaaDoor
open Go.RowKit
theorem has_new2 {w : World} {b : Nat} {xs : List Value} {t : TypeId} (h : b = w.heap.size) : Aid.Has (w.alloc (.cells xs.toArray t)) b xs t := h ▸ Aid.Has.new w xs t
theorem Op.none_high (X : Int) (h : 36 ≤ X) : Op.may X 0 0 = false := by
  unfold Op.may; rw [if_pos (Or.inl (by unfold Op.operands; rw [if_neg (by omega), if_neg (by omega), if_neg (by omega)]; decide))]
theorem Op.none_low (K : Int) (h : 1 ≤ K) : Op.may (-K) 0 0 = false := by
  unfold Op.may; rw [if_pos (Or.inl (by unfold Op.operands; rw [if_neg (by omega), if_neg (by omega), if_neg (by omega)]; decide))]
theorem Op.bounds_0 (K : Int) (k1 : 1 ≤ K) (k2 : K ≤ 35) (hn : Op.operands K = 0) : Op.may K 0 0 = true ∧ Op.may K 1 0 = false ∧ Op.may K (-32769) 0 = false ∧ Op.may K 42768 0 = false := by
  have h : K = 1 ∨ K = 2 ∨ K = 3 ∨ K = 4 ∨ K = 5 ∨ K = 6 ∨ K = 7 ∨ K = 8 ∨ K = 9 ∨ K = 10 ∨ K = 11 ∨ K = 12 ∨ K = 13 ∨ K = 14 ∨ K = 15 ∨ K = 16 ∨ K = 17 ∨ K = 18 ∨ K = 19 ∨ K = 20 ∨ K = 21 ∨ K = 22 ∨ K = 23 ∨ K = 24 ∨ K = 25 ∨ K = 26 ∨ K = 27 ∨ K = 28 ∨ K = 29 ∨ K = 30 ∨ K = 31 ∨ K = 32 ∨ K = 33 ∨ K = 34 ∨ K = 35 := by omega
  rcases h with rfl | rfl | rfl | rfl | rfl | rfl | rfl | rfl | rfl | rfl | rfl | rfl | rfl | rfl | rfl | rfl | rfl | rfl | rfl | rfl | rfl | rfl | rfl | rfl | rfl | rfl | rfl | rfl | rfl | rfl | rfl | rfl | rfl | rfl | rfl <;> first | (exfalso; revert hn; decide) | decide
theorem Op.bounds_1 (K : Int) (k1 : 1 ≤ K) (k2 : K ≤ 35) (hn : Op.operands K = 1) : Op.may K 1 0 = true ∧ Op.may K 1 5 = false ∧ Op.may K (-32769) 0 = false ∧ Op.may K 42768 0 = false := by
  have h : K = 1 ∨ K = 2 ∨ K = 3 ∨ K = 4 ∨ K = 5 ∨ K = 6 ∨ K = 7 ∨ K = 8 ∨ K = 9 ∨ K = 10 ∨ K = 11 ∨ K = 12 ∨ K = 13 ∨ K = 14 ∨ K = 15 ∨ K = 16 ∨ K = 17 ∨ K = 18 ∨ K = 19 ∨ K = 20 ∨ K = 21 ∨ K = 22 ∨ K = 23 ∨ K = 24 ∨ K = 25 ∨ K = 26 ∨ K = 27 ∨ K = 28 ∨ K = 29 ∨ K = 30 ∨ K = 31 ∨ K = 32 ∨ K = 33 ∨ K = 34 ∨ K = 35 := by omega
  rcases h with rfl | rfl | rfl | rfl | rfl | rfl | rfl | rfl | rfl | rfl | rfl | rfl | rfl | rfl | rfl | rfl | rfl | rfl | rfl | rfl | rfl | rfl | rfl | rfl | rfl | rfl | rfl | rfl | rfl | rfl | rfl | rfl | rfl | rfl | rfl <;> first | (exfalso; revert hn; decide) | decide
theorem Op.bounds_2 (K : Int) (k1 : 1 ≤ K) (k2 : K ≤ 35) (hn : Op.operands K = 2) : Op.may K 1 1 = true ∧ True ∧ Op.may K (-32769) 1 = false ∧ Op.may K 42768 1 = false := by
  have h : K = 1 ∨ K = 2 ∨ K = 3 ∨ K = 4 ∨ K = 5 ∨ K = 6 ∨ K = 7 ∨ K = 8 ∨ K = 9 ∨ K = 10 ∨ K = 11 ∨ K = 12 ∨ K = 13 ∨ K = 14 ∨ K = 15 ∨ K = 16 ∨ K = 17 ∨ K = 18 ∨ K = 19 ∨ K = 20 ∨ K = 21 ∨ K = 22 ∨ K = 23 ∨ K = 24 ∨ K = 25 ∨ K = 26 ∨ K = 27 ∨ K = 28 ∨ K = 29 ∨ K = 30 ∨ K = 31 ∨ K = 32 ∨ K = 33 ∨ K = 34 ∨ K = 35 := by omega
  rcases h with rfl | rfl | rfl | rfl | rfl | rfl | rfl | rfl | rfl | rfl | rfl | rfl | rfl | rfl | rfl | rfl | rfl | rfl | rfl | rfl | rfl | rfl | rfl | rfl | rfl | rfl | rfl | rfl | rfl | rfl | rfl | rfl | rfl | rfl | rfl <;> first | (exfalso; revert hn; decide) | decide

set_option maxRecDepth 100000 in
set_option maxHeartbeats 8000000 in
theorem opBounds_0 (k x K X : Int) (hK : wrap64 (1 + wrap64 ((IntKind.u64.wrap k).tmod 35)) = K) (hX : wrap64 (36 + wrap64 ((IntKind.u64.wrap x).tmod 1000)) = X) (k1 : 1 ≤ K) (k2 : K ≤ 35) (x1 : 36 ≤ X) (hn : Op.operands K = 0) (w : World) (hm : Op.Len w) :
    Calls Tryd.prog 5 #[.int .i64 k, .int .i64 x] w fun e w' => e = .returned (.bool true) ∧ Below w.heap.size w w' := by
  have HN := Aid.hid hn
  have HX := Aid.hid hX
  have FA := Op.bounds_0 K k1 k2 hn
  have FG := Aid.hid FA.1
  have FE := Aid.hid FA.2.1
  have FL := Aid.hid FA.2.2.1
  have FH := Aid.hid FA.2.2.2
  have FX := Aid.hid (Op.none_high X x1)
  have FM := Aid.hid (Op.none_low K k1)
  clear FA
  have G0 := Aid.Has.new w [.int .i64 K, .int .i64 0, .int .i64 0] 23
  have B0 : Below w.heap.size w (w.alloc (.cells #[.int .i64 K, .int .i64 0, .int .i64 0] 23)) := (Below.refl _ _).alloc (Nat.le_refl _) _
  have L0 := hm.below B0
  clear hn hX hm
  go_enter Tryd.func5, Tryd.ntmps5
  try simp only [List.append_eq, List.cons_append, List.nil_append]
  go_wp2_with fail
  rw [hK]
  clear hK
  refine (operands_is K 0 HN.out _).mono ?_; rintro e w' ⟨rfl, rfl⟩
  go_wp2_with fail
  obtain ⟨ob, hob⟩ : ∃ ob, w.heap.size = ob := ⟨_, rfl⟩
  obtain ⟨W, hW⟩ : ∃ W, w.alloc (.cells #[.int .i64 K, .int .i64 0, .int .i64 0] 23) = W := ⟨_, rfl⟩
  rw [hW] at B0 G0 L0 ⊢
  rw [hob] at G0 ⊢
  have BW := Aid.hid B0
  have HLen := Aid.hid L0
  have HG := Aid.hid G0
  have hgl := G0.lt
  clear B0 L0 G0 hW hob
  refine Ord.wp_region_go (fun w' => Below W.heap.size W w') 8 [0, 1, 2] (by kernel_rfl) (by kernel_rfl) (fun _ _ d _ _ h => by cases d <;> exact h) ((Below.refl _ _).drew) ?_
  apply Ord.go_light (i := 0) (by kernel_rfl)
  next => (simp only [List.getElem?_toArray, List.getElem?_cons_zero]; rfl)
  next => rfl
  next => (intro w' hSw; have g := HG.out.below hSw hgl; have q0 := g.cell 0 _ rfl; have q1 := g.cell 1 _ rfl; have q2 := g.cell 2 _ rfl; go_simp; first | done | with_reducible rfl)
  simp only [Act.put, List.setIfInBounds_toArray, List.set_cons_zero, List.set_cons_succ]
  apply Ord.go_light (i := 1) (by kernel_rfl)
  next => (simp only [List.getElem?_toArray, List.getElem?_cons_succ, List.getElem?_cons_zero]; rfl)
  next => rfl
  next => (intro w' hSw; have g := HG.out.below hSw hgl; have q0 := g.cell 0 _ rfl; have q1 := g.cell 1 _ rfl; have q2 := g.cell 2 _ rfl; go_simp; first | done | with_reducible rfl)
  simp only [Act.put, List.setIfInBounds_toArray, List.set_cons_zero, List.set_cons_succ]
  apply Ord.go_light (i := 2) (by kernel_rfl)
  next => (simp only [List.getElem?_toArray, List.getElem?_cons_succ, List.getElem?_cons_zero]; rfl)
  next => rfl
  next => (intro w' hSw; have g := HG.out.below hSw hgl; have q0 := g.cell 0 _ rfl; have q1 := g.cell 1 _ rfl; have q2 := g.cell 2 _ rfl; go_simp; first | done | with_reducible rfl)
  simp only [Act.put, List.setIfInBounds_toArray, List.set_cons_zero, List.set_cons_succ]
  refine Ord.go_three (i := 3) (j := 4) (k := 5) (by kernel_rfl) (by kernel_rfl) ?_ ?_ ?_
  ·
    apply Ord.go_done1
    next => (simp only [List.getElem?_toArray, List.getElem?_cons_succ, List.getElem?_cons_zero]; rfl)
    next => rfl
    intro K hK
    go_wp2_with fail
    refine hK.out _ _ (by repeat' (first | exact Below.refl _ _ | refine Below.drew ?_ | refine Below.alloc ?_ ?_ _ | (simp; done) | (simp; omega))) (fun hHeld => ?_)
    clear hHeld
    clear hK K
    try simp only [Act.put, List.setIfInBounds_toArray, List.set_cons_zero, List.set_cons_succ]
    refine Ord.go_two (i := 4) (j := 5) (by kernel_rfl) (by kernel_rfl) ?_ ?_
    ·
      apply Ord.go_done1
      next => (simp only [List.getElem?_toArray, List.getElem?_cons_succ, List.getElem?_cons_zero]; rfl)
      next => rfl
      intro K hK
      go_wp2_with fail
      refine hK.out _ _ (by repeat' (first | exact Below.refl _ _ | refine Below.drew ?_ | refine Below.alloc ?_ ?_ _ | (simp; done) | (simp; omega))) (fun hHeld => ?_)
      clear hHeld
      clear hK K
      try simp only [Act.put, List.setIfInBounds_toArray, List.set_cons_zero, List.set_cons_succ]
      refine Ord.go_one (i := 5) (by kernel_rfl) (by kernel_rfl) ?_
      apply Ord.go_done1
      next => (simp only [List.getElem?_toArray, List.getElem?_cons_succ, List.getElem?_cons_zero]; rfl)
      next => rfl
      intro K hK
      go_wp2_with fail
      refine hK.out _ _ (by repeat' (first | exact Below.refl _ _ | refine Below.drew ?_ | refine Below.alloc ?_ ?_ _ | (simp; done) | (simp; omega))) (fun hHeld => ?_)
      clear hHeld
      clear hK K
      try simp only [Act.put, List.setIfInBounds_toArray, List.set_cons_zero, List.set_cons_succ]
      refine Ord.go_one (i := 6) (by kernel_rfl) (by kernel_rfl) ?_
      apply Ord.go_done1
      next => (simp only [List.getElem?_toArray, List.getElem?_cons_succ, List.getElem?_cons_zero]; rfl)
      next => rfl
      intro K hK
      go_wp2_with fail
      refine hK.out _ _ (by repeat' (first | exact Below.refl _ _ | refine Below.drew ?_ | refine Below.alloc ?_ ?_ _ | (simp; done) | (simp; omega))) (fun hHeld => ?_)
      clear hHeld
      clear hK K
      refine Ord.go_one (i := 7) (by kernel_rfl) (by kernel_rfl) ?_
      apply Ord.go_done1
      next => (simp only [List.getElem?_toArray, List.getElem?_cons_succ, List.getElem?_cons_zero]; rfl)
      next => rfl
      intro K hK
      go_wp2_with fail
      refine hK.out _ _ (by repeat' (first | exact Below.refl _ _ | refine Below.drew ?_ | refine Below.alloc ?_ ?_ _ | (simp; done) | (simp; omega))) (fun hHeld => ?_)
      clear hHeld
      clear hK K
      refine Ord.go_tail ?_; simp only [List.drop_succ_cons, List.drop_zero]
      go_upto_region 16 with fail
      rw [HX.out]
      refine Aid.wp_abs (fun w' => Below W.heap.size W w' ∧ Aid.Has w' (W.heap.size) [.int .i64 K, .int .i64 1, .int .i64 0] 23 ∧ Aid.Has w' (W.heap.size + 1) [.int .i64 K, .int .i64 (-32769), .int .i64 0] 23 ∧ Aid.Has w' (W.heap.size + 1 + 1) [.int .i64 K, .int .i64 42768, .int .i64 0] 23 ∧ Aid.Has w' (W.heap.size + 1 + 1 + 1) [.int .i64 X, .int .i64 0, .int .i64 0] 23) ⟨(by repeat' (first | exact Below.refl _ _ | refine Below.drew ?_ | refine Below.alloc ?_ ?_ _ | (simp; done) | (simp; omega))), (by repeat' (first | refine Aid.Has.drew ?_ | exact has_new2 (by simp) | refine Aid.Has.alloc ?_ _)), (by repeat' (first | refine Aid.Has.drew ?_ | exact has_new2 (by simp) | refine Aid.Has.alloc ?_ _)), (by repeat' (first | refine Aid.Has.drew ?_ | exact has_new2 (by simp) | refine Aid.Has.alloc ?_ _)), (by repeat' (first | refine Aid.Has.drew ?_ | exact has_new2 (by simp) | refine Aid.Has.alloc ?_ _))⟩ (fun V hV => ?_)
      obtain ⟨hbv, h7, h8, h9, h10⟩ := hV
      have hg := HG.out.below hbv hgl
      have HL := HLen.out.below hbv
      have FB := Aid.hid (BW.out.trans (hbv.mono BW.out.size))
      clear hbv
      have q0 := hg.cell 0 _ rfl
      have q1 := hg.cell 1 _ rfl
      have q2 := hg.cell 2 _ rfl
      go_wp2_with fail
      refine (may_is K 0 0 true FG.out _).mono ?_; rintro e w' ⟨rfl, hb⟩
      clear q0 q1 q2
      replace h7 := h7.below hb h7.lt
      replace h8 := h8.below hb h8.lt
      replace h9 := h9.below hb h9.lt
      replace h10 := h10.below hb h10.lt
      replace HL := HL.below hb
      replace FB := Aid.hid (FB.out.trans (hb.mono FB.out.size))
      clear hb
      have q0 := h7.cell 0 _ rfl
      have q1 := h7.cell 1 _ rfl
      have q2 := h7.cell 2 _ rfl
      go_wp2_with fail
      refine (may_is K 1 0 false FE.out _).mono ?_; rintro e w' ⟨rfl, hb⟩
      clear q0 q1 q2
      replace h8 := h8.below hb h8.lt
      replace h9 := h9.below hb h9.lt
      replace h10 := h10.below hb h10.lt
      replace HL := HL.below hb
      replace FB := Aid.hid (FB.out.trans (hb.mono FB.out.size))
      clear hb
      have q0 := h8.cell 0 _ rfl
      have q1 := h8.cell 1 _ rfl
      have q2 := h8.cell 2 _ rfl
      go_wp2_with fail
      refine (may_is K (-32769) 0 false FL.out _).mono ?_; rintro e w' ⟨rfl, hb⟩
      clear q0 q1 q2
      replace h9 := h9.below hb h9.lt
      replace h10 := h10.below hb h10.lt
      replace HL := HL.below hb
      replace FB := Aid.hid (FB.out.trans (hb.mono FB.out.size))
      clear hb
      have q0 := h9.cell 0 _ rfl
      have q1 := h9.cell 1 _ rfl
      have q2 := h9.cell 2 _ rfl
      go_wp2_with fail
      refine (may_is K 42768 0 false FH.out _).mono ?_; rintro e w' ⟨rfl, hb⟩
      clear q0 q1 q2
      replace h10 := h10.below hb h10.lt
      replace HL := HL.below hb
      replace FB := Aid.hid (FB.out.trans (hb.mono FB.out.size))
      clear hb
      have q0 := h10.cell 0 _ rfl
      have q1 := h10.cell 1 _ rfl
      have q2 := h10.cell 2 _ rfl
      go_wp2_with fail
      refine (may_is X 0 0 false FX.out _).mono ?_; rintro e w' ⟨rfl, hb⟩
      clear q0 q1 q2
      replace HL := HL.below hb
      replace FB := Aid.hid (FB.out.trans (hb.mono FB.out.size))
      clear hb
      go_wp2_with fail
      refine (may_is (-K) 0 0 false FM.out _).mono ?_; rintro e w' ⟨rfl, hb⟩
      replace HL := HL.below hb
      replace FB := Aid.hid (FB.out.trans (hb.mono FB.out.size))
      clear hb
      go_wp2_with fail
      refine (awake_any _ HL).mono ?_; rintro e w' ⟨rfl, hb⟩
      go_wp2_with fail
      go_ret
      exact ⟨rfl, FB.out.trans (hb.mono FB.out.size)⟩
    ·
      apply Ord.go_done1
      next => (simp only [List.getElem?_toArray, List.getElem?_cons_succ, List.getElem?_cons_zero]; rfl)
      next => rfl
      intro K hK
      go_wp2_with fail
      refine hK.out _ _ (by repeat' (first | exact Below.refl _ _ | refine Below.drew ?_ | refine Below.alloc ?_ ?_ _ | (simp; done) | (simp; omega))) (fun hHeld => ?_)
      clear hHeld
      clear hK K
      try simp only [Act.put, List.setIfInBounds_toArray, List.set_cons_zero, List.set_cons_succ]
      refine Ord.go_one (i := 4) (by kernel_rfl) (by kernel_rfl) ?_
      apply Ord.go_done1
      next => (simp only [List.getElem?_toArray, List.getElem?_cons_succ, List.getElem?_cons_zero]; rfl)
      next => rfl
      intro K hK
      go_wp2_with fail
      refine hK.out _ _ (by repeat' (first | exact Below.refl _ _ | refine Below.drew ?_ | refine Below.alloc ?_ ?_ _ | (simp; done) | (simp; omega))) (fun hHeld => ?_)
      clear hHeld
      clear hK K
      try simp only [Act.put, List.setIfInBounds_toArray, List.set_cons_zero, List.set_cons_succ]
      refine Ord.go_one (i := 6) (by kernel_rfl) (by kernel_rfl) ?_
      apply Ord.go_done1
      next => (simp only [List.getElem?_toArray, List.getElem?_cons_succ, List.getElem?_cons_zero]; rfl)
      next => rfl
      intro K hK
      go_wp2_with fail
      refine hK.out _ _ (by repeat' (first | exact Below.refl _ _ | refine Below.drew ?_ | refine Below.alloc ?_ ?_ _ | (simp; done) | (simp; omega))) (fun hHeld => ?_)
      clear hHeld
      clear hK K
      refine Ord.go_one (i := 7) (by kernel_rfl) (by kernel_rfl) ?_
      apply Ord.go_done1
      next => (simp only [List.getElem?_toArray, List.getElem?_cons_succ, List.getElem?_cons_zero]; rfl)
      next => rfl
      intro K hK
      go_wp2_with fail
      refine hK.out _ _ (by repeat' (first | exact Below.refl _ _ | refine Below.drew ?_ | refine Below.alloc ?_ ?_ _ | (simp; done) | (simp; omega))) (fun hHeld => ?_)
      clear hHeld
      clear hK K
      refine Ord.go_tail ?_; simp only [List.drop_succ_cons, List.drop_zero]
      go_upto_region 16 with fail
      rw [HX.out]
      refine Aid.wp_abs (fun w' => Below W.heap.size W w' ∧ Aid.Has w' (W.heap.size) [.int .i64 K, .int .i64 1, .int .i64 0] 23 ∧ Aid.Has w' (W.heap.size + 1 + 1) [.int .i64 K, .int .i64 (-32769), .int .i64 0] 23 ∧ Aid.Has w' (W.heap.size + 1) [.int .i64 K, .int .i64 42768, .int .i64 0] 23 ∧ Aid.Has w' (W.heap.size + 1 + 1 + 1) [.int .i64 X, .int .i64 0, .int .i64 0] 23) ⟨(by repeat' (first | exact Below.refl _ _ | refine Below.drew ?_ | refine Below.alloc ?_ ?_ _ | (simp; done) | (simp; omega))), (by repeat' (first | refine Aid.Has.drew ?_ | exact has_new2 (by simp) | refine Aid.Has.alloc ?_ _)), (by repeat' (first | refine Aid.Has.drew ?_ | exact has_new2 (by simp) | refine Aid.Has.alloc ?_ _)), (by repeat' (first | refine Aid.Has.drew ?_ | exact has_new2 (by simp) | refine Aid.Has.alloc ?_ _)), (by repeat' (first | refine Aid.Has.drew ?_ | exact has_new2 (by simp) | refine Aid.Has.alloc ?_ _))⟩ (fun V hV => ?_)
      obtain ⟨hbv, h7, h8, h9, h10⟩ := hV
      have hg := HG.out.below hbv hgl
      have HL := HLen.out.below hbv
      have FB := Aid.hid (BW.out.trans (hbv.mono BW.out.size))
      clear hbv
      have q0 := hg.cell 0 _ rfl
      have q1 := hg.cell 1 _ rfl
      have q2 := hg.cell 2 _ rfl
      go_wp2_with fail
      refine (may_is K 0 0 true FG.out _).mono ?_; rintro e w' ⟨rfl, hb⟩
      clear q0 q1 q2
      replace h7 := h7.below hb h7.lt
      replace h8 := h8.below hb h8.lt
      replace h9 := h9.below hb h9.lt
      replace h10 := h10.below hb h10.lt
      replace HL := HL.below hb
      replace FB := Aid.hid (FB.out.trans (hb.mono FB.out.size))
      clear hb
      have q0 := h7.cell 0 _ rfl
      have q1 := h7.cell 1 _ rfl
      have q2 := h7.cell 2 _ rfl
      go_wp2_with fail
      refine (may_is K 1 0 false FE.out _).mono ?_; rintro e w' ⟨rfl, hb⟩
      clear q0 q1 q2
      replace h8 := h8.below hb h8.lt
      replace h9 := h9.below hb h9.lt
      replace h10 := h10.below hb h10.lt
      replace HL := HL.below hb
      replace FB := Aid.hid (FB.out.trans (hb.mono FB.out.size))
      clear hb
      have q0 := h8.cell 0 _ rfl
      have q1 := h8.cell 1 _ rfl
      have q2 := h8.cell 2 _ rfl
      go_wp2_with fail
      refine (may_is K (-32769) 0 false FL.out _).mono ?_; rintro e w' ⟨rfl, hb⟩
      clear q0 q1 q2
      replace h9 := h9.below hb h9.lt
      replace h10 := h10.below hb h10.lt
      replace HL := HL.below hb
      replace FB := Aid.hid (FB.out.trans (hb.mono FB.out.size))
      clear hb
      have q0 := h9.cell 0 _ rfl
      have q1 := h9.cell 1 _ rfl
      have q2 := h9.cell 2 _ rfl
      go_wp2_with fail
      refine (may_is K 42768 0 false FH.out _).mono ?_; rintro e w' ⟨rfl, hb⟩
      clear q0 q1 q2
      replace h10 := h10.below hb h10.lt
      replace HL := HL.below hb
      replace FB := Aid.hid (FB.out.trans (hb.mono FB.out.size))
      clear hb
      have q0 := h10.cell 0 _ rfl
      have q1 := h10.cell 1 _ rfl
      have q2 := h10.cell 2 _ rfl
      go_wp2_with fail
      refine (may_is X 0 0 false FX.out _).mono ?_; rintro e w' ⟨rfl, hb⟩
      clear q0 q1 q2
      replace HL := HL.below hb
      replace FB := Aid.hid (FB.out.trans (hb.mono FB.out.size))
      clear hb
      go_wp2_with fail
      refine (may_is (-K) 0 0 false FM.out _).mono ?_; rintro e w' ⟨rfl, hb⟩
      replace HL := HL.below hb
      replace FB := Aid.hid (FB.out.trans (hb.mono FB.out.size))
      clear hb
      go_wp2_with fail
      refine (awake_any _ HL).mono ?_; rintro e w' ⟨rfl, hb⟩
      go_wp2_with fail
      go_ret
      exact ⟨rfl, FB.out.trans (hb.mono FB.out.size)⟩
  ·
    apply Ord.go_done1
    next => (simp only [List.getElem?_toArray, List.getElem?_cons_succ, List.getElem?_cons_zero]; rfl)
    next => rfl
    intro K hK
    go_wp2_with fail
    refine hK.out _ _ (by repeat' (first | exact Below.refl _ _ | refine Below.drew ?_ | refine Below.alloc ?_ ?_ _ | (simp; done) | (simp; omega))) (fun hHeld => ?_)
    clear hHeld
    clear hK K
    try simp only [Act.put, List.setIfInBounds_toArray, List.set_cons_zero, List.set_cons_succ]
    refine Ord.go_two (i := 3) (j := 5) (by kernel_rfl) (by kernel_rfl) ?_ ?_
    ·
      apply Ord.go_done1
      next => (simp only [List.getElem?_toArray, List.getElem?_cons_succ, List.getElem?_cons_zero]; rfl)
      next => rfl
      intro K hK
      go_wp2_with fail
      refine hK.out _ _ (by repeat' (first | exact Below.refl _ _ | refine Below.drew ?_ | refine Below.alloc ?_ ?_ _ | (simp; done) | (simp; omega))) (fun hHeld => ?_)
      clear hHeld
      clear hK K
      try simp only [Act.put, List.setIfInBounds_toArray, List.set_cons_zero, List.set_cons_succ]
      refine Ord.go_one (i := 5) (by kernel_rfl) (by kernel_rfl) ?_
      apply Ord.go_done1
      next => (simp only [List.getElem?_toArray, List.getElem?_cons_succ, List.getElem?_cons_zero]; rfl)
      next => rfl
      intro K hK
      go_wp2_with fail
      refine hK.out _ _ (by repeat' (first | exact Below.refl _ _ | refine Below.drew ?_ | refine Below.alloc ?_ ?_ _ | (simp; done) | (simp; omega))) (fun hHeld => ?_)
      clear hHeld
      clear hK K
      try simp only [Act.put, List.setIfInBounds_toArray, List.set_cons_zero, List.set_cons_succ]
      refine Ord.go_one (i := 6) (by kernel_rfl) (by kernel_rfl) ?_
      apply Ord.go_done1
      next => (simp only [List.getElem?_toArray, List.getElem?_cons_succ, List.getElem?_cons_zero]; rfl)
      next => rfl
      intro K hK
      go_wp2_with fail
      refine hK.out _ _ (by repeat' (first | exact Below.refl _ _ | refine Below.drew ?_ | refine Below.alloc ?_ ?_ _ | (simp; done) | (simp; omega))) (fun hHeld => ?_)
      clear hHeld
      clear hK K
      refine Ord.go_one (i := 7) (by kernel_rfl) (by kernel_rfl) ?_
      apply Ord.go_done1
      next => (simp only [List.getElem?_toArray, List.getElem?_cons_succ, List.getElem?_cons_zero]; rfl)
      next => rfl
      intro K hK
      go_wp2_with fail
      refine hK.out _ _ (by repeat' (first | exact Below.refl _ _ | refine Below.drew ?_ | refine Below.alloc ?_ ?_ _ | (simp; done) | (simp; omega))) (fun hHeld => ?_)
      clear hHeld
      clear hK K
      refine Ord.go_tail ?_; simp only [List.drop_succ_cons, List.drop_zero]
      go_upto_region 16 with fail
      rw [HX.out]
      refine Aid.wp_abs (fun w' => Below W.heap.size W w' ∧ Aid.Has w' (W.heap.size + 1) [.int .i64 K, .int .i64 1, .int .i64 0] 23 ∧ Aid.Has w' (W.heap.size) [.int .i64 K, .int .i64 (-32769), .int .i64 0] 23 ∧ Aid.Has w' (W.heap.size + 1 + 1) [.int .i64 K, .int .i64 42768, .int .i64 0] 23 ∧ Aid.Has w' (W.heap.size + 1 + 1 + 1) [.int .i64 X, .int .i64 0, .int .i64 0] 23) ⟨(by repeat' (first | exact Below.refl _ _ | refine Below.drew ?_ | refine Below.alloc ?_ ?_ _ | (simp; done) | (simp; omega))), (by repeat' (first | refine Aid.Has.drew ?_ | exact has_new2 (by simp) | refine Aid.Has.alloc ?_ _)), (by repeat' (first | refine Aid.Has.drew ?_ | exact has_new2 (by simp) | refine Aid.Has.alloc ?_ _)), (by repeat' (first | refine Aid.Has.drew ?_ | exact has_new2 (by simp) | refine Aid.Has.alloc ?_ _)), (by repeat' (first | refine Aid.Has.drew ?_ | exact has_new2 (by simp) | refine Aid.Has.alloc ?_ _))⟩ (fun V hV => ?_)
      obtain ⟨hbv, h7, h8, h9, h10⟩ := hV
      have hg := HG.out.below hbv hgl
      have HL := HLen.out.below hbv
      have FB := Aid.hid (BW.out.trans (hbv.mono BW.out.size))
      clear hbv
      have q0 := hg.cell 0 _ rfl
      have q1 := hg.cell 1 _ rfl
      have q2 := hg.cell 2 _ rfl
      go_wp2_with fail
      refine (may_is K 0 0 true FG.out _).mono ?_; rintro e w' ⟨rfl, hb⟩
      clear q0 q1 q2
      replace h7 := h7.below hb h7.lt
      replace h8 := h8.below hb h8.lt
      replace h9 := h9.below hb h9.lt
      replace h10 := h10.below hb h10.lt
      replace HL := HL.below hb
      replace FB := Aid.hid (FB.out.trans (hb.mono FB.out.size))
      clear hb
      have q0 := h7.cell 0 _ rfl
      have q1 := h7.cell 1 _ rfl
      have q2 := h7.cell 2 _ rfl
      go_wp2_with fail
      refine (may_is K 1 0 false FE.out _).mono ?_; rintro e w' ⟨rfl, hb⟩
      clear q0 q1 q2
      replace h8 := h8.below hb h8.lt
      replace h9 := h9.below hb h9.lt
      replace h10 := h10.below hb h10.lt
      replace HL := HL.below hb
      replace FB := Aid.hid (FB.out.trans (hb.mono FB.out.size))
      clear hb
      have q0 := h8.cell 0 _ rfl
      have q1 := h8.cell 1 _ rfl
      have q2 := h8.cell 2 _ rfl
      go_wp2_with fail
      refine (may_is K (-32769) 0 false FL.out _).mono ?_; rintro e w' ⟨rfl, hb⟩
      clear q0 q1 q2
      replace h9 := h9.below hb h9.lt
      replace h10 := h10.below hb h10.lt
      replace HL := HL.below hb
      replace FB := Aid.hid (FB.out.trans (hb.mono FB.out.size))
      clear hb
      have q0 := h9.cell 0 _ rfl
      have q1 := h9.cell 1 _ rfl
      have q2 := h9.cell 2 _ rfl
      go_wp2_with fail
      refine (may_is K 42768 0 false FH.out _).mono ?_; rintro e w' ⟨rfl, hb⟩
      clear q0 q1 q2
      replace h10 := h10.below hb h10.lt
      replace HL := HL.below hb
      replace FB := Aid.hid (FB.out.trans (hb.mono FB.out.size))
      clear hb
      have q0 := h10.cell 0 _ rfl
      have q1 := h10.cell 1 _ rfl
      have q2 := h10.cell 2 _ rfl
      go_wp2_with fail
      refine (may_is X 0 0 false FX.out _).mono ?_; rintro e w' ⟨rfl, hb⟩
      clear q0 q1 q2
      replace HL := HL.below hb
      replace FB := Aid.hid (FB.out.trans (hb.mono FB.out.size))
      clear hb
      go_wp2_with fail
      refine (may_is (-K) 0 0 false FM.out _).mono ?_; rintro e w' ⟨rfl, hb⟩
      replace HL := HL.below hb
      replace FB := Aid.hid (FB.out.trans (hb.mono FB.out.size))
      clear hb
      go_wp2_with fail
      refine (awake_any _ HL).mono ?_; rintro e w' ⟨rfl, hb⟩
      go_wp2_with fail
      go_ret
      exact ⟨rfl, FB.out.trans (hb.mono FB.out.size)⟩
    ·
      apply Ord.go_done1
      next => (simp only [List.getElem?_toArray, List.getElem?_cons_succ, List.getElem?_cons_zero]; rfl)
      next => rfl
      intro K hK
      go_wp2_with fail
      refine hK.out _ _ (by repeat' (first | exact Below.refl _ _ | refine Below.drew ?_ | refine Below.alloc ?_ ?_ _ | (simp; done) | (simp; omega))) (fun hHeld => ?_)
      clear hHeld
      clear hK K
      try simp only [Act.put, List.setIfInBounds_toArray, List.set_cons_zero, List.set_cons_succ]
      refine Ord.go_one (i := 3) (by kernel_rfl) (by kernel_rfl) ?_
      apply Ord.go_done1
      next => (simp only [List.getElem?_toArray, List.getElem?_cons_succ, List.getElem?_cons_zero]; rfl)
      next => rfl
      intro K hK
      go_wp2_with fail
      refine hK.out _ _ (by repeat' (first | exact Below.refl _ _ | refine Below.drew ?_ | refine Below.alloc ?_ ?_ _ | (simp; done) | (simp; omega))) (fun hHeld => ?_)
      clear hHeld
      clear hK K
      try simp only [Act.put, List.setIfInBounds_toArray, List.set_cons_zero, List.set_cons_succ]
      refine Ord.go_one (i := 6) (by kernel_rfl) (by kernel_rfl) ?_
      apply Ord.go_done1
      next => (simp only [List.getElem?_toArray, List.getElem?_cons_succ, List.getElem?_cons_zero]; rfl)
      next => rfl
      intro K hK
      go_wp2_with fail
      refine hK.out _ _ (by repeat' (first | exact Below.refl _ _ | refine Below.drew ?_ | refine Below.alloc ?_ ?_ _ | (simp; done) | (simp; omega))) (fun hHeld => ?_)
      clear hHeld
      clear hK K
      refine Ord.go_one (i := 7) (by kernel_rfl) (by kernel_rfl) ?_
      apply Ord.go_done1
      next => (simp only [List.getElem?_toArray, List.getElem?_cons_succ, List.getElem?_cons_zero]; rfl)
      next => rfl
      intro K hK
      go_wp2_with fail
      refine hK.out _ _ (by repeat' (first | exact Below.refl _ _ | refine Below.drew ?_ | refine Below.alloc ?_ ?_ _ | (simp; done) | (simp; omega))) (fun hHeld => ?_)
      clear hHeld
      clear hK K
      refine Ord.go_tail ?_; simp only [List.drop_succ_cons, List.drop_zero]
      go_upto_region 16 with fail
      rw [HX.out]
      refine Aid.wp_abs (fun w' => Below W.heap.size W w' ∧ Aid.Has w' (W.heap.size + 1 + 1) [.int .i64 K, .int .i64 1, .int .i64 0] 23 ∧ Aid.Has w' (W.heap.size) [.int .i64 K, .int .i64 (-32769), .int .i64 0] 23 ∧ Aid.Has w' (W.heap.size + 1) [.int .i64 K, .int .i64 42768, .int .i64 0] 23 ∧ Aid.Has w' (W.heap.size + 1 + 1 + 1) [.int .i64 X, .int .i64 0, .int .i64 0] 23) ⟨(by repeat' (first | exact Below.refl _ _ | refine Below.drew ?_ | refine Below.alloc ?_ ?_ _ | (simp; done) | (simp; omega))), (by repeat' (first | refine Aid.Has.drew ?_ | exact has_new2 (by simp) | refine Aid.Has.alloc ?_ _)), (by repeat' (first | refine Aid.Has.drew ?_ | exact has_new2 (by simp) | refine Aid.Has.alloc ?_ _)), (by repeat' (first | refine Aid.Has.drew ?_ | exact has_new2 (by simp) | refine Aid.Has.alloc ?_ _)), (by repeat' (first | refine Aid.Has.drew ?_ | exact has_new2 (by simp) | refine Aid.Has.alloc ?_ _))⟩ (fun V hV => ?_)
      obtain ⟨hbv, h7, h8, h9, h10⟩ := hV
      have hg := HG.out.below hbv hgl
      have HL := HLen.out.below hbv
      have FB := Aid.hid (BW.out.trans (hbv.mono BW.out.size))
      clear hbv
      have q0 := hg.cell 0 _ rfl
      have q1 := hg.cell 1 _ rfl
      have q2 := hg.cell 2 _ rfl
      go_wp2_with fail
      refine (may_is K 0 0 true FG.out _).mono ?_; rintro e w' ⟨rfl, hb⟩
      clear q0 q1 q2
      replace h7 := h7.below hb h7.lt
      replace h8 := h8.below hb h8.lt
      replace h9 := h9.below hb h9.lt
      replace h10 := h10.below hb h10.lt
      replace HL := HL.below hb
      replace FB := Aid.hid (FB.out.trans (hb.mono FB.out.size))
      clear hb
      have q0 := h7.cell 0 _ rfl
      have q1 := h7.cell 1 _ rfl
      have q2 := h7.cell 2 _ rfl
      go_wp2_with fail
      refine (may_is K 1 0 false FE.out _).mono ?_; rintro e w' ⟨rfl, hb⟩
      clear q0 q1 q2
      replace h8 := h8.below hb h8.lt
      replace h9 := h9.below hb h9.lt
      replace h10 := h10.below hb h10.lt
      replace HL := HL.below hb
      replace FB := Aid.hid (FB.out.trans (hb.mono FB.out.size))
      clear hb
      have q0 := h8.cell 0 _ rfl
      have q1 := h8.cell 1 _ rfl
      have q2 := h8.cell 2 _ rfl
      go_wp2_with fail
      refine (may_is K (-32769) 0 false FL.out _).mono ?_; rintro e w' ⟨rfl, hb⟩
      clear q0 q1 q2
      replace h9 := h9.below hb h9.lt
      replace h10 := h10.below hb h10.lt
      replace HL := HL.below hb
      replace FB := Aid.hid (FB.out.trans (hb.mono FB.out.size))
      clear hb
      have q0 := h9.cell 0 _ rfl
      have q1 := h9.cell 1 _ rfl
      have q2 := h9.cell 2 _ rfl
      go_wp2_with fail
      refine (may_is K 42768 0 false FH.out _).mono ?_; rintro e w' ⟨rfl, hb⟩
      clear q0 q1 q2
      replace h10 := h10.below hb h10.lt
      replace HL := HL.below hb
      replace FB := Aid.hid (FB.out.trans (hb.mono FB.out.size))
      clear hb
      have q0 := h10.cell 0 _ rfl
      have q1 := h10.cell 1 _ rfl
      have q2 := h10.cell 2 _ rfl
      go_wp2_with fail
      refine (may_is X 0 0 false FX.out _).mono ?_; rintro e w' ⟨rfl, hb⟩
      clear q0 q1 q2
      replace HL := HL.below hb
      replace FB := Aid.hid (FB.out.trans (hb.mono FB.out.size))
      clear hb
      go_wp2_with fail
      refine (may_is (-K) 0 0 false FM.out _).mono ?_; rintro e w' ⟨rfl, hb⟩
      replace HL := HL.below hb
      replace FB := Aid.hid (FB.out.trans (hb.mono FB.out.size))
      clear hb
      go_wp2_with fail
      refine (awake_any _ HL).mono ?_; rintro e w' ⟨rfl, hb⟩
      go_wp2_with fail
      go_ret
      exact ⟨rfl, FB.out.trans (hb.mono FB.out.size)⟩
  ·
    apply Ord.go_done1
    next => (simp only [List.getElem?_toArray, List.getElem?_cons_succ, List.getElem?_cons_zero]; rfl)
    next => rfl
    intro K hK
    go_wp2_with fail
    refine hK.out _ _ (by repeat' (first | exact Below.refl _ _ | refine Below.drew ?_ | refine Below.alloc ?_ ?_ _ | (simp; done) | (simp; omega))) (fun hHeld => ?_)
    clear hHeld
    clear hK K
    try simp only [Act.put, List.setIfInBounds_toArray, List.set_cons_zero, List.set_cons_succ]
    refine Ord.go_two (i := 3) (j := 4) (by kernel_rfl) (by kernel_rfl) ?_ ?_
    ·
      apply Ord.go_done1
      next => (simp only [List.getElem?_toArray, List.getElem?_cons_succ, List.getElem?_cons_zero]; rfl)
      next => rfl
      intro K hK
      go_wp2_with fail
      refine hK.out _ _ (by repeat' (first | exact Below.refl _ _ | refine Below.drew ?_ | refine Below.alloc ?_ ?_ _ | (simp; done) | (simp; omega))) (fun hHeld => ?_)
      clear hHeld
      clear hK K
      try simp only [Act.put, List.setIfInBounds_toArray, List.set_cons_zero, List.set_cons_succ]
      refine Ord.go_one (i := 4) (by kernel_rfl) (by kernel_rfl) ?_
      apply Ord.go_done1
      next => (simp only [List.getElem?_toArray, List.getElem?_cons_succ, List.getElem?_cons_zero]; rfl)
      next => rfl
      intro K hK
      go_wp2_with fail
      refine hK.out _ _ (by repeat' (first | exact Below.refl _ _ | refine Below.drew ?_ | refine Below.alloc ?_ ?_ _ | (simp; done) | (simp; omega))) (fun hHeld => ?_)
      clear hHeld
      clear hK K
      try simp only [Act.put, List.setIfInBounds_toArray, List.set_cons_zero, List.set_cons_succ]
      refine Ord.go_one (i := 6) (by kernel_rfl) (by kernel_rfl) ?_
      apply Ord.go_done1
      next => (simp only [List.getElem?_toArray, List.getElem?_cons_succ, List.getElem?_cons_zero]; rfl)
      next => rfl
      intro K hK
      go_wp2_with fail
      refine hK.out _ _ (by repeat' (first | exact Below.refl _ _ | refine Below.drew ?_ | refine Below.alloc ?_ ?_ _ | (simp; done) | (simp; omega))) (fun hHeld => ?_)
      clear hHeld
      clear hK K
      refine Ord.go_one (i := 7) (by kernel_rfl) (by kernel_rfl) ?_
      apply Ord.go_done1
      next => (simp only [List.getElem?_toArray, List.getElem?_cons_succ, List.getElem?_cons_zero]; rfl)
      next => rfl
      intro K hK
      go_wp2_with fail
      refine hK.out _ _ (by repeat' (first | exact Below.refl _ _ | refine Below.drew ?_ | refine Below.alloc ?_ ?_ _ | (simp; done) | (simp; omega))) (fun hHeld => ?_)
      clear hHeld
      clear hK K
      refine Ord.go_tail ?_; simp only [List.drop_succ_cons, List.drop_zero]
      go_upto_region 16 with fail
      rw [HX.out]
      refine Aid.wp_abs (fun w' => Below W.heap.size W w' ∧ Aid.Has w' (W.heap.size + 1) [.int .i64 K, .int .i64 1, .int .i64 0] 23 ∧ Aid.Has w' (W.heap.size + 1 + 1) [.int .i64 K, .int .i64 (-32769), .int .i64 0] 23 ∧ Aid.Has w' (W.heap.size) [.int .i64 K, .int .i64 42768, .int .i64 0] 23 ∧ Aid.Has w' (W.heap.size + 1 + 1 + 1) [.int .i64 X, .int .i64 0, .int .i64 0] 23) ⟨(by repeat' (first | exact Below.refl _ _ | refine Below.drew ?_ | refine Below.alloc ?_ ?_ _ | (simp; done) | (simp; omega))), (by repeat' (first | refine Aid.Has.drew ?_ | exact has_new2 (by simp) | refine Aid.Has.alloc ?_ _)), (by repeat' (first | refine Aid.Has.drew ?_ | exact has_new2 (by simp) | refine Aid.Has.alloc ?_ _)), (by repeat' (first | refine Aid.Has.drew ?_ | exact has_new2 (by simp) | refine Aid.Has.alloc ?_ _)), (by repeat' (first | refine Aid.Has.drew ?_ | exact has_new2 (by simp) | refine Aid.Has.alloc ?_ _))⟩ (fun V hV => ?_)
      obtain ⟨hbv, h7, h8, h9, h10⟩ := hV
      have hg := HG.out.below hbv hgl
      have HL := HLen.out.below hbv
      have FB := Aid.hid (BW.out.trans (hbv.mono BW.out.size))
      clear hbv
      have q0 := hg.cell 0 _ rfl
      have q1 := hg.cell 1 _ rfl
      have q2 := hg.cell 2 _ rfl
      go_wp2_with fail
      refine (may_is K 0 0 true FG.out _).mono ?_; rintro e w' ⟨rfl, hb⟩
      clear q0 q1 q2
      replace h7 := h7.below hb h7.lt
      replace h8 := h8.below hb h8.lt
      replace h9 := h9.below hb h9.lt
      replace h10 := h10.below hb h10.lt
      replace HL := HL.below hb
      replace FB := Aid.hid (FB.out.trans (hb.mono FB.out.size))
      clear hb
      have q0 := h7.cell 0 _ rfl
      have q1 := h7.cell 1 _ rfl
      have q2 := h7.cell 2 _ rfl
      go_wp2_with fail
      refine (may_is K 1 0 false FE.out _).mono ?_; rintro e w' ⟨rfl, hb⟩
      clear q0 q1 q2
      replace h8 := h8.below hb h8.lt
      replace h9 := h9.below hb h9.lt
      replace h10 := h10.below hb h10.lt
      replace HL := HL.below hb
      replace FB := Aid.hid (FB.out.trans (hb.mono FB.out.size))
      clear hb
      have q0 := h8.cell 0 _ rfl
      have q1 := h8.cell 1 _ rfl
      have q2 := h8.cell 2 _ rfl
      go_wp2_with fail
      refine (may_is K (-32769) 0 false FL.out _).mono ?_; rintro e w' ⟨rfl, hb⟩
      clear q0 q1 q2
      replace h9 := h9.below hb h9.lt
      replace h10 := h10.below hb h10.lt
      replace HL := HL.below hb
      replace FB := Aid.hid (FB.out.trans (hb.mono FB.out.size))
      clear hb
      have q0 := h9.cell 0 _ rfl
      have q1 := h9.cell 1 _ rfl
      have q2 := h9.cell 2 _ rfl
      go_wp2_with fail
      refine (may_is K 42768 0 false FH.out _).mono ?_; rintro e w' ⟨rfl, hb⟩
      clear q0 q1 q2
      replace h10 := h10.below hb h10.lt
      replace HL := HL.below hb
      replace FB := Aid.hid (FB.out.trans (hb.mono FB.out.size))
      clear hb
      have q0 := h10.cell 0 _ rfl
      have q1 := h10.cell 1 _ rfl
      have q2 := h10.cell 2 _ rfl
      go_wp2_with fail
      refine (may_is X 0 0 false FX.out _).mono ?_; rintro e w' ⟨rfl, hb⟩
      clear q0 q1 q2
      replace HL := HL.below hb
      replace FB := Aid.hid (FB.out.trans (hb.mono FB.out.size))
      clear hb
      go_wp2_with fail
      refine (may_is (-K) 0 0 false FM.out _).mono ?_; rintro e w' ⟨rfl, hb⟩
      replace HL := HL.below hb
      replace FB := Aid.hid (FB.out.trans (hb.mono FB.out.size))
      clear hb
      go_wp2_with fail
      refine (awake_any _ HL).mono ?_; rintro e w' ⟨rfl, hb⟩
      go_wp2_with fail
      go_ret
      exact ⟨rfl, FB.out.trans (hb.mono FB.out.size)⟩
    ·
      apply Ord.go_done1
      next => (simp only [List.getElem?_toArray, List.getElem?_cons_succ, List.getElem?_cons_zero]; rfl)
      next => rfl
      intro K hK
      go_wp2_with fail
      refine hK.out _ _ (by repeat' (first | exact Below.refl _ _ | refine Below.drew ?_ | refine Below.alloc ?_ ?_ _ | (simp; done) | (simp; omega))) (fun hHeld => ?_)
      clear hHeld
      clear hK K
      try simp only [Act.put, List.setIfInBounds_toArray, List.set_cons_zero, List.set_cons_succ]
      refine Ord.go_one (i := 3) (by kernel_rfl) (by kernel_rfl) ?_
      apply Ord.go_done1
      next => (simp only [List.getElem?_toArray, List.getElem?_cons_succ, List.getElem?_cons_zero]; rfl)
      next => rfl
      intro K hK
      go_wp2_with fail
      refine hK.out _ _ (by repeat' (first | exact Below.refl _ _ | refine Below.drew ?_ | refine Below.alloc ?_ ?_ _ | (simp; done) | (simp; omega))) (fun hHeld => ?_)
      clear hHeld
      clear hK K
      try simp only [Act.put, List.setIfInBounds_toArray, List.set_cons_zero, List.set_cons_succ]
      refine Ord.go_one (i := 6) (by kernel_rfl) (by kernel_rfl) ?_
      apply Ord.go_done1
      next => (simp only [List.getElem?_toArray, List.getElem?_cons_succ, List.getElem?_cons_zero]; rfl)
      next => rfl
      intro K hK
      go_wp2_with fail
      refine hK.out _ _ (by repeat' (first | exact Below.refl _ _ | refine Below.drew ?_ | refine Below.alloc ?_ ?_ _ | (simp; done) | (simp; omega))) (fun hHeld => ?_)
      clear hHeld
      clear hK K
      refine Ord.go_one (i := 7) (by kernel_rfl) (by kernel_rfl) ?_
      apply Ord.go_done1
      next => (simp only [List.getElem?_toArray, List.getElem?_cons_succ, List.getElem?_cons_zero]; rfl)
      next => rfl
      intro K hK
      go_wp2_with fail
      refine hK.out _ _ (by repeat' (first | exact Below.refl _ _ | refine Below.drew ?_ | refine Below.alloc ?_ ?_ _ | (simp; done) | (simp; omega))) (fun hHeld => ?_)
      clear hHeld
      clear hK K
      refine Ord.go_tail ?_; simp only [List.drop_succ_cons, List.drop_zero]
      go_upto_region 16 with fail
      rw [HX.out]
      refine Aid.wp_abs (fun w' => Below W.heap.size W w' ∧ Aid.Has w' (W.heap.size + 1 + 1) [.int .i64 K, .int .i64 1, .int .i64 0] 23 ∧ Aid.Has w' (W.heap.size + 1) [.int .i64 K, .int .i64 (-32769), .int .i64 0] 23 ∧ Aid.Has w' (W.heap.size) [.int .i64 K, .int .i64 42768, .int .i64 0] 23 ∧ Aid.Has w' (W.heap.size + 1 + 1 + 1) [.int .i64 X, .int .i64 0, .int .i64 0] 23) ⟨(by repeat' (first | exact Below.refl _ _ | refine Below.drew ?_ | refine Below.alloc ?_ ?_ _ | (simp; done) | (simp; omega))), (by repeat' (first | refine Aid.Has.drew ?_ | exact has_new2 (by simp) | refine Aid.Has.alloc ?_ _)), (by repeat' (first | refine Aid.Has.drew ?_ | exact has_new2 (by simp) | refine Aid.Has.alloc ?_ _)), (by repeat' (first | refine Aid.Has.drew ?_ | exact has_new2 (by simp) | refine Aid.Has.alloc ?_ _)), (by repeat' (first | refine Aid.Has.drew ?_ | exact has_new2 (by simp) | refine Aid.Has.alloc ?_ _))⟩ (fun V hV => ?_)
      obtain ⟨hbv, h7, h8, h9, h10⟩ := hV
      have hg := HG.out.below hbv hgl
      have HL := HLen.out.below hbv
      have FB := Aid.hid (BW.out.trans (hbv.mono BW.out.size))
      clear hbv
      have q0 := hg.cell 0 _ rfl
      have q1 := hg.cell 1 _ rfl
      have q2 := hg.cell 2 _ rfl
      go_wp2_with fail
      refine (may_is K 0 0 true FG.out _).mono ?_; rintro e w' ⟨rfl, hb⟩
      clear q0 q1 q2
      replace h7 := h7.below hb h7.lt
      replace h8 := h8.below hb h8.lt
      replace h9 := h9.below hb h9.lt
      replace h10 := h10.below hb h10.lt
      replace HL := HL.below hb
      replace FB := Aid.hid (FB.out.trans (hb.mono FB.out.size))
      clear hb
      have q0 := h7.cell 0 _ rfl
      have q1 := h7.cell 1 _ rfl
      have q2 := h7.cell 2 _ rfl
      go_wp2_with fail
      refine (may_is K 1 0 false FE.out _).mono ?_; rintro e w' ⟨rfl, hb⟩
      clear q0 q1 q2
      replace h8 := h8.below hb h8.lt
      replace h9 := h9.below hb h9.lt
      replace h10 := h10.below hb h10.lt
      replace HL := HL.below hb
      replace FB := Aid.hid (FB.out.trans (hb.mono FB.out.size))
      clear hb
      have q0 := h8.cell 0 _ rfl
      have q1 := h8.cell 1 _ rfl
      have q2 := h8.cell 2 _ rfl
      go_wp2_with fail
      refine (may_is K (-32769) 0 false FL.out _).mono ?_; rintro e w' ⟨rfl, hb⟩
      clear q0 q1 q2
      replace h9 := h9.below hb h9.lt
      replace h10 := h10.below hb h10.lt
      replace HL := HL.below hb
      replace FB := Aid.hid (FB.out.trans (hb.mono FB.out.size))
      clear hb
      have q0 := h9.cell 0 _ rfl
      have q1 := h9.cell 1 _ rfl
      have q2 := h9.cell 2 _ rfl
      go_wp2_with fail
      refine (may_is K 42768 0 false FH.out _).mono ?_; rintro e w' ⟨rfl, hb⟩
      clear q0 q1 q2
      replace h10 := h10.below hb h10.lt
      replace HL := HL.below hb
      replace FB := Aid.hid (FB.out.trans (hb.mono FB.out.size))
      clear hb
      have q0 := h10.cell 0 _ rfl
      have q1 := h10.cell 1 _ rfl
      have q2 := h10.cell 2 _ rfl
      go_wp2_with fail
      refine (may_is X 0 0 false FX.out _).mono ?_; rintro e w' ⟨rfl, hb⟩
      clear q0 q1 q2
      replace HL := HL.below hb
      replace FB := Aid.hid (FB.out.trans (hb.mono FB.out.size))
      clear hb
      go_wp2_with fail
      refine (may_is (-K) 0 0 false FM.out _).mono ?_; rintro e w' ⟨rfl, hb⟩
      replace HL := HL.below hb
      replace FB := Aid.hid (FB.out.trans (hb.mono FB.out.size))
      clear hb
      go_wp2_with fail
      refine (awake_any _ HL).mono ?_; rintro e w' ⟨rfl, hb⟩
      go_wp2_with fail
      go_ret
      exact ⟨rfl, FB.out.trans (hb.mono FB.out.size)⟩

set_option maxRecDepth 100000 in
set_option maxHeartbeats 8000000 in
theorem opBounds_1 (k x K X : Int) (hK : wrap64 (1 + wrap64 ((IntKind.u64.wrap k).tmod 35)) = K) (hX : wrap64 (36 + wrap64 ((IntKind.u64.wrap x).tmod 1000)) = X) (k1 : 1 ≤ K) (k2 : K ≤ 35) (x1 : 36 ≤ X) (hn : Op.operands K = 1) (w : World) (hm : Op.Len w) :
    Calls Tryd.prog 5 #[.int .i64 k, .int .i64 x] w fun e w' => e = .returned (.bool true) ∧ Below w.heap.size w w' := by
  have HN := Aid.hid hn
  have HX := Aid.hid hX
  have FA := Op.bounds_1 K k1 k2 hn
  have FG := Aid.hid FA.1
  have FE := Aid.hid FA.2.1
  have FL := Aid.hid FA.2.2.1
  have FH := Aid.hid FA.2.2.2
  have FX := Aid.hid (Op.none_high X x1)
  have FM := Aid.hid (Op.none_low K k1)
  clear FA
  have G0 := Aid.Has.new w [.int .i64 K, .int .i64 1, .int .i64 0] 23
  have B0 : Below w.heap.size w (w.alloc (.cells #[.int .i64 K, .int .i64 1, .int .i64 0] 23)) := (Below.refl _ _).alloc (Nat.le_refl _) _
  have L0 := hm.below B0
  clear hn hX hm
  go_enter Tryd.func5, Tryd.ntmps5
  try simp only [List.append_eq, List.cons_append, List.nil_append]
  go_wp2_with fail
  rw [hK]
  clear hK
  refine (operands_is K 1 HN.out _).mono ?_; rintro e w' ⟨rfl, rfl⟩
  go_wp2_with fail
  obtain ⟨ob, hob⟩ : ∃ ob, w.heap.size = ob := ⟨_, rfl⟩
  obtain ⟨W, hW⟩ : ∃ W, w.alloc (.cells #[.int .i64 K, .int .i64 1, .int .i64 0] 23) = W := ⟨_, rfl⟩
  rw [hW] at B0 G0 L0 ⊢
  rw [hob] at G0 ⊢
  have BW := Aid.hid B0
  have HLen := Aid.hid L0
  have HG := Aid.hid G0
  have hgl := G0.lt
  clear B0 L0 G0 hW hob
  refine Ord.wp_region_go (fun w' => Below W.heap.size W w') 8 [0, 1, 2] (by kernel_rfl) (by kernel_rfl) (fun _ _ d _ _ h => by cases d <;> exact h) ((Below.refl _ _).drew) ?_
  apply Ord.go_light (i := 0) (by kernel_rfl)
  next => (simp only [List.getElem?_toArray, List.getElem?_cons_zero]; rfl)
  next => rfl
  next => (intro w' hSw; have g := HG.out.below hSw hgl; have q0 := g.cell 0 _ rfl; have q1 := g.cell 1 _ rfl; have q2 := g.cell 2 _ rfl; go_simp; first | done | with_reducible rfl)
  simp only [Act.put, List.setIfInBounds_toArray, List.set_cons_zero, List.set_cons_succ]
  apply Ord.go_light (i := 1) (by kernel_rfl)
  next => (simp only [List.getElem?_toArray, List.getElem?_cons_succ, List.getElem?_cons_zero]; rfl)
  next => rfl
  next => (intro w' hSw; have g := HG.out.below hSw hgl; have q0 := g.cell 0 _ rfl; have q1 := g.cell 1 _ rfl; have q2 := g.cell 2 _ rfl; go_simp; first | done | with_reducible rfl)
  simp only [Act.put, List.setIfInBounds_toArray, List.set_cons_zero, List.set_cons_succ]
  apply Ord.go_light (i := 2) (by kernel_rfl)
  next => (simp only [List.getElem?_toArray, List.getElem?_cons_succ, List.getElem?_cons_zero]; rfl)
  next => rfl
  next => (intro w' hSw; have g := HG.out.below hSw hgl; have q0 := g.cell 0 _ rfl; have q1 := g.cell 1 _ rfl; have q2 := g.cell 2 _ rfl; go_simp; first | done | with_reducible rfl)
  simp only [Act.put, List.setIfInBounds_toArray, List.set_cons_zero, List.set_cons_succ]
  refine Ord.go_three (i := 3) (j := 4) (k := 5) (by kernel_rfl) (by kernel_rfl) ?_ ?_ ?_
  ·
    apply Ord.go_done1
    next => (simp only [List.getElem?_toArray, List.getElem?_cons_succ, List.getElem?_cons_zero]; rfl)
    next => rfl
    intro K hK
    go_wp2_with fail
    refine hK.out _ _ (by repeat' (first | exact Below.refl _ _ | refine Below.drew ?_ | refine Below.alloc ?_ ?_ _ | (simp; done) | (simp; omega))) (fun hHeld => ?_)
    clear hHeld
    clear hK K
    try simp only [Act.put, List.setIfInBounds_toArray, List.set_cons_zero, List.set_cons_succ]
    refine Ord.go_two (i := 4) (j := 5) (by kernel_rfl) (by kernel_rfl) ?_ ?_
    ·
      apply Ord.go_done1
      next => (simp only [List.getElem?_toArray, List.getElem?_cons_succ, List.getElem?_cons_zero]; rfl)
      next => rfl
      intro K hK
      go_wp2_with fail
      refine hK.out _ _ (by repeat' (first | exact Below.refl _ _ | refine Below.drew ?_ | refine Below.alloc ?_ ?_ _ | (simp; done) | (simp; omega))) (fun hHeld => ?_)
      clear hHeld
      clear hK K
      try simp only [Act.put, List.setIfInBounds_toArray, List.set_cons_zero, List.set_cons_succ]
      refine Ord.go_one (i := 5) (by kernel_rfl) (by kernel_rfl) ?_
      apply Ord.go_done1
      next => (simp only [List.getElem?_toArray, List.getElem?_cons_succ, List.getElem?_cons_zero]; rfl)
      next => rfl
      intro K hK
      go_wp2_with fail
      refine hK.out _ _ (by repeat' (first | exact Below.refl _ _ | refine Below.drew ?_ | refine Below.alloc ?_ ?_ _ | (simp; done) | (simp; omega))) (fun hHeld => ?_)
      clear hHeld
      clear hK K
      try simp only [Act.put, List.setIfInBounds_toArray, List.set_cons_zero, List.set_cons_succ]
      refine Ord.go_one (i := 6) (by kernel_rfl) (by kernel_rfl) ?_
      apply Ord.go_done1
      next => (simp only [List.getElem?_toArray, List.getElem?_cons_succ, List.getElem?_cons_zero]; rfl)
      next => rfl
      intro K hK
      go_wp2_with fail
      refine hK.out _ _ (by repeat' (first | exact Below.refl _ _ | refine Below.drew ?_ | refine Below.alloc ?_ ?_ _ | (simp; done) | (simp; omega))) (fun hHeld => ?_)
      clear hHeld
      clear hK K
      refine Ord.go_one (i := 7) (by kernel_rfl) (by kernel_rfl) ?_
      apply Ord.go_done1
      next => (simp only [List.getElem?_toArray, List.getElem?_cons_succ, List.getElem?_cons_zero]; rfl)
      next => rfl
      intro K hK
      go_wp2_with fail
      refine hK.out _ _ (by repeat' (first | exact Below.refl _ _ | refine Below.drew ?_ | refine Below.alloc ?_ ?_ _ | (simp; done) | (simp; omega))) (fun hHeld => ?_)
      clear hHeld
      clear hK K
      refine Ord.go_tail ?_; simp only [List.drop_succ_cons, List.drop_zero]
      go_upto_region 16 with fail
      rw [HX.out]
      refine Aid.wp_abs (fun w' => Below W.heap.size W w' ∧ Aid.Has w' (W.heap.size) [.int .i64 K, .int .i64 1, .int .i64 5] 23 ∧ Aid.Has w' (W.heap.size + 1) [.int .i64 K, .int .i64 (-32769), .int .i64 0] 23 ∧ Aid.Has w' (W.heap.size + 1 + 1) [.int .i64 K, .int .i64 42768, .int .i64 0] 23 ∧ Aid.Has w' (W.heap.size + 1 + 1 + 1) [.int .i64 X, .int .i64 0, .int .i64 0] 23) ⟨(by repeat' (first | exact Below.refl _ _ | refine Below.drew ?_ | refine Below.alloc ?_ ?_ _ | (simp; done) | (simp; omega))), (by repeat' (first | refine Aid.Has.drew ?_ | exact has_new2 (by simp) | refine Aid.Has.alloc ?_ _)), (by repeat' (first | refine Aid.Has.drew ?_ | exact has_new2 (by simp) | refine Aid.Has.alloc ?_ _)), (by repeat' (first | refine Aid.Has.drew ?_ | exact has_new2 (by simp) | refine Aid.Has.alloc ?_ _)), (by repeat' (first | refine Aid.Has.drew ?_ | exact has_new2 (by simp) | refine Aid.Has.alloc ?_ _))⟩ (fun V hV => ?_)
      obtain ⟨hbv, h7, h8, h9, h10⟩ := hV
      have hg := HG.out.below hbv hgl
      have HL := HLen.out.below hbv
      have FB := Aid.hid (BW.out.trans (hbv.mono BW.out.size))
      clear hbv
      have q0 := hg.cell 0 _ rfl
      have q1 := hg.cell 1 _ rfl
      have q2 := hg.cell 2 _ rfl
      go_wp2_with fail
      refine (may_is K 1 0 true FG.out _).mono ?_; rintro e w' ⟨rfl, hb⟩
      clear q0 q1 q2
      replace h7 := h7.below hb h7.lt
      replace h8 := h8.below hb h8.lt
      replace h9 := h9.below hb h9.lt
      replace h10 := h10.below hb h10.lt
      replace HL := HL.below hb
      replace FB := Aid.hid (FB.out.trans (hb.mono FB.out.size))
      clear hb
      have q0 := h7.cell 0 _ rfl
      have q1 := h7.cell 1 _ rfl
      have q2 := h7.cell 2 _ rfl
      go_wp2_with fail
      refine (may_is K 1 5 false FE.out _).mono ?_; rintro e w' ⟨rfl, hb⟩
      clear q0 q1 q2
      replace h8 := h8.below hb h8.lt
      replace h9 := h9.below hb h9.lt
      replace h10 := h10.below hb h10.lt
      replace HL := HL.below hb
      replace FB := Aid.hid (FB.out.trans (hb.mono FB.out.size))
      clear hb
      have q0 := h8.cell 0 _ rfl
      have q1 := h8.cell 1 _ rfl
      have q2 := h8.cell 2 _ rfl
      go_wp2_with fail
      refine (may_is K (-32769) 0 false FL.out _).mono ?_; rintro e w' ⟨rfl, hb⟩
      clear q0 q1 q2
      replace h9 := h9.below hb h9.lt
      replace h10 := h10.below hb h10.lt
      replace HL := HL.below hb
      replace FB := Aid.hid (FB.out.trans (hb.mono FB.out.size))
      clear hb
      have q0 := h9.cell 0 _ rfl
      have q1 := h9.cell 1 _ rfl
      have q2 := h9.cell 2 _ rfl
      go_wp2_with fail
      refine (may_is K 42768 0 false FH.out _).mono ?_; rintro e w' ⟨rfl, hb⟩
      clear q0 q1 q2
      replace h10 := h10.below hb h10.lt
      replace HL := HL.below hb
      replace FB := Aid.hid (FB.out.trans (hb.mono FB.out.size))
      clear hb
      have q0 := h10.cell 0 _ rfl
      have q1 := h10.cell 1 _ rfl
      have q2 := h10.cell 2 _ rfl
      go_wp2_with fail
      refine (may_is X 0 0 false FX.out _).mono ?_; rintro e w' ⟨rfl, hb⟩
      clear q0 q1 q2
      replace HL := HL.below hb
      replace FB := Aid.hid (FB.out.trans (hb.mono FB.out.size))
      clear hb
      go_wp2_with fail
      refine (may_is (-K) 0 0 false FM.out _).mono ?_; rintro e w' ⟨rfl, hb⟩
      replace HL := HL.below hb
      replace FB := Aid.hid (FB.out.trans (hb.mono FB.out.size))
      clear hb
      go_wp2_with fail
      refine (awake_any _ HL).mono ?_; rintro e w' ⟨rfl, hb⟩
      go_wp2_with fail
      go_ret
      exact ⟨rfl, FB.out.trans (hb.mono FB.out.size)⟩
    ·
      apply Ord.go_done1
      next => (simp only [List.getElem?_toArray, List.getElem?_cons_succ, List.getElem?_cons_zero]; rfl)
      next => rfl
      intro K hK
      go_wp2_with fail
      refine hK.out _ _ (by repeat' (first | exact Below.refl _ _ | refine Below.drew ?_ | refine Below.alloc ?_ ?_ _ | (simp; done) | (simp; omega))) (fun hHeld => ?_)
      clear hHeld
      clear hK K
      try simp only [Act.put, List.setIfInBounds_toArray, List.set_cons_zero, List.set_cons_succ]
      refine Ord.go_one (i := 4) (by kernel_rfl) (by kernel_rfl) ?_
      apply Ord.go_done1
      next => (simp only [List.getElem?_toArray, List.getElem?_cons_succ, List.getElem?_cons_zero]; rfl)
      next => rfl
      intro K hK
      go_wp2_with fail
      refine hK.out _ _ (by repeat' (first | exact Below.refl _ _ | refine Below.drew ?_ | refine Below.alloc ?_ ?_ _ | (simp; done) | (simp; omega))) (fun hHeld => ?_)
      clear hHeld
      clear hK K
      try simp only [Act.put, List.setIfInBounds_toArray, List.set_cons_zero, List.set_cons_succ]
      refine Ord.go_one (i := 6) (by kernel_rfl) (by kernel_rfl) ?_
      apply Ord.go_done1
      next => (simp only [List.getElem?_toArray, List.getElem?_cons_succ, List.getElem?_cons_zero]; rfl)
      next => rfl
      intro K hK
      go_wp2_with fail
      refine hK.out _ _ (by repeat' (first | exact Below.refl _ _ | refine Below.drew ?_ | refine Below.alloc ?_ ?_ _ | (simp; done) | (simp; omega))) (fun hHeld => ?_)
      clear hHeld
      clear hK K
      refine Ord.go_one (i := 7) (by kernel_rfl) (by kernel_rfl) ?_
      apply Ord.go_done1
      next => (simp only [List.getElem?_toArray, List.getElem?_cons_succ, List.getElem?_cons_zero]; rfl)
      next => rfl
      intro K hK
      go_wp2_with fail
      refine hK.out _ _ (by repeat' (first | exact Below.refl _ _ | refine Below.drew ?_ | refine Below.alloc ?_ ?_ _ | (simp; done) | (simp; omega))) (fun hHeld => ?_)
      clear hHeld
      clear hK K
      refine Ord.go_tail ?_; simp only [List.drop_succ_cons, List.drop_zero]
      go_upto_region 16 with fail
      rw [HX.out]
      refine Aid.wp_abs (fun w' => Below W.heap.size W w' ∧ Aid.Has w' (W.heap.size) [.int .i64 K, .int .i64 1, .int .i64 5] 23 ∧ Aid.Has w' (W.heap.size + 1 + 1) [.int .i64 K, .int .i64 (-32769), .int .i64 0] 23 ∧ Aid.Has w' (W.heap.size + 1) [.int .i64 K, .int .i64 42768, .int .i64 0] 23 ∧ Aid.Has w' (W.heap.size + 1 + 1 + 1) [.int .i64 X, .int .i64 0, .int .i64 0] 23) ⟨(by repeat' (first | exact Below.refl _ _ | refine Below.drew ?_ | refine Below.alloc ?_ ?_ _ | (simp; done) | (simp; omega))), (by repeat' (first | refine Aid.Has.drew ?_ | exact has_new2 (by simp) | refine Aid.Has.alloc ?_ _)), (by repeat' (first | refine Aid.Has.drew ?_ | exact has_new2 (by simp) | refine Aid.Has.alloc ?_ _)), (by repeat' (first | refine Aid.Has.drew ?_ | exact has_new2 (by simp) | refine Aid.Has.alloc ?_ _)), (by repeat' (first | refine Aid.Has.drew ?_ | exact has_new2 (by simp) | refine Aid.Has.alloc ?_ _))⟩ (fun V hV => ?_)
      obtain ⟨hbv, h7, h8, h9, h10⟩ := hV
      have hg := HG.out.below hbv hgl
      have HL := HLen.out.below hbv
      have FB := Aid.hid (BW.out.trans (hbv.mono BW.out.size))
      clear hbv
      have q0 := hg.cell 0 _ rfl
      have q1 := hg.cell 1 _ rfl
      have q2 := hg.cell 2 _ rfl
      go_wp2_with fail
      refine (may_is K 1 0 true FG.out _).mono ?_; rintro e w' ⟨rfl, hb⟩
      clear q0 q1 q2
      replace h7 := h7.below hb h7.lt
      replace h8 := h8.below hb h8.lt
      replace h9 := h9.below hb h9.lt
      replace h10 := h10.below hb h10.lt
      replace HL := HL.below hb
      replace FB := Aid.hid (FB.out.trans (hb.mono FB.out.size))
      clear hb
      have q0 := h7.cell 0 _ rfl
      have q1 := h7.cell 1 _ rfl
      have q2 := h7.cell 2 _ rfl
      go_wp2_with fail
      refine (may_is K 1 5 false FE.out _).mono ?_; rintro e w' ⟨rfl, hb⟩
      clear q0 q1 q2
      replace h8 := h8.below hb h8.lt
      replace h9 := h9.below hb h9.lt
      replace h10 := h10.below hb h10.lt
      replace HL := HL.below hb
      replace FB := Aid.hid (FB.out.trans (hb.mono FB.out.size))
      clear hb
      have q0 := h8.cell 0 _ rfl
      have q1 := h8.cell 1 _ rfl
      have q2 := h8.cell 2 _ rfl
      go_wp2_with fail
      refine (may_is K (-32769) 0 false FL.out _).mono ?_; rintro e w' ⟨rfl, hb⟩
      clear q0 q1 q2
      replace h9 := h9.below hb h9.lt
      replace h10 := h10.below hb h10.lt
      replace HL := HL.below hb
      replace FB := Aid.hid (FB.out.trans (hb.mono FB.out.size))
      clear hb
      have q0 := h9.cell 0 _ rfl
      have q1 := h9.cell 1 _ rfl
      have q2 := h9.cell 2 _ rfl
      go_wp2_with fail
      refine (may_is K 42768 0 false FH.out _).mono ?_; rintro e w' ⟨rfl, hb⟩
      clear q0 q1 q2
      replace h10 := h10.below hb h10.lt
      replace HL := HL.below hb
      replace FB := Aid.hid (FB.out.trans (hb.mono FB.out.size))
      clear hb
      have q0 := h10.cell 0 _ rfl
      have q1 := h10.cell 1 _ rfl
      have q2 := h10.cell 2 _ rfl
      go_wp2_with fail
      refine (may_is X 0 0 false FX.out _).mono ?_; rintro e w' ⟨rfl, hb⟩
      clear q0 q1 q2
      replace HL := HL.below hb
      replace FB := Aid.hid (FB.out.trans (hb.mono FB.out.size))
      clear hb
      go_wp2_with fail
      refine (may_is (-K) 0 0 false FM.out _).mono ?_; rintro e w' ⟨rfl, hb⟩
      replace HL := HL.below hb
      replace FB := Aid.hid (FB.out.trans (hb.mono FB.out.size))
      clear hb
      go_wp2_with fail
      refine (awake_any _ HL).mono ?_; rintro e w' ⟨rfl, hb⟩
      go_wp2_with fail
      go_ret
      exact ⟨rfl, FB.out.trans (hb.mono FB.out.size)⟩
  ·
    apply Ord.go_done1
    next => (simp only [List.getElem?_toArray, List.getElem?_cons_succ, List.getElem?_cons_zero]; rfl)
    next => rfl
    intro K hK
    go_wp2_with fail
    refine hK.out _ _ (by repeat' (first | exact Below.refl _ _ | refine Below.drew ?_ | refine Below.alloc ?_ ?_ _ | (simp; done) | (simp; omega))) (fun hHeld => ?_)
    clear hHeld
    clear hK K
    try simp only [Act.put, List.setIfInBounds_toArray, List.set_cons_zero, List.set_cons_succ]
    refine Ord.go_two (i := 3) (j := 5) (by kernel_rfl) (by kernel_rfl) ?_ ?_
    ·
      apply Ord.go_done1
      next => (simp only [List.getElem?_toArray, List.getElem?_cons_succ, List.getElem?_cons_zero]; rfl)
      next => rfl
      intro K hK
      go_wp2_with fail
      refine hK.out _ _ (by repeat' (first | exact Below.refl _ _ | refine Below.drew ?_ | refine Below.alloc ?_ ?_ _ | (simp; done) | (simp; omega))) (fun hHeld => ?_)
      clear hHeld
      clear hK K
      try simp only [Act.put, List.setIfInBounds_toArray, List.set_cons_zero, List.set_cons_succ]
      refine Ord.go_one (i := 5) (by kernel_rfl) (by kernel_rfl) ?_
      apply Ord.go_done1
      next => (simp only [List.getElem?_toArray, List.getElem?_cons_succ, List.getElem?_cons_zero]; rfl)
      next => rfl
      intro K hK
      go_wp2_with fail
      refine hK.out _ _ (by repeat' (first | exact Below.refl _ _ | refine Below.drew ?_ | refine Below.alloc ?_ ?_ _ | (simp; done) | (simp; omega))) (fun hHeld => ?_)
      clear hHeld
      clear hK K
      try simp only [Act.put, List.setIfInBounds_toArray, List.set_cons_zero, List.set_cons_succ]
      refine Ord.go_one (i := 6) (by kernel_rfl) (by kernel_rfl) ?_
      apply Ord.go_done1
      next => (simp only [List.getElem?_toArray, List.getElem?_cons_succ, List.getElem?_cons_zero]; rfl)
      next => rfl
      intro K hK
      go_wp2_with fail
      refine hK.out _ _ (by repeat' (first | exact Below.refl _ _ | refine Below.drew ?_ | refine Below.alloc ?_ ?_ _ | (simp; done) | (simp; omega))) (fun hHeld => ?_)
      clear hHeld
      clear hK K
      refine Ord.go_one (i := 7) (by kernel_rfl) (by kernel_rfl) ?_
      apply Ord.go_done1
      next => (simp only [List.getElem?_toArray, List.getElem?_cons_succ, List.getElem?_cons_zero]; rfl)
      next => rfl
      intro K hK
      go_wp2_with fail
      refine hK.out _ _ (by repeat' (first | exact Below.refl _ _ | refine Below.drew ?_ | refine Below.alloc ?_ ?_ _ | (simp; done) | (simp; omega))) (fun hHeld => ?_)
      clear hHeld
      clear hK K
      refine Ord.go_tail ?_; simp only [List.drop_succ_cons, List.drop_zero]
      go_upto_region 16 with fail
      rw [HX.out]
      refine Aid.wp_abs (fun w' => Below W.heap.size W w' ∧ Aid.Has w' (W.heap.size + 1) [.int .i64 K, .int .i64 1, .int .i64 5] 23 ∧ Aid.Has w' (W.heap.size) [.int .i64 K, .int .i64 (-32769), .int .i64 0] 23 ∧ Aid.Has w' (W.heap.size + 1 + 1) [.int .i64 K, .int .i64 42768, .int .i64 0] 23 ∧ Aid.Has w' (W.heap.size + 1 + 1 + 1) [.int .i64 X, .int .i64 0, .int .i64 0] 23) ⟨(by repeat' (first | exact Below.refl _ _ | refine Below.drew ?_ | refine Below.alloc ?_ ?_ _ | (simp; done) | (simp; omega))), (by repeat' (first | refine Aid.Has.drew ?_ | exact has_new2 (by simp) | refine Aid.Has.alloc ?_ _)), (by repeat' (first | refine Aid.Has.drew ?_ | exact has_new2 (by simp) | refine Aid.Has.alloc ?_ _)), (by repeat' (first | refine Aid.Has.drew ?_ | exact has_new2 (by simp) | refine Aid.Has.alloc ?_ _)), (by repeat' (first | refine Aid.Has.drew ?_ | exact has_new2 (by simp) | refine Aid.Has.alloc ?_ _))⟩ (fun V hV => ?_)
      obtain ⟨hbv, h7, h8, h9, h10⟩ := hV
      have hg := HG.out.below hbv hgl
      have HL := HLen.out.below hbv
      have FB := Aid.hid (BW.out.trans (hbv.mono BW.out.size))
      clear hbv
      have q0 := hg.cell 0 _ rfl
      have q1 := hg.cell 1 _ rfl
      have q2 := hg.cell 2 _ rfl
      go_wp2_with fail
      refine (may_is K 1 0 true FG.out _).mono ?_; rintro e w' ⟨rfl, hb⟩
      clear q0 q1 q2
      replace h7 := h7.below hb h7.lt
      replace h8 := h8.below hb h8.lt
      replace h9 := h9.below hb h9.lt
      replace h10 := h10.below hb h10.lt
      replace HL := HL.below hb
      replace FB := Aid.hid (FB.out.trans (hb.mono FB.out.size))
      clear hb
      have q0 := h7.cell 0 _ rfl
      have q1 := h7.cell 1 _ rfl
      have q2 := h7.cell 2 _ rfl
      go_wp2_with fail
      refine (may_is K 1 5 false FE.out _).mono ?_; rintro e w' ⟨rfl, hb⟩
      clear q0 q1 q2
      replace h8 := h8.below hb h8.lt
      replace h9 := h9.below hb h9.lt
      replace h10 := h10.below hb h10.lt
      replace HL := HL.below hb
      replace FB := Aid.hid (FB.out.trans (hb.mono FB.out.size))
      clear hb
      have q0 := h8.cell 0 _ rfl
      have q1 := h8.cell 1 _ rfl
      have q2 := h8.cell 2 _ rfl
      go_wp2_with fail
      refine (may_is K (-32769) 0 false FL.out _).mono ?_; rintro e w' ⟨rfl, hb⟩
      clear q0 q1 q2
      replace h9 := h9.below hb h9.lt
      replace h10 := h10.below hb h10.lt
      replace HL := HL.below hb
      replace FB := Aid.hid (FB.out.trans (hb.mono FB.out.size))
      clear hb
      have q0 := h9.cell 0 _ rfl
      have q1 := h9.cell 1 _ rfl
      have q2 := h9.cell 2 _ rfl
      go_wp2_with fail
      refine (may_is K 42768 0 false FH.out _).mono ?_; rintro e w' ⟨rfl, hb⟩
      clear q0 q1 q2
      replace h10 := h10.below hb h10.lt
      replace HL := HL.below hb
      replace FB := Aid.hid (FB.out.trans (hb.mono FB.out.size))
      clear hb
      have q0 := h10.cell 0 _ rfl
      have q1 := h10.cell 1 _ rfl
      have q2 := h10.cell 2 _ rfl
      go_wp2_with fail
      refine (may_is X 0 0 false FX.out _).mono ?_; rintro e w' ⟨rfl, hb⟩
      clear q0 q1 q2
      replace HL := HL.below hb
      replace FB := Aid.hid (FB.out.trans (hb.mono FB.out.size))
      clear hb
      go_wp2_with fail
      refine (may_is (-K) 0 0 false FM.out _).mono ?_; rintro e w' ⟨rfl, hb⟩
      replace HL := HL.below hb
      replace FB := Aid.hid (FB.out.trans (hb.mono FB.out.size))
      clear hb
      go_wp2_with fail
      refine (awake_any _ HL).mono ?_; rintro e w' ⟨rfl, hb⟩
      go_wp2_with fail
      go_ret
      exact ⟨rfl, FB.out.trans (hb.mono FB.out.size)⟩
    ·
      apply Ord.go_done1
      next => (simp only [List.getElem?_toArray, List.getElem?_cons_succ, List.getElem?_cons_zero]; rfl)
      next => rfl
      intro K hK
      go_wp2_with fail
      refine hK.out _ _ (by repeat' (first | exact Below.refl _ _ | refine Below.drew ?_ | refine Below.alloc ?_ ?_ _ | (simp; done) | (simp; omega))) (fun hHeld => ?_)
      clear hHeld
      clear hK K
      try simp only [Act.put, List.setIfInBounds_toArray, List.set_cons_zero, List.set_cons_succ]
      refine Ord.go_one (i := 3) (by kernel_rfl) (by kernel_rfl) ?_
      apply Ord.go_done1
      next => (simp only [List.getElem?_toArray, List.getElem?_cons_succ, List.getElem?_cons_zero]; rfl)
      next => rfl
      intro K hK
      go_wp2_with fail
      refine hK.out _ _ (by repeat' (first | exact Below.refl _ _ | refine Below.drew ?_ | refine Below.alloc ?_ ?_ _ | (simp; done) | (simp; omega))) (fun hHeld => ?_)
      clear hHeld
      clear hK K
      try simp only [Act.put, List.setIfInBounds_toArray, List.set_cons_zero, List.set_cons_succ]
      refine Ord.go_one (i := 6) (by kernel_rfl) (by kernel_rfl) ?_
      apply Ord.go_done1
      next => (simp only [List.getElem?_toArray, List.getElem?_cons_succ, List.getElem?_cons_zero]; rfl)
      next => rfl
      intro K hK
      go_wp2_with fail
      refine hK.out _ _ (by repeat' (first | exact Below.refl _ _ | refine Below.drew ?_ | refine Below.alloc ?_ ?_ _ | (simp; done) | (simp; omega))) (fun hHeld => ?_)
      clear hHeld
      clear hK K
      refine Ord.go_one (i := 7) (by kernel_rfl) (by kernel_rfl) ?_
      apply Ord.go_done1
      next => (simp only [List.getElem?_toArray, List.getElem?_cons_succ, List.getElem?_cons_zero]; rfl)
      next => rfl
      intro K hK
      go_wp2_with fail
      refine hK.out _ _ (by repeat' (first | exact Below.refl _ _ | refine Below.drew ?_ | refine Below.alloc ?_ ?_ _ | (simp; done) | (simp; omega))) (fun hHeld => ?_)
      clear hHeld
      clear hK K
      refine Ord.go_tail ?_; simp only [List.drop_succ_cons, List.drop_zero]
      go_upto_region 16 with fail
      rw [HX.out]
      refine Aid.wp_abs (fun w' => Below W.heap.size W w' ∧ Aid.Has w' (W.heap.size + 1 + 1) [.int .i64 K, .int .i64 1, .int .i64 5] 23 ∧ Aid.Has w' (W.heap.size) [.int .i64 K, .int .i64 (-32769), .int .i64 0] 23 ∧ Aid.Has w' (W.heap.size + 1) [.int .i64 K, .int .i64 42768, .int .i64 0] 23 ∧ Aid.Has w' (W.heap.size + 1 + 1 + 1) [.int .i64 X, .int .i64 0, .int .i64 0] 23) ⟨(by repeat' (first | exact Below.refl _ _ | refine Below.drew ?_ | refine Below.alloc ?_ ?_ _ | (simp; done) | (simp; omega))), (by repeat' (first | refine Aid.Has.drew ?_ | exact has_new2 (by simp) | refine Aid.Has.alloc ?_ _)), (by repeat' (first | refine Aid.Has.drew ?_ | exact has_new2 (by simp) | refine Aid.Has.alloc ?_ _)), (by repeat' (first | refine Aid.Has.drew ?_ | exact has_new2 (by simp) | refine Aid.Has.alloc ?_ _)), (by repeat' (first | refine Aid.Has.drew ?_ | exact has_new2 (by simp) | refine Aid.Has.alloc ?_ _))⟩ (fun V hV => ?_)
      obtain ⟨hbv, h7, h8, h9, h10⟩ := hV
      have hg := HG.out.below hbv hgl
      have HL := HLen.out.below hbv
      have FB := Aid.hid (BW.out.trans (hbv.mono BW.out.size))
      clear hbv
      have q0 := hg.cell 0 _ rfl
      have q1 := hg.cell 1 _ rfl
      have q2 := hg.cell 2 _ rfl
      go_wp2_with fail
      refine (may_is K 1 0 true FG.out _).mono ?_; rintro e w' ⟨rfl, hb⟩
      clear q0 q1 q2
      replace h7 := h7.below hb h7.lt
      replace h8 := h8.below hb h8.lt
      replace h9 := h9.below hb h9.lt
      replace h10 := h10.below hb h10.lt
      replace HL := HL.below hb
      replace FB := Aid.hid (FB.out.trans (hb.mono FB.out.size))
      clear hb
      have q0 := h7.cell 0 _ rfl
      have q1 := h7.cell 1 _ rfl
      have q2 := h7.cell 2 _ rfl
      go_wp2_with fail
      refine (may_is K 1 5 false FE.out _).mono ?_; rintro e w' ⟨rfl, hb⟩
      clear q0 q1 q2
      replace h8 := h8.below hb h8.lt
      replace h9 := h9.below hb h9.lt
      replace h10 := h10.below hb h10.lt
      replace HL := HL.below hb
      replace FB := Aid.hid (FB.out.trans (hb.mono FB.out.size))
      clear hb
      have q0 := h8.cell 0 _ rfl
      have q1 := h8.cell 1 _ rfl
      have q2 := h8.cell 2 _ rfl
      go_wp2_with fail
      refine (may_is K (-32769) 0 false FL.out _).mono ?_; rintro e w' ⟨rfl, hb⟩
      clear q0 q1 q2
      replace h9 := h9.below hb h9.lt
      replace h10 := h10.below hb h10.lt
      replace HL := HL.below hb
      replace FB := Aid.hid (FB.out.trans (hb.mono FB.out.size))
      clear hb
      have q0 := h9.cell 0 _ rfl
      have q1 := h9.cell 1 _ rfl
      have q2 := h9.cell 2 _ rfl
      go_wp2_with fail
      refine (may_is K 42768 0 false FH.out _).mono ?_; rintro e w' ⟨rfl, hb⟩
      clear q0 q1 q2
      replace h10 := h10.below hb h10.lt
      replace HL := HL.below hb
      replace FB := Aid.hid (FB.out.trans (hb.mono FB.out.size))
      clear hb
      have q0 := h10.cell 0 _ rfl
      have q1 := h10.cell 1 _ rfl
      have q2 := h10.cell 2 _ rfl
      go_wp2_with fail
      refine (may_is X 0 0 false FX.out _).mono ?_; rintro e w' ⟨rfl, hb⟩
      clear q0 q1 q2
      replace HL := HL.below hb
      replace FB := Aid.hid (FB.out.trans (hb.mono FB.out.size))
      clear hb
      go_wp2_with fail
      refine (may_is (-K) 0 0 false FM.out _).mono ?_; rintro e w' ⟨rfl, hb⟩
      replace HL := HL.below hb
      replace FB := Aid.hid (FB.out.trans (hb.mono FB.out.size))
      clear hb
      go_wp2_with fail
      refine (awake_any _ HL).mono ?_; rintro e w' ⟨rfl, hb⟩
      go_wp2_with fail
      go_ret
      exact ⟨rfl, FB.out.trans (hb.mono FB.out.size)⟩
  ·
    apply Ord.go_done1
    next => (simp only [List.getElem?_toArray, List.getElem?_cons_succ, List.getElem?_cons_zero]; rfl)
    next => rfl
    intro K hK
    go_wp2_with fail
    refine hK.out _ _ (by repeat' (first | exact Below.refl _ _ | refine Below.drew ?_ | refine Below.alloc ?_ ?_ _ | (simp; done) | (simp; omega))) (fun hHeld => ?_)
    clear hHeld
    clear hK K
    try simp only [Act.put, List.setIfInBounds_toArray, List.set_cons_zero, List.set_cons_succ]
    refine Ord.go_two (i := 3) (j := 4) (by kernel_rfl) (by kernel_rfl) ?_ ?_
    ·
      apply Ord.go_done1
      next => (simp only [List.getElem?_toArray, List.getElem?_cons_succ, List.getElem?_cons_zero]; rfl)
      next => rfl
      intro K hK
      go_wp2_with fail
      refine hK.out _ _ (by repeat' (first | exact Below.refl _ _ | refine Below.drew ?_ | refine Below.alloc ?_ ?_ _ | (simp; done) | (simp; omega))) (fun hHeld => ?_)
      clear hHeld
      clear hK K
      try simp only [Act.put, List.setIfInBounds_toArray, List.set_cons_zero, List.set_cons_succ]
      refine Ord.go_one (i := 4) (by kernel_rfl) (by kernel_rfl) ?_
      apply Ord.go_done1
      next => (simp only [List.getElem?_toArray, List.getElem?_cons_succ, List.getElem?_cons_zero]; rfl)
      next => rfl
      intro K hK
      go_wp2_with fail
      refine hK.out _ _ (by repeat' (first | exact Below.refl _ _ | refine Below.drew ?_ | refine Below.alloc ?_ ?_ _ | (simp; done) | (simp; omega))) (fun hHeld => ?_)
      clear hHeld
      clear hK K
      try simp only [Act.put, List.setIfInBounds_toArray, List.set_cons_zero, List.set_cons_succ]
      refine Ord.go_one (i := 6) (by kernel_rfl) (by kernel_rfl) ?_
      apply Ord.go_done1
      next => (simp only [List.getElem?_toArray, List.getElem?_cons_succ, List.getElem?_cons_zero]; rfl)
      next => rfl
      intro K hK
      go_wp2_with fail
      refine hK.out _ _ (by repeat' (first | exact Below.refl _ _ | refine Below.drew ?_ | refine Below.alloc ?_ ?_ _ | (simp; done) | (simp; omega))) (fun hHeld => ?_)
      clear hHeld
      clear hK K
      refine Ord.go_one (i := 7) (by kernel_rfl) (by kernel_rfl) ?_
      apply Ord.go_done1
      next => (simp only [List.getElem?_toArray, List.getElem?_cons_succ, List.getElem?_cons_zero]; rfl)
      next => rfl
      intro K hK
      go_wp2_with fail
      refine hK.out _ _ (by repeat' (first | exact Below.refl _ _ | refine Below.drew ?_ | refine Below.alloc ?_ ?_ _ | (simp; done) | (simp; omega))) (fun hHeld => ?_)
      clear hHeld
      clear hK K
      refine Ord.go_tail ?_; simp only [List.drop_succ_cons, List.drop_zero]
      go_upto_region 16 with fail
      rw [HX.out]
      refine Aid.wp_abs (fun w' => Below W.heap.size W w' ∧ Aid.Has w' (W.heap.size + 1) [.int .i64 K, .int .i64 1, .int .i64 5] 23 ∧ Aid.Has w' (W.heap.size + 1 + 1) [.int .i64 K, .int .i64 (-32769), .int .i64 0] 23 ∧ Aid.Has w' (W.heap.size) [.int .i64 K, .int .i64 42768, .int .i64 0] 23 ∧ Aid.Has w' (W.heap.size + 1 + 1 + 1) [.int .i64 X, .int .i64 0, .int .i64 0] 23) ⟨(by repeat' (first | exact Below.refl _ _ | refine Below.drew ?_ | refine Below.alloc ?_ ?_ _ | (simp; done) | (simp; omega))), (by repeat' (first | refine Aid.Has.drew ?_ | exact has_new2 (by simp) | refine Aid.Has.alloc ?_ _)), (by repeat' (first | refine Aid.Has.drew ?_ | exact has_new2 (by simp) | refine Aid.Has.alloc ?_ _)), (by repeat' (first | refine Aid.Has.drew ?_ | exact has_new2 (by simp) | refine Aid.Has.alloc ?_ _)), (by repeat' (first | refine Aid.Has.drew ?_ | exact has_new2 (by simp) | refine Aid.Has.alloc ?_ _))⟩ (fun V hV => ?_)
      obtain ⟨hbv, h7, h8, h9, h10⟩ := hV
      have hg := HG.out.below hbv hgl
      have HL := HLen.out.below hbv
      have FB := Aid.hid (BW.out.trans (hbv.mono BW.out.size))
      clear hbv
      have q0 := hg.cell 0 _ rfl
      have q1 := hg.cell 1 _ rfl
      have q2 := hg.cell 2 _ rfl
      go_wp2_with fail
      refine (may_is K 1 0 true FG.out _).mono ?_; rintro e w' ⟨rfl, hb⟩
      clear q0 q1 q2
      replace h7 := h7.below hb h7.lt
      replace h8 := h8.below hb h8.lt
      replace h9 := h9.below hb h9.lt
      replace h10 := h10.below hb h10.lt
      replace HL := HL.below hb
      replace FB := Aid.hid (FB.out.trans (hb.mono FB.out.size))
      clear hb
      have q0 := h7.cell 0 _ rfl
      have q1 := h7.cell 1 _ rfl
      have q2 := h7.cell 2 _ rfl
      go_wp2_with fail
      refine (may_is K 1 5 false FE.out _).mono ?_; rintro e w' ⟨rfl, hb⟩
      clear q0 q1 q2
      replace h8 := h8.below hb h8.lt
      replace h9 := h9.below hb h9.lt
      replace h10 := h10.below hb h10.lt
      replace HL := HL.below hb
      replace FB := Aid.hid (FB.out.trans (hb.mono FB.out.size))
      clear hb
      have q0 := h8.cell 0 _ rfl
      have q1 := h8.cell 1 _ rfl
      have q2 := h8.cell 2 _ rfl
      go_wp2_with fail
      refine (may_is K (-32769) 0 false FL.out _).mono ?_; rintro e w' ⟨rfl, hb⟩
      clear q0 q1 q2
      replace h9 := h9.below hb h9.lt
      replace h10 := h10.below hb h10.lt
      replace HL := HL.below hb
      replace FB := Aid.hid (FB.out.trans (hb.mono FB.out.size))
      clear hb
      have q0 := h9.cell 0 _ rfl
      have q1 := h9.cell 1 _ rfl
      have q2 := h9.cell 2 _ rfl
      go_wp2_with fail
      refine (may_is K 42768 0 false FH.out _).mono ?_; rintro e w' ⟨rfl, hb⟩
      clear q0 q1 q2
      replace h10 := h10.below hb h10.lt
      replace HL := HL.below hb
      replace FB := Aid.hid (FB.out.trans (hb.mono FB.out.size))
      clear hb
      have q0 := h10.cell 0 _ rfl
      have q1 := h10.cell 1 _ rfl
      have q2 := h10.cell 2 _ rfl
      go_wp2_with fail
      refine (may_is X 0 0 false FX.out _).mono ?_; rintro e w' ⟨rfl, hb⟩
      clear q0 q1 q2
      replace HL := HL.below hb
      replace FB := Aid.hid (FB.out.trans (hb.mono FB.out.size))
      clear hb
      go_wp2_with fail
      refine (may_is (-K) 0 0 false FM.out _).mono ?_; rintro e w' ⟨rfl, hb⟩
      replace HL := HL.below hb
      replace FB := Aid.hid (FB.out.trans (hb.mono FB.out.size))
      clear hb
      go_wp2_with fail
      refine (awake_any _ HL).mono ?_; rintro e w' ⟨rfl, hb⟩
      go_wp2_with fail
      go_ret
      exact ⟨rfl, FB.out.trans (hb.mono FB.out.size)⟩
    ·
      apply Ord.go_done1
      next => (simp only [List.getElem?_toArray, List.getElem?_cons_succ, List.getElem?_cons_zero]; rfl)
      next => rfl
      intro K hK
      go_wp2_with fail
      refine hK.out _ _ (by repeat' (first | exact Below.refl _ _ | refine Below.drew ?_ | refine Below.alloc ?_ ?_ _ | (simp; done) | (simp; omega))) (fun hHeld => ?_)
      clear hHeld
      clear hK K
      try simp only [Act.put, List.setIfInBounds_toArray, List.set_cons_zero, List.set_cons_succ]
      refine Ord.go_one (i := 3) (by kernel_rfl) (by kernel_rfl) ?_
      apply Ord.go_done1
      next => (simp only [List.getElem?_toArray, List.getElem?_cons_succ, List.getElem?_cons_zero]; rfl)
      next => rfl
      intro K hK
      go_wp2_with fail
      refine hK.out _ _ (by repeat' (first | exact Below.refl _ _ | refine Below.drew ?_ | refine Below.alloc ?_ ?_ _ | (simp; done) | (simp; omega))) (fun hHeld => ?_)
      clear hHeld
      clear hK K
      try simp only [Act.put, List.setIfInBounds_toArray, List.set_cons_zero, List.set_cons_succ]
      refine Ord.go_one (i := 6) (by kernel_rfl) (by kernel_rfl) ?_
      apply Ord.go_done1
      next => (simp only [List.getElem?_toArray, List.getElem?_cons_succ, List.getElem?_cons_zero]; rfl)
      next => rfl
      intro K hK
      go_wp2_with fail
      refine hK.out _ _ (by repeat' (first | exact Below.refl _ _ | refine Below.drew ?_ | refine Below.alloc ?_ ?_ _ | (simp; done) | (simp; omega))) (fun hHeld => ?_)
      clear hHeld
      clear hK K
      refine Ord.go_one (i := 7) (by kernel_rfl) (by kernel_rfl) ?_
      apply Ord.go_done1
      next => (simp only [List.getElem?_toArray, List.getElem?_cons_succ, List.getElem?_cons_zero]; rfl)
      next => rfl
      intro K hK
      go_wp2_with fail
      refine hK.out _ _ (by repeat' (first | exact Below.refl _ _ | refine Below.drew ?_ | refine Below.alloc ?_ ?_ _ | (simp; done) | (simp; omega))) (fun hHeld => ?_)
      clear hHeld
      clear hK K
      refine Ord.go_tail ?_; simp only [List.drop_succ_cons, List.drop_zero]
      go_upto_region 16 with fail
      rw [HX.out]
      refine Aid.wp_abs (fun w' => Below W.heap.size W w' ∧ Aid.Has w' (W.heap.size + 1 + 1) [.int .i64 K, .int .i64 1, .int .i64 5] 23 ∧ Aid.Has w' (W.heap.size + 1) [.int .i64 K, .int .i64 (-32769), .int .i64 0] 23 ∧ Aid.Has w' (W.heap.size) [.int .i64 K, .int .i64 42768, .int .i64 0] 23 ∧ Aid.Has w' (W.heap.size + 1 + 1 + 1) [.int .i64 X, .int .i64 0, .int .i64 0] 23) ⟨(by repeat' (first | exact Below.refl _ _ | refine Below.drew ?_ | refine Below.alloc ?_ ?_ _ | (simp; done) | (simp; omega))), (by repeat' (first | refine Aid.Has.drew ?_ | exact has_new2 (by simp) | refine Aid.Has.alloc ?_ _)), (by repeat' (first | refine Aid.Has.drew ?_ | exact has_new2 (by simp) | refine Aid.Has.alloc ?_ _)), (by repeat' (first | refine Aid.Has.drew ?_ | exact has_new2 (by simp) | refine Aid.Has.alloc ?_ _)), (by repeat' (first | refine Aid.Has.drew ?_ | exact has_new2 (by simp) | refine Aid.Has.alloc ?_ _))⟩ (fun V hV => ?_)
      obtain ⟨hbv, h7, h8, h9, h10⟩ := hV
      have hg := HG.out.below hbv hgl
      have HL := HLen.out.below hbv
      have FB := Aid.hid (BW.out.trans (hbv.mono BW.out.size))
      clear hbv
      have q0 := hg.cell 0 _ rfl
      have q1 := hg.cell 1 _ rfl
      have q2 := hg.cell 2 _ rfl
      go_wp2_with fail
      refine (may_is K 1 0 true FG.out _).mono ?_; rintro e w' ⟨rfl, hb⟩
      clear q0 q1 q2
      replace h7 := h7.below hb h7.lt
      replace h8 := h8.below hb h8.lt
      replace h9 := h9.below hb h9.lt
      replace h10 := h10.below hb h10.lt
      replace HL := HL.below hb
      replace FB := Aid.hid (FB.out.trans (hb.mono FB.out.size))
      clear hb
      have q0 := h7.cell 0 _ rfl
      have q1 := h7.cell 1 _ rfl
      have q2 := h7.cell 2 _ rfl
      go_wp2_with fail
      refine (may_is K 1 5 false FE.out _).mono ?_; rintro e w' ⟨rfl, hb⟩
      clear q0 q1 q2
      replace h8 := h8.below hb h8.lt
      replace h9 := h9.below hb h9.lt
      replace h10 := h10.below hb h10.lt
      replace HL := HL.below hb
      replace FB := Aid.hid (FB.out.trans (hb.mono FB.out.size))
      clear hb
      have q0 := h8.cell 0 _ rfl
      have q1 := h8.cell 1 _ rfl
      have q2 := h8.cell 2 _ rfl
      go_wp2_with fail
      refine (may_is K (-32769) 0 false FL.out _).mono ?_; rintro e w' ⟨rfl, hb⟩
      clear q0 q1 q2
      replace h9 := h9.below hb h9.lt
      replace h10 := h10.below hb h10.lt
      replace HL := HL.below hb
      replace FB := Aid.hid (FB.out.trans (hb.mono FB.out.size))
      clear hb
      have q0 := h9.cell 0 _ rfl
      have q1 := h9.cell 1 _ rfl
      have q2 := h9.cell 2 _ rfl
      go_wp2_with fail
      refine (may_is K 42768 0 false FH.out _).mono ?_; rintro e w' ⟨rfl, hb⟩
      clear q0 q1 q2
      replace h10 := h10.below hb h10.lt
      replace HL := HL.below hb
      replace FB := Aid.hid (FB.out.trans (hb.mono FB.out.size))
      clear hb
      have q0 := h10.cell 0 _ rfl
      have q1 := h10.cell 1 _ rfl
      have q2 := h10.cell 2 _ rfl
      go_wp2_with fail
      refine (may_is X 0 0 false FX.out _).mono ?_; rintro e w' ⟨rfl, hb⟩
      clear q0 q1 q2
      replace HL := HL.below hb
      replace FB := Aid.hid (FB.out.trans (hb.mono FB.out.size))
      clear hb
      go_wp2_with fail
      refine (may_is (-K) 0 0 false FM.out _).mono ?_; rintro e w' ⟨rfl, hb⟩
      replace HL := HL.below hb
      replace FB := Aid.hid (FB.out.trans (hb.mono FB.out.size))
      clear hb
      go_wp2_with fail
      refine (awake_any _ HL).mono ?_; rintro e w' ⟨rfl, hb⟩
      go_wp2_with fail
      go_ret
      exact ⟨rfl, FB.out.trans (hb.mono FB.out.size)⟩

set_option maxRecDepth 100000 in
set_option maxHeartbeats 8000000 in
theorem opBounds_2 (k x K X : Int) (hK : wrap64 (1 + wrap64 ((IntKind.u64.wrap k).tmod 35)) = K) (hX : wrap64 (36 + wrap64 ((IntKind.u64.wrap x).tmod 1000)) = X) (k1 : 1 ≤ K) (k2 : K ≤ 35) (x1 : 36 ≤ X) (hn : Op.operands K = 2) (w : World) (hm : Op.Len w) :
    Calls Tryd.prog 5 #[.int .i64 k, .int .i64 x] w fun e w' => e = .returned (.bool true) ∧ Below w.heap.size w w' := by
  have HN := Aid.hid hn
  have HX := Aid.hid hX
  have FA := Op.bounds_2 K k1 k2 hn
  have FG := Aid.hid FA.1
  have FE := Aid.hid FA.2.1
  have FL := Aid.hid FA.2.2.1
  have FH := Aid.hid FA.2.2.2
  have FX := Aid.hid (Op.none_high X x1)
  have FM := Aid.hid (Op.none_low K k1)
  clear FA
  have G0 := Aid.Has.new w [.int .i64 K, .int .i64 1, .int .i64 1] 23
  have B0 : Below w.heap.size w (w.alloc (.cells #[.int .i64 K, .int .i64 1, .int .i64 1] 23)) := (Below.refl _ _).alloc (Nat.le_refl _) _
  have L0 := hm.below B0
  clear hn hX hm
  go_enter Tryd.func5, Tryd.ntmps5
  try simp only [List.append_eq, List.cons_append, List.nil_append]
  go_wp2_with fail
  rw [hK]
  clear hK
  refine (operands_is K 2 HN.out _).mono ?_; rintro e w' ⟨rfl, rfl⟩
  go_wp2_with fail
  obtain ⟨ob, hob⟩ : ∃ ob, w.heap.size = ob := ⟨_, rfl⟩
  obtain ⟨W, hW⟩ : ∃ W, w.alloc (.cells #[.int .i64 K, .int .i64 1, .int .i64 1] 23) = W := ⟨_, rfl⟩
  rw [hW] at B0 G0 L0 ⊢
  rw [hob] at G0 ⊢
  have BW := Aid.hid B0
  have HLen := Aid.hid L0
  have HG := Aid.hid G0
  have hgl := G0.lt
  clear B0 L0 G0 hW hob
  refine Ord.wp_region_go (fun w' => Below W.heap.size W w') 8 [0, 1, 2] (by kernel_rfl) (by kernel_rfl) (fun _ _ d _ _ h => by cases d <;> exact h) ((Below.refl _ _).drew) ?_
  apply Ord.go_light (i := 0) (by kernel_rfl)
  next => (simp only [List.getElem?_toArray, List.getElem?_cons_zero]; rfl)
  next => rfl
  next => (intro w' hSw; have g := HG.out.below hSw hgl; have q0 := g.cell 0 _ rfl; have q1 := g.cell 1 _ rfl; have q2 := g.cell 2 _ rfl; go_simp; first | done | with_reducible rfl)
  simp only [Act.put, List.setIfInBounds_toArray, List.set_cons_zero, List.set_cons_succ]
  apply Ord.go_light (i := 1) (by kernel_rfl)
  next => (simp only [List.getElem?_toArray, List.getElem?_cons_succ, List.getElem?_cons_zero]; rfl)
  next => rfl
  next => (intro w' hSw; have g := HG.out.below hSw hgl; have q0 := g.cell 0 _ rfl; have q1 := g.cell 1 _ rfl; have q2 := g.cell 2 _ rfl; go_simp; first | done | with_reducible rfl)
  simp only [Act.put, List.setIfInBounds_toArray, List.set_cons_zero, List.set_cons_succ]
  apply Ord.go_light (i := 2) (by kernel_rfl)
  next => (simp only [List.getElem?_toArray, List.getElem?_cons_succ, List.getElem?_cons_zero]; rfl)
  next => rfl
  next => (intro w' hSw; have g := HG.out.below hSw hgl; have q0 := g.cell 0 _ rfl; have q1 := g.cell 1 _ rfl; have q2 := g.cell 2 _ rfl; go_simp; first | done | with_reducible rfl)
  simp only [Act.put, List.setIfInBounds_toArray, List.set_cons_zero, List.set_cons_succ]
  refine Ord.go_three (i := 3) (j := 4) (k := 5) (by kernel_rfl) (by kernel_rfl) ?_ ?_ ?_
  ·
    apply Ord.go_done1
    next => (simp only [List.getElem?_toArray, List.getElem?_cons_succ, List.getElem?_cons_zero]; rfl)
    next => rfl
    intro K hK
    go_wp2_with fail
    refine hK.out _ _ (by repeat' (first | exact Below.refl _ _ | refine Below.drew ?_ | refine Below.alloc ?_ ?_ _ | (simp; done) | (simp; omega))) (fun hHeld => ?_)
    clear hHeld
    clear hK K
    try simp only [Act.put, List.setIfInBounds_toArray, List.set_cons_zero, List.set_cons_succ]
    refine Ord.go_two (i := 4) (j := 5) (by kernel_rfl) (by kernel_rfl) ?_ ?_
    ·
      apply Ord.go_done1
      next => (simp only [List.getElem?_toArray, List.getElem?_cons_succ, List.getElem?_cons_zero]; rfl)
      next => rfl
      intro K hK
      go_wp2_with fail
      refine hK.out _ _ (by repeat' (first | exact Below.refl _ _ | refine Below.drew ?_ | refine Below.alloc ?_ ?_ _ | (simp; done) | (simp; omega))) (fun hHeld => ?_)
      clear hHeld
      clear hK K
      try simp only [Act.put, List.setIfInBounds_toArray, List.set_cons_zero, List.set_cons_succ]
      refine Ord.go_one (i := 5) (by kernel_rfl) (by kernel_rfl) ?_
      apply Ord.go_done1
      next => (simp only [List.getElem?_toArray, List.getElem?_cons_succ, List.getElem?_cons_zero]; rfl)
      next => rfl
      intro K hK
      go_wp2_with fail
      refine hK.out _ _ (by repeat' (first | exact Below.refl _ _ | refine Below.drew ?_ | refine Below.alloc ?_ ?_ _ | (simp; done) | (simp; omega))) (fun hHeld => ?_)
      clear hHeld
      clear hK K
      try simp only [Act.put, List.setIfInBounds_toArray, List.set_cons_zero, List.set_cons_succ]
      refine Ord.go_one (i := 6) (by kernel_rfl) (by kernel_rfl) ?_
      apply Ord.go_done1
      next => (simp only [List.getElem?_toArray, List.getElem?_cons_succ, List.getElem?_cons_zero]; rfl)
      next => rfl
      intro K hK
      go_wp2_with fail
      refine hK.out _ _ (by repeat' (first | exact Below.refl _ _ | refine Below.drew ?_ | refine Below.alloc ?_ ?_ _ | (simp; done) | (simp; omega))) (fun hHeld => ?_)
      clear hHeld
      clear hK K
      refine Ord.go_one (i := 7) (by kernel_rfl) (by kernel_rfl) ?_
      apply Ord.go_done1
      next => (simp only [List.getElem?_toArray, List.getElem?_cons_succ, List.getElem?_cons_zero]; rfl)
      next => rfl
      intro K hK
      go_wp2_with fail
      refine hK.out _ _ (by repeat' (first | exact Below.refl _ _ | refine Below.drew ?_ | refine Below.alloc ?_ ?_ _ | (simp; done) | (simp; omega))) (fun hHeld => ?_)
      clear hHeld
      clear hK K
      refine Ord.go_tail ?_; simp only [List.drop_succ_cons, List.drop_zero]
      go_upto_region 16 with fail
      rw [HX.out]
      refine Aid.wp_abs (fun w' => Below W.heap.size W w' ∧ Aid.Has w' (W.heap.size) [.int .i64 K, .int .i64 1, .int .i64 5] 23 ∧ Aid.Has w' (W.heap.size + 1) [.int .i64 K, .int .i64 (-32769), .int .i64 1] 23 ∧ Aid.Has w' (W.heap.size + 1 + 1) [.int .i64 K, .int .i64 42768, .int .i64 1] 23 ∧ Aid.Has w' (W.heap.size + 1 + 1 + 1) [.int .i64 X, .int .i64 0, .int .i64 0] 23) ⟨(by repeat' (first | exact Below.refl _ _ | refine Below.drew ?_ | refine Below.alloc ?_ ?_ _ | (simp; done) | (simp; omega))), (by repeat' (first | refine Aid.Has.drew ?_ | exact has_new2 (by simp) | refine Aid.Has.alloc ?_ _)), (by repeat' (first | refine Aid.Has.drew ?_ | exact has_new2 (by simp) | refine Aid.Has.alloc ?_ _)), (by repeat' (first | refine Aid.Has.drew ?_ | exact has_new2 (by simp) | refine Aid.Has.alloc ?_ _)), (by repeat' (first | refine Aid.Has.drew ?_ | exact has_new2 (by simp) | refine Aid.Has.alloc ?_ _))⟩ (fun V hV => ?_)
      obtain ⟨hbv, h7, h8, h9, h10⟩ := hV
      have hg := HG.out.below hbv hgl
      have HL := HLen.out.below hbv
      have FB := Aid.hid (BW.out.trans (hbv.mono BW.out.size))
      clear hbv
      have q0 := hg.cell 0 _ rfl
      have q1 := hg.cell 1 _ rfl
      have q2 := hg.cell 2 _ rfl
      go_wp2_with fail
      refine (may_is K 1 1 true FG.out _).mono ?_; rintro e w' ⟨rfl, hb⟩
      clear q0 q1 q2
      replace h7 := h7.below hb h7.lt
      replace h8 := h8.below hb h8.lt
      replace h9 := h9.below hb h9.lt
      replace h10 := h10.below hb h10.lt
      replace HL := HL.below hb
      replace FB := Aid.hid (FB.out.trans (hb.mono FB.out.size))
      clear hb
      have q0 := h8.cell 0 _ rfl
      have q1 := h8.cell 1 _ rfl
      have q2 := h8.cell 2 _ rfl
      go_wp2_with fail
      refine (may_is K (-32769) 1 false FL.out _).mono ?_; rintro e w' ⟨rfl, hb⟩
      clear q0 q1 q2
      replace h9 := h9.below hb h9.lt
      replace h10 := h10.below hb h10.lt
      replace HL := HL.below hb
      replace FB := Aid.hid (FB.out.trans (hb.mono FB.out.size))
      clear hb
      have q0 := h9.cell 0 _ rfl
      have q1 := h9.cell 1 _ rfl
      have q2 := h9.cell 2 _ rfl
      go_wp2_with fail
      refine (may_is K 42768 1 false FH.out _).mono ?_; rintro e w' ⟨rfl, hb⟩
      clear q0 q1 q2
      replace h10 := h10.below hb h10.lt
      replace HL := HL.below hb
      replace FB := Aid.hid (FB.out.trans (hb.mono FB.out.size))
      clear hb
      have q0 := h10.cell 0 _ rfl
      have q1 := h10.cell 1 _ rfl
      have q2 := h10.cell 2 _ rfl
      go_wp2_with fail
      refine (may_is X 0 0 false FX.out _).mono ?_; rintro e w' ⟨rfl, hb⟩
      clear q0 q1 q2
      replace HL := HL.below hb
      replace FB := Aid.hid (FB.out.trans (hb.mono FB.out.size))
      clear hb
      go_wp2_with fail
      refine (may_is (-K) 0 0 false FM.out _).mono ?_; rintro e w' ⟨rfl, hb⟩
      replace HL := HL.below hb
      replace FB := Aid.hid (FB.out.trans (hb.mono FB.out.size))
      clear hb
      go_wp2_with fail
      refine (awake_any _ HL).mono ?_; rintro e w' ⟨rfl, hb⟩
      go_wp2_with fail
      go_ret
      exact ⟨rfl, FB.out.trans (hb.mono FB.out.size)⟩
    ·
      apply Ord.go_done1
      next => (simp only [List.getElem?_toArray, List.getElem?_cons_succ, List.getElem?_cons_zero]; rfl)
      next => rfl
      intro K hK
      go_wp2_with fail
      refine hK.out _ _ (by repeat' (first | exact Below.refl _ _ | refine Below.drew ?_ | refine Below.alloc ?_ ?_ _ | (simp; done) | (simp; omega))) (fun hHeld => ?_)
      clear hHeld
      clear hK K
      try simp only [Act.put, List.setIfInBounds_toArray, List.set_cons_zero, List.set_cons_succ]
      refine Ord.go_one (i := 4) (by kernel_rfl) (by kernel_rfl) ?_
      apply Ord.go_done1
      next => (simp only [List.getElem?_toArray, List.getElem?_cons_succ, List.getElem?_cons_zero]; rfl)
      next => rfl
      intro K hK
      go_wp2_with fail
      refine hK.out _ _ (by repeat' (first | exact Below.refl _ _ | refine Below.drew ?_ | refine Below.alloc ?_ ?_ _ | (simp; done) | (simp; omega))) (fun hHeld => ?_)
      clear hHeld
      clear hK K
      try simp only [Act.put, List.setIfInBounds_toArray, List.set_cons_zero, List.set_cons_succ]
      refine Ord.go_one (i := 6) (by kernel_rfl) (by kernel_rfl) ?_
      apply Ord.go_done1
      next => (simp only [List.getElem?_toArray, List.getElem?_cons_succ, List.getElem?_cons_zero]; rfl)
      next => rfl
      intro K hK
      go_wp2_with fail
      refine hK.out _ _ (by repeat' (first | exact Below.refl _ _ | refine Below.drew ?_ | refine Below.alloc ?_ ?_ _ | (simp; done) | (simp; omega))) (fun hHeld => ?_)
      clear hHeld
      clear hK K
      refine Ord.go_one (i := 7) (by kernel_rfl) (by kernel_rfl) ?_
      apply Ord.go_done1
      next => (simp only [List.getElem?_toArray, List.getElem?_cons_succ, List.getElem?_cons_zero]; rfl)
      next => rfl
      intro K hK
      go_wp2_with fail
      refine hK.out _ _ (by repeat' (first | exact Below.refl _ _ | refine Below.drew ?_ | refine Below.alloc ?_ ?_ _ | (simp; done) | (simp; omega))) (fun hHeld => ?_)
      clear hHeld
      clear hK K
      refine Ord.go_tail ?_; simp only [List.drop_succ_cons, List.drop_zero]
      go_upto_region 16 with fail
      rw [HX.out]
      refine Aid.wp_abs (fun w' => Below W.heap.size W w' ∧ Aid.Has w' (W.heap.size) [.int .i64 K, .int .i64 1, .int .i64 5] 23 ∧ Aid.Has w' (W.heap.size + 1 + 1) [.int .i64 K, .int .i64 (-32769), .int .i64 1] 23 ∧ Aid.Has w' (W.heap.size + 1) [.int .i64 K, .int .i64 42768, .int .i64 1] 23 ∧ Aid.Has w' (W.heap.size + 1 + 1 + 1) [.int .i64 X, .int .i64 0, .int .i64 0] 23) ⟨(by repeat' (first | exact Below.refl _ _ | refine Below.drew ?_ | refine Below.alloc ?_ ?_ _ | (simp; done) | (simp; omega))), (by repeat' (first | refine Aid.Has.drew ?_ | exact has_new2 (by simp) | refine Aid.Has.alloc ?_ _)), (by repeat' (first | refine Aid.Has.drew ?_ | exact has_new2 (by simp) | refine Aid.Has.alloc ?_ _)), (by repeat' (first | refine Aid.Has.drew ?_ | exact has_new2 (by simp) | refine Aid.Has.alloc ?_ _)), (by repeat' (first | refine Aid.Has.drew ?_ | exact has_new2 (by simp) | refine Aid.Has.alloc ?_ _))⟩ (fun V hV => ?_)
      obtain ⟨hbv, h7, h8, h9, h10⟩ := hV
      have hg := HG.out.below hbv hgl
      have HL := HLen.out.below hbv
      have FB := Aid.hid (BW.out.trans (hbv.mono BW.out.size))
      clear hbv
      have q0 := hg.cell 0 _ rfl
      have q1 := hg.cell 1 _ rfl
      have q2 := hg.cell 2 _ rfl
      go_wp2_with fail
      refine (may_is K 1 1 true FG.out _).mono ?_; rintro e w' ⟨rfl, hb⟩
      clear q0 q1 q2
      replace h7 := h7.below hb h7.lt
      replace h8 := h8.below hb h8.lt
      replace h9 := h9.below hb h9.lt
      replace h10 := h10.below hb h10.lt
      replace HL := HL.below hb
      replace FB := Aid.hid (FB.out.trans (hb.mono FB.out.size))
      clear hb
      have q0 := h8.cell 0 _ rfl
      have q1 := h8.cell 1 _ rfl
      have q2 := h8.cell 2 _ rfl
      go_wp2_with fail
      refine (may_is K (-32769) 1 false FL.out _).mono ?_; rintro e w' ⟨rfl, hb⟩
      clear q0 q1 q2
      replace h9 := h9.below hb h9.lt
      replace h10 := h10.below hb h10.lt
      replace HL := HL.below hb
      replace FB := Aid.hid (FB.out.trans (hb.mono FB.out.size))
      clear hb
      have q0 := h9.cell 0 _ rfl
      have q1 := h9.cell 1 _ rfl
      have q2 := h9.cell 2 _ rfl
      go_wp2_with fail
      refine (may_is K 42768 1 false FH.out _).mono ?_; rintro e w' ⟨rfl, hb⟩
      clear q0 q1 q2
      replace h10 := h10.below hb h10.lt
      replace HL := HL.below hb
      replace FB := Aid.hid (FB.out.trans (hb.mono FB.out.size))
      clear hb
      have q0 := h10.cell 0 _ rfl
      have q1 := h10.cell 1 _ rfl
      have q2 := h10.cell 2 _ rfl
      go_wp2_with fail
      refine (may_is X 0 0 false FX.out _).mono ?_; rintro e w' ⟨rfl, hb⟩
      clear q0 q1 q2
      replace HL := HL.below hb
      replace FB := Aid.hid (FB.out.trans (hb.mono FB.out.size))
      clear hb
      go_wp2_with fail
      refine (may_is (-K) 0 0 false FM.out _).mono ?_; rintro e w' ⟨rfl, hb⟩
      replace HL := HL.below hb
      replace FB := Aid.hid (FB.out.trans (hb.mono FB.out.size))
      clear hb
      go_wp2_with fail
      refine (awake_any _ HL).mono ?_; rintro e w' ⟨rfl, hb⟩
      go_wp2_with fail
      go_ret
      exact ⟨rfl, FB.out.trans (hb.mono FB.out.size)⟩
  ·
    apply Ord.go_done1
    next => (simp only [List.getElem?_toArray, List.getElem?_cons_succ, List.getElem?_cons_zero]; rfl)
    next => rfl
    intro K hK
    go_wp2_with fail
    refine hK.out _ _ (by repeat' (first | exact Below.refl _ _ | refine Below.drew ?_ | refine Below.alloc ?_ ?_ _ | (simp; done) | (simp; omega))) (fun hHeld => ?_)
    clear hHeld
    clear hK K
    try simp only [Act.put, List.setIfInBounds_toArray, List.set_cons_zero, List.set_cons_succ]
    refine Ord.go_two (i := 3) (j := 5) (by kernel_rfl) (by kernel_rfl) ?_ ?_
    ·
      apply Ord.go_done1
      next => (simp only [List.getElem?_toArray, List.getElem?_cons_succ, List.getElem?_cons_zero]; rfl)
      next => rfl
      intro K hK
      go_wp2_with fail
      refine hK.out _ _ (by repeat' (first | exact Below.refl _ _ | refine Below.drew ?_ | refine Below.alloc ?_ ?_ _ | (simp; done) | (simp; omega))) (fun hHeld => ?_)
      clear hHeld
      clear hK K
      try simp only [Act.put, List.setIfInBounds_toArray, List.set_cons_zero, List.set_cons_succ]
      refine Ord.go_one (i := 5) (by kernel_rfl) (by kernel_rfl) ?_
      apply Ord.go_done1
      next => (simp only [List.getElem?_toArray, List.getElem?_cons_succ, List.getElem?_cons_zero]; rfl)
      next => rfl
      intro K hK
      go_wp2_with fail
      refine hK.out _ _ (by repeat' (first | exact Below.refl _ _ | refine Below.drew ?_ | refine Below.alloc ?_ ?_ _ | (simp; done) | (simp; omega))) (fun hHeld => ?_)
      clear hHeld
      clear hK K
      try simp only [Act.put, List.setIfInBounds_toArray, List.set_cons_zero, List.set_cons_succ]
      refine Ord.go_one (i := 6) (by kernel_rfl) (by kernel_rfl) ?_
      apply Ord.go_done1
      next => (simp only [List.getElem?_toArray, List.getElem?_cons_succ, List.getElem?_cons_zero]; rfl)
      next => rfl
      intro K hK
      go_wp2_with fail
      refine hK.out _ _ (by repeat' (first | exact Below.refl _ _ | refine Below.drew ?_ | refine Below.alloc ?_ ?_ _ | (simp; done) | (simp; omega))) (fun hHeld => ?_)
      clear hHeld
      clear hK K
      refine Ord.go_one (i := 7) (by kernel_rfl) (by kernel_rfl) ?_
      apply Ord.go_done1
      next => (simp only [List.getElem?_toArray, List.getElem?_cons_succ, List.getElem?_cons_zero]; rfl)
      next => rfl
      intro K hK
      go_wp2_with fail
      refine hK.out _ _ (by repeat' (first | exact Below.refl _ _ | refine Below.drew ?_ | refine Below.alloc ?_ ?_ _ | (simp; done) | (simp; omega))) (fun hHeld => ?_)
      clear hHeld
      clear hK K
      refine Ord.go_tail ?_; simp only [List.drop_succ_cons, List.drop_zero]
      go_upto_region 16 with fail
      rw [HX.out]
      refine Aid.wp_abs (fun w' => Below W.heap.size W w' ∧ Aid.Has w' (W.heap.size + 1) [.int .i64 K, .int .i64 1, .int .i64 5] 23 ∧ Aid.Has w' (W.heap.size) [.int .i64 K, .int .i64 (-32769), .int .i64 1] 23 ∧ Aid.Has w' (W.heap.size + 1 + 1) [.int .i64 K, .int .i64 42768, .int .i64 1] 23 ∧ Aid.Has w' (W.heap.size + 1 + 1 + 1) [.int .i64 X, .int .i64 0, .int .i64 0] 23) ⟨(by repeat' (first | exact Below.refl _ _ | refine Below.drew ?_ | refine Below.alloc ?_ ?_ _ | (simp; done) | (simp; omega))), (by repeat' (first | refine Aid.Has.drew ?_ | exact has_new2 (by simp) | refine Aid.Has.alloc ?_ _)), (by repeat' (first | refine Aid.Has.drew ?_ | exact has_new2 (by simp) | refine Aid.Has.alloc ?_ _)), (by repeat' (first | refine Aid.Has.drew ?_ | exact has_new2 (by simp) | refine Aid.Has.alloc ?_ _)), (by repeat' (first | refine Aid.Has.drew ?_ | exact has_new2 (by simp) | refine Aid.Has.alloc ?_ _))⟩ (fun V hV => ?_)
      obtain ⟨hbv, h7, h8, h9, h10⟩ := hV
      have hg := HG.out.below hbv hgl
      have HL := HLen.out.below hbv
      have FB := Aid.hid (BW.out.trans (hbv.mono BW.out.size))
      clear hbv
      have q0 := hg.cell 0 _ rfl
      have q1 := hg.cell 1 _ rfl
      have q2 := hg.cell 2 _ rfl
      go_wp2_with fail
      refine (may_is K 1 1 true FG.out _).mono ?_; rintro e w' ⟨rfl, hb⟩
      clear q0 q1 q2
      replace h7 := h7.below hb h7.lt
      replace h8 := h8.below hb h8.lt
      replace h9 := h9.below hb h9.lt
      replace h10 := h10.below hb h10.lt
      replace HL := HL.below hb
      replace FB := Aid.hid (FB.out.trans (hb.mono FB.out.size))
      clear hb
      have q0 := h8.cell 0 _ rfl
      have q1 := h8.cell 1 _ rfl
      have q2 := h8.cell 2 _ rfl
      go_wp2_with fail
      refine (may_is K (-32769) 1 false FL.out _).mono ?_; rintro e w' ⟨rfl, hb⟩
      clear q0 q1 q2
      replace h9 := h9.below hb h9.lt
      replace h10 := h10.below hb h10.lt
      replace HL := HL.below hb
      replace FB := Aid.hid (FB.out.trans (hb.mono FB.out.size))
      clear hb
      have q0 := h9.cell 0 _ rfl
      have q1 := h9.cell 1 _ rfl
      have q2 := h9.cell 2 _ rfl
      go_wp2_with fail
      refine (may_is K 42768 1 false FH.out _).mono ?_; rintro e w' ⟨rfl, hb⟩
      clear q0 q1 q2
      replace h10 := h10.below hb h10.lt
      replace HL := HL.below hb
      replace FB := Aid.hid (FB.out.trans (hb.mono FB.out.size))
      clear hb
      have q0 := h10.cell 0 _ rfl
      have q1 := h10.cell 1 _ rfl
      have q2 := h10.cell 2 _ rfl
      go_wp2_with fail
      refine (may_is X 0 0 false FX.out _).mono ?_; rintro e w' ⟨rfl, hb⟩
      clear q0 q1 q2
      replace HL := HL.below hb
      replace FB := Aid.hid (FB.out.trans (hb.mono FB.out.size))
      clear hb
      go_wp2_with fail
      refine (may_is (-K) 0 0 false FM.out _).mono ?_; rintro e w' ⟨rfl, hb⟩
      replace HL := HL.below hb
      replace FB := Aid.hid (FB.out.trans (hb.mono FB.out.size))
      clear hb
      go_wp2_with fail
      refine (awake_any _ HL).mono ?_; rintro e w' ⟨rfl, hb⟩
      go_wp2_with fail
      go_ret
      exact ⟨rfl, FB.out.trans (hb.mono FB.out.size)⟩
    ·
      apply Ord.go_done1
      next => (simp only [List.getElem?_toArray, List.getElem?_cons_succ, List.getElem?_cons_zero]; rfl)
      next => rfl
      intro K hK
      go_wp2_with fail
      refine hK.out _ _ (by repeat' (first | exact Below.refl _ _ | refine Below.drew ?_ | refine Below.alloc ?_ ?_ _ | (simp; done) | (simp; omega))) (fun hHeld => ?_)
      clear hHeld
      clear hK K
      try simp only [Act.put, List.setIfInBounds_toArray, List.set_cons_zero, List.set_cons_succ]
      refine Ord.go_one (i := 3) (by kernel_rfl) (by kernel_rfl) ?_
      apply Ord.go_done1
      next => (simp only [List.getElem?_toArray, List.getElem?_cons_succ, List.getElem?_cons_zero]; rfl)
      next => rfl
      intro K hK
      go_wp2_with fail
      refine hK.out _ _ (by repeat' (first | exact Below.refl _ _ | refine Below.drew ?_ | refine Below.alloc ?_ ?_ _ | (simp; done) | (simp; omega))) (fun hHeld => ?_)
      clear hHeld
      clear hK K
      try simp only [Act.put, List.setIfInBounds_toArray, List.set_cons_zero, List.set_cons_succ]
      refine Ord.go_one (i := 6) (by kernel_rfl) (by kernel_rfl) ?_
      apply Ord.go_done1
      next => (simp only [List.getElem?_toArray, List.getElem?_cons_succ, List.getElem?_cons_zero]; rfl)
      next => rfl
      intro K hK
      go_wp2_with fail
      refine hK.out _ _ (by repeat' (first | exact Below.refl _ _ | refine Below.drew ?_ | refine Below.alloc ?_ ?_ _ | (simp; done) | (simp; omega))) (fun hHeld => ?_)
      clear hHeld
      clear hK K
      refine Ord.go_one (i := 7) (by kernel_rfl) (by kernel_rfl) ?_
      apply Ord.go_done1
      next => (simp only [List.getElem?_toArray, List.getElem?_cons_succ, List.getElem?_cons_zero]; rfl)
      next => rfl
      intro K hK
      go_wp2_with fail
      refine hK.out _ _ (by repeat' (first | exact Below.refl _ _ | refine Below.drew ?_ | refine Below.alloc ?_ ?_ _ | (simp; done) | (simp; omega))) (fun hHeld => ?_)
      clear hHeld
      clear hK K
      refine Ord.go_tail ?_; simp only [List.drop_succ_cons, List.drop_zero]
      go_upto_region 16 with fail
      rw [HX.out]
      refine Aid.wp_abs (fun w' => Below W.heap.size W w' ∧ Aid.Has w' (W.heap.size + 1 + 1) [.int .i64 K, .int .i64 1, .int .i64 5] 23 ∧ Aid.Has w' (W.heap.size) [.int .i64 K, .int .i64 (-32769), .int .i64 1] 23 ∧ Aid.Has w' (W.heap.size + 1) [.int .i64 K, .int .i64 42768, .int .i64 1] 23 ∧ Aid.Has w' (W.heap.size + 1 + 1 + 1) [.int .i64 X, .int .i64 0, .int .i64 0] 23) ⟨(by repeat' (first | exact Below.refl _ _ | refine Below.drew ?_ | refine Below.alloc ?_ ?_ _ | (simp; done) | (simp; omega))), (by repeat' (first | refine Aid.Has.drew ?_ | exact has_new2 (by simp) | refine Aid.Has.alloc ?_ _)), (by repeat' (first | refine Aid.Has.drew ?_ | exact has_new2 (by simp) | refine Aid.Has.alloc ?_ _)), (by repeat' (first | refine Aid.Has.drew ?_ | exact has_new2 (by simp) | refine Aid.Has.alloc ?_ _)), (by repeat' (first | refine Aid.Has.drew ?_ | exact has_new2 (by simp) | refine Aid.Has.alloc ?_ _))⟩ (fun V hV => ?_)
      obtain ⟨hbv, h7, h8, h9, h10⟩ := hV
      have hg := HG.out.below hbv hgl
      have HL := HLen.out.below hbv
      have FB := Aid.hid (BW.out.trans (hbv.mono BW.out.size))
      clear hbv
      have q0 := hg.cell 0 _ rfl
      have q1 := hg.cell 1 _ rfl
      have q2 := hg.cell 2 _ rfl
      go_wp2_with fail
      refine (may_is K 1 1 true FG.out _).mono ?_; rintro e w' ⟨rfl, hb⟩
      clear q0 q1 q2
      replace h7 := h7.below hb h7.lt
      replace h8 := h8.below hb h8.lt
      replace h9 := h9.below hb h9.lt
      replace h10 := h10.below hb h10.lt
      replace HL := HL.below hb
      replace FB := Aid.hid (FB.out.trans (hb.mono FB.out.size))
      clear hb
      have q0 := h8.cell 0 _ rfl
      have q1 := h8.cell 1 _ rfl
      have q2 := h8.cell 2 _ rfl
      go_wp2_with fail
      refine (may_is K (-32769) 1 false FL.out _).mono ?_; rintro e w' ⟨rfl, hb⟩
      clear q0 q1 q2
      replace h9 := h9.below hb h9.lt
      replace h10 := h10.below hb h10.lt
      replace HL := HL.below hb
      replace FB := Aid.hid (FB.out.trans (hb.mono FB.out.size))
      clear hb
      have q0 := h9.cell 0 _ rfl
      have q1 := h9.cell 1 _ rfl
      have q2 := h9.cell 2 _ rfl
      go_wp2_with fail
      refine (may_is K 42768 1 false FH.out _).mono ?_; rintro e w' ⟨rfl, hb⟩
      clear q0 q1 q2
      replace h10 := h10.below hb h10.lt
      replace HL := HL.below hb
      replace FB := Aid.hid (FB.out.trans (hb.mono FB.out.size))
      clear hb
      have q0 := h10.cell 0 _ rfl
      have q1 := h10.cell 1 _ rfl
      have q2 := h10.cell 2 _ rfl
      go_wp2_with fail
      refine (may_is X 0 0 false FX.out _).mono ?_; rintro e w' ⟨rfl, hb⟩
      clear q0 q1 q2
      replace HL := HL.below hb
      replace FB := Aid.hid (FB.out.trans (hb.mono FB.out.size))
      clear hb
      go_wp2_with fail
      refine (may_is (-K) 0 0 false FM.out _).mono ?_; rintro e w' ⟨rfl, hb⟩
      replace HL := HL.below hb
      replace FB := Aid.hid (FB.out.trans (hb.mono FB.out.size))
      clear hb
      go_wp2_with fail
      refine (awake_any _ HL).mono ?_; rintro e w' ⟨rfl, hb⟩
      go_wp2_with fail
      go_ret
      exact ⟨rfl, FB.out.trans (hb.mono FB.out.size)⟩
  ·
    apply Ord.go_done1
    next => (simp only [List.getElem?_toArray, List.getElem?_cons_succ, List.getElem?_cons_zero]; rfl)
    next => rfl
    intro K hK
    go_wp2_with fail
    refine hK.out _ _ (by repeat' (first | exact Below.refl _ _ | refine Below.drew ?_ | refine Below.alloc ?_ ?_ _ | (simp; done) | (simp; omega))) (fun hHeld => ?_)
    clear hHeld
    clear hK K
    try simp only [Act.put, List.setIfInBounds_toArray, List.set_cons_zero, List.set_cons_succ]
    refine Ord.go_two (i := 3) (j := 4) (by kernel_rfl) (by kernel_rfl) ?_ ?_
    ·
      apply Ord.go_done1
      next => (simp only [List.getElem?_toArray, List.getElem?_cons_succ, List.getElem?_cons_zero]; rfl)
      next => rfl
      intro K hK
      go_wp2_with fail
      refine hK.out _ _ (by repeat' (first | exact Below.refl _ _ | refine Below.drew ?_ | refine Below.alloc ?_ ?_ _ | (simp; done) | (simp; omega))) (fun hHeld => ?_)
      clear hHeld
      clear hK K
      try simp only [Act.put, List.setIfInBounds_toArray, List.set_cons_zero, List.set_cons_succ]
      refine Ord.go_one (i := 4) (by kernel_rfl) (by kernel_rfl) ?_
      apply Ord.go_done1
      next => (simp only [List.getElem?_toArray, List.getElem?_cons_succ, List.getElem?_cons_zero]; rfl)
      next => rfl
      intro K hK
      go_wp2_with fail
      refine hK.out _ _ (by repeat' (first | exact Below.refl _ _ | refine Below.drew ?_ | refine Below.alloc ?_ ?_ _ | (simp; done) | (simp; omega))) (fun hHeld => ?_)
      clear hHeld
      clear hK K
      try simp only [Act.put, List.setIfInBounds_toArray, List.set_cons_zero, List.set_cons_succ]
      refine Ord.go_one (i := 6) (by kernel_rfl) (by kernel_rfl) ?_
      apply Ord.go_done1
      next => (simp only [List.getElem?_toArray, List.getElem?_cons_succ, List.getElem?_cons_zero]; rfl)
      next => rfl
      intro K hK
      go_wp2_with fail
      refine hK.out _ _ (by repeat' (first | exact Below.refl _ _ | refine Below.drew ?_ | refine Below.alloc ?_ ?_ _ | (simp; done) | (simp; omega))) (fun hHeld => ?_)
      clear hHeld
      clear hK K
      refine Ord.go_one (i := 7) (by kernel_rfl) (by kernel_rfl) ?_
      apply Ord.go_done1
      next => (simp only [List.getElem?_toArray, List.getElem?_cons_succ, List.getElem?_cons_zero]; rfl)
      next => rfl
      intro K hK
      go_wp2_with fail
      refine hK.out _ _ (by repeat' (first | exact Below.refl _ _ | refine Below.drew ?_ | refine Below.alloc ?_ ?_ _ | (simp; done) | (simp; omega))) (fun hHeld => ?_)
      clear hHeld
      clear hK K
      refine Ord.go_tail ?_; simp only [List.drop_succ_cons, List.drop_zero]
      go_upto_region 16 with fail
      rw [HX.out]
      refine Aid.wp_abs (fun w' => Below W.heap.size W w' ∧ Aid.Has w' (W.heap.size + 1) [.int .i64 K, .int .i64 1, .int .i64 5] 23 ∧ Aid.Has w' (W.heap.size + 1 + 1) [.int .i64 K, .int .i64 (-32769), .int .i64 1] 23 ∧ Aid.Has w' (W.heap.size) [.int .i64 K, .int .i64 42768, .int .i64 1] 23 ∧ Aid.Has w' (W.heap.size + 1 + 1 + 1) [.int .i64 X, .int .i64 0, .int .i64 0] 23) ⟨(by repeat' (first | exact Below.refl _ _ | refine Below.drew ?_ | refine Below.alloc ?_ ?_ _ | (simp; done) | (simp; omega))), (by repeat' (first | refine Aid.Has.drew ?_ | exact has_new2 (by simp) | refine Aid.Has.alloc ?_ _)), (by repeat' (first | refine Aid.Has.drew ?_ | exact has_new2 (by simp) | refine Aid.Has.alloc ?_ _)), (by repeat' (first | refine Aid.Has.drew ?_ | exact has_new2 (by simp) | refine Aid.Has.alloc ?_ _)), (by repeat' (first | refine Aid.Has.drew ?_ | exact has_new2 (by simp) | refine Aid.Has.alloc ?_ _))⟩ (fun V hV => ?_)
      obtain ⟨hbv, h7, h8, h9, h10⟩ := hV
      have hg := HG.out.below hbv hgl
      have HL := HLen.out.below hbv
      have FB := Aid.hid (BW.out.trans (hbv.mono BW.out.size))
      clear hbv
      have q0 := hg.cell 0 _ rfl
      have q1 := hg.cell 1 _ rfl
      have q2 := hg.cell 2 _ rfl
      go_wp2_with fail
      refine (may_is K 1 1 true FG.out _).mono ?_; rintro e w' ⟨rfl, hb⟩
      clear q0 q1 q2
      replace h7 := h7.below hb h7.lt
      replace h8 := h8.below hb h8.lt
      replace h9 := h9.below hb h9.lt
      replace h10 := h10.below hb h10.lt
      replace HL := HL.below hb
      replace FB := Aid.hid (FB.out.trans (hb.mono FB.out.size))
      clear hb
      have q0 := h8.cell 0 _ rfl
      have q1 := h8.cell 1 _ rfl
      have q2 := h8.cell 2 _ rfl
      go_wp2_with fail
      refine (may_is K (-32769) 1 false FL.out _).mono ?_; rintro e w' ⟨rfl, hb⟩
      clear q0 q1 q2
      replace h9 := h9.below hb h9.lt
      replace h10 := h10.below hb h10.lt
      replace HL := HL.below hb
      replace FB := Aid.hid (FB.out.trans (hb.mono FB.out.size))
      clear hb
      have q0 := h9.cell 0 _ rfl
      have q1 := h9.cell 1 _ rfl
      have q2 := h9.cell 2 _ rfl
      go_wp2_with fail
      refine (may_is K 42768 1 false FH.out _).mono ?_; rintro e w' ⟨rfl, hb⟩
      clear q0 q1 q2
      replace h10 := h10.below hb h10.lt
      replace HL := HL.below hb
      replace FB := Aid.hid (FB.out.trans (hb.mono FB.out.size))
      clear hb
      have q0 := h10.cell 0 _ rfl
      have q1 := h10.cell 1 _ rfl
      have q2 := h10.cell 2 _ rfl
      go_wp2_with fail
      refine (may_is X 0 0 false FX.out _).mono ?_; rintro e w' ⟨rfl, hb⟩
      clear q0 q1 q2
      replace HL := HL.below hb
      replace FB := Aid.hid (FB.out.trans (hb.mono FB.out.size))
      clear hb
      go_wp2_with fail
      refine (may_is (-K) 0 0 false FM.out _).mono ?_; rintro e w' ⟨rfl, hb⟩
      replace HL := HL.below hb
      replace FB := Aid.hid (FB.out.trans (hb.mono FB.out.size))
      clear hb
      go_wp2_with fail
      refine (awake_any _ HL).mono ?_; rintro e w' ⟨rfl, hb⟩
      go_wp2_with fail
      go_ret
      exact ⟨rfl, FB.out.trans (hb.mono FB.out.size)⟩
    ·
      apply Ord.go_done1
      next => (simp only [List.getElem?_toArray, List.getElem?_cons_succ, List.getElem?_cons_zero]; rfl)
      next => rfl
      intro K hK
      go_wp2_with fail
      refine hK.out _ _ (by repeat' (first | exact Below.refl _ _ | refine Below.drew ?_ | refine Below.alloc ?_ ?_ _ | (simp; done) | (simp; omega))) (fun hHeld => ?_)
      clear hHeld
      clear hK K
      try simp only [Act.put, List.setIfInBounds_toArray, List.set_cons_zero, List.set_cons_succ]
      refine Ord.go_one (i := 3) (by kernel_rfl) (by kernel_rfl) ?_
      apply Ord.go_done1
      next => (simp only [List.getElem?_toArray, List.getElem?_cons_succ, List.getElem?_cons_zero]; rfl)
      next => rfl
      intro K hK
      go_wp2_with fail
      refine hK.out _ _ (by repeat' (first | exact Below.refl _ _ | refine Below.drew ?_ | refine Below.alloc ?_ ?_ _ | (simp; done) | (simp; omega))) (fun hHeld => ?_)
      clear hHeld
      clear hK K
      try simp only [Act.put, List.setIfInBounds_toArray, List.set_cons_zero, List.set_cons_succ]
      refine Ord.go_one (i := 6) (by kernel_rfl) (by kernel_rfl) ?_
      apply Ord.go_done1
      next => (simp only [List.getElem?_toArray, List.getElem?_cons_succ, List.getElem?_cons_zero]; rfl)
      next => rfl
      intro K hK
      go_wp2_with fail
      refine hK.out _ _ (by repeat' (first | exact Below.refl _ _ | refine Below.drew ?_ | refine Below.alloc ?_ ?_ _ | (simp; done) | (simp; omega))) (fun hHeld => ?_)
      clear hHeld
      clear hK K
      refine Ord.go_one (i := 7) (by kernel_rfl) (by kernel_rfl) ?_
      apply Ord.go_done1
      next => (simp only [List.getElem?_toArray, List.getElem?_cons_succ, List.getElem?_cons_zero]; rfl)
      next => rfl
      intro K hK
      go_wp2_with fail
      refine hK.out _ _ (by repeat' (first | exact Below.refl _ _ | refine Below.drew ?_ | refine Below.alloc ?_ ?_ _ | (simp; done) | (simp; omega))) (fun hHeld => ?_)
      clear hHeld
      clear hK K
      refine Ord.go_tail ?_; simp only [List.drop_succ_cons, List.drop_zero]
      go_upto_region 16 with fail
      rw [HX.out]
      refine Aid.wp_abs (fun w' => Below W.heap.size W w' ∧ Aid.Has w' (W.heap.size + 1 + 1) [.int .i64 K, .int .i64 1, .int .i64 5] 23 ∧ Aid.Has w' (W.heap.size + 1) [.int .i64 K, .int .i64 (-32769), .int .i64 1] 23 ∧ Aid.Has w' (W.heap.size) [.int .i64 K, .int .i64 42768, .int .i64 1] 23 ∧ Aid.Has w' (W.heap.size + 1 + 1 + 1) [.int .i64 X, .int .i64 0, .int .i64 0] 23) ⟨(by repeat' (first | exact Below.refl _ _ | refine Below.drew ?_ | refine Below.alloc ?_ ?_ _ | (simp; done) | (simp; omega))), (by repeat' (first | refine Aid.Has.drew ?_ | exact has_new2 (by simp) | refine Aid.Has.alloc ?_ _)), (by repeat' (first | refine Aid.Has.drew ?_ | exact has_new2 (by simp) | refine Aid.Has.alloc ?_ _)), (by repeat' (first | refine Aid.Has.drew ?_ | exact has_new2 (by simp) | refine Aid.Has.alloc ?_ _)), (by repeat' (first | refine Aid.Has.drew ?_ | exact has_new2 (by simp) | refine Aid.Has.alloc ?_ _))⟩ (fun V hV => ?_)
      obtain ⟨hbv, h7, h8, h9, h10⟩ := hV
      have hg := HG.out.below hbv hgl
      have HL := HLen.out.below hbv
      have FB := Aid.hid (BW.out.trans (hbv.mono BW.out.size))
      clear hbv
      have q0 := hg.cell 0 _ rfl
      have q1 := hg.cell 1 _ rfl
      have q2 := hg.cell 2 _ rfl
      go_wp2_with fail
      refine (may_is K 1 1 true FG.out _).mono ?_; rintro e w' ⟨rfl, hb⟩
      clear q0 q1 q2
      replace h7 := h7.below hb h7.lt
      replace h8 := h8.below hb h8.lt
      replace h9 := h9.below hb h9.lt
      replace h10 := h10.below hb h10.lt
      replace HL := HL.below hb
      replace FB := Aid.hid (FB.out.trans (hb.mono FB.out.size))
      clear hb
      have q0 := h8.cell 0 _ rfl
      have q1 := h8.cell 1 _ rfl
      have q2 := h8.cell 2 _ rfl
      go_wp2_with fail
      refine (may_is K (-32769) 1 false FL.out _).mono ?_; rintro e w' ⟨rfl, hb⟩
      clear q0 q1 q2
      replace h9 := h9.below hb h9.lt
      replace h10 := h10.below hb h10.lt
      replace HL := HL.below hb
      replace FB := Aid.hid (FB.out.trans (hb.mono FB.out.size))
      clear hb
      have q0 := h9.cell 0 _ rfl
      have q1 := h9.cell 1 _ rfl
      have q2 := h9.cell 2 _ rfl
      go_wp2_with fail
      refine (may_is K 42768 1 false FH.out _).mono ?_; rintro e w' ⟨rfl, hb⟩
      clear q0 q1 q2
      replace h10 := h10.below hb h10.lt
      replace HL := HL.below hb
      replace FB := Aid.hid (FB.out.trans (hb.mono FB.out.size))
      clear hb
      have q0 := h10.cell 0 _ rfl
      have q1 := h10.cell 1 _ rfl
      have q2 := h10.cell 2 _ rfl
      go_wp2_with fail
      refine (may_is X 0 0 false FX.out _).mono ?_; rintro e w' ⟨rfl, hb⟩
      clear q0 q1 q2
      replace HL := HL.below hb
      replace FB := Aid.hid (FB.out.trans (hb.mono FB.out.size))
      clear hb
      go_wp2_with fail
      refine (may_is (-K) 0 0 false FM.out _).mono ?_; rintro e w' ⟨rfl, hb⟩
      replace HL := HL.below hb
      replace FB := Aid.hid (FB.out.trans (hb.mono FB.out.size))
      clear hb
      go_wp2_with fail
      refine (awake_any _ HL).mono ?_; rintro e w' ⟨rfl, hb⟩
      go_wp2_with fail
      go_ret
      exact ⟨rfl, FB.out.trans (hb.mono FB.out.size)⟩

theorem Op.rem_in (x n : Int) (h : 0 < n) (h' : n ≤ 100000) : 0 ≤ wrap64 ((IntKind.u64.wrap x).tmod n) ∧ wrap64 ((IntKind.u64.wrap x).tmod n) < n := by
  have e1 : IntKind.u64.wrap x = x % 18446744073709551616 := by simp [IntKind.wrap, IntKind.bits, IntKind.signed]
  rw [e1, Int.tmod_eq_emod_of_nonneg (by omega)]
  have h1 := Int.emod_nonneg (x % 18446744073709551616) (b := n) (by omega)
  have h2 := Int.emod_lt_of_pos (x % 18446744073709551616) h
  unfold wrap64; omega
theorem opBounds_any (k x : Int) (w : World) (hm : Op.Len w) :
    Calls Tryd.prog 5 #[.int .i64 k, .int .i64 x] w fun e w' => e = .returned (.bool true) ∧ Below w.heap.size w w' := by
  have h1 := Op.rem_in k 35 (by decide) (by decide)
  have h2 := Op.rem_in x 1000 (by decide) (by decide)
  obtain ⟨K, hK⟩ : ∃ K, wrap64 (1 + wrap64 ((IntKind.u64.wrap k).tmod 35)) = K := ⟨_, rfl⟩
  obtain ⟨X, hX⟩ : ∃ X, wrap64 (36 + wrap64 ((IntKind.u64.wrap x).tmod 1000)) = X := ⟨_, rfl⟩
  have k1 : 1 ≤ K ∧ K ≤ 35 := by
    rw [← hK]; generalize wrap64 ((IntKind.u64.wrap k).tmod 35) = y at *; unfold wrap64; omega
  have x1 : 36 ≤ X := by
    rw [← hX]; generalize wrap64 ((IntKind.u64.wrap x).tmod 1000) = y at *; unfold wrap64; omega
  have hn : Op.operands K = 0 ∨ Op.operands K = 1 ∨ Op.operands K = 2 := by
    unfold Op.operands
    split
    · exact Or.inr (Or.inr rfl)
    · split
      · exact Or.inl rfl
      · first | exact Or.inr (Or.inl rfl) | (rw [if_pos k1]; exact Or.inr (Or.inl rfl))
  rcases hn with hn | hn | hn
  · exact opBounds_0 k x K X hK hX k1.1 k1.2 x1 hn w hm
  · exact opBounds_1 k x K X hK hX k1.1 k1.2 x1 hn w hm
  · exact opBounds_2 k x K X hK hX k1.1 k1.2 x1 hn w hm
end Go.Proofs.YtbclpknmeaaajaaDoor
