/- governorlaw10.awake, as a walk; and a step of each timer in the laws' own words. -/
import Derived.Test.YtamalbkiblgbdaaBlockT
import Derived.Test.YtamalbkiblgbdaaBlockC
import Derived.Test.YtamalbkiblgbdaaLow
namespace Go.Proofs.Ytamalbkiblgbdaa
open Go.RowKit

/-- A step of a block that is on so long. -/
theorem ton_run (t d pt c c' : Int) (q1 q1' : Bool) (w : World) (h1 : 0 ≤ t) (h2 : 1 ≤ pt) (h3 : pt ≤ 100) (h4 : 0 ≤ d) (h5 : d ≤ 20)
    (hc : c = min t pt) (hc' : c' = min (t + d) pt) (hq : q1' = decide (pt ≤ t + d)) :
    Calls Try.prog 8 #[.agg #[.int .i64 1, .bool q1, .bool true, .bool true, .int .i64 c], .bool true, .int .i64 pt, .int .i64 d] w
      fun e w' => e = .returned (.agg #[.int .i64 1, .bool q1', .bool true, .bool true, .int .i64 c']) ∧ Below w.heap.size w w' := by
  have h := ton_any q1 true true true c pt d pt d w (by unfold Bk.clip; omega) (by unfold Bk.clip; omega) (by omega) (by omega)
  refine h.mono ?_
  rintro e w' ⟨rfl, hb⟩
  refine ⟨?_, hb⟩
  have e1 : min (c + d) pt = c' := by omega
  have e2 : decide (pt ≤ min (c + d) pt) = q1' := by rw [hq, decide_eq_decide]; omega
  simp only [Bk.ton, Bk.v, if_true, e1]
  rw [← e2, e1]
theorem tof_run (t d pt c c' : Int) (q q' : Bool) (w : World) (h1 : 0 ≤ t) (h2 : 1 ≤ pt) (h3 : pt ≤ 100) (h4 : 0 ≤ d) (h5 : d ≤ 20)
    (hc : c = min t pt) (hc' : c' = min (t + d) pt) (hq0 : q = decide (t < pt)) (hq : q' = decide (t + d < pt)) :
    Calls Try.prog 8 #[.agg #[.int .i64 2, .bool q, .bool false, .bool false, .int .i64 c], .bool false, .int .i64 pt, .int .i64 d] w
      fun e w' => e = .returned (.agg #[.int .i64 2, .bool q', .bool false, .bool false, .int .i64 c']) ∧ Below w.heap.size w w' := by
  have h := tof_any q false false false c pt d pt d w (by unfold Bk.clip; omega) (by unfold Bk.clip; omega) (by omega) (by omega)
  refine h.mono ?_
  rintro e w' ⟨rfl, hb⟩
  refine ⟨?_, hb⟩
  have e1 : min (c + d) pt = c' := by omega
  have e2 : decide (c' < pt) = q' := by rw [hq, decide_eq_decide]; omega
  by_cases h : t < pt
  · have : q = true := by rw [hq0]; simpa using h
    subst this
    simp only [Bk.tof, Bk.v, Bool.false_eq_true, if_false, if_true, e1, e2]
  · have : q = false := by rw [hq0]; simpa using h
    subst this
    have : q' = false := by rw [hq]; simp; omega
    subst this
    have : c = c' := by omega
    subst this
    simp only [Bk.tof, Bk.v, Bool.false_eq_true, if_false]
theorem tp_run (t d pt c c' : Int) (q q' l i : Bool) (w : World) (h1 : 0 ≤ t) (h2 : 1 ≤ pt) (h3 : pt ≤ 100) (h4 : 0 ≤ d) (h5 : d ≤ 20)
    (hc : c = min t pt) (hc' : c' = min (t + d) pt) (hq0 : q = decide (t < pt)) (hq : q' = decide (t + d < pt)) (hi : i = true → t + d < pt) :
    Calls Try.prog 8 #[.agg #[.int .i64 3, .bool q, .bool l, .bool q, .int .i64 c], .bool i, .int .i64 pt, .int .i64 d] w
      fun e w' => e = .returned (.agg #[.int .i64 3, .bool q', .bool i, .bool q', .int .i64 c']) ∧ Below w.heap.size w w' := by
  have h := tp_any q l q i c pt d pt d w (by unfold Bk.clip; omega) (by unfold Bk.clip; omega) (by omega) (by omega)
  refine h.mono ?_
  rintro e w' ⟨rfl, hb⟩
  refine ⟨?_, hb⟩
  have e1 : min (c + d) pt = c' := by omega
  have e2 : decide (c' < pt) = q' := by rw [hq, decide_eq_decide]; omega
  by_cases h : t < pt
  · have : q = true := by rw [hq0]; simpa using h
    subst this
    simp only [Bk.tp, Bk.v, if_true, e1, e2]
  · have : q = false := by rw [hq0]; simpa using h
    subst this
    have : q' = false := by rw [hq]; simp; omega
    subst this
    have : i = false := by cases i; rfl; have := hi rfl; omega
    subst this
    have : c = c' := by omega
    subst this
    simp [Bk.tp, Bk.v]

set_option maxRecDepth 100000 in
set_option maxHeartbeats 1000000 in
theorem awake_any (w : World) :
    Calls Try.prog 6 #[] w fun e w' => e = .returned (.bool true) ∧ Below w.heap.size w w' := by
  go_enter Try.func6, Try.ntmps6
  try simp only [List.append_eq, List.cons_append, List.nil_append]
  go_wp2_with fail
  refine (new_any _ _).mono ?_; rintro e w1 ⟨rfl, hb1⟩
  unfold Bk.v
  go_wp2_with fail
  refine (ton_to false false false true false true true 0 3 2 0 _ rfl (by decide) (by decide)).mono ?_; rintro e w2 ⟨rfl, hb2⟩
  have L1 : w.heap.size ≤ w1.heap.size := hb1.size
  have H1 : Aid.Has w2 w1.heap.size [.int .i64 1, .bool false, .bool false, .bool false, .int .i64 0] 26 := Aid.Has.below (Aid.Has.new _ _ _) hb2 (by simp)
  have B1 : Below w.heap.size w w2 := (hb1.alloc L1 _).trans (hb2.mono (by simp; omega))
  generalize w1.heap.size = b1 at *
  clear hb1 hb2
  have c0 := H1.cell 0 _ rfl
  have c1 := H1.cell 1 _ rfl
  have c2 := H1.cell 2 _ rfl
  have c3 := H1.cell 3 _ rfl
  have c4 := H1.cell 4 _ rfl
  have cf := H1.frozen
  go_wp2_with fail
  refine (ton_to false true true true false true true 0 3 2 2 _ rfl (by decide) (by decide)).mono ?_; rintro e w3 ⟨rfl, hb3⟩
  have H2 : Aid.Has w3 b1 [.int .i64 1, .bool false, .bool true, .bool true, .int .i64 0] 26 := Aid.Has.below (((((H1.set 0 _).set 1 _).set 2 _).set 3 _).set 4 _) hb3 (by simpa [Aid.size_setCell] using H1.lt)
  have B2 : Below w.heap.size w w3 := (((((B1.setCell L1 _).setCell L1 _).setCell L1 _).setCell L1 _).setCell L1 _).trans (hb3.mono (by simpa [Aid.size_setCell] using B1.size))
  clear H1 B1 hb3 c0 c1 c2 c3 c4 cf
  have L2 : w.heap.size ≤ w3.heap.size := B2.size
  have N2 : b1 ≠ w3.heap.size := by have := H2.lt; omega
  have c0 := H2.cell 0 _ rfl
  have c1 := H2.cell 1 _ rfl
  have c2 := H2.cell 2 _ rfl
  have c3 := H2.cell 3 _ rfl
  have c4 := H2.cell 4 _ rfl
  have cf := H2.frozen
  go_wp2_with fail
  refine (ton_to false true true true true true true 2 3 2 3 _ rfl (by decide) (by decide)).mono ?_; rintro e w4 ⟨rfl, hb4⟩
  have H3 : Aid.Has w4 b1 [.int .i64 1, .bool false, .bool true, .bool true, .int .i64 0] 26 := Aid.Has.below (H2.alloc _) hb4 (by have := H2.lt; simp; omega)
  have H4 : Aid.Has w4 w3.heap.size [.int .i64 1, .bool false, .bool true, .bool true, .int .i64 2] 26 := Aid.Has.below (Aid.Has.new _ _ _) hb4 (by simp)
  have B3 : Below w.heap.size w w4 := (B2.alloc L2 _).trans (hb4.mono (by simp; omega))
  clear H2 B2 hb4 c0 c1 c2 c3 c4 cf
  generalize w3.heap.size = b2 at *
  have L3 : w.heap.size ≤ w4.heap.size := B3.size
  have N3 := H3.lt
  have N4 := H4.lt
  have c0 := H3.cell 0 _ rfl
  have c1 := H3.cell 1 _ rfl
  have c2 := H3.cell 2 _ rfl
  have c3 := H3.cell 3 _ rfl
  have c4 := H3.cell 4 _ rfl
  have cf := H3.frozen
  have d0 := H4.cell 0 _ rfl
  have d1 := H4.cell 1 _ rfl
  have d2 := H4.cell 2 _ rfl
  have d3 := H4.cell 3 _ rfl
  have d4 := H4.cell 4 _ rfl
  have df := H4.frozen
  go_wp2_with fail
  go_ret
  trace_state
  exact ⟨rfl, B3.alloc L3 _⟩
end Go.Proofs.Ytamalbkiblgbdaa
