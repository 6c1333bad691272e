/- Package block: a step of the timers. -/
import Derived.Test.YtamalbkiblgbdaaProg
import Derived.Test.YtamalbkiblgbdaaAid
import Derived.Test.YtamalbkiblgbdaaBlockA
import Derived.WalkKit
import Derived.WalkSpells
import Derived.WalkLawsBesides
namespace Go.Proofs.Ytamalbkiblgbdaa
open Go.RowKit

set_option maxRecDepth 100000 in
set_option maxHeartbeats 1600000 in
theorem ton_any (q l o i : Bool) (cv pt dt p d : Int) (w : World) (hp : Bk.clip pt 32767 = p) (hd : Bk.clip dt 1000 = d) (h0 : 0 ≤ cv) (h1 : cv ≤ 32767) :
    Calls Try.prog 8 #[Bk.v ⟨1, q, l, o, cv⟩, .bool i, .int .i64 pt, .int .i64 dt] w fun e w' => e = .returned (Bk.ton ⟨1, q, l, o, cv⟩ i p d).v ∧ Below w.heap.size w w' := by
  have p0 : 0 ≤ p := hp ▸ (Bk.clip_in pt 32767 (by decide)).1
  have p1 : p ≤ 32767 := hp ▸ (Bk.clip_in pt 32767 (by decide)).2
  have d0 : 0 ≤ d := hd ▸ (Bk.clip_in dt 1000 (by decide)).1
  have d1 : d ≤ 1000 := hd ▸ (Bk.clip_in dt 1000 (by decide)).2
  have F1 := Aid.hid hp; have F2 := Aid.hid hd; clear hp hd
  unfold Bk.v
  cases i <;> cases o
  all_goals
    go_enter Try.func8, Try.ntmps8
    try simp only [List.append_eq, List.cons_append, List.nil_append]
    go_wp2_with fail
    refine (clip_is _ _ p F1.out _).mono ?_; rintro e w' ⟨rfl, rfl⟩
    go_wp2_with fail
    refine (clip_is _ _ d F2.out _).mono ?_; rintro e w' ⟨rfl, rfl⟩
    go_wp2_with fail
  all_goals
    refine bodyPost_ret (v := (Bk.ton ⟨1, _, _, _, cv⟩ _ p d).v) ?h1 rfl ⟨rfl, ?h2⟩
    case h1 => simp [results, Try.results8, go_sem, Bk.v, Bk.ton] <;> (first | omega | grind)
    case h2 => exact ((Below.refl _ _).alloc (Nat.le_refl _) _).alloc (by simp) _

theorem ton_to (q l o i q' l' o' : Bool) (cv pt dt cv' : Int) (w : World) (e : Bk.ton ⟨1, q, l, o, cv⟩ i (Bk.clip pt 32767) (Bk.clip dt 1000) = ⟨1, q', l', o', cv'⟩) (h0 : 0 ≤ cv) (h1 : cv ≤ 32767) :
    Calls Try.prog 8 #[.agg #[.int .i64 1, .bool q, .bool l, .bool o, .int .i64 cv], .bool i, .int .i64 pt, .int .i64 dt] w
      fun x w' => x = .returned (.agg #[.int .i64 1, .bool q', .bool l', .bool o', .int .i64 cv']) ∧ Below w.heap.size w w' := by
  have h := ton_any q l o i cv pt dt _ _ w rfl rfl h0 h1
  rw [e] at h; exact h

set_option maxRecDepth 100000 in
set_option maxHeartbeats 1600000 in
theorem tof_any (q l o i : Bool) (cv pt dt p d : Int) (w : World) (hp : Bk.clip pt 32767 = p) (hd : Bk.clip dt 1000 = d) (h0 : 0 ≤ cv) (h1 : cv ≤ 32767) :
    Calls Try.prog 8 #[Bk.v ⟨2, q, l, o, cv⟩, .bool i, .int .i64 pt, .int .i64 dt] w fun e w' => e = .returned (Bk.tof ⟨2, q, l, o, cv⟩ i p d).v ∧ Below w.heap.size w w' := by
  have p0 : 0 ≤ p := hp ▸ (Bk.clip_in pt 32767 (by decide)).1
  have p1 : p ≤ 32767 := hp ▸ (Bk.clip_in pt 32767 (by decide)).2
  have d0 : 0 ≤ d := hd ▸ (Bk.clip_in dt 1000 (by decide)).1
  have d1 : d ≤ 1000 := hd ▸ (Bk.clip_in dt 1000 (by decide)).2
  have F1 := Aid.hid hp; have F2 := Aid.hid hd; clear hp hd
  unfold Bk.v
  cases i <;> cases q
  all_goals
    go_enter Try.func8, Try.ntmps8
    try simp only [List.append_eq, List.cons_append, List.nil_append]
    go_wp2_with fail
    refine (clip_is _ _ p F1.out _).mono ?_; rintro e w' ⟨rfl, rfl⟩
    go_wp2_with fail
    refine (clip_is _ _ d F2.out _).mono ?_; rintro e w' ⟨rfl, rfl⟩
    go_wp2_with fail
  all_goals
    refine bodyPost_ret (v := (Bk.tof ⟨2, _, _, _, cv⟩ _ p d).v) ?h1 rfl ⟨rfl, ?h2⟩
    case h1 => simp [results, Try.results8, go_sem, Bk.v, Bk.tof] <;> (first | omega | grind)
    case h2 => exact ((Below.refl _ _).alloc (Nat.le_refl _) _).alloc (by simp) _

theorem tof_to (q l o i q' l' o' : Bool) (cv pt dt cv' : Int) (w : World) (e : Bk.tof ⟨2, q, l, o, cv⟩ i (Bk.clip pt 32767) (Bk.clip dt 1000) = ⟨2, q', l', o', cv'⟩) (h0 : 0 ≤ cv) (h1 : cv ≤ 32767) :
    Calls Try.prog 8 #[.agg #[.int .i64 2, .bool q, .bool l, .bool o, .int .i64 cv], .bool i, .int .i64 pt, .int .i64 dt] w
      fun x w' => x = .returned (.agg #[.int .i64 2, .bool q', .bool l', .bool o', .int .i64 cv']) ∧ Below w.heap.size w w' := by
  have h := tof_any q l o i cv pt dt _ _ w rfl rfl h0 h1
  rw [e] at h; exact h

set_option maxRecDepth 100000 in
set_option maxHeartbeats 1600000 in
theorem tp_any (q l o i : Bool) (cv pt dt p d : Int) (w : World) (hp : Bk.clip pt 32767 = p) (hd : Bk.clip dt 1000 = d) (h0 : 0 ≤ cv) (h1 : cv ≤ 32767) :
    Calls Try.prog 8 #[Bk.v ⟨3, q, l, o, cv⟩, .bool i, .int .i64 pt, .int .i64 dt] w fun e w' => e = .returned (Bk.tp ⟨3, q, l, o, cv⟩ i p d).v ∧ Below w.heap.size w w' := by
  have p0 : 0 ≤ p := hp ▸ (Bk.clip_in pt 32767 (by decide)).1
  have p1 : p ≤ 32767 := hp ▸ (Bk.clip_in pt 32767 (by decide)).2
  have d0 : 0 ≤ d := hd ▸ (Bk.clip_in dt 1000 (by decide)).1
  have d1 : d ≤ 1000 := hd ▸ (Bk.clip_in dt 1000 (by decide)).2
  have F1 := Aid.hid hp; have F2 := Aid.hid hd; clear hp hd
  unfold Bk.v
  cases i <;> cases o <;> cases l
  all_goals
    go_enter Try.func8, Try.ntmps8
    try simp only [List.append_eq, List.cons_append, List.nil_append]
    go_wp2_with fail
    refine (clip_is _ _ p F1.out _).mono ?_; rintro e w' ⟨rfl, rfl⟩
    go_wp2_with fail
    refine (clip_is _ _ d F2.out _).mono ?_; rintro e w' ⟨rfl, rfl⟩
    go_wp2_with fail
  all_goals
    refine bodyPost_ret (v := (Bk.tp ⟨3, _, _, _, cv⟩ _ p d).v) ?h1 rfl ⟨rfl, ?h2⟩
    case h1 => simp [results, Try.results8, go_sem, Bk.v, Bk.tp] <;> (first | omega | grind)
    case h2 => exact ((Below.refl _ _).alloc (Nat.le_refl _) _).alloc (by simp) _

theorem tp_to (q l o i q' l' o' : Bool) (cv pt dt cv' : Int) (w : World) (e : Bk.tp ⟨3, q, l, o, cv⟩ i (Bk.clip pt 32767) (Bk.clip dt 1000) = ⟨3, q', l', o', cv'⟩) (h0 : 0 ≤ cv) (h1 : cv ≤ 32767) :
    Calls Try.prog 8 #[.agg #[.int .i64 3, .bool q, .bool l, .bool o, .int .i64 cv], .bool i, .int .i64 pt, .int .i64 dt] w
      fun x w' => x = .returned (.agg #[.int .i64 3, .bool q', .bool l', .bool o', .int .i64 cv']) ∧ Below w.heap.size w w' := by
  have h := tp_any q l o i cv pt dt _ _ w rfl rfl h0 h1
  rw [e] at h; exact h

end Go.Proofs.Ytamalbkiblgbdaa
