/- Package block: a step of the counters and edges. -/
import Derived.Test.YtamalbkiblgbdaaProg
import Derived.Test.YtamalbkiblgbdaaAid
import Derived.Test.YtamalbkiblgbdaaBlockA
import Derived.WalkKit
import Derived.WalkSpells
import Derived.WalkLawsBesides
namespace Go.Proofs.Ytamalbkiblgbdaa
open Go.RowKit

set_option maxRecDepth 100000 in
set_option maxHeartbeats 1600000 in
theorem ctu_any (q l o i : Bool) (cv pt dt p d : Int) (w : World) (hp : Bk.clip pt 32767 = p) (hd : Bk.clip dt 1000 = d) (h0 : 0 ≤ cv) (h1 : cv ≤ 32767) :
    Calls Try.prog 8 #[Bk.v ⟨4, q, l, o, cv⟩, .bool i, .int .i64 pt, .int .i64 dt] w fun e w' => e = .returned (Bk.ctu ⟨4, q, l, o, cv⟩ i p).v ∧ Below w.heap.size w w' := by
  have p0 : 0 ≤ p := hp ▸ (Bk.clip_in pt 32767 (by decide)).1
  have p1 : p ≤ 32767 := hp ▸ (Bk.clip_in pt 32767 (by decide)).2
  have d0 : 0 ≤ d := hd ▸ (Bk.clip_in dt 1000 (by decide)).1
  have d1 : d ≤ 1000 := hd ▸ (Bk.clip_in dt 1000 (by decide)).2
  have F1 := Aid.hid hp; have F2 := Aid.hid hd; clear hp hd
  unfold Bk.v
  cases i <;> cases l
  all_goals
    go_enter Try.func8, Try.ntmps8
    try simp only [List.append_eq, List.cons_append, List.nil_append]
    go_wp2_with fail
    refine (clip_is _ _ p F1.out _).mono ?_; rintro e w' ⟨rfl, rfl⟩
    go_wp2_with fail
    refine (clip_is _ _ d F2.out _).mono ?_; rintro e w' ⟨rfl, rfl⟩
    go_wp2_with fail
  all_goals
    refine bodyPost_ret (v := (Bk.ctu ⟨4, _, _, _, cv⟩ _ p).v) ?h1 rfl ⟨rfl, ?h2⟩
    case h1 => simp [results, Try.results8, go_sem, Bk.v, Bk.ctu] <;> (first | omega | grind)
    case h2 => exact ((Below.refl _ _).alloc (Nat.le_refl _) _).alloc (by simp) _

theorem ctu_to (q l o i q' l' o' : Bool) (cv pt dt cv' : Int) (w : World) (e : Bk.ctu ⟨4, q, l, o, cv⟩ i (Bk.clip pt 32767) = ⟨4, q', l', o', cv'⟩) (h0 : 0 ≤ cv) (h1 : cv ≤ 32767) :
    Calls Try.prog 8 #[.agg #[.int .i64 4, .bool q, .bool l, .bool o, .int .i64 cv], .bool i, .int .i64 pt, .int .i64 dt] w
      fun x w' => x = .returned (.agg #[.int .i64 4, .bool q', .bool l', .bool o', .int .i64 cv']) ∧ Below w.heap.size w w' := by
  have h := ctu_any q l o i cv pt dt _ _ w rfl rfl h0 h1
  rw [e] at h; exact h

set_option maxRecDepth 100000 in
set_option maxHeartbeats 1600000 in
theorem ctd_any (q l o i : Bool) (cv pt dt p d : Int) (w : World) (hp : Bk.clip pt 32767 = p) (hd : Bk.clip dt 1000 = d) (h0 : 0 ≤ cv) (h1 : cv ≤ 32767) :
    Calls Try.prog 8 #[Bk.v ⟨5, q, l, o, cv⟩, .bool i, .int .i64 pt, .int .i64 dt] w fun e w' => e = .returned (Bk.ctd ⟨5, q, l, o, cv⟩ i p).v ∧ Below w.heap.size w w' := by
  have p0 : 0 ≤ p := hp ▸ (Bk.clip_in pt 32767 (by decide)).1
  have p1 : p ≤ 32767 := hp ▸ (Bk.clip_in pt 32767 (by decide)).2
  have d0 : 0 ≤ d := hd ▸ (Bk.clip_in dt 1000 (by decide)).1
  have d1 : d ≤ 1000 := hd ▸ (Bk.clip_in dt 1000 (by decide)).2
  have F1 := Aid.hid hp; have F2 := Aid.hid hd; clear hp hd
  unfold Bk.v
  cases i <;> cases o <;> cases l
  all_goals
    go_enter Try.func8, Try.ntmps8
    try simp only [List.append_eq, List.cons_append, List.nil_append]
    go_wp2_with fail
    refine (clip_is _ _ p F1.out _).mono ?_; rintro e w' ⟨rfl, rfl⟩
    go_wp2_with fail
    refine (clip_is _ _ d F2.out _).mono ?_; rintro e w' ⟨rfl, rfl⟩
    go_wp2_with fail
  all_goals
    refine bodyPost_ret (v := (Bk.ctd ⟨5, _, _, _, cv⟩ _ p).v) ?h1 rfl ⟨rfl, ?h2⟩
    case h1 => simp [results, Try.results8, go_sem, Bk.v, Bk.ctd] <;> (first | omega | grind)
    case h2 => exact ((Below.refl _ _).alloc (Nat.le_refl _) _).alloc (by simp) _

theorem ctd_to (q l o i q' l' o' : Bool) (cv pt dt cv' : Int) (w : World) (e : Bk.ctd ⟨5, q, l, o, cv⟩ i (Bk.clip pt 32767) = ⟨5, q', l', o', cv'⟩) (h0 : 0 ≤ cv) (h1 : cv ≤ 32767) :
    Calls Try.prog 8 #[.agg #[.int .i64 5, .bool q, .bool l, .bool o, .int .i64 cv], .bool i, .int .i64 pt, .int .i64 dt] w
      fun x w' => x = .returned (.agg #[.int .i64 5, .bool q', .bool l', .bool o', .int .i64 cv']) ∧ Below w.heap.size w w' := by
  have h := ctd_any q l o i cv pt dt _ _ w rfl rfl h0 h1
  rw [e] at h; exact h

set_option maxRecDepth 100000 in
set_option maxHeartbeats 1600000 in
theorem rt_any (q l o i : Bool) (cv pt dt p d : Int) (w : World) (hp : Bk.clip pt 32767 = p) (hd : Bk.clip dt 1000 = d) (_h0 : 0 ≤ cv) (_h1 : cv ≤ 32767) :
    Calls Try.prog 8 #[Bk.v ⟨6, q, l, o, cv⟩, .bool i, .int .i64 pt, .int .i64 dt] w fun e w' => e = .returned (Bk.rt ⟨6, q, l, o, cv⟩ i).v ∧ Below w.heap.size w w' := by
  have p0 : 0 ≤ p := hp ▸ (Bk.clip_in pt 32767 (by decide)).1
  have p1 : p ≤ 32767 := hp ▸ (Bk.clip_in pt 32767 (by decide)).2
  have d0 : 0 ≤ d := hd ▸ (Bk.clip_in dt 1000 (by decide)).1
  have d1 : d ≤ 1000 := hd ▸ (Bk.clip_in dt 1000 (by decide)).2
  have F1 := Aid.hid hp; have F2 := Aid.hid hd; clear hp hd
  unfold Bk.v
  cases i <;> cases l
  all_goals
    go_enter Try.func8, Try.ntmps8
    try simp only [List.append_eq, List.cons_append, List.nil_append]
    go_wp2_with fail
    refine (clip_is _ _ p F1.out _).mono ?_; rintro e w' ⟨rfl, rfl⟩
    go_wp2_with fail
    refine (clip_is _ _ d F2.out _).mono ?_; rintro e w' ⟨rfl, rfl⟩
    go_wp2_with fail
  all_goals
    refine bodyPost_ret (v := (Bk.rt ⟨6, _, _, _, cv⟩ _).v) ?h1 rfl ⟨rfl, ?h2⟩
    case h1 => simp [results, Try.results8, go_sem, Bk.v, Bk.rt] <;> (first | omega | grind)
    case h2 => exact ((Below.refl _ _).alloc (Nat.le_refl _) _).alloc (by simp) _

theorem rt_to (q l o i q' l' o' : Bool) (cv pt dt cv' : Int) (w : World) (e : Bk.rt ⟨6, q, l, o, cv⟩ i = ⟨6, q', l', o', cv'⟩) (h0 : 0 ≤ cv) (h1 : cv ≤ 32767) :
    Calls Try.prog 8 #[.agg #[.int .i64 6, .bool q, .bool l, .bool o, .int .i64 cv], .bool i, .int .i64 pt, .int .i64 dt] w
      fun x w' => x = .returned (.agg #[.int .i64 6, .bool q', .bool l', .bool o', .int .i64 cv']) ∧ Below w.heap.size w w' := by
  have h := rt_any q l o i cv pt dt _ _ w rfl rfl h0 h1
  rw [e] at h; exact h

set_option maxRecDepth 100000 in
set_option maxHeartbeats 1600000 in
theorem ft_any (q l o i : Bool) (cv pt dt p d : Int) (w : World) (hp : Bk.clip pt 32767 = p) (hd : Bk.clip dt 1000 = d) (_h0 : 0 ≤ cv) (_h1 : cv ≤ 32767) :
    Calls Try.prog 8 #[Bk.v ⟨7, q, l, o, cv⟩, .bool i, .int .i64 pt, .int .i64 dt] w fun e w' => e = .returned (Bk.ft ⟨7, q, l, o, cv⟩ i).v ∧ Below w.heap.size w w' := by
  have p0 : 0 ≤ p := hp ▸ (Bk.clip_in pt 32767 (by decide)).1
  have p1 : p ≤ 32767 := hp ▸ (Bk.clip_in pt 32767 (by decide)).2
  have d0 : 0 ≤ d := hd ▸ (Bk.clip_in dt 1000 (by decide)).1
  have d1 : d ≤ 1000 := hd ▸ (Bk.clip_in dt 1000 (by decide)).2
  have F1 := Aid.hid hp; have F2 := Aid.hid hd; clear hp hd
  unfold Bk.v
  cases i <;> cases l
  all_goals
    go_enter Try.func8, Try.ntmps8
    try simp only [List.append_eq, List.cons_append, List.nil_append]
    go_wp2_with fail
    refine (clip_is _ _ p F1.out _).mono ?_; rintro e w' ⟨rfl, rfl⟩
    go_wp2_with fail
    refine (clip_is _ _ d F2.out _).mono ?_; rintro e w' ⟨rfl, rfl⟩
    go_wp2_with fail
  all_goals
    refine bodyPost_ret (v := (Bk.ft ⟨7, _, _, _, cv⟩ _).v) ?h1 rfl ⟨rfl, ?h2⟩
    case h1 => simp [results, Try.results8, go_sem, Bk.v, Bk.ft] <;> (first | omega | grind)
    case h2 => exact ((Below.refl _ _).alloc (Nat.le_refl _) _).alloc (by simp) _

theorem ft_to (q l o i q' l' o' : Bool) (cv pt dt cv' : Int) (w : World) (e : Bk.ft ⟨7, q, l, o, cv⟩ i = ⟨7, q', l', o', cv'⟩) (h0 : 0 ≤ cv) (h1 : cv ≤ 32767) :
    Calls Try.prog 8 #[.agg #[.int .i64 7, .bool q, .bool l, .bool o, .int .i64 cv], .bool i, .int .i64 pt, .int .i64 dt] w
      fun x w' => x = .returned (.agg #[.int .i64 7, .bool q', .bool l', .bool o', .int .i64 cv']) ∧ Below w.heap.size w w' := by
  have h := ft_any q l o i cv pt dt _ _ w rfl rfl h0 h1
  rw [e] at h; exact h

end Go.Proofs.Ytamalbkiblgbdaa
