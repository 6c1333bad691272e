/- The law TableIs: what its cases share. -/
import Derived.Test.YtjhlcfaakhabfaaGreatU
import Derived.Test.YtjhlcfaakhabfaaTabAwake
import Derived.Test.YtjhlcfaakhabfaaTableIsL
import Derived.Test.YtjhlcfaakhabfaaLow
import Derived.Test.YtjhlcfaakhabfaaOrd
import Derived.StillTailTactics
namespace Go.Proofs.Ytjhlcfaakhabfaa
open Go.RowKit

set_option maxRecDepth 100000 in
set_option maxHeartbeats 4000000 in
theorem tableIs_big (a : Option Addr) (n cap : Nat) (i j k : Int) (w : World) (hn : 16 < n) :
    Calls Try.prog 3 #[.agg #[.slice a n cap], .int .i64 i, .int .i64 j, .int .i64 k] w fun e w' => e = .returned (.bool true) ∧ Below w.heap.size w w' := by
  have hb1 : Below w.heap.size w (w.alloc (.cells #[.slice a n cap] 24)) := (Below.refl _ _).alloc (Nat.le_refl _) _
  have HB1 := Aid.hid hb1
  clear hb1
  go_enter Try.func3, Try.ntmps3
  try simp only [List.append_eq, List.cons_append, List.nil_append]
  go_wp2_with fail
  refine (greatUnit_big a n cap _ hn).mono ?_; rintro e w2 ⟨rfl, hb2⟩
  have HB2 := Aid.hid (HB1.out.trans (hb2.mono HB1.out.size))
  clear hb2
  go_wp2_with fail
  refine (awake_any _).mono ?_; rintro e w3 ⟨rfl, hb3⟩
  have HB3 := Aid.hid (HB2.out.trans (hb3.mono HB2.out.size))
  clear hb3
  go_wp2_with fail
  go_ret
  exact ⟨rfl, HB3.out⟩
theorem low_q (x n : Int) (r : Nat) (h : low x n = r) (h1 : 0 < n) (h2 : n ≤ 9223372036854775807) (w : World) (k : Nat) :
    Calls Try.prog 10 #[.int .i64 x, .int .i64 n] (w.drewN k) fun e w'' => e = .returned (.int .i64 r) ∧ ∃ m, w'' = w.drewN m := by
  refine (low_is x n r h h1 h2 (w.drewN k)).mono ?_
  rintro e w' ⟨h, rfl⟩
  exact ⟨h, k, rfl⟩
theorem low_nat (x : Int) (n : Nat) (h : 0 < n) : ∃ r : Nat, low x n = r ∧ r < n := by
  obtain ⟨h1, h2⟩ := low_in x n (by omega)
  obtain ⟨r, hr⟩ := Int.eq_ofNat_of_zero_le h1
  exact ⟨r, hr, by omega⟩

theorem Tb.find_there {u : List Dk} {i : Nat} {d : Dk} (h : u[i]? = some d) : ∃ n : Nat, Tb.find u d.name = n ∧ n < u.length := by
  unfold Tb.find
  cases hf : u.findIdx? (fun e => e.name.toList == d.name.toList) with
  | none =>
    rw [List.findIdx?_eq_none_iff] at hf
    exact absurd (hf d (List.mem_of_getElem? h)) (by simp)
  | some k => exact ⟨k, rfl, (List.findIdx?_eq_some_iff_getElem.1 hf).1⟩
/-- What is known of the three numbers: the declarations they stand for, and what the first one's name finds. -/
structure IsAt (u : List Dk) (i j k : Int) (ni nj nk nd : Nat) (di dj dk dd : Dk) : Prop where
  LI : low i u.length = ni
  LJ : low j u.length = nj
  LK : low k u.length = nk
  DI : u[ni]? = some di
  DJ : u[nj]? = some dj
  DK : u[nk]? = some dk
  DD : u[nd]? = some dd
  ND : Tb.find u di.name = nd
  li : ni < u.length
  lj : nj < u.length
  lk : nk < u.length
  ld : nd < u.length
end Go.Proofs.Ytjhlcfaakhabfaa
