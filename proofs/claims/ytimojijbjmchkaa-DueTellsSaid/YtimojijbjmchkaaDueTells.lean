/- The law DueTells, walked. -/
import Derived.Test.YtimojijbjmchkaaDueRef
namespace Go.Proofs.Ytimojijbjmchkaa
open Go.RowKit

theorem own_below {w w' : World} {base n : Nat} {v : Value} {xs : List Value} (h : w.ownsRow base 3 1 v n xs) (hb : Below w.heap.size w w') : w'.ownsRow base 3 1 v n xs := by
  rcases h with ⟨h1, h2 | ⟨g, cp, cur, p1, p2, p3, p4⟩⟩
  · exact ⟨h1, Or.inl h2⟩
  · exact ⟨h1, Or.inr ⟨g, cp, cur, p1, p2, (hb.block g (Array.getElem?_eq_some_iff.1 p3).1).trans p3, p4⟩⟩
theorem sameInts_self (A C : Option Addr) (c d B B' : Nat) (xs : List Int) (w : World) (hx : IntsAt w B A xs) (hy : IntsAt w B' C xs) (lx : xs.length < 1000000000) :
    Calls Try.prog 9 #[.slice A xs.length c, .slice C xs.length d] w fun e w' => e = .returned (.bool true) ∧ ∃ n, w' = w.drewN n := by
  refine (sameInts_walk A C c d B B' xs xs w hx hy lx lx).mono ?_
  rintro e w' ⟨rfl, h⟩
  exact ⟨by simp, h⟩
theorem ints_below' {w w' : World} {B : Nat} {A : Option Addr} {xs : List Int} (h : IntsAt w B A xs) (hb : Below B w w') : IntsAt w' B A xs := Reads.below h hb

set_option maxRecDepth 100000 in
set_option maxHeartbeats 4000000 in
theorem tells_any (a : Option Addr) (b off len cap : Nat) (e f : Int → Int) (x y z : Int) (w : World) (hlen : len ≤ 20) (hj : JobsIn w a b off len e f) (hy : y ≤ 9223372036854775807) :
    Calls Try.prog 3 #[.slice a len cap, .int .i64 x, .int .i64 y, .int .i64 z] w fun r w' => r = .returned (.bool true) ∧ Below w.heap.size w w' := by
  have HJ := Aid.hid hj
  clear hj
  obtain ⟨rd, hrd⟩ : ∃ r, Du.due z x y = r := ⟨_, rfl⟩
  have RD := Aid.hid hrd
  clear hrd
  go_enter Try.func3, Try.ntmps3
  try simp only [List.append_eq, List.cons_append, List.nil_append]
  go_wp2_with fail
  refine (which_any a b off len cap e f x y w hlen HJ.out hy).mono ?_; rintro r w1 ⟨A1, c1, z1, rfl, is1, o1, hb1⟩
  have IS1 := Aid.hid is1
  have l1 : z1.length ≤ 20 := by have := is1.1.length_eq; have := Du.list_len e x y len; omega
  have O1 := Aid.hid o1
  clear is1 o1
  go_wp2_with fail
  refine (rwhich_any a b off len cap e f x y w1 hlen (HJ.out.below hb1) hy).mono ?_; rintro r w2 ⟨A2, c2, z2, rfl, is2, o2, hb2⟩
  obtain rfl := is2.unique IS1.out
  have I1 := Aid.hid (ints_below' (IntsAt.of_own O1.out) hb2)
  have I2 := Aid.hid (IntsAt.of_own o2)
  replace O1 := Aid.hid (own_below O1.out hb2)
  have L1 := hb1.size
  replace hb1 := hb1.trans (hb2.mono hb1.size)
  clear is2 o2 hb2
  go_wp2_with fail
  refine (sameInts_self A1 A2 c1 c2 _ _ z2 w2 I1.out I2.out (by omega)).mono ?_; rintro r w3 ⟨rfl, n, hw⟩
  replace O1 : Hid (w3.ownsRow w.heap.size 3 1 (.slice A1 z2.length c1) z2.length (z2.map (Value.int .i64))) := Aid.hid (by rw [hw]; exact O1.out)
  replace hb1 : Below w.heap.size w w3 := by rw [hw]; exact below_drewN' hb1 _
  clear hw I1 I2 L1
  go_wp2_with fail
  refine (due_isN z x y rd RD.out _ hy).mono ?_; rintro r w4 ⟨rfl, n4, hw⟩
  replace O1 : Hid (w4.ownsRow w.heap.size 3 1 (.slice A1 z2.length c1) z2.length (z2.map (Value.int .i64))) := Aid.hid (by rw [hw]; exact O1.out)
  replace hb1 : Below w.heap.size w w4 := by rw [hw]; exact below_drewN' hb1 _
  clear hw
  go_wp2_with fail
  refine (rdue_isN z x y rd RD.out _ hy).mono ?_; rintro r w5 ⟨rfl, n5, hw⟩
  replace O1 : Hid (w5.ownsRow w.heap.size 3 1 (.slice A1 z2.length c1) z2.length (z2.map (Value.int .i64))) := Aid.hid (by rw [hw]; exact O1.out)
  replace hb1 : Below w.heap.size w w5 := by rw [hw]; exact below_drewN' hb1 _
  clear hw
  go_wp2_with fail
  refine (clip_any z _).mono ?_; rintro r w6 ⟨rfl, rfl⟩
  go_wp2_with fail
  refine (rclip_any z _).mono ?_; rintro r w6 ⟨rfl, rfl⟩
  go_wp2_with fail
  refine (overInts_walk A1 c1 w.heap.size z2 w _ O1.out (by omega) hb1 hb1.size).mono ?_; rintro r w7 ⟨rfl, hb7⟩
  clear hb1 O1 IS1
  go_wp2_with fail
  refine (which_any a b off len cap e f x y w7 hlen (HJ.out.below hb7) hy).mono ?_; rintro r w8 ⟨A3, c3, z3, rfl, is3, o3, hb8⟩
  have IS3 := Aid.hid is3
  have l3 : z3.length ≤ 20 := by have := is3.1.length_eq; have := Du.list_len e x y len; omega
  have O3 := Aid.hid o3
  have hb9 := hb7.trans (hb8.mono hb7.size)
  clear is3 o3 hb8 hb7
  go_wp2_with fail
  refine (rwhich_any a b off len cap e f x y w8 hlen (HJ.out.below hb9) hy).mono ?_; rintro r w9 ⟨A4, c4, z4, rfl, is4, o4, hb10⟩
  obtain rfl := is4.unique IS3.out
  have I3 := Aid.hid (ints_below' (IntsAt.of_own O3.out) hb10)
  have I4 := Aid.hid (IntsAt.of_own o4)
  replace hb9 := hb9.trans (hb10.mono hb9.size)
  clear is4 o4 hb10 O3
  go_wp2_with fail
  refine (sameInts_self A3 A4 c3 c4 _ _ z4 w9 I3.out I4.out (by omega)).mono ?_; rintro r w10 ⟨rfl, n10, hw⟩
  replace hb9 : Below w.heap.size w w10 := by rw [hw]; exact below_drewN' hb9 _
  clear hw I3 I4
  go_wp2_with fail
  refine (awake_any _).mono ?_; rintro r w11 ⟨rfl, hb⟩
  go_wp2_with fail
  go_ret
  exact ⟨Aid.ret_bool (by simp), hb9.trans (hb.mono hb9.size)⟩

set_option maxRecDepth 100000 in
set_option maxHeartbeats 1000000 in
theorem tells_long (x y z : Int) (a : Option Addr) (len cap : Nat) (w : World) (hlen : 20 < len) :
    Calls Try.prog 3 #[.slice a len cap, .int .i64 x, .int .i64 y, .int .i64 z] w fun e w' => e = .returned (.bool true) ∧ Below w.heap.size w w' := by
  go_enter Try.func3, Try.ntmps3
  try simp only [List.append_eq, List.cons_append, List.nil_append]
  go_wp2_with fail
  refine (awake_any _).mono ?_; rintro e w' ⟨rfl, hb⟩
  go_wp2_with fail
  go_ret
  exact ⟨rfl, hb⟩
end Go.Proofs.Ytimojijbjmchkaa
