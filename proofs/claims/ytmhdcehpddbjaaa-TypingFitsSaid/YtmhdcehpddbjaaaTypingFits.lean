/- TypingFits, as a walk. -/
import Derived.Test.YtmhdcehpddbjaaaTyFits
import Derived.Test.YtmhdcehpddbjaaaTyO
import Derived.Test.YtmhdcehpddbjaaaGreatU
import Derived.Test.YtmhdcehpddbjaaaLow
import Derived.WalkKit
import Derived.WalkSpells
import Derived.WalkLawsBesides
import Derived.LoopTactic
import Derived.Deep.QuietTactic
import Derived.BigQuiet
import Derived.Below
import Derived.Laws.ResultCell
import Derived.Laws.Tables
import Derived.Laws.Rows
import Derived.Deep.Cut
import Derived.KernelRfl
namespace Go.Proofs.Ytmhdcehpddbjaaa
open Go.RowKit

def Ty.Nm (a0 : Act) (sl : List Nat) (p6 ub uo cap n : Nat) (x : Int) (r : Nat) (s : ByteArray) (W : World) (e : Exit) (a' : Act) (w' : World) : Prop :=
  e = .normal ∧ ∃ g, a' = putL a0 (match sl with
    | [s0, s1, s2, s3, s4, s5, s6, s7, s8, s9] => [(s0, .pointer (some ⟨p6, 0, none⟩)), (s1, .slice (some ⟨ub, uo, none⟩) n cap), (s2, .int .i64 x), (s3, .int .i64 (n : Int)), (s4, .int .i64 (r : Int)), (s5, .pointer (some ⟨ub, uo + r * 11, none⟩)), (s6, .pointer (some ⟨ub, uo + r * 11 + 1, none⟩)), (s7, .string s), (s8, .agg #[.int .i64 5, .int .i64 0, .int .i64 0, .string s]), (s9, .pointer (some ⟨g, 0, none⟩))]
    | _ => []) ∧ Aid.Has w' g [.int .i64 5, .int .i64 0, .int .i64 0, .string s] 36 ∧ Below W.heap.size W w'
set_option maxRecDepth 100000 in
set_option maxHeartbeats 4000000 in
theorem typingFits_big (u : List Dk) (n : Nat) (a : Option Addr) (cap : Nat) (to fr : Ty) (x1 x2 x3 : Int) (w : World) (hn : 16 < n) :
    Calls Try.prog 5 #[.agg #[.slice a n cap], .agg #[.int .i64 to.k, .int .i64 to.lo, .int .i64 to.hi, .string to.name], .agg #[.int .i64 fr.k, .int .i64 fr.lo, .int .i64 fr.hi, .string fr.name], .int .i64 x1, .int .i64 x2, .int .i64 x3] w fun z w' => z = .returned (.bool true) ∧ Below w.heap.size w w' := by
  obtain ⟨n6, n7, n8, k0⟩ := three_new w [.slice a n cap] [.int .i64 to.k, .int .i64 to.lo, .int .i64 to.hi, .string to.name] [.int .i64 fr.k, .int .i64 fr.lo, .int .i64 fr.hi, .string fr.name] 24 36 36
  obtain ⟨W, hW⟩ : ∃ W, (((w.alloc (.cells #[.slice a n cap] 24)).alloc (.cells #[.int .i64 to.k, .int .i64 to.lo, .int .i64 to.hi, .string to.name] 36)).alloc (.cells #[.int .i64 fr.k, .int .i64 fr.lo, .int .i64 fr.hi, .string fr.name] 36)) = W := ⟨_, rfl⟩
  rw [hW] at n6 n7 n8 k0
  have x6 := n6.cell 0 _ rfl
  have l6 := n6.lt
  have HG := Aid.hid (greatUnit_big a n cap W hn)
  have K0 := Aid.hid k0
  clear n6 n7 n8 k0
  go_enter Try.func5, Try.ntmps5
  try simp only [List.append_eq, List.cons_append, List.nil_append]
  go_wp2_with fail
  clear hW
  refine HG.out.mono ?_; rintro _ w2 ⟨rfl, hb2⟩
  have KK := Aid.hid (K0.out.trans (hb2.mono K0.out.size))
  clear hb2 x6 l6
  go_wp2_with fail
  all_goals first
    | (refine (awake_is _).mono ?_; rintro _ w99 ⟨rfl, hb99⟩
       have K99 := Aid.hid ((KK.out).trans (hb99.mono (KK.out).size))
       clear hb99
       go_wp2_with fail
       go_ret
       exact ⟨rfl, K99.out⟩)
theorem low_nat' (x : Int) (n : Nat) (h : 0 < n) : ∃ r : Nat, low x n = r ∧ r < n := by
  obtain ⟨h1, h2⟩ := low_in x n (by omega)
  obtain ⟨r, hr⟩ := Int.eq_ofNat_of_zero_le h1
  exact ⟨r, hr, by omega⟩
set_option maxRecDepth 100000 in
set_option maxHeartbeats 4000000 in
theorem typingFits_main (u : List Dk) (a : Option Addr) (cap : Nat) (to fr : Ty) (x1 x2 x3 : Int) (w : World) (hu : UnitAt w w.heap.size a u) (hn : u.length ≤ 16) :
    Calls Try.prog 5 #[.agg #[.slice a u.length cap], .agg #[.int .i64 to.k, .int .i64 to.lo, .int .i64 to.hi, .string to.name], .agg #[.int .i64 fr.k, .int .i64 fr.lo, .int .i64 fr.hi, .string fr.name], .int .i64 x1, .int .i64 x2, .int .i64 x3] w fun z w' => z = .returned (.bool true) ∧ Below w.heap.size w w' := by
  obtain ⟨n6, n7, n8, k0⟩ := three_new w [.slice a u.length cap] [.int .i64 to.k, .int .i64 to.lo, .int .i64 to.hi, .string to.name] [.int .i64 fr.k, .int .i64 fr.lo, .int .i64 fr.hi, .string fr.name] 24 36 36
  obtain ⟨W, hW⟩ : ∃ W, (((w.alloc (.cells #[.slice a u.length cap] 24)).alloc (.cells #[.int .i64 to.k, .int .i64 to.lo, .int .i64 to.hi, .string to.name] 36)).alloc (.cells #[.int .i64 fr.k, .int .i64 fr.lo, .int .i64 fr.hi, .string fr.name] 36)) = W := ⟨_, rfl⟩
  rw [hW] at n6 n7 n8 k0
  have x6 := n6.cell 0 _ rfl
  have l6 := n6.lt
  have y3 := n7.cell 3 _ rfl
  have z3x := n8.cell 3 _ rfl
  have l7 := n7.lt
  have l8 := n8.lt
  have HG := Aid.hid (greatUnit_is u a w.heap.size cap W (hu.below k0 (Nat.le_refl _)) k0.size hn)
  have HU := Aid.hid hu
  have K0 := Aid.hid k0; have N6 := Aid.hid n6; have N7 := Aid.hid n7; have N8 := Aid.hid n8
  clear n6 n7 n8 k0 hu
  go_enter Try.func5, Try.ntmps5
  try simp only [List.append_eq, List.cons_append, List.nil_append]
  go_wp2_with fail
  clear hW
  refine HG.out.mono ?_; rintro _ w2 ⟨r0, rfl, hb2⟩
  have KK := Aid.hid (K0.out.trans (hb2.mono K0.out.size))
  have n6 := N6.out.below hb2 N6.out.lt
  have n7 := N7.out.below hb2 N7.out.lt
  have n8 := N8.out.below hb2 N8.out.lt
  have hu2 := HU.out.below KK.out (Nat.le_refl _)
  have hB2 : w.heap.size ≤ w2.heap.size := KK.out.size
  clear hb2 x6 l6 y3 z3x l7 l8 N6 N7 N8 HG
  have x6 := n6.cell 0 _ rfl
  have l6 := n6.lt
  have y0 := n7.cell 0 _ rfl
  have z0x := n8.cell 0 _ rfl
  have y1 := n7.cell 1 _ rfl
  have z1x := n8.cell 1 _ rfl
  have y2 := n7.cell 2 _ rfl
  have z2x := n8.cell 2 _ rfl
  have y3 := n7.cell 3 _ rfl
  have z3x := n8.cell 3 _ rfl
  have l7 := n7.lt
  have l8 := n8.lt
  obtain ⟨q, hq⟩ : ∃ q, Ty.fits u to fr = q := ⟨_, rfl⟩
  have HQ := Aid.hid hq
  have HU2 := Aid.hid hu2
  have hsz : w.heap.size + 1 + 1 < w2.heap.size := l8
  clear hu2 hq n7 n8
  have N6 := Aid.hid n6
  clear n6
  obtain ⟨p6, hp6⟩ : ∃ p, w.heap.size = p := ⟨_, rfl⟩
  rw [hp6] at x6 l6 y0 y1 y2 y3 l7 z0x z1x z2x z3x l8 ⊢
  have HP6 := Aid.hid hp6
  clear hp6
  cases r0
  rotate_left
  · go_wp2_with fail
    refine (awake_is _).mono ?_; rintro _ w99 ⟨rfl, hb99⟩
    have K99 := Aid.hid ((KK.out).trans (hb99.mono (KK.out).size))
    clear hb99
    go_wp2_with fail
    go_ret
    exact ⟨rfl, K99.out⟩
  go_wp2_with fail
  all_goals first
    | (refine (awake_is _).mono ?_; rintro _ w99 ⟨rfl, hb99⟩
       have K99 := Aid.hid ((KK.out).trans (hb99.mono (KK.out).size))
       clear hb99
       go_wp2_with fail
       go_ret
       exact ⟨rfl, K99.out⟩)
    | skip
  have hb : Below w2.heap.size w2 w2.drew := (Below.refl _ _).drew
  refine Ord.wp_region_walk (fun w' => Below w2.heap.size w2 w') 8 [(true, 0), (true, 1), (true, 2), (true, 4), (true, 5), (true, 6), (false, 3), (false, 7)] (by kernel_rfl) (by kernel_rfl) (fun _ _ d _ _ h => by cases d <;> exact h) (hb) ?_
  clear hb
  have hb : Below w2.heap.size w2 w2.drew := (Below.refl _ _).drew
  apply Ord.walk_light
  next => (simp only [List.getElem?_toArray, List.getElem?_cons_zero]; rfl)
  next => rfl
  next => (intro w' hSw; have z0 := (hSw.cell (p := ⟨p6, 0, none⟩) l6).trans x6; have t0 := (hSw.cell (p := ⟨p6 + 1, 0, none⟩) l7).trans y0; have u0 := (hSw.cell (p := ⟨p6 + 1 + 1, 0, none⟩) l8).trans z0x; have t1 := (hSw.cell (p := ⟨p6 + 1, 1, none⟩) l7).trans y1; have u1 := (hSw.cell (p := ⟨p6 + 1 + 1, 1, none⟩) l8).trans z1x; have t2 := (hSw.cell (p := ⟨p6 + 1, 2, none⟩) l7).trans y2; have u2 := (hSw.cell (p := ⟨p6 + 1 + 1, 2, none⟩) l8).trans z2x; have t3 := (hSw.cell (p := ⟨p6 + 1, 3, none⟩) l7).trans y3; have u3 := (hSw.cell (p := ⟨p6 + 1 + 1, 3, none⟩) l8).trans z3x; clear hSw; go_simp; first | done | with_reducible rfl)
  simp only [Act.put, List.setIfInBounds_toArray, List.set_cons_zero, List.set_cons_succ]
  apply Ord.walk_light
  next => (simp only [List.getElem?_toArray, List.getElem?_cons_succ, List.getElem?_cons_zero]; rfl)
  next => rfl
  next => (intro w' hSw; have z0 := (hSw.cell (p := ⟨p6, 0, none⟩) l6).trans x6; have t0 := (hSw.cell (p := ⟨p6 + 1, 0, none⟩) l7).trans y0; have u0 := (hSw.cell (p := ⟨p6 + 1 + 1, 0, none⟩) l8).trans z0x; have t1 := (hSw.cell (p := ⟨p6 + 1, 1, none⟩) l7).trans y1; have u1 := (hSw.cell (p := ⟨p6 + 1 + 1, 1, none⟩) l8).trans z1x; have t2 := (hSw.cell (p := ⟨p6 + 1, 2, none⟩) l7).trans y2; have u2 := (hSw.cell (p := ⟨p6 + 1 + 1, 2, none⟩) l8).trans z2x; have t3 := (hSw.cell (p := ⟨p6 + 1, 3, none⟩) l7).trans y3; have u3 := (hSw.cell (p := ⟨p6 + 1 + 1, 3, none⟩) l8).trans z3x; clear hSw; go_simp; first | done | with_reducible rfl)
  simp only [Act.put, List.setIfInBounds_toArray, List.set_cons_zero, List.set_cons_succ]
  apply Ord.walk_light
  next => (simp only [List.getElem?_toArray, List.getElem?_cons_succ, List.getElem?_cons_zero]; rfl)
  next => rfl
  next => (intro w' hSw; have z0 := (hSw.cell (p := ⟨p6, 0, none⟩) l6).trans x6; have t0 := (hSw.cell (p := ⟨p6 + 1, 0, none⟩) l7).trans y0; have u0 := (hSw.cell (p := ⟨p6 + 1 + 1, 0, none⟩) l8).trans z0x; have t1 := (hSw.cell (p := ⟨p6 + 1, 1, none⟩) l7).trans y1; have u1 := (hSw.cell (p := ⟨p6 + 1 + 1, 1, none⟩) l8).trans z1x; have t2 := (hSw.cell (p := ⟨p6 + 1, 2, none⟩) l7).trans y2; have u2 := (hSw.cell (p := ⟨p6 + 1 + 1, 2, none⟩) l8).trans z2x; have t3 := (hSw.cell (p := ⟨p6 + 1, 3, none⟩) l7).trans y3; have u3 := (hSw.cell (p := ⟨p6 + 1 + 1, 3, none⟩) l8).trans z3x; clear hSw; go_simp; first | done | with_reducible rfl)
  simp only [Act.put, List.setIfInBounds_toArray, List.set_cons_zero, List.set_cons_succ]
  apply Ord.walk_light
  next => (simp only [List.getElem?_toArray, List.getElem?_cons_succ, List.getElem?_cons_zero]; rfl)
  next => rfl
  next => (intro w' hSw; have z0 := (hSw.cell (p := ⟨p6, 0, none⟩) l6).trans x6; have t0 := (hSw.cell (p := ⟨p6 + 1, 0, none⟩) l7).trans y0; have u0 := (hSw.cell (p := ⟨p6 + 1 + 1, 0, none⟩) l8).trans z0x; have t1 := (hSw.cell (p := ⟨p6 + 1, 1, none⟩) l7).trans y1; have u1 := (hSw.cell (p := ⟨p6 + 1 + 1, 1, none⟩) l8).trans z1x; have t2 := (hSw.cell (p := ⟨p6 + 1, 2, none⟩) l7).trans y2; have u2 := (hSw.cell (p := ⟨p6 + 1 + 1, 2, none⟩) l8).trans z2x; have t3 := (hSw.cell (p := ⟨p6 + 1, 3, none⟩) l7).trans y3; have u3 := (hSw.cell (p := ⟨p6 + 1 + 1, 3, none⟩) l8).trans z3x; clear hSw; go_simp; first | done | with_reducible rfl)
  simp only [Act.put, List.setIfInBounds_toArray, List.set_cons_zero, List.set_cons_succ]
  apply Ord.walk_light
  next => (simp only [List.getElem?_toArray, List.getElem?_cons_succ, List.getElem?_cons_zero]; rfl)
  next => rfl
  next => (intro w' hSw; have z0 := (hSw.cell (p := ⟨p6, 0, none⟩) l6).trans x6; have t0 := (hSw.cell (p := ⟨p6 + 1, 0, none⟩) l7).trans y0; have u0 := (hSw.cell (p := ⟨p6 + 1 + 1, 0, none⟩) l8).trans z0x; have t1 := (hSw.cell (p := ⟨p6 + 1, 1, none⟩) l7).trans y1; have u1 := (hSw.cell (p := ⟨p6 + 1 + 1, 1, none⟩) l8).trans z1x; have t2 := (hSw.cell (p := ⟨p6 + 1, 2, none⟩) l7).trans y2; have u2 := (hSw.cell (p := ⟨p6 + 1 + 1, 2, none⟩) l8).trans z2x; have t3 := (hSw.cell (p := ⟨p6 + 1, 3, none⟩) l7).trans y3; have u3 := (hSw.cell (p := ⟨p6 + 1 + 1, 3, none⟩) l8).trans z3x; clear hSw; go_simp; first | done | with_reducible rfl)
  simp only [Act.put, List.setIfInBounds_toArray, List.set_cons_zero, List.set_cons_succ]
  apply Ord.walk_light
  next => (simp only [List.getElem?_toArray, List.getElem?_cons_succ, List.getElem?_cons_zero]; rfl)
  next => rfl
  next => (intro w' hSw; have z0 := (hSw.cell (p := ⟨p6, 0, none⟩) l6).trans x6; have t0 := (hSw.cell (p := ⟨p6 + 1, 0, none⟩) l7).trans y0; have u0 := (hSw.cell (p := ⟨p6 + 1 + 1, 0, none⟩) l8).trans z0x; have t1 := (hSw.cell (p := ⟨p6 + 1, 1, none⟩) l7).trans y1; have u1 := (hSw.cell (p := ⟨p6 + 1 + 1, 1, none⟩) l8).trans z1x; have t2 := (hSw.cell (p := ⟨p6 + 1, 2, none⟩) l7).trans y2; have u2 := (hSw.cell (p := ⟨p6 + 1 + 1, 2, none⟩) l8).trans z2x; have t3 := (hSw.cell (p := ⟨p6 + 1, 3, none⟩) l7).trans y3; have u3 := (hSw.cell (p := ⟨p6 + 1 + 1, 3, none⟩) l8).trans z3x; clear hSw; go_simp; first | done | with_reducible rfl)
  simp only [Act.put, List.setIfInBounds_toArray, List.set_cons_zero, List.set_cons_succ]
  apply Ord.walk_heavy
  next => (simp only [List.getElem?_toArray, List.getElem?_cons_succ, List.getElem?_cons_zero]; rfl)
  next => rfl
  intro K hK
  go_wp2_with fail
  refine (fits_is u a w.heap.size cap to fr q _ HQ.out (HU2.out.below hb hB2) (Nat.le_trans hB2 hb.size)).mono ?_; rintro _ w9 ⟨rfl, hb'⟩; dsimp only
  refine hK.out _ _ (hb.trans (hb'.mono hb.size)) (fun hHeld => ?_)
  clear hb hb'
  have hb := hHeld
  clear hK K
  try simp only [Act.put, List.setIfInBounds_toArray, List.set_cons_zero, List.set_cons_succ]
  apply Ord.walk_heavy
  next => (simp only [List.getElem?_toArray, List.getElem?_cons_succ, List.getElem?_cons_zero]; rfl)
  next => rfl
  intro K hK
  go_wp2_with fail
  refine (rfits_is u a w.heap.size cap to fr q _ HQ.out (HU2.out.below hb hB2) (Nat.le_trans hB2 hb.size)).mono ?_; rintro _ w9 ⟨rfl, hb'⟩; dsimp only
  refine hK.out _ _ (hb.trans (hb'.mono hb.size)) (fun hHeld => ?_)
  clear hb hb'
  have hb := hHeld
  clear hK K
  try simp only [Act.put, List.setIfInBounds_toArray, List.set_cons_zero, List.set_cons_succ]
  refine Ord.walk_tail ?_; simp only [List.drop_succ_cons, List.drop_zero]
  have n6 := N6.out.below hb N6.out.lt
  have kk9 := KK.out.trans (hb.mono KK.out.size)
  clear x6 l6 y0 y1 y2 y3 l7 z0x z1x z2x z3x l8 HU2 N6 KK hsz hB2
  rw [HP6.out] at n6
  have hu9 := HU.out.below kk9 (Nat.le_refl _)
  have hB9 : w.heap.size ≤ w9.heap.size := kk9.size
  have KK := Aid.hid kk9
  have N6 := Aid.hid n6
  have x6 := n6.cell 0 _ rfl
  have l6 := n6.lt
  clear hb kk9 n6
  by_cases h0 : u.length = 0
  · have hz : ((u.length : Int) == 0) = true := by simp [h0]
    clear h0 hu9
    go_wp2_with fail
    refine (awake_is _).mono ?_; rintro _ w99 ⟨rfl, hb99⟩
    have K99 := Aid.hid ((KK.out).trans (hb99.mono (KK.out).size))
    clear hb99
    go_wp2_with fail
    go_ret
    exact ⟨rfl, K99.out⟩
  obtain ⟨r1, h1, hr1⟩ := low_nat' x1 u.length (by omega)
  obtain ⟨r2, h2, hr2⟩ := low_nat' x2 u.length (by omega)
  obtain ⟨r3, h3, hr3⟩ := low_nat' x3 u.length (by omega)
  obtain ⟨d1, hd1⟩ : ∃ d, u[r1]? = some d := ⟨_, List.getElem?_eq_getElem hr1⟩
  obtain ⟨d2, hd2⟩ : ∃ d, u[r2]? = some d := ⟨_, List.getElem?_eq_getElem hr2⟩
  obtain ⟨d3, hd3⟩ : ∃ d, u[r3]? = some d := ⟨_, List.getElem?_eq_getElem hr3⟩
  have hz : ((u.length : Int) == 0) = false := by simpa using (by omega : ¬ (u.length : Int) = 0)
  have hn0 : (0 : Int) < (u.length : Int) := by omega
  have hn9 : (u.length : Int) ≤ 9223372036854775807 := by omega
  have jr1 : (r1 : Int) < (u.length : Int) := by omega
  have jr2 : (r2 : Int) < (u.length : Int) := by omega
  have jr3 : (r3 : Int) < (u.length : Int) := by omega
  obtain ⟨ub, uo, rfl, hub, hc⟩ := hu9.at_ (by omega)
  obtain ⟨s1, hs1⟩ : ∃ s, d1.name = s := ⟨_, rfl⟩
  obtain ⟨s2, hs2⟩ : ∃ s, d2.name = s := ⟨_, rfl⟩
  obtain ⟨s3, hs3⟩ : ∃ s, d3.name = s := ⟨_, rfl⟩
  have n1 := hc r1 d1 hd1 1 _ rfl
  have n2 := hc r2 d2 hd2 1 _ rfl
  have n3 := hc r3 d3 hd3 1 _ rfl
  rw [hs1] at n1
  rw [hs2] at n2
  rw [hs3] at n3
  have lub : ub < w9.heap.size := by omega
  clear hc hd1 hd2 hd3 hs1 hs2 hs3 hu9 hr1 hr2 hr3 h0
  go_wp2_with fail
  refine wp_cut (fun a0 => Ty.Nm a0 [48, 49, 50, 51, 52, 53, 54, 55, 56, 14] p6 ub uo cap u.length x1 r1 s1 w9) ?_ ?_
  · have hb : Below w9.heap.size w9 w9.drew := (Below.refl _ _).drew
    refine Ord.wp_region_go (fun w' => Below w9.heap.size w9 w') 10 [0, 1, 2, 3, 5, 6, 7, 8] (by kernel_rfl) (by kernel_rfl) (fun _ _ _ _ _ h => by cases h.1) (hb) ?_
    clear hb
    have hb : Below w9.heap.size w9 w9.drew := (Below.refl _ _).drew
    generalize w9.drew = wd0 at *
    apply Ord.go_light (i := 0) (by kernel_rfl)
    next => (simp only [List.getElem?_toArray, List.getElem?_cons_zero]; rfl)
    next => rfl
    next => (intro w' hSw; clear hSw; go_simp; first | done | with_reducible rfl)
    simp only [Act.put, List.setIfInBounds_toArray, List.set_cons_zero, List.set_cons_succ]
    apply Ord.go_light (i := 1) (by kernel_rfl)
    next => (simp only [List.getElem?_toArray, List.getElem?_cons_succ, List.getElem?_cons_zero]; rfl)
    next => rfl
    next => (intro w' hSw; have z0 := (hSw.cell (p := ⟨p6, 0, none⟩) l6).trans x6; have z1 := (hSw.cell (p := ⟨ub, uo + r1 * 11 + 1, none⟩) lub).trans n1; clear hSw; go_simp; first | done | with_reducible rfl)
    simp only [Act.put, List.setIfInBounds_toArray, List.set_cons_zero, List.set_cons_succ]
    apply Ord.go_light (i := 2) (by kernel_rfl)
    next => (simp only [List.getElem?_toArray, List.getElem?_cons_succ, List.getElem?_cons_zero]; rfl)
    next => rfl
    next => (intro w' hSw; clear hSw; go_simp; first | done | with_reducible rfl)
    simp only [Act.put, List.setIfInBounds_toArray, List.set_cons_zero, List.set_cons_succ]
    apply Ord.go_light (i := 3) (by kernel_rfl)
    next => (simp only [List.getElem?_toArray, List.getElem?_cons_succ, List.getElem?_cons_zero]; rfl)
    next => rfl
    next => (intro w' hSw; clear hSw; go_simp; first | done | with_reducible rfl)
    simp only [Act.put, List.setIfInBounds_toArray, List.set_cons_zero, List.set_cons_succ]
    refine Ord.go_two (i := 4) (j := 9) (by kernel_rfl) (by kernel_rfl) ?_ ?_
    ·
      apply Ord.go_done1
      next => (simp only [List.getElem?_toArray, List.getElem?_cons_succ, List.getElem?_cons_zero]; rfl)
      next => rfl
      intro K hK
      go_wp2_with fail
      refine (low_is x1 u.length r1 h1 hn0 hn9 _).mono ?_; rintro _ w9 ⟨rfl, rfl⟩; dsimp only
      refine hK.out _ _ hb (fun hHeld => ?_)
      clear hK K
      try simp only [Act.put, List.setIfInBounds_toArray, List.set_cons_zero, List.set_cons_succ]
      apply Ord.go_light (i := 5) (by kernel_rfl)
      next => (simp only [List.getElem?_toArray, List.getElem?_cons_succ, List.getElem?_cons_zero]; rfl)
      next => rfl
      next => (intro w' hSw; clear hSw; go_simp; first | done | with_reducible rfl)
      simp only [Act.put, List.setIfInBounds_toArray, List.set_cons_zero, List.set_cons_succ]
      apply Ord.go_light (i := 6) (by kernel_rfl)
      next => (simp only [List.getElem?_toArray, List.getElem?_cons_succ, List.getElem?_cons_zero]; rfl)
      next => rfl
      next => (intro w' hSw; clear hSw; go_simp; first | done | with_reducible rfl)
      simp only [Act.put, List.setIfInBounds_toArray, List.set_cons_zero, List.set_cons_succ]
      apply Ord.go_light (i := 7) (by kernel_rfl)
      next => (simp only [List.getElem?_toArray, List.getElem?_cons_succ, List.getElem?_cons_zero]; rfl)
      next => rfl
      next => (intro w' hSw; have z0 := (hSw.cell (p := ⟨p6, 0, none⟩) l6).trans x6; have z1 := (hSw.cell (p := ⟨ub, uo + r1 * 11 + 1, none⟩) lub).trans n1; clear hSw; go_simp; first | done | with_reducible rfl)
      simp only [Act.put, List.setIfInBounds_toArray, List.set_cons_zero, List.set_cons_succ]
      apply Ord.go_light (i := 8) (by kernel_rfl)
      next => (simp only [List.getElem?_toArray, List.getElem?_cons_succ, List.getElem?_cons_zero]; rfl)
      next => rfl
      next => (intro w' hSw; clear hSw; go_simp; first | done | with_reducible rfl)
      simp only [Act.put, List.setIfInBounds_toArray, List.set_cons_zero, List.set_cons_succ]
      refine Ord.go_one (i := 9) (by kernel_rfl) (by kernel_rfl) ?_
      apply Ord.go_done1
      next => (simp only [List.getElem?_toArray, List.getElem?_cons_succ, List.getElem?_cons_zero]; rfl)
      next => rfl
      intro K hK
      go_wp2_with fail
      obtain ⟨wa, hx⟩ : ∃ q, wd0.alloc (.cells #[.int .i64 0, .int .i64 0, .int .i64 0, .string ⟨#[]⟩] 36) = q := ⟨_, rfl⟩
      have ha := Aid.Has.new wd0 [.int .i64 0, .int .i64 0, .int .i64 0, .string ⟨#[]⟩] 36
      have hb' := below_new wd0 (.cells #[.int .i64 0, .int .i64 0, .int .i64 0, .string ⟨#[]⟩] 36)
      rw [hx] at ha hb' ⊢
      have hal : w9.heap.size ≤ wd0.heap.size := hb.size
      refine hK.out _ _ (hb.trans (hb'.mono hb.size)) (fun hHeld => ?_)
      clear hb hb'
      have hb := hHeld
      clear hx
      clear hK K
      try simp only [Act.put, List.setIfInBounds_toArray, List.set_cons_zero, List.set_cons_succ]
      refine Ord.go_tail ?_; simp only [List.drop_succ_cons, List.drop_zero]
      have q0 := ha.cell 0 _ rfl
      have q1 := ha.cell 1 _ rfl
      have q2 := ha.cell 2 _ rfl
      have q3 := ha.cell 3 _ rfl
      have f0 := ha.frozen 0
      have f1 := ha.frozen 1
      have f2 := ha.frozen 2
      have f3 := ha.frozen 3
      have lga := ha.lt
      have hbf := below4 (g := wd0.heap.size) (.int .i64 5) (.int .i64 0) (.int .i64 0) (.string s1) hb hal
      replace ha := set4 (.int .i64 5) (.int .i64 0) (.int .i64 0) (.string s1) ha
      go_wp2_with fail
      refine ⟨rfl, wd0.heap.size, ?_, ha, hbf⟩
      simp only [putL, Act.put, List.setIfInBounds_toArray, List.set_cons_zero, List.set_cons_succ]
      try rfl
    ·
      apply Ord.go_done1
      next => (simp only [List.getElem?_toArray, List.getElem?_cons_succ, List.getElem?_cons_zero]; rfl)
      next => rfl
      intro K hK
      go_wp2_with fail
      obtain ⟨wa, hx⟩ : ∃ q, wd0.alloc (.cells #[.int .i64 0, .int .i64 0, .int .i64 0, .string ⟨#[]⟩] 36) = q := ⟨_, rfl⟩
      have ha := Aid.Has.new wd0 [.int .i64 0, .int .i64 0, .int .i64 0, .string ⟨#[]⟩] 36
      have hb' := below_new wd0 (.cells #[.int .i64 0, .int .i64 0, .int .i64 0, .string ⟨#[]⟩] 36)
      rw [hx] at ha hb' ⊢
      have hal : w9.heap.size ≤ wd0.heap.size := hb.size
      refine hK.out _ _ (hb.trans (hb'.mono hb.size)) (fun hHeld => ?_)
      clear hb hb'
      have hb := hHeld
      clear hx
      clear hK K
      try simp only [Act.put, List.setIfInBounds_toArray, List.set_cons_zero, List.set_cons_succ]
      refine Ord.go_one (i := 4) (by kernel_rfl) (by kernel_rfl) ?_
      apply Ord.go_done1
      next => (simp only [List.getElem?_toArray, List.getElem?_cons_succ, List.getElem?_cons_zero]; rfl)
      next => rfl
      intro K hK
      go_wp2_with fail
      refine (low_is x1 u.length r1 h1 hn0 hn9 _).mono ?_; rintro _ w9 ⟨rfl, rfl⟩; dsimp only
      refine hK.out _ _ hb (fun hHeld => ?_)
      clear hK K
      try simp only [Act.put, List.setIfInBounds_toArray, List.set_cons_zero, List.set_cons_succ]
      apply Ord.go_light (i := 5) (by kernel_rfl)
      next => (simp only [List.getElem?_toArray, List.getElem?_cons_succ, List.getElem?_cons_zero]; rfl)
      next => rfl
      next => (intro w' hSw; clear hSw; go_simp; first | done | with_reducible rfl)
      simp only [Act.put, List.setIfInBounds_toArray, List.set_cons_zero, List.set_cons_succ]
      apply Ord.go_light (i := 6) (by kernel_rfl)
      next => (simp only [List.getElem?_toArray, List.getElem?_cons_succ, List.getElem?_cons_zero]; rfl)
      next => rfl
      next => (intro w' hSw; clear hSw; go_simp; first | done | with_reducible rfl)
      simp only [Act.put, List.setIfInBounds_toArray, List.set_cons_zero, List.set_cons_succ]
      apply Ord.go_light (i := 7) (by kernel_rfl)
      next => (simp only [List.getElem?_toArray, List.getElem?_cons_succ, List.getElem?_cons_zero]; rfl)
      next => rfl
      next => (intro w' hSw; have z0 := (hSw.cell (p := ⟨p6, 0, none⟩) l6).trans x6; have z1 := (hSw.cell (p := ⟨ub, uo + r1 * 11 + 1, none⟩) lub).trans n1; clear hSw; go_simp; first | done | with_reducible rfl)
      simp only [Act.put, List.setIfInBounds_toArray, List.set_cons_zero, List.set_cons_succ]
      apply Ord.go_light (i := 8) (by kernel_rfl)
      next => (simp only [List.getElem?_toArray, List.getElem?_cons_succ, List.getElem?_cons_zero]; rfl)
      next => rfl
      next => (intro w' hSw; clear hSw; go_simp; first | done | with_reducible rfl)
      simp only [Act.put, List.setIfInBounds_toArray, List.set_cons_zero, List.set_cons_succ]
      refine Ord.go_tail ?_; simp only [List.drop_succ_cons, List.drop_zero]
      have q0 := ha.cell 0 _ rfl
      have q1 := ha.cell 1 _ rfl
      have q2 := ha.cell 2 _ rfl
      have q3 := ha.cell 3 _ rfl
      have f0 := ha.frozen 0
      have f1 := ha.frozen 1
      have f2 := ha.frozen 2
      have f3 := ha.frozen 3
      have lga := ha.lt
      have hbf := below4 (g := wd0.heap.size) (.int .i64 5) (.int .i64 0) (.int .i64 0) (.string s1) hb hal
      replace ha := set4 (.int .i64 5) (.int .i64 0) (.int .i64 0) (.string s1) ha
      go_wp2_with fail
      refine ⟨rfl, wd0.heap.size, ?_, ha, hbf⟩
      simp only [putL, Act.put, List.setIfInBounds_toArray, List.set_cons_zero, List.set_cons_succ]
      try rfl
  rintro e' a' w10 ⟨rfl, g1, rfl, hg1, hb⟩
  simp only [putL, Act.put, List.setIfInBounds_toArray, List.set_cons_zero, List.set_cons_succ]
  have HG1 := Aid.hid hg1
  replace n1 := (hb.cell (p := ⟨ub, uo + r1 * 11 + 1, none⟩) lub).trans n1
  replace n2 := (hb.cell (p := ⟨ub, uo + r2 * 11 + 1, none⟩) lub).trans n2
  replace n3 := (hb.cell (p := ⟨ub, uo + r3 * 11 + 1, none⟩) lub).trans n3
  replace N6 := Aid.hid (N6.out.below hb N6.out.lt)
  replace x6 := N6.out.cell 0 _ rfl
  replace l6 := N6.out.lt
  replace lub := Nat.lt_of_lt_of_le lub hb.size
  replace KK := Aid.hid (KK.out.trans (hb.mono KK.out.size))
  clear hg1 hb
  go_wp2_with fail
  refine wp_cut (fun a0 => Ty.Nm a0 [57, 58, 59, 60, 61, 62, 63, 64, 65, 15] p6 ub uo cap u.length x2 r2 s2 w10) ?_ ?_
  · have hb : Below w10.heap.size w10 w10.drew := (Below.refl _ _).drew
    refine Ord.wp_region_go (fun w' => Below w10.heap.size w10 w') 10 [0, 1, 2, 3, 5, 6, 7, 8] (by kernel_rfl) (by kernel_rfl) (fun _ _ _ _ _ h => by cases h.1) (hb) ?_
    clear hb
    have hb : Below w10.heap.size w10 w10.drew := (Below.refl _ _).drew
    generalize w10.drew = wd0 at *
    apply Ord.go_light (i := 0) (by kernel_rfl)
    next => (simp only [List.getElem?_toArray, List.getElem?_cons_zero]; rfl)
    next => rfl
    next => (intro w' hSw; clear hSw; go_simp; first | done | with_reducible rfl)
    simp only [Act.put, List.setIfInBounds_toArray, List.set_cons_zero, List.set_cons_succ]
    apply Ord.go_light (i := 1) (by kernel_rfl)
    next => (simp only [List.getElem?_toArray, List.getElem?_cons_succ, List.getElem?_cons_zero]; rfl)
    next => rfl
    next => (intro w' hSw; have z0 := (hSw.cell (p := ⟨p6, 0, none⟩) l6).trans x6; have z1 := (hSw.cell (p := ⟨ub, uo + r2 * 11 + 1, none⟩) lub).trans n2; clear hSw; go_simp; first | done | with_reducible rfl)
    simp only [Act.put, List.setIfInBounds_toArray, List.set_cons_zero, List.set_cons_succ]
    apply Ord.go_light (i := 2) (by kernel_rfl)
    next => (simp only [List.getElem?_toArray, List.getElem?_cons_succ, List.getElem?_cons_zero]; rfl)
    next => rfl
    next => (intro w' hSw; clear hSw; go_simp; first | done | with_reducible rfl)
    simp only [Act.put, List.setIfInBounds_toArray, List.set_cons_zero, List.set_cons_succ]
    apply Ord.go_light (i := 3) (by kernel_rfl)
    next => (simp only [List.getElem?_toArray, List.getElem?_cons_succ, List.getElem?_cons_zero]; rfl)
    next => rfl
    next => (intro w' hSw; clear hSw; go_simp; first | done | with_reducible rfl)
    simp only [Act.put, List.setIfInBounds_toArray, List.set_cons_zero, List.set_cons_succ]
    refine Ord.go_two (i := 4) (j := 9) (by kernel_rfl) (by kernel_rfl) ?_ ?_
    ·
      apply Ord.go_done1
      next => (simp only [List.getElem?_toArray, List.getElem?_cons_succ, List.getElem?_cons_zero]; rfl)
      next => rfl
      intro K hK
      go_wp2_with fail
      refine (low_is x2 u.length r2 h2 hn0 hn9 _).mono ?_; rintro _ w9 ⟨rfl, rfl⟩; dsimp only
      refine hK.out _ _ hb (fun hHeld => ?_)
      clear hK K
      try simp only [Act.put, List.setIfInBounds_toArray, List.set_cons_zero, List.set_cons_succ]
      apply Ord.go_light (i := 5) (by kernel_rfl)
      next => (simp only [List.getElem?_toArray, List.getElem?_cons_succ, List.getElem?_cons_zero]; rfl)
      next => rfl
      next => (intro w' hSw; clear hSw; go_simp; first | done | with_reducible rfl)
      simp only [Act.put, List.setIfInBounds_toArray, List.set_cons_zero, List.set_cons_succ]
      apply Ord.go_light (i := 6) (by kernel_rfl)
      next => (simp only [List.getElem?_toArray, List.getElem?_cons_succ, List.getElem?_cons_zero]; rfl)
      next => rfl
      next => (intro w' hSw; clear hSw; go_simp; first | done | with_reducible rfl)
      simp only [Act.put, List.setIfInBounds_toArray, List.set_cons_zero, List.set_cons_succ]
      apply Ord.go_light (i := 7) (by kernel_rfl)
      next => (simp only [List.getElem?_toArray, List.getElem?_cons_succ, List.getElem?_cons_zero]; rfl)
      next => rfl
      next => (intro w' hSw; have z0 := (hSw.cell (p := ⟨p6, 0, none⟩) l6).trans x6; have z1 := (hSw.cell (p := ⟨ub, uo + r2 * 11 + 1, none⟩) lub).trans n2; clear hSw; go_simp; first | done | with_reducible rfl)
      simp only [Act.put, List.setIfInBounds_toArray, List.set_cons_zero, List.set_cons_succ]
      apply Ord.go_light (i := 8) (by kernel_rfl)
      next => (simp only [List.getElem?_toArray, List.getElem?_cons_succ, List.getElem?_cons_zero]; rfl)
      next => rfl
      next => (intro w' hSw; clear hSw; go_simp; first | done | with_reducible rfl)
      simp only [Act.put, List.setIfInBounds_toArray, List.set_cons_zero, List.set_cons_succ]
      refine Ord.go_one (i := 9) (by kernel_rfl) (by kernel_rfl) ?_
      apply Ord.go_done1
      next => (simp only [List.getElem?_toArray, List.getElem?_cons_succ, List.getElem?_cons_zero]; rfl)
      next => rfl
      intro K hK
      go_wp2_with fail
      obtain ⟨wa, hx⟩ : ∃ q, wd0.alloc (.cells #[.int .i64 0, .int .i64 0, .int .i64 0, .string ⟨#[]⟩] 36) = q := ⟨_, rfl⟩
      have ha := Aid.Has.new wd0 [.int .i64 0, .int .i64 0, .int .i64 0, .string ⟨#[]⟩] 36
      have hb' := below_new wd0 (.cells #[.int .i64 0, .int .i64 0, .int .i64 0, .string ⟨#[]⟩] 36)
      rw [hx] at ha hb' ⊢
      have hal : w10.heap.size ≤ wd0.heap.size := hb.size
      refine hK.out _ _ (hb.trans (hb'.mono hb.size)) (fun hHeld => ?_)
      clear hb hb'
      have hb := hHeld
      clear hx
      clear hK K
      try simp only [Act.put, List.setIfInBounds_toArray, List.set_cons_zero, List.set_cons_succ]
      refine Ord.go_tail ?_; simp only [List.drop_succ_cons, List.drop_zero]
      have q0 := ha.cell 0 _ rfl
      have q1 := ha.cell 1 _ rfl
      have q2 := ha.cell 2 _ rfl
      have q3 := ha.cell 3 _ rfl
      have f0 := ha.frozen 0
      have f1 := ha.frozen 1
      have f2 := ha.frozen 2
      have f3 := ha.frozen 3
      have lga := ha.lt
      have hbf := below4 (g := wd0.heap.size) (.int .i64 5) (.int .i64 0) (.int .i64 0) (.string s2) hb hal
      replace ha := set4 (.int .i64 5) (.int .i64 0) (.int .i64 0) (.string s2) ha
      go_wp2_with fail
      refine ⟨rfl, wd0.heap.size, ?_, ha, hbf⟩
      simp only [putL, Act.put, List.setIfInBounds_toArray, List.set_cons_zero, List.set_cons_succ]
      try rfl
    ·
      apply Ord.go_done1
      next => (simp only [List.getElem?_toArray, List.getElem?_cons_succ, List.getElem?_cons_zero]; rfl)
      next => rfl
      intro K hK
      go_wp2_with fail
      obtain ⟨wa, hx⟩ : ∃ q, wd0.alloc (.cells #[.int .i64 0, .int .i64 0, .int .i64 0, .string ⟨#[]⟩] 36) = q := ⟨_, rfl⟩
      have ha := Aid.Has.new wd0 [.int .i64 0, .int .i64 0, .int .i64 0, .string ⟨#[]⟩] 36
      have hb' := below_new wd0 (.cells #[.int .i64 0, .int .i64 0, .int .i64 0, .string ⟨#[]⟩] 36)
      rw [hx] at ha hb' ⊢
      have hal : w10.heap.size ≤ wd0.heap.size := hb.size
      refine hK.out _ _ (hb.trans (hb'.mono hb.size)) (fun hHeld => ?_)
      clear hb hb'
      have hb := hHeld
      clear hx
      clear hK K
      try simp only [Act.put, List.setIfInBounds_toArray, List.set_cons_zero, List.set_cons_succ]
      refine Ord.go_one (i := 4) (by kernel_rfl) (by kernel_rfl) ?_
      apply Ord.go_done1
      next => (simp only [List.getElem?_toArray, List.getElem?_cons_succ, List.getElem?_cons_zero]; rfl)
      next => rfl
      intro K hK
      go_wp2_with fail
      refine (low_is x2 u.length r2 h2 hn0 hn9 _).mono ?_; rintro _ w9 ⟨rfl, rfl⟩; dsimp only
      refine hK.out _ _ hb (fun hHeld => ?_)
      clear hK K
      try simp only [Act.put, List.setIfInBounds_toArray, List.set_cons_zero, List.set_cons_succ]
      apply Ord.go_light (i := 5) (by kernel_rfl)
      next => (simp only [List.getElem?_toArray, List.getElem?_cons_succ, List.getElem?_cons_zero]; rfl)
      next => rfl
      next => (intro w' hSw; clear hSw; go_simp; first | done | with_reducible rfl)
      simp only [Act.put, List.setIfInBounds_toArray, List.set_cons_zero, List.set_cons_succ]
      apply Ord.go_light (i := 6) (by kernel_rfl)
      next => (simp only [List.getElem?_toArray, List.getElem?_cons_succ, List.getElem?_cons_zero]; rfl)
      next => rfl
      next => (intro w' hSw; clear hSw; go_simp; first | done | with_reducible rfl)
      simp only [Act.put, List.setIfInBounds_toArray, List.set_cons_zero, List.set_cons_succ]
      apply Ord.go_light (i := 7) (by kernel_rfl)
      next => (simp only [List.getElem?_toArray, List.getElem?_cons_succ, List.getElem?_cons_zero]; rfl)
      next => rfl
      next => (intro w' hSw; have z0 := (hSw.cell (p := ⟨p6, 0, none⟩) l6).trans x6; have z1 := (hSw.cell (p := ⟨ub, uo + r2 * 11 + 1, none⟩) lub).trans n2; clear hSw; go_simp; first | done | with_reducible rfl)
      simp only [Act.put, List.setIfInBounds_toArray, List.set_cons_zero, List.set_cons_succ]
      apply Ord.go_light (i := 8) (by kernel_rfl)
      next => (simp only [List.getElem?_toArray, List.getElem?_cons_succ, List.getElem?_cons_zero]; rfl)
      next => rfl
      next => (intro w' hSw; clear hSw; go_simp; first | done | with_reducible rfl)
      simp only [Act.put, List.setIfInBounds_toArray, List.set_cons_zero, List.set_cons_succ]
      refine Ord.go_tail ?_; simp only [List.drop_succ_cons, List.drop_zero]
      have q0 := ha.cell 0 _ rfl
      have q1 := ha.cell 1 _ rfl
      have q2 := ha.cell 2 _ rfl
      have q3 := ha.cell 3 _ rfl
      have f0 := ha.frozen 0
      have f1 := ha.frozen 1
      have f2 := ha.frozen 2
      have f3 := ha.frozen 3
      have lga := ha.lt
      have hbf := below4 (g := wd0.heap.size) (.int .i64 5) (.int .i64 0) (.int .i64 0) (.string s2) hb hal
      replace ha := set4 (.int .i64 5) (.int .i64 0) (.int .i64 0) (.string s2) ha
      go_wp2_with fail
      refine ⟨rfl, wd0.heap.size, ?_, ha, hbf⟩
      simp only [putL, Act.put, List.setIfInBounds_toArray, List.set_cons_zero, List.set_cons_succ]
      try rfl
  rintro e' a' w11 ⟨rfl, g2, rfl, hg2, hb⟩
  simp only [putL, Act.put, List.setIfInBounds_toArray, List.set_cons_zero, List.set_cons_succ]
  replace HG1 := Aid.hid (HG1.out.below hb HG1.out.lt)
  have HG2 := Aid.hid hg2
  replace n1 := (hb.cell (p := ⟨ub, uo + r1 * 11 + 1, none⟩) lub).trans n1
  replace n2 := (hb.cell (p := ⟨ub, uo + r2 * 11 + 1, none⟩) lub).trans n2
  replace n3 := (hb.cell (p := ⟨ub, uo + r3 * 11 + 1, none⟩) lub).trans n3
  replace N6 := Aid.hid (N6.out.below hb N6.out.lt)
  replace x6 := N6.out.cell 0 _ rfl
  replace l6 := N6.out.lt
  replace lub := Nat.lt_of_lt_of_le lub hb.size
  replace KK := Aid.hid (KK.out.trans (hb.mono KK.out.size))
  clear hg2 hb
  go_wp2_with fail
  refine wp_cut (fun a0 => Ty.Nm a0 [66, 67, 68, 69, 70, 71, 72, 73, 74, 16] p6 ub uo cap u.length x3 r3 s3 w11) ?_ ?_
  · have hb : Below w11.heap.size w11 w11.drew := (Below.refl _ _).drew
    refine Ord.wp_region_go (fun w' => Below w11.heap.size w11 w') 10 [0, 1, 2, 3, 5, 6, 7, 8] (by kernel_rfl) (by kernel_rfl) (fun _ _ _ _ _ h => by cases h.1) (hb) ?_
    clear hb
    have hb : Below w11.heap.size w11 w11.drew := (Below.refl _ _).drew
    generalize w11.drew = wd0 at *
    apply Ord.go_light (i := 0) (by kernel_rfl)
    next => (simp only [List.getElem?_toArray, List.getElem?_cons_zero]; rfl)
    next => rfl
    next => (intro w' hSw; clear hSw; go_simp; first | done | with_reducible rfl)
    simp only [Act.put, List.setIfInBounds_toArray, List.set_cons_zero, List.set_cons_succ]
    apply Ord.go_light (i := 1) (by kernel_rfl)
    next => (simp only [List.getElem?_toArray, List.getElem?_cons_succ, List.getElem?_cons_zero]; rfl)
    next => rfl
    next => (intro w' hSw; have z0 := (hSw.cell (p := ⟨p6, 0, none⟩) l6).trans x6; have z1 := (hSw.cell (p := ⟨ub, uo + r3 * 11 + 1, none⟩) lub).trans n3; clear hSw; go_simp; first | done | with_reducible rfl)
    simp only [Act.put, List.setIfInBounds_toArray, List.set_cons_zero, List.set_cons_succ]
    apply Ord.go_light (i := 2) (by kernel_rfl)
    next => (simp only [List.getElem?_toArray, List.getElem?_cons_succ, List.getElem?_cons_zero]; rfl)
    next => rfl
    next => (intro w' hSw; clear hSw; go_simp; first | done | with_reducible rfl)
    simp only [Act.put, List.setIfInBounds_toArray, List.set_cons_zero, List.set_cons_succ]
    apply Ord.go_light (i := 3) (by kernel_rfl)
    next => (simp only [List.getElem?_toArray, List.getElem?_cons_succ, List.getElem?_cons_zero]; rfl)
    next => rfl
    next => (intro w' hSw; clear hSw; go_simp; first | done | with_reducible rfl)
    simp only [Act.put, List.setIfInBounds_toArray, List.set_cons_zero, List.set_cons_succ]
    refine Ord.go_two (i := 4) (j := 9) (by kernel_rfl) (by kernel_rfl) ?_ ?_
    ·
      apply Ord.go_done1
      next => (simp only [List.getElem?_toArray, List.getElem?_cons_succ, List.getElem?_cons_zero]; rfl)
      next => rfl
      intro K hK
      go_wp2_with fail
      refine (low_is x3 u.length r3 h3 hn0 hn9 _).mono ?_; rintro _ w9 ⟨rfl, rfl⟩; dsimp only
      refine hK.out _ _ hb (fun hHeld => ?_)
      clear hK K
      try simp only [Act.put, List.setIfInBounds_toArray, List.set_cons_zero, List.set_cons_succ]
      apply Ord.go_light (i := 5) (by kernel_rfl)
      next => (simp only [List.getElem?_toArray, List.getElem?_cons_succ, List.getElem?_cons_zero]; rfl)
      next => rfl
      next => (intro w' hSw; clear hSw; go_simp; first | done | with_reducible rfl)
      simp only [Act.put, List.setIfInBounds_toArray, List.set_cons_zero, List.set_cons_succ]
      apply Ord.go_light (i := 6) (by kernel_rfl)
      next => (simp only [List.getElem?_toArray, List.getElem?_cons_succ, List.getElem?_cons_zero]; rfl)
      next => rfl
      next => (intro w' hSw; clear hSw; go_simp; first | done | with_reducible rfl)
      simp only [Act.put, List.setIfInBounds_toArray, List.set_cons_zero, List.set_cons_succ]
      apply Ord.go_light (i := 7) (by kernel_rfl)
      next => (simp only [List.getElem?_toArray, List.getElem?_cons_succ, List.getElem?_cons_zero]; rfl)
      next => rfl
      next => (intro w' hSw; have z0 := (hSw.cell (p := ⟨p6, 0, none⟩) l6).trans x6; have z1 := (hSw.cell (p := ⟨ub, uo + r3 * 11 + 1, none⟩) lub).trans n3; clear hSw; go_simp; first | done | with_reducible rfl)
      simp only [Act.put, List.setIfInBounds_toArray, List.set_cons_zero, List.set_cons_succ]
      apply Ord.go_light (i := 8) (by kernel_rfl)
      next => (simp only [List.getElem?_toArray, List.getElem?_cons_succ, List.getElem?_cons_zero]; rfl)
      next => rfl
      next => (intro w' hSw; clear hSw; go_simp; first | done | with_reducible rfl)
      simp only [Act.put, List.setIfInBounds_toArray, List.set_cons_zero, List.set_cons_succ]
      refine Ord.go_one (i := 9) (by kernel_rfl) (by kernel_rfl) ?_
      apply Ord.go_done1
      next => (simp only [List.getElem?_toArray, List.getElem?_cons_succ, List.getElem?_cons_zero]; rfl)
      next => rfl
      intro K hK
      go_wp2_with fail
      obtain ⟨wa, hx⟩ : ∃ q, wd0.alloc (.cells #[.int .i64 0, .int .i64 0, .int .i64 0, .string ⟨#[]⟩] 36) = q := ⟨_, rfl⟩
      have ha := Aid.Has.new wd0 [.int .i64 0, .int .i64 0, .int .i64 0, .string ⟨#[]⟩] 36
      have hb' := below_new wd0 (.cells #[.int .i64 0, .int .i64 0, .int .i64 0, .string ⟨#[]⟩] 36)
      rw [hx] at ha hb' ⊢
      have hal : w11.heap.size ≤ wd0.heap.size := hb.size
      refine hK.out _ _ (hb.trans (hb'.mono hb.size)) (fun hHeld => ?_)
      clear hb hb'
      have hb := hHeld
      clear hx
      clear hK K
      try simp only [Act.put, List.setIfInBounds_toArray, List.set_cons_zero, List.set_cons_succ]
      refine Ord.go_tail ?_; simp only [List.drop_succ_cons, List.drop_zero]
      have q0 := ha.cell 0 _ rfl
      have q1 := ha.cell 1 _ rfl
      have q2 := ha.cell 2 _ rfl
      have q3 := ha.cell 3 _ rfl
      have f0 := ha.frozen 0
      have f1 := ha.frozen 1
      have f2 := ha.frozen 2
      have f3 := ha.frozen 3
      have lga := ha.lt
      have hbf := below4 (g := wd0.heap.size) (.int .i64 5) (.int .i64 0) (.int .i64 0) (.string s3) hb hal
      replace ha := set4 (.int .i64 5) (.int .i64 0) (.int .i64 0) (.string s3) ha
      go_wp2_with fail
      refine ⟨rfl, wd0.heap.size, ?_, ha, hbf⟩
      simp only [putL, Act.put, List.setIfInBounds_toArray, List.set_cons_zero, List.set_cons_succ]
      try rfl
    ·
      apply Ord.go_done1
      next => (simp only [List.getElem?_toArray, List.getElem?_cons_succ, List.getElem?_cons_zero]; rfl)
      next => rfl
      intro K hK
      go_wp2_with fail
      obtain ⟨wa, hx⟩ : ∃ q, wd0.alloc (.cells #[.int .i64 0, .int .i64 0, .int .i64 0, .string ⟨#[]⟩] 36) = q := ⟨_, rfl⟩
      have ha := Aid.Has.new wd0 [.int .i64 0, .int .i64 0, .int .i64 0, .string ⟨#[]⟩] 36
      have hb' := below_new wd0 (.cells #[.int .i64 0, .int .i64 0, .int .i64 0, .string ⟨#[]⟩] 36)
      rw [hx] at ha hb' ⊢
      have hal : w11.heap.size ≤ wd0.heap.size := hb.size
      refine hK.out _ _ (hb.trans (hb'.mono hb.size)) (fun hHeld => ?_)
      clear hb hb'
      have hb := hHeld
      clear hx
      clear hK K
      try simp only [Act.put, List.setIfInBounds_toArray, List.set_cons_zero, List.set_cons_succ]
      refine Ord.go_one (i := 4) (by kernel_rfl) (by kernel_rfl) ?_
      apply Ord.go_done1
      next => (simp only [List.getElem?_toArray, List.getElem?_cons_succ, List.getElem?_cons_zero]; rfl)
      next => rfl
      intro K hK
      go_wp2_with fail
      refine (low_is x3 u.length r3 h3 hn0 hn9 _).mono ?_; rintro _ w9 ⟨rfl, rfl⟩; dsimp only
      refine hK.out _ _ hb (fun hHeld => ?_)
      clear hK K
      try simp only [Act.put, List.setIfInBounds_toArray, List.set_cons_zero, List.set_cons_succ]
      apply Ord.go_light (i := 5) (by kernel_rfl)
      next => (simp only [List.getElem?_toArray, List.getElem?_cons_succ, List.getElem?_cons_zero]; rfl)
      next => rfl
      next => (intro w' hSw; clear hSw; go_simp; first | done | with_reducible rfl)
      simp only [Act.put, List.setIfInBounds_toArray, List.set_cons_zero, List.set_cons_succ]
      apply Ord.go_light (i := 6) (by kernel_rfl)
      next => (simp only [List.getElem?_toArray, List.getElem?_cons_succ, List.getElem?_cons_zero]; rfl)
      next => rfl
      next => (intro w' hSw; clear hSw; go_simp; first | done | with_reducible rfl)
      simp only [Act.put, List.setIfInBounds_toArray, List.set_cons_zero, List.set_cons_succ]
      apply Ord.go_light (i := 7) (by kernel_rfl)
      next => (simp only [List.getElem?_toArray, List.getElem?_cons_succ, List.getElem?_cons_zero]; rfl)
      next => rfl
      next => (intro w' hSw; have z0 := (hSw.cell (p := ⟨p6, 0, none⟩) l6).trans x6; have z1 := (hSw.cell (p := ⟨ub, uo + r3 * 11 + 1, none⟩) lub).trans n3; clear hSw; go_simp; first | done | with_reducible rfl)
      simp only [Act.put, List.setIfInBounds_toArray, List.set_cons_zero, List.set_cons_succ]
      apply Ord.go_light (i := 8) (by kernel_rfl)
      next => (simp only [List.getElem?_toArray, List.getElem?_cons_succ, List.getElem?_cons_zero]; rfl)
      next => rfl
      next => (intro w' hSw; clear hSw; go_simp; first | done | with_reducible rfl)
      simp only [Act.put, List.setIfInBounds_toArray, List.set_cons_zero, List.set_cons_succ]
      refine Ord.go_tail ?_; simp only [List.drop_succ_cons, List.drop_zero]
      have q0 := ha.cell 0 _ rfl
      have q1 := ha.cell 1 _ rfl
      have q2 := ha.cell 2 _ rfl
      have q3 := ha.cell 3 _ rfl
      have f0 := ha.frozen 0
      have f1 := ha.frozen 1
      have f2 := ha.frozen 2
      have f3 := ha.frozen 3
      have lga := ha.lt
      have hbf := below4 (g := wd0.heap.size) (.int .i64 5) (.int .i64 0) (.int .i64 0) (.string s3) hb hal
      replace ha := set4 (.int .i64 5) (.int .i64 0) (.int .i64 0) (.string s3) ha
      go_wp2_with fail
      refine ⟨rfl, wd0.heap.size, ?_, ha, hbf⟩
      simp only [putL, Act.put, List.setIfInBounds_toArray, List.set_cons_zero, List.set_cons_succ]
      try rfl
  rintro e' a' w12 ⟨rfl, g3, rfl, hg3, hb⟩
  simp only [putL, Act.put, List.setIfInBounds_toArray, List.set_cons_zero, List.set_cons_succ]
  replace HG1 := Aid.hid (HG1.out.below hb HG1.out.lt)
  replace HG2 := Aid.hid (HG2.out.below hb HG2.out.lt)
  have HG3 := Aid.hid hg3
  replace n1 := (hb.cell (p := ⟨ub, uo + r1 * 11 + 1, none⟩) lub).trans n1
  replace n2 := (hb.cell (p := ⟨ub, uo + r2 * 11 + 1, none⟩) lub).trans n2
  replace n3 := (hb.cell (p := ⟨ub, uo + r3 * 11 + 1, none⟩) lub).trans n3
  replace N6 := Aid.hid (N6.out.below hb N6.out.lt)
  replace x6 := N6.out.cell 0 _ rfl
  replace l6 := N6.out.lt
  replace lub := Nat.lt_of_lt_of_le lub hb.size
  replace KK := Aid.hid (KK.out.trans (hb.mono KK.out.size))
  clear hg3 hb
  have a0 := HG1.out.cell 0 _ rfl
  have a1 := HG1.out.cell 1 _ rfl
  have a2 := HG1.out.cell 2 _ rfl
  have a3 := HG1.out.cell 3 _ rfl
  have la := HG1.out.lt
  have b0 := HG2.out.cell 0 _ rfl
  have b1 := HG2.out.cell 1 _ rfl
  have b2 := HG2.out.cell 2 _ rfl
  have b3 := HG2.out.cell 3 _ rfl
  have lb := HG2.out.lt
  have c0 := HG3.out.cell 0 _ rfl
  have c1 := HG3.out.cell 1 _ rfl
  have c2 := HG3.out.cell 2 _ rfl
  have c3 := HG3.out.cell 3 _ rfl
  have lc := HG3.out.lt
  have k13 := KK.out.alloc KK.out.size (.cells #[.int .i64 5, .int .i64 0, .int .i64 0, .string ⟨#[]⟩] 36)
  have NN := Aid.hid (Aid.Has.new w12 [.int .i64 5, .int .i64 0, .int .i64 0, .string ⟨#[]⟩] 36)
  have KN := below_new w12 (.cells #[.int .i64 5, .int .i64 0, .int .i64 0, .string ⟨#[]⟩] 36)
  clear n1 n2 n3 lub h1 h2 h3
  obtain ⟨e1, he1⟩ : ∃ e, s1.toList.isEmpty = e := ⟨_, rfl⟩
  obtain ⟨e2, he2⟩ : ∃ e, s2.toList.isEmpty = e := ⟨_, rfl⟩
  obtain ⟨e3, he3⟩ : ∃ e, s3.toList.isEmpty = e := ⟨_, rfl⟩
  by_cases hE : e1 = true ∨ e2 = true ∨ e3 = true
  · have hcase : e1 = true ∨ (e1 = false ∧ e2 = true) ∨ (e1 = false ∧ e2 = false ∧ e3 = true) := by
      cases e1 <;> cases e2 <;> cases e3 <;> simp at hE ⊢
    have KK := Aid.hid k13
    clear k13 hE
    rcases hcase with rfl | ⟨rfl, rfl⟩ | ⟨rfl, rfl, rfl⟩
    all_goals
      go_wp2_with fail
      refine (awake_is _).mono ?_; rintro _ w99 ⟨rfl, hb99⟩
      have K99 := Aid.hid ((KK.out).trans (hb99.mono (KK.out).size))
      clear hb99
      go_wp2_with fail
      go_ret
      exact ⟨rfl, K99.out⟩
  · obtain ⟨rfl, rfl, rfl⟩ : false = e1 ∧ false = e2 ∧ false = e3 := by
      cases e1 <;> cases e2 <;> cases e3 <;> simp at hE ⊢
    have KK := Aid.hid k13
    go_upto_region 12 with (fail)
    obtain ⟨X, hX⟩ : ∃ X, w12.alloc (.cells #[.int .i64 5, .int .i64 0, .int .i64 0, .string ⟨#[]⟩] 36) = X := ⟨_, rfl⟩
    obtain ⟨gn, hgn⟩ : ∃ g, w12.heap.size = g := ⟨_, rfl⟩
    rw [hX] at NN KN KK ⊢
    rw [hgn] at NN ⊢
    clear hX hgn
    have HG1 := Aid.hid (HG1.out.below KN HG1.out.lt)
    have HG2 := Aid.hid (HG2.out.below KN HG2.out.lt)
    have HG3 := Aid.hid (HG3.out.below KN HG3.out.lt)
    have N6 := Aid.hid (N6.out.below KN N6.out.lt)
    clear k13 hE KN a0 a1 a2 a3 la b0 b1 b2 b3 lb c0 c1 c2 c3 lc x6 l6
    obtain ⟨q1, hq1⟩ : ∃ q, Ty.fits u ⟨5, 0, 0, s1⟩ ⟨5, 0, 0, s2⟩ = q := ⟨_, rfl⟩
    obtain ⟨q2, hq2⟩ : ∃ q, Ty.fits u ⟨5, 0, 0, s2⟩ ⟨5, 0, 0, s3⟩ = q := ⟨_, rfl⟩
    obtain ⟨q3, hq3⟩ : ∃ q, Ty.fits u ⟨5, 0, 0, s1⟩ ⟨5, 0, 0, s3⟩ = q := ⟨_, rfl⟩
    have TR : Hid (q1 = true → q2 = true → q3 = true) := Aid.hid (by
      rintro rfl rfl
      rw [← hq3]
      exact Ty.fits_trans u s1 s2 s3 he2 hq1 hq2)
    have HQ1 := Aid.hid hq1; have HQ2 := Aid.hid hq2; have HQ3 := Aid.hid hq3
    clear hq1 hq2 hq3
    have a0 := HG1.out.cell 0 _ rfl
    have a1 := HG1.out.cell 1 _ rfl
    have a2 := HG1.out.cell 2 _ rfl
    have a3 := HG1.out.cell 3 _ rfl
    have la := HG1.out.lt
    have b0 := HG2.out.cell 0 _ rfl
    have b1 := HG2.out.cell 1 _ rfl
    have b2 := HG2.out.cell 2 _ rfl
    have b3 := HG2.out.cell 3 _ rfl
    have lb := HG2.out.lt
    have c0 := HG3.out.cell 0 _ rfl
    have c1 := HG3.out.cell 1 _ rfl
    have c2 := HG3.out.cell 2 _ rfl
    have c3 := HG3.out.cell 3 _ rfl
    have lc := HG3.out.lt
    have d0 := NN.out.cell 0 _ rfl
    have d1 := NN.out.cell 1 _ rfl
    have d2 := NN.out.cell 2 _ rfl
    have d3 := NN.out.cell 3 _ rfl
    have ld := NN.out.lt
    have x6 := N6.out.cell 0 _ rfl
    have l6 := N6.out.lt
    go_wp2_with fail
    refine (fits_is u (some ⟨ub, uo, none⟩) w.heap.size cap ⟨5, 0, 0, s1⟩ ⟨5, 0, 0, s1⟩ true _ (Ty.fits_self u s1) (HU.out.below KK.out (Nat.le_refl _)) KK.out.size).mono ?_; rintro _ wf ⟨rfl, hbf⟩
    replace KK := Aid.hid (KK.out.trans (hbf.mono KK.out.size))
    replace HG1 := Aid.hid (HG1.out.below hbf HG1.out.lt)
    replace HG2 := Aid.hid (HG2.out.below hbf HG2.out.lt)
    replace HG3 := Aid.hid (HG3.out.below hbf HG3.out.lt)
    replace NN := Aid.hid (NN.out.below hbf NN.out.lt)
    replace N6 := Aid.hid (N6.out.below hbf N6.out.lt)
    clear hbf
    clear a0 a1 a2 a3 b0 b1 b2 b3 c0 c1 c2 c3 d0 d1 d2 d3 la lb lc ld x6 l6
    have a0 := HG1.out.cell 0 _ rfl
    have a1 := HG1.out.cell 1 _ rfl
    have a2 := HG1.out.cell 2 _ rfl
    have a3 := HG1.out.cell 3 _ rfl
    have la := HG1.out.lt
    have b0 := HG2.out.cell 0 _ rfl
    have b1 := HG2.out.cell 1 _ rfl
    have b2 := HG2.out.cell 2 _ rfl
    have b3 := HG2.out.cell 3 _ rfl
    have lb := HG2.out.lt
    have c0 := HG3.out.cell 0 _ rfl
    have c1 := HG3.out.cell 1 _ rfl
    have c2 := HG3.out.cell 2 _ rfl
    have c3 := HG3.out.cell 3 _ rfl
    have lc := HG3.out.lt
    have d0 := NN.out.cell 0 _ rfl
    have d1 := NN.out.cell 1 _ rfl
    have d2 := NN.out.cell 2 _ rfl
    have d3 := NN.out.cell 3 _ rfl
    have ld := NN.out.lt
    have x6 := N6.out.cell 0 _ rfl
    have l6 := N6.out.lt
    go_wp2_with fail
    refine (fits_is u (some ⟨ub, uo, none⟩) w.heap.size cap ⟨5, 0, 0, s1⟩ ⟨5, 0, 0, ⟨#[]⟩⟩ true _ (Ty.fits_null u s1) (HU.out.below KK.out (Nat.le_refl _)) KK.out.size).mono ?_; rintro _ wf ⟨rfl, hbf⟩
    replace KK := Aid.hid (KK.out.trans (hbf.mono KK.out.size))
    replace HG1 := Aid.hid (HG1.out.below hbf HG1.out.lt)
    replace HG2 := Aid.hid (HG2.out.below hbf HG2.out.lt)
    replace HG3 := Aid.hid (HG3.out.below hbf HG3.out.lt)
    replace NN := Aid.hid (NN.out.below hbf NN.out.lt)
    replace N6 := Aid.hid (N6.out.below hbf N6.out.lt)
    clear hbf
    clear a0 a1 a2 a3 b0 b1 b2 b3 c0 c1 c2 c3 d0 d1 d2 d3 la lb lc ld x6 l6
    have a0 := HG1.out.cell 0 _ rfl
    have a1 := HG1.out.cell 1 _ rfl
    have a2 := HG1.out.cell 2 _ rfl
    have a3 := HG1.out.cell 3 _ rfl
    have la := HG1.out.lt
    have b0 := HG2.out.cell 0 _ rfl
    have b1 := HG2.out.cell 1 _ rfl
    have b2 := HG2.out.cell 2 _ rfl
    have b3 := HG2.out.cell 3 _ rfl
    have lb := HG2.out.lt
    have c0 := HG3.out.cell 0 _ rfl
    have c1 := HG3.out.cell 1 _ rfl
    have c2 := HG3.out.cell 2 _ rfl
    have c3 := HG3.out.cell 3 _ rfl
    have lc := HG3.out.lt
    have d0 := NN.out.cell 0 _ rfl
    have d1 := NN.out.cell 1 _ rfl
    have d2 := NN.out.cell 2 _ rfl
    have d3 := NN.out.cell 3 _ rfl
    have ld := NN.out.lt
    have x6 := N6.out.cell 0 _ rfl
    have l6 := N6.out.lt
    go_wp2_with fail
    refine (fits_is u (some ⟨ub, uo, none⟩) w.heap.size cap ⟨5, 0, 0, s1⟩ ⟨5, 0, 0, s2⟩ q1 _ HQ1.out (HU.out.below KK.out (Nat.le_refl _)) KK.out.size).mono ?_; rintro _ wf ⟨rfl, hbf⟩
    replace KK := Aid.hid (KK.out.trans (hbf.mono KK.out.size))
    replace HG1 := Aid.hid (HG1.out.below hbf HG1.out.lt)
    replace HG2 := Aid.hid (HG2.out.below hbf HG2.out.lt)
    replace HG3 := Aid.hid (HG3.out.below hbf HG3.out.lt)
    replace NN := Aid.hid (NN.out.below hbf NN.out.lt)
    replace N6 := Aid.hid (N6.out.below hbf N6.out.lt)
    clear hbf
    clear a0 a1 a2 a3 b0 b1 b2 b3 c0 c1 c2 c3 d0 d1 d2 d3 la lb lc ld x6 l6
    have a0 := HG1.out.cell 0 _ rfl
    have a1 := HG1.out.cell 1 _ rfl
    have a2 := HG1.out.cell 2 _ rfl
    have a3 := HG1.out.cell 3 _ rfl
    have la := HG1.out.lt
    have b0 := HG2.out.cell 0 _ rfl
    have b1 := HG2.out.cell 1 _ rfl
    have b2 := HG2.out.cell 2 _ rfl
    have b3 := HG2.out.cell 3 _ rfl
    have lb := HG2.out.lt
    have c0 := HG3.out.cell 0 _ rfl
    have c1 := HG3.out.cell 1 _ rfl
    have c2 := HG3.out.cell 2 _ rfl
    have c3 := HG3.out.cell 3 _ rfl
    have lc := HG3.out.lt
    have d0 := NN.out.cell 0 _ rfl
    have d1 := NN.out.cell 1 _ rfl
    have d2 := NN.out.cell 2 _ rfl
    have d3 := NN.out.cell 3 _ rfl
    have ld := NN.out.lt
    have x6 := N6.out.cell 0 _ rfl
    have l6 := N6.out.lt
    cases q1
    · go_wp2_with fail
      refine (awake_is _).mono ?_; rintro _ w99 ⟨rfl, hb99⟩
      have K99 := Aid.hid ((KK.out).trans (hb99.mono (KK.out).size))
      clear hb99
      go_wp2_with fail
      go_ret
      exact ⟨rfl, K99.out⟩
    · go_wp2_with fail
      refine (fits_is u (some ⟨ub, uo, none⟩) w.heap.size cap ⟨5, 0, 0, s2⟩ ⟨5, 0, 0, s3⟩ q2 _ HQ2.out (HU.out.below KK.out (Nat.le_refl _)) KK.out.size).mono ?_; rintro _ wf ⟨rfl, hbf⟩
      replace KK := Aid.hid (KK.out.trans (hbf.mono KK.out.size))
      replace HG1 := Aid.hid (HG1.out.below hbf HG1.out.lt)
      replace HG2 := Aid.hid (HG2.out.below hbf HG2.out.lt)
      replace HG3 := Aid.hid (HG3.out.below hbf HG3.out.lt)
      replace NN := Aid.hid (NN.out.below hbf NN.out.lt)
      replace N6 := Aid.hid (N6.out.below hbf N6.out.lt)
      clear hbf
      clear a0 a1 a2 a3 b0 b1 b2 b3 c0 c1 c2 c3 d0 d1 d2 d3 la lb lc ld x6 l6
      have a0 := HG1.out.cell 0 _ rfl
      have a1 := HG1.out.cell 1 _ rfl
      have a2 := HG1.out.cell 2 _ rfl
      have a3 := HG1.out.cell 3 _ rfl
      have la := HG1.out.lt
      have b0 := HG2.out.cell 0 _ rfl
      have b1 := HG2.out.cell 1 _ rfl
      have b2 := HG2.out.cell 2 _ rfl
      have b3 := HG2.out.cell 3 _ rfl
      have lb := HG2.out.lt
      have c0 := HG3.out.cell 0 _ rfl
      have c1 := HG3.out.cell 1 _ rfl
      have c2 := HG3.out.cell 2 _ rfl
      have c3 := HG3.out.cell 3 _ rfl
      have lc := HG3.out.lt
      have d0 := NN.out.cell 0 _ rfl
      have d1 := NN.out.cell 1 _ rfl
      have d2 := NN.out.cell 2 _ rfl
      have d3 := NN.out.cell 3 _ rfl
      have ld := NN.out.lt
      have x6 := N6.out.cell 0 _ rfl
      have l6 := N6.out.lt
      cases q2
      · go_wp2_with fail
        refine (awake_is _).mono ?_; rintro _ w99 ⟨rfl, hb99⟩
        have K99 := Aid.hid ((KK.out).trans (hb99.mono (KK.out).size))
        clear hb99
        go_wp2_with fail
        go_ret
        exact ⟨rfl, K99.out⟩
      · obtain rfl : true = q3 := by have h := TR.out; simp at h; exact h.symm
        go_wp2_with fail
        refine (fits_is u (some ⟨ub, uo, none⟩) w.heap.size cap ⟨5, 0, 0, s1⟩ ⟨5, 0, 0, s3⟩ true _ HQ3.out (HU.out.below KK.out (Nat.le_refl _)) KK.out.size).mono ?_; rintro _ wf ⟨rfl, hbf⟩
        replace KK := Aid.hid (KK.out.trans (hbf.mono KK.out.size))
        replace HG1 := Aid.hid (HG1.out.below hbf HG1.out.lt)
        replace HG2 := Aid.hid (HG2.out.below hbf HG2.out.lt)
        replace HG3 := Aid.hid (HG3.out.below hbf HG3.out.lt)
        replace NN := Aid.hid (NN.out.below hbf NN.out.lt)
        replace N6 := Aid.hid (N6.out.below hbf N6.out.lt)
        clear hbf
        clear a0 a1 a2 a3 b0 b1 b2 b3 c0 c1 c2 c3 d0 d1 d2 d3 la lb lc ld x6 l6
        go_wp2_with fail
        refine (awake_is _).mono ?_; rintro _ w99 ⟨rfl, hb99⟩
        have K99 := Aid.hid ((KK.out).trans (hb99.mono (KK.out).size))
        clear hb99
        go_wp2_with fail
        go_ret
        exact ⟨rfl, K99.out⟩
end Go.Proofs.Ytmhdcehpddbjaaa
