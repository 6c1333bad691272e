/- The law DueParts, walked. -/
import Derived.Test.YtimojijbjmchkaaDueOrder
namespace Go.Proofs.Ytimojijbjmchkaa
open Go.RowKit

theorem Du.part (e s x y : Int) (h0 : 0 ≤ s) (hx : 0 ≤ x) (hy : 0 ≤ y) : Du.due e s (s + x + y) = (Du.due e s (s + x) || Du.due e (s + x) (s + x + y)) := by
  by_cases he : 1 ≤ e
  · rw [Du.due_4 _ _ _ he h0 (by omega), Du.due_4 _ _ _ he h0 (by omega), Du.due_4 _ _ _ he (by omega) (by omega)]
    have a1 : s.tdiv e ≤ (s + x).tdiv e := by
      rw [Int.tdiv_eq_ediv_of_nonneg h0, Int.tdiv_eq_ediv_of_nonneg (by omega)]; exact Int.ediv_le_ediv (by omega) (by omega)
    have a2 : (s + x).tdiv e ≤ (s + x + y).tdiv e := by
      rw [Int.tdiv_eq_ediv_of_nonneg (by omega), Int.tdiv_eq_ediv_of_nonneg (by omega)]; exact Int.ediv_le_ediv (by omega) (by omega)
    by_cases h : s.tdiv e < (s + x).tdiv e
    · have : s.tdiv e < (s + x + y).tdiv e := by omega
      simp [h, this]
    · by_cases k : (s + x).tdiv e < (s + x + y).tdiv e
      · have : s.tdiv e < (s + x + y).tdiv e := by omega
        simp [h, k, this]
      · have : ¬ s.tdiv e < (s + x + y).tdiv e := by omega
        simp [h, k, this]
  · rw [Du.due_1 _ _ _ he, Du.due_1 _ _ _ he, Du.due_1 _ _ _ he]; rfl
theorem Du.part_len (e : Int → Int) (s x y : Int) (h0 : 0 ≤ s) (hx : 0 ≤ x) (hy : 0 ≤ y) : ∀ k : Nat, (Du.list e s (s + x + y) k).length ≤ (Du.list e s (s + x) k).length + (Du.list e (s + x) (s + x + y) k).length ∧
    (Du.list e s (s + x) k).length ≤ (Du.list e s (s + x + y) k).length ∧ (Du.list e (s + x) (s + x + y) k).length ≤ (Du.list e s (s + x + y) k).length
  | 0 => ⟨Nat.le_refl _, Nat.le_refl _, Nat.le_refl _⟩
  | k + 1 => by
    have ih := Du.part_len e s x y h0 hx hy k
    have p := Du.part (e k) s x y h0 hx hy
    simp only [Du.list_succ_len]
    cases h1 : Du.due (e k) s (s + x) <;> cases h2 : Du.due (e k) (s + x) (s + x + y) <;> rw [h1, h2] at p <;> simp [p] <;> omega
theorem Du.none_len (e : Int → Int) (s : Int) : ∀ k : Nat, (Du.list e s s k).length = 0
  | 0 => rfl
  | k + 1 => by
    rw [Du.list_succ_len, Du.none_len e s k]
    have : Du.due (e k) s s = false := by unfold Du.due; split <;> simp
    simp [this]
theorem Du.Is.has {e f : Int → Int} {b a : Int} {len : Nat} {zs : List Int} (h : Du.Is e f b a len zs) (i : Nat) (hi : i < len) : decide ((i : Int) ∈ zs) = Du.due (e i) b a := by
  cases hd : Du.due (e i) b a
  · refine decide_eq_false fun hm => ?_
    have := (Du.list_mem (h.1.subset hm)).2.2
    rw [hd] at this; cases this
  · refine decide_eq_true (h.1.symm.subset ?_)
    unfold Du.list
    exact List.mem_map.2 ⟨i, List.mem_filter.2 ⟨by simpa using hi, hd⟩, rfl⟩

set_option maxRecDepth 100000 in
set_option maxHeartbeats 1000000 in
theorem has_any (A : Option Addr) (c B : Nat) (zs : List Int) (x : Int) (w : World) (h : IntsAt w B A zs) (hl : zs.length ≤ 20) :
    Calls Try.prog 17 #[.slice A zs.length c, .int .i64 x] w fun e w' => e = .returned (.bool (decide (x ∈ zs))) ∧ w = w' := by
  have H := Aid.hid h
  clear h
  go_enter Try.func17, Try.ntmps17
  try simp only [List.append_eq, List.cons_append, List.nil_append]
  go_wp2_with fail
  go_loopw [5] (fun i wr => ∃ k : Nat, i = .int .i64 k ∧ k ≤ zs.length ∧ Hid (x ∉ zs.take k) ∧ wr = w) (fun i _ => zs.length - (intOf i).toNat)
  case atStart => exact ⟨0, rfl, Nat.zero_le _, Aid.hid (by simp), rfl⟩
  case round =>
    obtain ⟨k, rfl, hk, N, rfl⟩ := hrel
    by_cases hlt : k < zs.length
    · obtain ⟨ad, rfl, _, hc⟩ := H.out.at_ hlt
      obtain ⟨z, hz⟩ : ∃ z, zs[k]? = some z := ⟨_, List.getElem?_eq_getElem hlt⟩
      have c1 := hc k z hz
      have HZ := Aid.hid hz
      clear hc hz
      by_cases he : z = x
      · have E := Aid.hid (show decide (x ∈ zs) = true from decide_eq_true (he ▸ List.mem_of_getElem? HZ.out))
        subst he
        go_wp2_with fail
        go_ret
        exact ⟨by rw [E.out]; rfl, rfl⟩
      · have NX : Hid (x ∉ zs.take (k + 1)) := Aid.hid (by
          rw [List.take_add_one, HZ.out]
          intro hm
          rcases List.mem_append.1 hm with h | h
          · exact N.out h
          · have h2 : x = z := by simpa using h
            exact he h2.symm)
        have hb : (z == x) = false := by simpa using he
        go_wp2_with fail
        go_roundw
        case rel => exact ⟨k + 1, by go_num, by omega, NX, trivial⟩
        case measure => simp [intOf]; omega
    · have E : Hid (decide (x ∈ zs) = false) := Aid.hid (decide_eq_false (by have := N.out; rwa [List.take_of_length_le (by omega)] at this))
      go_wp2_with fail
      go_ret
      exact ⟨by rw [E.out]; rfl, rfl⟩
theorem has_is (A : Option Addr) (c B : Nat) (zs : List Int) (x : Int) (w : World) (r : Bool) (hr : decide (x ∈ zs) = r) (h : IntsAt w B A zs) (hl : zs.length ≤ 20) :
    Calls Try.prog 17 #[.slice A zs.length c, .int .i64 x] w fun e w' => e = .returned (.bool r) ∧ w = w' := by
  rw [← hr]; exact has_any A c B zs x w h hl

theorem IntsAt.below {w w' : World} {B : Nat} {A : Option Addr} {xs : List Int} (h : IntsAt w B A xs) (hb : Below B w w') : IntsAt w' B A xs := Reads.below h hb
theorem IntsAt.drewN {w : World} {B : Nat} {A : Option Addr} {xs : List Int} (h : IntsAt w B A xs) (n : Nat) : IntsAt (w.drewN n) B A xs := h

set_option maxRecDepth 100000 in
set_option maxHeartbeats 4000000 in
theorem parts_any (a : Option Addr) (b off len cap : Nat) (e f : Int → Int) (x y z : Int) (w : World) (hlen : len ≤ 20) (hj : JobsIn w a b off len e f) :
    Calls Try.prog 6 #[.slice a len cap, .int .i64 x, .int .i64 y, .int .i64 z] w fun r w' => r = .returned (.bool true) ∧ Below w.heap.size w w' := by
  obtain ⟨s, hs⟩ : ∃ r, low x 1000 = r := ⟨_, rfl⟩
  obtain ⟨t, ht⟩ : ∃ r, low y 100 = r := ⟨_, rfl⟩
  obtain ⟨u, hu⟩ : ∃ r, low z 100 = r := ⟨_, rfl⟩
  obtain ⟨s0, s1⟩ : 0 ≤ s ∧ s < 1000 := hs ▸ low_in x 1000 (by decide)
  obtain ⟨t0, t1⟩ : 0 ≤ t ∧ t < 100 := ht ▸ low_in y 100 (by decide)
  obtain ⟨u0, u1⟩ : 0 ≤ u ∧ u < 100 := hu ▸ low_in z 100 (by decide)
  have HS := Aid.hid hs; have HT := Aid.hid ht; have HU := Aid.hid hu
  have HJ := Aid.hid hj
  clear hs ht hu hj
  go_enter Try.func6, Try.ntmps6
  try simp only [List.append_eq, List.cons_append, List.nil_append]
  go_wp2_with fail
  refine (low_is _ _ s HS.out (by decide) (by decide) _).mono ?_; rintro r w' ⟨rfl, rfl⟩
  go_wp2_with fail
  refine (low_is _ _ t HT.out (by decide) (by decide) _).mono ?_; rintro r w' ⟨rfl, rfl⟩
  go_wp2_with fail
  refine (low_is _ _ u HU.out (by decide) (by decide) _).mono ?_; rintro r w' ⟨rfl, rfl⟩
  go_wp2_with fail
  refine (which_any a b off len cap e f s (s + t + u) w hlen HJ.out (by omega)).mono ?_; rintro r w1 ⟨A1, c1, z1, rfl, is1, o1, hb1⟩
  have L1 : Hid (z1.length = (Du.list e s (s + t + u) len).length) := Aid.hid is1.1.length_eq
  have I1 := IntsAt.of_own o1
  have IS1 := Aid.hid is1
  clear is1 o1
  go_wp2_with fail
  refine (which_any a b off len cap e f s (s + t) w1 hlen (HJ.out.below hb1) (by omega)).mono ?_; rintro r w2 ⟨A2, c2, z2, rfl, is2, o2, hb2⟩
  have L2 : Hid (z2.length = (Du.list e s (s + t) len).length) := Aid.hid is2.1.length_eq
  have I2 := IntsAt.of_own o2
  have IS2 := Aid.hid is2
  replace I1 := I1.below hb2
  replace hb1 := hb1.trans (hb2.mono hb1.size)
  have M2 := hb2.size
  clear is2 o2 hb2
  go_wp2_with fail
  refine (which_any a b off len cap e f (s + t) (s + t + u) w2 hlen (HJ.out.below hb1) (by omega)).mono ?_; rintro r w3 ⟨A3, c3, z3, rfl, is3, o3, hb3⟩
  have L3 : Hid (z3.length = (Du.list e (s + t) (s + t + u) len).length) := Aid.hid is3.1.length_eq
  have I3 := IntsAt.of_own o3
  have IS3 := Aid.hid is3
  replace I1 := I1.below (hb3.mono M2)
  replace I2 := I2.below hb3
  replace hb1 := hb1.trans (hb3.mono hb1.size)
  clear is3 o3 hb3 M2
  have PL := Aid.hid (Du.part_len e s t u s0 t0 u0 len)
  have J1 := Aid.hid I1; have J2 := Aid.hid I2; have J3 := Aid.hid I3
  have l1 : z1.length ≤ 20 := by have := L1.out; have := Du.list_len e s (s + t + u) len; omega
  have l2 : z2.length ≤ 20 := by have := L2.out; have := Du.list_len e s (s + t) len; omega
  have l3 : z3.length ≤ 20 := by have := L3.out; have := Du.list_len e (s + t) (s + t + u) len; omega
  clear I1 I2 I3
  go_wp2_with fail
  obtain ⟨W3, hW3⟩ : ∃ W, W = w3 := ⟨_, rfl⟩
  go_loopw [12] (fun vi wr => ∃ (k n : Nat), vi = .int .i64 k ∧ k ≤ len ∧ Hid (wr = w3.drewN n)) (fun vi _ => len - (intOf vi).toNat)
  case atStart => exact ⟨0, 0, rfl, Nat.zero_le _, Aid.hid rfl⟩
  case round =>
    obtain ⟨k, n, rfl, hk, HW⟩ := hrel
    by_cases hlt : k < len
    · obtain rfl := HJ.out.addr (by omega)
      have HJ2 := HJ.out.below hb1
      have cc : wr.cell? ⟨b, off + k * 3 + 1, none⟩ = some (.int .i64 (e k)) := by rw [HW.out]; exact HJ2.every k hlt
      clear HJ2
      have K1 : Hid (IntsAt wr _ A1 z1) := Aid.hid (by rw [HW.out]; exact J1.out)
      have K2 : Hid (IntsAt wr _ A2 z2) := Aid.hid (by rw [HW.out]; exact J2.out)
      have K3 : Hid (IntsAt wr _ A3 z3) := Aid.hid (by rw [HW.out]; exact J3.out)
      have D1 := Aid.hid (IS1.out.has k hlt)
      have D2 := Aid.hid (IS2.out.has k hlt)
      have D3 := Aid.hid (IS3.out.has k hlt)
      have DP := Aid.hid (Du.part (e k) s t u s0 t0 u0)
      obtain ⟨r2, hr2⟩ : ∃ r, Du.due (e k) s (s + t) = r := ⟨_, rfl⟩
      obtain ⟨r3, hr3⟩ : ∃ r, Du.due (e k) (s + t) (s + t + u) = r := ⟨_, rfl⟩
      have R1 : Hid (Du.due (e k) s (s + t + u) = (r2 || r3)) := Aid.hid (by rw [DP.out, hr2, hr3])
      have E1 : Hid (decide ((k : Int) ∈ z1) = (r2 || r3)) := Aid.hid (by rw [D1.out, R1.out])
      have E2 : Hid (decide ((k : Int) ∈ z2) = r2) := Aid.hid (by rw [D2.out, hr2])
      have E3 : Hid (decide ((k : Int) ∈ z3) = r3) := Aid.hid (by rw [D3.out, hr3])
      clear D1 D2 D3 DP hr2 hr3
      cases r2 <;> cases r3
      all_goals
        simp only [Bool.or_false, Bool.or_true] at R1 E1
        go_wp2_with fail
        go_quiet ((first | (go_at_call 17; first | with_reducible exact quiet_left (has_is A1 c1 _ z1 _ _ _ E1.out (K1.out.drewN _) l1) | with_reducible exact quiet_left (has_is A2 c2 _ z2 _ _ _ E2.out (K2.out.drewN _) l2) | with_reducible exact quiet_left (has_is A3 c3 _ z3 _ _ _ E3.out (K3.out.drewN _) l3)) | (go_at_call 11; exact Calls.quiet_of (due_isN _ _ _ _ R1.out _ (by omega)))))
        go_wp2_with fail
        go_roundw
        case rel => exact ⟨k + 1, n + nq, by go_num, by omega, Aid.hid (by rw [HW.out]; exact drewN_more _ _ _)⟩
        case measure => simp [intOf]; omega
    · have hb4 : Below w.heap.size w wr := by rw [HW.out]; exact below_drewN' hb1 _
      have HJ4 := HJ.out.below hb4
      go_wp2_with fail
      refine (which_any a b off len cap e f s s wr hlen HJ4 (by omega)).mono ?_; rintro r w5 ⟨A5, c5, z5, rfl, is5, o5, hb5⟩
      have L5 : z5.length = 0 := by have := is5.1.length_eq; rw [Du.none_len] at this; exact this
      have q1 : (z1.length : Int) ≤ (z2.length : Int) + (z3.length : Int) := by have := PL.out; rw [← L1.out, ← L2.out, ← L3.out] at this; omega
      have q2 : (z2.length : Int) ≤ (z1.length : Int) := by have := PL.out; rw [← L1.out, ← L2.out, ← L3.out] at this; omega
      have q3 : (z3.length : Int) ≤ (z1.length : Int) := by have := PL.out; rw [← L1.out, ← L2.out, ← L3.out] at this; omega
      have q2n : z2.length ≤ z1.length := by omega
      have q3n : z3.length ≤ z1.length := by omega
      replace hb4 := hb4.trans (hb5.mono hb4.size)
      rw [L5]
      clear is5 o5 hb5 L5
      go_wp2_with fail
      all_goals
        refine (awake_any _).mono ?_; rintro e' w' ⟨rfl, hb'⟩
        go_wp2_with fail
        go_ret
        exact ⟨Aid.ret_bool (by first | rfl | exact decide_eq_true q2n | exact decide_eq_true q3n), hb4.trans (hb'.mono hb4.size)⟩

set_option maxRecDepth 100000 in
set_option maxHeartbeats 1000000 in
theorem parts_long (x y z : Int) (a : Option Addr) (len cap : Nat) (w : World) (hlen : 20 < len) :
    Calls Try.prog 6 #[.slice a len cap, .int .i64 x, .int .i64 y, .int .i64 z] w fun e w' => e = .returned (.bool true) ∧ Below w.heap.size w w' := by
  go_enter Try.func6, Try.ntmps6
  try simp only [List.append_eq, List.cons_append, List.nil_append]
  go_wp2_with fail
  refine (awake_any _).mono ?_; rintro e w' ⟨rfl, hb⟩
  go_wp2_with fail
  go_ret
  exact ⟨rfl, hb⟩
end Go.Proofs.Ytimojijbjmchkaa
