/- The law DueCounts, walked. -/
import Derived.Test.YtimojijbjmchkaaDueAwake
import Derived.Test.YtimojijbjmchkaaLow
import Derived.Test.YtimojijbjmchkaaOrd
namespace Go.Proofs.Ytimojijbjmchkaa
open Go.RowKit

theorem Du.tdiv_step (e t : Int) (he : 1 ≤ e) (ht : 0 ≤ t) : t.tdiv e ≤ (t + 1).tdiv e ∧ (t + 1).tdiv e ≤ t.tdiv e + 1 := by
  rw [Int.tdiv_eq_ediv_of_nonneg ht, Int.tdiv_eq_ediv_of_nonneg (by omega)]
  refine ⟨Int.ediv_le_ediv (by omega) (by omega), ?_⟩
  have h := Int.lt_ediv_add_one_mul_self t (by omega : 0 < e)
  have h2 : (t + 1) / e < t / e + 1 + 1 := by
    rw [Int.ediv_lt_iff_lt_mul (by omega)]
    rw [Int.add_mul (t / e + 1) 1 e]
    omega
  omega
theorem Du.tdiv_in (e t : Int) (he : 1 ≤ e) (ht : 0 ≤ t) : 0 ≤ t.tdiv e ∧ t.tdiv e ≤ t := by
  rw [Int.tdiv_eq_ediv_of_nonneg ht]
  exact ⟨Int.ediv_nonneg ht (by omega), Int.ediv_le_self _ ht⟩
theorem Du.tdiv_up (e a b : Int) (he : 1 ≤ e) (ha : 0 ≤ a) (h : a ≤ b) : a.tdiv e ≤ b.tdiv e := by
  rw [Int.tdiv_eq_ediv_of_nonneg ha, Int.tdiv_eq_ediv_of_nonneg (by omega)]
  exact Int.ediv_le_ediv (by omega) h

set_option maxRecDepth 100000 in
set_option maxHeartbeats 2000000 in
theorem counts_any (x y z : Int) (w : World) :
    Calls Try.prog 4 #[.int .i64 x, .int .i64 y, .int .i64 z] w fun e w' => e = .returned (.bool true) ∧ Below w.heap.size w w' := by
  obtain ⟨e0, he⟩ : ∃ r, low x 100 = r := ⟨_, rfl⟩
  obtain ⟨f, hf⟩ : ∃ r, low y 300 = r := ⟨_, rfl⟩
  obtain ⟨s, hs⟩ : ∃ r, low z 50 = r := ⟨_, rfl⟩
  obtain ⟨X0, X1⟩ : 0 ≤ e0 ∧ e0 < 100 := he ▸ low_in x 100 (by decide)
  obtain ⟨f0, f1⟩ : 0 ≤ f ∧ f < 300 := hf ▸ low_in y 300 (by decide)
  obtain ⟨s0, s1⟩ : 0 ≤ s ∧ s < 50 := hs ▸ low_in z 50 (by decide)
  have HE := Aid.hid he; have HF := Aid.hid hf; have HS := Aid.hid hs
  clear he hf hs
  go_enter Try.func4, Try.ntmps4
  try simp only [List.append_eq, List.cons_append, List.nil_append]
  go_wp2_with fail
  refine (low_is _ _ e0 HE.out (by decide) (by decide) _).mono ?_; rintro r w' ⟨rfl, rfl⟩
  go_wp2_with fail
  refine (low_is _ _ f HF.out (by decide) (by decide) _).mono ?_; rintro r w' ⟨rfl, rfl⟩
  go_wp2_with fail
  refine (low_is _ _ s HS.out (by decide) (by decide) _).mono ?_; rintro r w' ⟨rfl, rfl⟩
  go_wp2_with fail
  obtain ⟨e, rfl⟩ : ∃ e, e0 = e - 1 := ⟨e0 + 1, by omega⟩
  have ee : 1 + (e - 1) = e := by omega
  simp only [ee]
  clear ee HE HF HS
  go_loopw [7, 8] (fun vn vt wr => ∃ j : Nat, vt = .int .i64 (f + j) ∧ (j : Int) ≤ s ∧ vn = .int .i64 ((f + j).tdiv e - f.tdiv e) ∧ Below w.heap.size w wr) (fun _ vt _ => (f + s - intOf vt).toNat)
  case atStart => exact ⟨0, by simp, by omega, by simp, Below.refl _ _⟩
  case round =>
    obtain ⟨j, rfl, hj, rfl, B⟩ := hrel
    obtain ⟨q0, hq0⟩ : ∃ q, f.tdiv e = q := ⟨_, rfl⟩
    obtain ⟨qj, hqj⟩ : ∃ q, (f + j).tdiv e = q := ⟨_, rfl⟩
    obtain ⟨A1, A2⟩ := Du.tdiv_in e f (by omega) f0
    obtain ⟨A3, A4⟩ := Du.tdiv_in e (f + j) (by omega) (by omega)
    have A5 := Du.tdiv_up e f (f + j) (by omega) f0 (by omega)
    rw [hq0] at A1 A2 A5 ⊢
    rw [hqj] at A3 A4 A5 ⊢
    have Q0 := Aid.hid hq0; have QJ := Aid.hid hqj
    clear hq0 hqj
    by_cases hlt : f + j < f + s
    · obtain ⟨r, hr⟩ : ∃ r, Du.due e (f + j) (f + j + 1) = r := ⟨_, rfl⟩
      have HR := Aid.hid hr
      clear hr
      have N0 := Aid.hid (Du.tdiv_step e (f + j) (by omega) (by omega))
      go_wp2_with fail
      refine (due_is _ _ _ r HR.out _ (by omega)).mono ?_; rintro x w2 ⟨rfl, hb⟩
      replace B := B.trans (hb.mono B.size)
      clear hb
      cases r
      · have NX : Hid ((f + (j + 1 : Nat)).tdiv e = qj) := Aid.hid (by
          have h := HR.out
          rw [Du.due_4 _ _ _ (by omega) (by omega) (by omega)] at h
          have h2 := N0.out
          have := of_decide_eq_false h
          rw [QJ.out] at this h2
          have : f + ((j + 1 : Nat) : Int) = f + j + 1 := by push_cast; omega
          rw [this]; omega)
        go_wp2_with fail
        go_roundw
        case rel => exact ⟨j + 1, by go_num, by push_cast; omega, by rw [NX.out], B⟩
        case measure => simp [intOf]; omega
      · have NX : Hid ((f + (j + 1 : Nat)).tdiv e = qj + 1) := Aid.hid (by
          have h := HR.out
          rw [Du.due_4 _ _ _ (by omega) (by omega) (by omega)] at h
          have h2 := N0.out
          have := of_decide_eq_true h
          rw [QJ.out] at this h2
          have : f + ((j + 1 : Nat) : Int) = f + j + 1 := by push_cast; omega
          rw [this]; omega)
        go_wp2_with fail
        go_roundw
        case rel => exact ⟨j + 1, by go_num, by push_cast; omega, by rw [NX.out]; go_num, B⟩
        case measure => simp [intOf]; omega
    · obtain rfl : s = j := by omega
      have V1 : IntKind.i64.wrap (f + j) = f + j := by rw [IntKind.wrap_i64]; omega
      have V2 : (e = 0) = False := eq_false (by omega)
      have V3 : IntKind.i64.wrap ((f + j).tdiv e) = qj := by rw [QJ.out, IntKind.wrap_i64]; omega
      have V4 : IntKind.i64.wrap (f.tdiv e) = q0 := by rw [Q0.out, IntKind.wrap_i64]; omega
      have V5 : IntKind.i64.wrap (qj - q0) = qj - q0 := by rw [IntKind.wrap_i64]; omega
      have V6 : IntKind.i64.wrap (f + 1) = f + 1 := by rw [IntKind.wrap_i64]; omega
      replace V1 := Aid.hid V1; replace V2 := Aid.hid V2; replace V3 := Aid.hid V3; replace V4 := Aid.hid V4; replace V5 := Aid.hid V5; replace V6 := Aid.hid V6
      obtain ⟨r, hr⟩ : ∃ r, decide (0 < qj - q0) = r := ⟨_, rfl⟩
      have R1 : Hid (Du.due e f (f + j) = r) := Aid.hid (by
        rw [Du.due_4 _ _ _ (by omega) (by omega) (by omega), QJ.out, Q0.out, ← hr]
        exact decide_eq_decide.2 (by omega))
      have R2 : Hid (Du.due e f f = false) := Aid.hid (by rw [Du.due_4 _ _ _ (by omega) (by omega) (by omega)]; simp)
      have R3 : Hid (Du.due 0 f (f + j) = false) := Aid.hid (Du.due_1 _ _ _ (by omega))
      have R4 : Hid (Du.due e (f + 1) f = false) := Aid.hid (Du.due_3 _ _ _ (by omega))
      go_upto_region 8 with (fail)
      have HR2 := Aid.hid (show decide (q0 < qj) = r by rw [← hr]; exact decide_eq_decide.2 (by omega))
      have HR := Aid.hid hr
      clear hr
      cases r
      all_goals
        refine Ord.wp_region_walk (fun w' => Below w.heap.size w w') 48 [(true, 0), (true, 1), (true, 2), (true, 3), (true, 4), (true, 5), (true, 6), (true, 7), (true, 8), (true, 9), (true, 10), (true, 11), (true, 12), (true, 13), (true, 14), (true, 15), (true, 16), (true, 18), (true, 19), (false, 17), (true, 20), (true, 21), (true, 22), (true, 23), (true, 24), (true, 25), (false, 26), (true, 27), (true, 28), (true, 29), (true, 30), (true, 31), (true, 32), (true, 33), (false, 34), (true, 35), (true, 36), (true, 37), (true, 38), (true, 39), (true, 40), (true, 41), (false, 42), (true, 43), (true, 44), (true, 45), (false, 46), (true, 47)] (by kernel_rfl) (by kernel_rfl) (fun _ _ d _ _ h => by cases d <;> exact h) (B.drew) ?_
        replace B := B.drew
        generalize wr.drew = wd at *
        apply Ord.walk_light
        next => (simp only [List.getElem?_toArray, List.getElem?_cons_zero]; rfl)
        next => rfl
        next => (intro w' hSw; clear hSw; go_simp; (try simp only [V1.out, V2.out, V3.out, V4.out, V5.out, V6.out, HR.out, HR2.out, if_false, beq_self_eq_true]); first | done | with_reducible rfl)
        simp only [Act.put, List.setIfInBounds_toArray, List.set_cons_zero, List.set_cons_succ]
        apply Ord.walk_light
        next => (simp only [List.getElem?_toArray, List.getElem?_cons_succ, List.getElem?_cons_zero]; rfl)
        next => rfl
        next => (intro w' hSw; clear hSw; go_simp; (try simp only [V1.out, V2.out, V3.out, V4.out, V5.out, V6.out, HR.out, HR2.out, if_false, beq_self_eq_true]); first | done | with_reducible rfl)
        simp only [Act.put, List.setIfInBounds_toArray, List.set_cons_zero, List.set_cons_succ]
        apply Ord.walk_light
        next => (simp only [List.getElem?_toArray, List.getElem?_cons_succ, List.getElem?_cons_zero]; rfl)
        next => rfl
        next => (intro w' hSw; clear hSw; go_simp; (try simp only [V1.out, V2.out, V3.out, V4.out, V5.out, V6.out, HR.out, HR2.out, if_false, beq_self_eq_true]); first | done | with_reducible rfl)
        simp only [Act.put, List.setIfInBounds_toArray, List.set_cons_zero, List.set_cons_succ]
        apply Ord.walk_light
        next => (simp only [List.getElem?_toArray, List.getElem?_cons_succ, List.getElem?_cons_zero]; rfl)
        next => rfl
        next => (intro w' hSw; clear hSw; go_simp; (try simp only [V1.out, V2.out, V3.out, V4.out, V5.out, V6.out, HR.out, HR2.out, if_false, beq_self_eq_true]); first | done | with_reducible rfl)
        simp only [Act.put, List.setIfInBounds_toArray, List.set_cons_zero, List.set_cons_succ]
        apply Ord.walk_light
        next => (simp only [List.getElem?_toArray, List.getElem?_cons_succ, List.getElem?_cons_zero]; rfl)
        next => rfl
        next => (intro w' hSw; clear hSw; go_simp; (try simp only [V1.out, V2.out, V3.out, V4.out, V5.out, V6.out, HR.out, HR2.out, if_false, beq_self_eq_true]); first | done | with_reducible rfl)
        simp only [Act.put, List.setIfInBounds_toArray, List.set_cons_zero, List.set_cons_succ]
        apply Ord.walk_light
        next => (simp only [List.getElem?_toArray, List.getElem?_cons_succ, List.getElem?_cons_zero]; rfl)
        next => rfl
        next => (intro w' hSw; clear hSw; go_simp; (try simp only [V1.out, V2.out, V3.out, V4.out, V5.out, V6.out, HR.out, HR2.out, if_false, beq_self_eq_true]); first | done | with_reducible rfl)
        simp only [Act.put, List.setIfInBounds_toArray, List.set_cons_zero, List.set_cons_succ]
        apply Ord.walk_light
        next => (simp only [List.getElem?_toArray, List.getElem?_cons_succ, List.getElem?_cons_zero]; rfl)
        next => rfl
        next => (intro w' hSw; clear hSw; go_simp; (try simp only [V1.out, V2.out, V3.out, V4.out, V5.out, V6.out, HR.out, HR2.out, if_false, beq_self_eq_true]); first | done | with_reducible rfl)
        simp only [Act.put, List.setIfInBounds_toArray, List.set_cons_zero, List.set_cons_succ]
        apply Ord.walk_light
        next => (simp only [List.getElem?_toArray, List.getElem?_cons_succ, List.getElem?_cons_zero]; rfl)
        next => rfl
        next => (intro w' hSw; clear hSw; go_simp; (try simp only [V1.out, V2.out, V3.out, V4.out, V5.out, V6.out, HR.out, HR2.out, if_false, beq_self_eq_true]); first | done | with_reducible rfl)
        simp only [Act.put, List.setIfInBounds_toArray, List.set_cons_zero, List.set_cons_succ]
        apply Ord.walk_light
        next => (simp only [List.getElem?_toArray, List.getElem?_cons_succ, List.getElem?_cons_zero]; rfl)
        next => rfl
        next => (intro w' hSw; clear hSw; go_simp; (try simp only [V1.out, V2.out, V3.out, V4.out, V5.out, V6.out, HR.out, HR2.out, if_false, beq_self_eq_true]); first | done | with_reducible rfl)
        simp only [Act.put, List.setIfInBounds_toArray, List.set_cons_zero, List.set_cons_succ]
        apply Ord.walk_light
        next => (simp only [List.getElem?_toArray, List.getElem?_cons_succ, List.getElem?_cons_zero]; rfl)
        next => rfl
        next => (intro w' hSw; clear hSw; go_simp; (try simp only [V1.out, V2.out, V3.out, V4.out, V5.out, V6.out, HR.out, HR2.out, if_false, beq_self_eq_true]); first | done | with_reducible rfl)
        simp only [Act.put, List.setIfInBounds_toArray, List.set_cons_zero, List.set_cons_succ]
        apply Ord.walk_light
        next => (simp only [List.getElem?_toArray, List.getElem?_cons_succ, List.getElem?_cons_zero]; rfl)
        next => rfl
        next => (intro w' hSw; clear hSw; go_simp; (try simp only [V1.out, V2.out, V3.out, V4.out, V5.out, V6.out, HR.out, HR2.out, if_false, beq_self_eq_true]); first | done | with_reducible rfl)
        simp only [Act.put, List.setIfInBounds_toArray, List.set_cons_zero, List.set_cons_succ]
        apply Ord.walk_light
        next => (simp only [List.getElem?_toArray, List.getElem?_cons_succ, List.getElem?_cons_zero]; rfl)
        next => rfl
        next => (intro w' hSw; clear hSw; go_simp; (try simp only [V1.out, V2.out, V3.out, V4.out, V5.out, V6.out, HR.out, HR2.out, if_false, beq_self_eq_true]); first | done | with_reducible rfl)
        simp only [Act.put, List.setIfInBounds_toArray, List.set_cons_zero, List.set_cons_succ]
        apply Ord.walk_light
        next => (simp only [List.getElem?_toArray, List.getElem?_cons_succ, List.getElem?_cons_zero]; rfl)
        next => rfl
        next => (intro w' hSw; clear hSw; go_simp; (try simp only [V1.out, V2.out, V3.out, V4.out, V5.out, V6.out, HR.out, HR2.out, if_false, beq_self_eq_true]); first | done | with_reducible rfl)
        simp only [Act.put, List.setIfInBounds_toArray, List.set_cons_zero, List.set_cons_succ]
        apply Ord.walk_light
        next => (simp only [List.getElem?_toArray, List.getElem?_cons_succ, List.getElem?_cons_zero]; rfl)
        next => rfl
        next => (intro w' hSw; clear hSw; go_simp; (try simp only [V1.out, V2.out, V3.out, V4.out, V5.out, V6.out, HR.out, HR2.out, if_false, beq_self_eq_true]); first | done | with_reducible rfl)
        simp only [Act.put, List.setIfInBounds_toArray, List.set_cons_zero, List.set_cons_succ]
        apply Ord.walk_light
        next => (simp only [List.getElem?_toArray, List.getElem?_cons_succ, List.getElem?_cons_zero]; rfl)
        next => rfl
        next => (intro w' hSw; clear hSw; go_simp; (try simp only [V1.out, V2.out, V3.out, V4.out, V5.out, V6.out, HR.out, HR2.out, if_false, beq_self_eq_true]); first | done | with_reducible rfl)
        simp only [Act.put, List.setIfInBounds_toArray, List.set_cons_zero, List.set_cons_succ]
        apply Ord.walk_light
        next => (simp only [List.getElem?_toArray, List.getElem?_cons_succ, List.getElem?_cons_zero]; rfl)
        next => rfl
        next => (intro w' hSw; clear hSw; go_simp; (try simp only [V1.out, V2.out, V3.out, V4.out, V5.out, V6.out, HR.out, HR2.out, if_false, beq_self_eq_true]); first | done | with_reducible rfl)
        simp only [Act.put, List.setIfInBounds_toArray, List.set_cons_zero, List.set_cons_succ]
        apply Ord.walk_light
        next => (simp only [List.getElem?_toArray, List.getElem?_cons_succ, List.getElem?_cons_zero]; rfl)
        next => rfl
        next => (intro w' hSw; clear hSw; go_simp; (try simp only [V1.out, V2.out, V3.out, V4.out, V5.out, V6.out, HR.out, HR2.out, if_false, beq_self_eq_true]); first | done | with_reducible rfl)
        simp only [Act.put, List.setIfInBounds_toArray, List.set_cons_zero, List.set_cons_succ]
        apply Ord.walk_light
        next => (simp only [List.getElem?_toArray, List.getElem?_cons_succ, List.getElem?_cons_zero]; rfl)
        next => rfl
        next => (intro w' hSw; clear hSw; go_simp; (try simp only [V1.out, V2.out, V3.out, V4.out, V5.out, V6.out, HR.out, HR2.out, if_false, beq_self_eq_true]); first | done | with_reducible rfl)
        simp only [Act.put, List.setIfInBounds_toArray, List.set_cons_zero, List.set_cons_succ]
        apply Ord.walk_light
        next => (simp only [List.getElem?_toArray, List.getElem?_cons_succ, List.getElem?_cons_zero]; rfl)
        next => rfl
        next => (intro w' hSw; clear hSw; go_simp; (try simp only [V1.out, V2.out, V3.out, V4.out, V5.out, V6.out, HR.out, HR2.out, if_false, beq_self_eq_true]); first | done | with_reducible rfl)
        simp only [Act.put, List.setIfInBounds_toArray, List.set_cons_zero, List.set_cons_succ]
        apply Ord.walk_heavy
        next => (simp only [List.getElem?_toArray, List.getElem?_cons_succ, List.getElem?_cons_zero]; rfl)
        next => rfl
        intro K hK
        go_wp2_with fail
        refine (due_is e f (f + j) _ R1.out _ (by omega)).mono ?_; rintro x w' ⟨rfl, hb⟩; dsimp only
        refine hK.out _ _ (B.trans (hb.mono B.size)) (fun hHeld => ?_)
        clear B hb
        have B := hHeld
        clear hK K
        try simp only [Act.put, List.setIfInBounds_toArray, List.set_cons_zero, List.set_cons_succ]
        apply Ord.walk_light
        next => (simp only [List.getElem?_toArray, List.getElem?_cons_succ, List.getElem?_cons_zero]; rfl)
        next => rfl
        next => (intro w' hSw; clear hSw; go_simp; (try simp only [V1.out, V2.out, V3.out, V4.out, V5.out, V6.out, HR.out, HR2.out, if_false, beq_self_eq_true]); first | done | with_reducible rfl)
        simp only [Act.put, List.setIfInBounds_toArray, List.set_cons_zero, List.set_cons_succ]
        apply Ord.walk_light
        next => (simp only [List.getElem?_toArray, List.getElem?_cons_succ, List.getElem?_cons_zero]; rfl)
        next => rfl
        next => (intro w' hSw; clear hSw; go_simp; (try simp only [V1.out, V2.out, V3.out, V4.out, V5.out, V6.out, HR.out, HR2.out, if_false, beq_self_eq_true]); first | done | with_reducible rfl)
        simp only [Act.put, List.setIfInBounds_toArray, List.set_cons_zero, List.set_cons_succ]
        apply Ord.walk_light
        next => (simp only [List.getElem?_toArray, List.getElem?_cons_succ, List.getElem?_cons_zero]; rfl)
        next => rfl
        next => (intro w' hSw; clear hSw; go_simp; (try simp only [V1.out, V2.out, V3.out, V4.out, V5.out, V6.out, HR.out, HR2.out, if_false, beq_self_eq_true]); first | done | with_reducible rfl)
        simp only [Act.put, List.setIfInBounds_toArray, List.set_cons_zero, List.set_cons_succ]
        apply Ord.walk_light
        next => (simp only [List.getElem?_toArray, List.getElem?_cons_succ, List.getElem?_cons_zero]; rfl)
        next => rfl
        next => (intro w' hSw; clear hSw; go_simp; (try simp only [V1.out, V2.out, V3.out, V4.out, V5.out, V6.out, HR.out, HR2.out, if_false, beq_self_eq_true]); first | done | with_reducible rfl)
        simp only [Act.put, List.setIfInBounds_toArray, List.set_cons_zero, List.set_cons_succ]
        apply Ord.walk_light
        next => (simp only [List.getElem?_toArray, List.getElem?_cons_succ, List.getElem?_cons_zero]; rfl)
        next => rfl
        next => (intro w' hSw; clear hSw; go_simp; (try simp only [V1.out, V2.out, V3.out, V4.out, V5.out, V6.out, HR.out, HR2.out, if_false, beq_self_eq_true]); first | done | with_reducible rfl)
        simp only [Act.put, List.setIfInBounds_toArray, List.set_cons_zero, List.set_cons_succ]
        apply Ord.walk_light
        next => (simp only [List.getElem?_toArray, List.getElem?_cons_succ, List.getElem?_cons_zero]; rfl)
        next => rfl
        next => (intro w' hSw; clear hSw; go_simp; (try simp only [V1.out, V2.out, V3.out, V4.out, V5.out, V6.out, HR.out, HR2.out, if_false, beq_self_eq_true]); first | done | with_reducible rfl)
        simp only [Act.put, List.setIfInBounds_toArray, List.set_cons_zero, List.set_cons_succ]
        apply Ord.walk_heavy
        next => (simp only [List.getElem?_toArray, List.getElem?_cons_succ, List.getElem?_cons_zero]; rfl)
        next => rfl
        intro K hK
        go_wp2_with fail
        refine (due_is e f f false R2.out _ (by omega)).mono ?_; rintro x w' ⟨rfl, hb⟩; dsimp only
        refine hK.out _ _ (B.trans (hb.mono B.size)) (fun hHeld => ?_)
        clear B hb
        have B := hHeld
        clear hK K
        try simp only [Act.put, List.setIfInBounds_toArray, List.set_cons_zero, List.set_cons_succ]
        apply Ord.walk_light
        next => (simp only [List.getElem?_toArray, List.getElem?_cons_succ, List.getElem?_cons_zero]; rfl)
        next => rfl
        next => (intro w' hSw; clear hSw; go_simp; (try simp only [V1.out, V2.out, V3.out, V4.out, V5.out, V6.out, HR.out, HR2.out, if_false, beq_self_eq_true]); first | done | with_reducible rfl)
        simp only [Act.put, List.setIfInBounds_toArray, List.set_cons_zero, List.set_cons_succ]
        apply Ord.walk_light
        next => (simp only [List.getElem?_toArray, List.getElem?_cons_succ, List.getElem?_cons_zero]; rfl)
        next => rfl
        next => (intro w' hSw; clear hSw; go_simp; (try simp only [V1.out, V2.out, V3.out, V4.out, V5.out, V6.out, HR.out, HR2.out, if_false, beq_self_eq_true]); first | done | with_reducible rfl)
        simp only [Act.put, List.setIfInBounds_toArray, List.set_cons_zero, List.set_cons_succ]
        apply Ord.walk_light
        next => (simp only [List.getElem?_toArray, List.getElem?_cons_succ, List.getElem?_cons_zero]; rfl)
        next => rfl
        next => (intro w' hSw; clear hSw; go_simp; (try simp only [V1.out, V2.out, V3.out, V4.out, V5.out, V6.out, HR.out, HR2.out, if_false, beq_self_eq_true]); first | done | with_reducible rfl)
        simp only [Act.put, List.setIfInBounds_toArray, List.set_cons_zero, List.set_cons_succ]
        apply Ord.walk_light
        next => (simp only [List.getElem?_toArray, List.getElem?_cons_succ, List.getElem?_cons_zero]; rfl)
        next => rfl
        next => (intro w' hSw; clear hSw; go_simp; (try simp only [V1.out, V2.out, V3.out, V4.out, V5.out, V6.out, HR.out, HR2.out, if_false, beq_self_eq_true]); first | done | with_reducible rfl)
        simp only [Act.put, List.setIfInBounds_toArray, List.set_cons_zero, List.set_cons_succ]
        apply Ord.walk_light
        next => (simp only [List.getElem?_toArray, List.getElem?_cons_succ, List.getElem?_cons_zero]; rfl)
        next => rfl
        next => (intro w' hSw; clear hSw; go_simp; (try simp only [V1.out, V2.out, V3.out, V4.out, V5.out, V6.out, HR.out, HR2.out, if_false, beq_self_eq_true]); first | done | with_reducible rfl)
        simp only [Act.put, List.setIfInBounds_toArray, List.set_cons_zero, List.set_cons_succ]
        apply Ord.walk_light
        next => (simp only [List.getElem?_toArray, List.getElem?_cons_succ, List.getElem?_cons_zero]; rfl)
        next => rfl
        next => (intro w' hSw; clear hSw; go_simp; (try simp only [V1.out, V2.out, V3.out, V4.out, V5.out, V6.out, HR.out, HR2.out, if_false, beq_self_eq_true]); first | done | with_reducible rfl)
        simp only [Act.put, List.setIfInBounds_toArray, List.set_cons_zero, List.set_cons_succ]
        apply Ord.walk_light
        next => (simp only [List.getElem?_toArray, List.getElem?_cons_succ, List.getElem?_cons_zero]; rfl)
        next => rfl
        next => (intro w' hSw; clear hSw; go_simp; (try simp only [V1.out, V2.out, V3.out, V4.out, V5.out, V6.out, HR.out, HR2.out, if_false, beq_self_eq_true]); first | done | with_reducible rfl)
        simp only [Act.put, List.setIfInBounds_toArray, List.set_cons_zero, List.set_cons_succ]
        apply Ord.walk_heavy
        next => (simp only [List.getElem?_toArray, List.getElem?_cons_succ, List.getElem?_cons_zero]; rfl)
        next => rfl
        intro K hK
        go_wp2_with fail
        refine (due_is 0 f (f + j) false R3.out _ (by omega)).mono ?_; rintro x w' ⟨rfl, hb⟩; dsimp only
        refine hK.out _ _ (B.trans (hb.mono B.size)) (fun hHeld => ?_)
        clear B hb
        have B := hHeld
        clear hK K
        try simp only [Act.put, List.setIfInBounds_toArray, List.set_cons_zero, List.set_cons_succ]
        apply Ord.walk_light
        next => (simp only [List.getElem?_toArray, List.getElem?_cons_succ, List.getElem?_cons_zero]; rfl)
        next => rfl
        next => (intro w' hSw; clear hSw; go_simp; (try simp only [V1.out, V2.out, V3.out, V4.out, V5.out, V6.out, HR.out, HR2.out, if_false, beq_self_eq_true]); first | done | with_reducible rfl)
        simp only [Act.put, List.setIfInBounds_toArray, List.set_cons_zero, List.set_cons_succ]
        apply Ord.walk_light
        next => (simp only [List.getElem?_toArray, List.getElem?_cons_succ, List.getElem?_cons_zero]; rfl)
        next => rfl
        next => (intro w' hSw; clear hSw; go_simp; (try simp only [V1.out, V2.out, V3.out, V4.out, V5.out, V6.out, HR.out, HR2.out, if_false, beq_self_eq_true]); first | done | with_reducible rfl)
        simp only [Act.put, List.setIfInBounds_toArray, List.set_cons_zero, List.set_cons_succ]
        apply Ord.walk_light
        next => (simp only [List.getElem?_toArray, List.getElem?_cons_succ, List.getElem?_cons_zero]; rfl)
        next => rfl
        next => (intro w' hSw; clear hSw; go_simp; (try simp only [V1.out, V2.out, V3.out, V4.out, V5.out, V6.out, HR.out, HR2.out, if_false, beq_self_eq_true]); first | done | with_reducible rfl)
        simp only [Act.put, List.setIfInBounds_toArray, List.set_cons_zero, List.set_cons_succ]
        apply Ord.walk_light
        next => (simp only [List.getElem?_toArray, List.getElem?_cons_succ, List.getElem?_cons_zero]; rfl)
        next => rfl
        next => (intro w' hSw; clear hSw; go_simp; (try simp only [V1.out, V2.out, V3.out, V4.out, V5.out, V6.out, HR.out, HR2.out, if_false, beq_self_eq_true]); first | done | with_reducible rfl)
        simp only [Act.put, List.setIfInBounds_toArray, List.set_cons_zero, List.set_cons_succ]
        apply Ord.walk_light
        next => (simp only [List.getElem?_toArray, List.getElem?_cons_succ, List.getElem?_cons_zero]; rfl)
        next => rfl
        next => (intro w' hSw; clear hSw; go_simp; (try simp only [V1.out, V2.out, V3.out, V4.out, V5.out, V6.out, HR.out, HR2.out, if_false, beq_self_eq_true]); first | done | with_reducible rfl)
        simp only [Act.put, List.setIfInBounds_toArray, List.set_cons_zero, List.set_cons_succ]
        apply Ord.walk_light
        next => (simp only [List.getElem?_toArray, List.getElem?_cons_succ, List.getElem?_cons_zero]; rfl)
        next => rfl
        next => (intro w' hSw; clear hSw; go_simp; (try simp only [V1.out, V2.out, V3.out, V4.out, V5.out, V6.out, HR.out, HR2.out, if_false, beq_self_eq_true]); first | done | with_reducible rfl)
        simp only [Act.put, List.setIfInBounds_toArray, List.set_cons_zero, List.set_cons_succ]
        apply Ord.walk_light
        next => (simp only [List.getElem?_toArray, List.getElem?_cons_succ, List.getElem?_cons_zero]; rfl)
        next => rfl
        next => (intro w' hSw; clear hSw; go_simp; (try simp only [V1.out, V2.out, V3.out, V4.out, V5.out, V6.out, HR.out, HR2.out, if_false, beq_self_eq_true]); first | done | with_reducible rfl)
        simp only [Act.put, List.setIfInBounds_toArray, List.set_cons_zero, List.set_cons_succ]
        apply Ord.walk_heavy
        next => (simp only [List.getElem?_toArray, List.getElem?_cons_succ, List.getElem?_cons_zero]; rfl)
        next => rfl
        intro K hK
        go_wp2_with fail
        refine (due_is e (f + 1) f false R4.out _ (by omega)).mono ?_; rintro x w' ⟨rfl, hb⟩; dsimp only
        refine hK.out _ _ (B.trans (hb.mono B.size)) (fun hHeld => ?_)
        clear B hb
        have B := hHeld
        clear hK K
        try simp only [Act.put, List.setIfInBounds_toArray, List.set_cons_zero, List.set_cons_succ]
        apply Ord.walk_light
        next => (simp only [List.getElem?_toArray, List.getElem?_cons_succ, List.getElem?_cons_zero]; rfl)
        next => rfl
        next => (intro w' hSw; clear hSw; go_simp; (try simp only [V1.out, V2.out, V3.out, V4.out, V5.out, V6.out, HR.out, HR2.out, if_false, beq_self_eq_true]); first | done | with_reducible rfl)
        simp only [Act.put, List.setIfInBounds_toArray, List.set_cons_zero, List.set_cons_succ]
        apply Ord.walk_light
        next => (simp only [List.getElem?_toArray, List.getElem?_cons_succ, List.getElem?_cons_zero]; rfl)
        next => rfl
        next => (intro w' hSw; clear hSw; go_simp; (try simp only [V1.out, V2.out, V3.out, V4.out, V5.out, V6.out, HR.out, HR2.out, if_false, beq_self_eq_true]); first | done | with_reducible rfl)
        simp only [Act.put, List.setIfInBounds_toArray, List.set_cons_zero, List.set_cons_succ]
        apply Ord.walk_light
        next => (simp only [List.getElem?_toArray, List.getElem?_cons_succ, List.getElem?_cons_zero]; rfl)
        next => rfl
        next => (intro w' hSw; clear hSw; go_simp; (try simp only [V1.out, V2.out, V3.out, V4.out, V5.out, V6.out, HR.out, HR2.out, if_false, beq_self_eq_true]); first | done | with_reducible rfl)
        simp only [Act.put, List.setIfInBounds_toArray, List.set_cons_zero, List.set_cons_succ]
        apply Ord.walk_heavy
        next => (simp only [List.getElem?_toArray, List.getElem?_cons_succ, List.getElem?_cons_zero]; rfl)
        next => rfl
        intro K hK
        go_wp2_with fail
        refine (awake_any _).mono ?_; rintro x w' ⟨rfl, hb⟩; dsimp only
        refine hK.out _ _ (B.trans (hb.mono B.size)) (fun hHeld => ?_)
        clear B hb
        have B := hHeld
        clear hK K
        try simp only [Act.put, List.setIfInBounds_toArray, List.set_cons_zero, List.set_cons_succ]
        apply Ord.walk_light
        next => (simp only [List.getElem?_toArray, List.getElem?_cons_succ, List.getElem?_cons_zero]; rfl)
        next => rfl
        next => (intro w' hSw; clear hSw; go_simp; (try simp only [V1.out, V2.out, V3.out, V4.out, V5.out, V6.out, HR.out, HR2.out, if_false, beq_self_eq_true]); first | done | with_reducible rfl)
        simp only [Act.put, List.setIfInBounds_toArray, List.set_cons_zero, List.set_cons_succ]
        refine Ord.walk_tail ?_; simp only [List.drop_succ_cons, List.drop_zero]
        go_wp2_with fail
        go_ret
        exact ⟨rfl, B⟩
end Go.Proofs.Ytimojijbjmchkaa
