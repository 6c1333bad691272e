/- The law OpSigs. -/
import Derived.Test.YtbclpknmeaaajaaDoorOpTells
import Derived.Deep.Cut
namespace Go.Proofs.YtbclpknmeaaajaaDoor
open Go.RowKit

theorem Op.bit (x : Int) : bits BinOp.and IntKind.i64 x 1 = 0 ∨ bits BinOp.and IntKind.i64 x 1 = 1 := by
  show IntKind.i64.wrap ((BitVec.ofInt 64 x &&& BitVec.ofInt 64 1).toNat : Int) = 0 ∨ IntKind.i64.wrap ((BitVec.ofInt 64 x &&& BitVec.ofInt 64 1).toNat : Int) = 1
  rw [BitVec.toNat_and, show (BitVec.ofInt 64 1).toNat = 1 by decide, Nat.and_one_is_mod]
  rcases Nat.mod_two_eq_zero_or_one (BitVec.ofInt 64 x).toNat with h | h <;> rw [h]
  · exact Or.inl (by decide)
  · exact Or.inr (by decide)
theorem Op.parts_some {l p : List UInt8} {b : Bool} (h : Op.parts l = (p, b, true)) : Op.Sg l p b := by
  unfold Op.parts at h
  split at h
  · rename_i hx
    have := (Classical.choose_spec hx).1
    simp only [Prod.mk.injEq] at h
    obtain ⟨h1, h2, _⟩ := h
    rw [h1, h2] at this
    exact this
  · simp at h
theorem Op.more {P Q : List UInt8} {r b : Bool} {o : UInt8} (hP : ∀ x ∈ P, x = 105 ∨ x = 114) (h : Op.parts (P ++ 62 :: ((if r then [105] else []) ++ [o])) = (Q, b, true)) : r = false ∧ o = 105 := by
  have g := Op.parts_some h
  have n : ∀ x ∈ P, x ≠ 62 := fun x hx e => by
    rcases hP x hx with h | h <;> subst e <;> exact absurd h (by decide)
  obtain ⟨_, h2⟩ := Op.split _ _ _ _ n g.no62 g.1
  cases r <;> cases b <;> simp at h2 ⊢
  exact h2

set_option maxRecDepth 100000 in
set_option maxHeartbeats 2000000 in
theorem opSigs_m (k bits : Int) (r : Bool) (o : Int) (M : Nat) (w : World) (hm : Op.Len w) (hM : wrap64 ((IntKind.u64.wrap k).tmod 6) = M) (m6 : M < 6) (o0 : 0 ≤ o) (o1 : o < 256) :
    Calls Tryd.prog 4 #[.int .i64 k, .int .i64 bits, .bool r, .int .u8 o] w fun e w' => e = .returned (.bool true) ∧ Below w.heap.size w w' := by
  have HLen := Aid.hid hm
  clear hm
  go_enter Tryd.func4, Tryd.ntmps4
  try simp only [List.append_eq, List.cons_append, List.nil_append]
  go_wp2_with fail
  rw [hM]
  go_loopw [9, 10] (fun vp vi wr => ∃ (i : Nat) (P : ByteArray), vi = .int .i64 i ∧ i ≤ M ∧ vp = .string P ∧ P.size = i ∧ Hid (P.data.toList.all Op.isl = true) ∧ Hid (∃ n, wr = w.drewN n)) (fun _ vi _ => M - (intOf vi).toNat)
  case atStart => exact ⟨0, ⟨#[]⟩, rfl, Nat.zero_le _, rfl, rfl, Aid.hid rfl, Aid.hid ⟨0, rfl⟩⟩
  case round =>
    obtain ⟨i, P, rfl, hi, rfl, rfl, HA, HW⟩ := hrel
    by_cases hlt : P.size < M
    · rcases Op.bit (bits / 2 ^ P.size) with hb | hb
      · go_wp2_with fail
        go_quiet (fail)
        go_wp2_with fail
        go_roundw
        case rel =>
          refine ⟨P.size + 1, P ++ ⟨#[105]⟩, by go_num, by omega, rfl, by rw [ByteArray.size_append]; rfl, Aid.hid (by rw [ByteArray.data_append, Array.toList_append, List.all_append, HA.out]; decide), Aid.hid (by obtain ⟨n, rfl⟩ := HW.out; exact ⟨n + nq, by simp [World.drewN, Nat.add_assoc]⟩)⟩
        case measure => simp [intOf]; omega
      · go_wp2_with fail
        go_quiet (fail)
        go_wp2_with fail
        go_roundw
        case rel =>
          refine ⟨P.size + 1, P ++ ⟨#[114]⟩, by go_num, by omega, rfl, by rw [ByteArray.size_append]; rfl, Aid.hid (by rw [ByteArray.data_append, Array.toList_append, List.all_append, HA.out]; decide), Aid.hid (by obtain ⟨n, rfl⟩ := HW.out; exact ⟨n + nq, by simp [World.drewN, Nat.add_assoc]⟩)⟩
        case measure => simp [intOf]; omega
    · obtain rfl : P.size = M := by omega
      obtain ⟨n, rfl⟩ := HW.out
      obtain ⟨Z, hZ⟩ : ∃ Z : ByteArray, (P ++ if r then ⟨#[62, 105]⟩ else ⟨#[62]⟩) = Z := ⟨_, rfl⟩
      have HZ := Aid.hid hZ
      have Z1000 : Z.size ≤ 1000 := by
        rw [← hZ, ByteArray.size_append]
        have e1 : (⟨#[62, 105]⟩ : ByteArray).size = 2 := rfl
        have e2 : (⟨#[62]⟩ : ByteArray).size = 1 := rfl
        cases r
        · rw [if_neg (by decide), e2]; omega
        · rw [if_pos rfl, e1]; omega
      have P1000 : P.size ≤ 1000 := by omega
      have zl : Z.data.toList = P.data.toList ++ 62 :: (if r then [105] else []) := by
        rw [← hZ, ByteArray.data_append, Array.toList_append]; cases r <;> rfl
      have HP : Hid (∀ x ∈ P.data.toList, x = 105 ∨ x = 114) := Aid.hid (fun x hx => (Op.isl_iff x).1 (List.all_eq_true.1 HA.out x hx))
      have ZL := Aid.hid zl
      have SG : Hid (Op.Sg Z.data.toList P.data.toList r) := Aid.hid ⟨zl, HP.out⟩
      have PS : Hid (P.data.toList.length = P.size) := Aid.hid rfl
      have BN : Hid (Below w.heap.size w (w.drewN n)) := Aid.hid (Op.below_drewN (Below.refl _ _) n)
      clear hZ zl
      by_cases h3 : P.size ≤ 3
      · have hp : Op.parts Z.data.toList = (P.data.toList, r, true) := Op.parts_yes SG.out (by have := PS.out; omega)
        have HPA := Aid.hid hp
        clear hp
        go_wp2_with fail
        refine (sig_is P r Z HZ.out _ P1000).mono ?_; rintro e w' ⟨rfl, rfl⟩
        go_wp2_with fail
        refine (parts_of Z P r true HPA.out Z1000 _ (HLen.out.below BN.out)).mono ?_; rintro e W ⟨rfl, hb1⟩
        have BW := Aid.hid (BN.out.trans hb1)
        have hpn : Op.parts P.data.toList = ([], false, false) := Op.parts_no (fun q c g hq => by
          have h2 : (62 : UInt8) ∈ P.data.toList := by rw [g.1]; simp
          rcases HP.out _ h2 with h | h <;> exact absurd h (by decide))
        have HPN := Aid.hid hpn
        have sl : (strOfNums [o]).size = 1 := strOfNums_size [o]
        have Y1000 : (Z ++ strOfNums [o]).size ≤ 1000 := by rw [ByteArray.size_append, sl]; have := SG.out.1; have h5 := congrArg List.length this; have h6 : Z.data.toList.length = Z.size := rfl; have h7 := PS.out; cases r <;> simp at h5 <;> omega
        have yl : (Z ++ strOfNums [o]).data.toList = P.data.toList ++ 62 :: ((if r then [105] else []) ++ [UInt8.ofNat o.toNat]) := by
          rw [ByteArray.data_append, Array.toList_append, strOfNums_data, ZL.out]; simp
        obtain ⟨Q, qb, qk, hq⟩ : ∃ (Q : ByteArray) (qb qk : Bool), Op.parts (Z ++ strOfNums [o]).data.toList = (Q.data.toList, qb, qk) := ⟨⟨(Op.parts (Z ++ strOfNums [o]).data.toList).1.toArray⟩, _, _, rfl⟩
        have HPB := Aid.hid hq
        have NB : Hid (¬ (9223372036854775807 < Z.size + (strOfNums [o]).size)) := Aid.hid (by rw [sl]; omega)
        have HQ : Hid (qk = true → r = false ∧ o = 105) := Aid.hid (fun e => by
          subst e
          rw [yl] at hq
          obtain ⟨h1, h2⟩ := Op.more HP.out hq
          refine ⟨h1, ?_⟩
          have h3 := congrArg UInt8.toNat h2
          have h4 : (105 : UInt8).toNat = 105 := rfl
          rw [UInt8.toNat_ofNat', h4] at h3
          omega)
        clear hb1 hpn sl yl hq
        go_wp2_with fail
        refine Ord.wp_region_go (fun w' => Below W.heap.size W w') 14 [0, 1, 3, 6, 8, 9, 10, 11, 12, 13] (by kernel_rfl) (by kernel_rfl) (fun _ _ d _ _ h => by cases d <;> exact h) ((Below.refl _ _).drew) ?_
        have hc : Below W.heap.size W W.drew := (Below.refl _ _).drew
        apply Ord.go_light (i := 0) (by kernel_rfl)
        next => (simp only [List.getElem?_toArray, List.getElem?_cons_zero]; rfl)
        next => rfl
        next => (intro w' hSw; clear hSw; go_simp; first | done | with_reducible rfl)
        simp only [Act.put, List.setIfInBounds_toArray, List.set_cons_zero, List.set_cons_succ]
        apply Ord.go_light (i := 1) (by kernel_rfl)
        next => (simp only [List.getElem?_toArray, List.getElem?_cons_succ, List.getElem?_cons_zero]; rfl)
        next => rfl
        next => (intro w' hSw; clear hSw; go_simp; first | done | with_reducible rfl)
        simp only [Act.put, List.setIfInBounds_toArray, List.set_cons_zero, List.set_cons_succ]
        apply Ord.go_light (i := 3) (by kernel_rfl)
        next => (simp only [List.getElem?_toArray, List.getElem?_cons_succ, List.getElem?_cons_zero]; rfl)
        next => rfl
        next => (intro w' hSw; clear hSw; go_simp; first | done | with_reducible rfl)
        simp only [Act.put, List.setIfInBounds_toArray, List.set_cons_zero, List.set_cons_succ]
        refine Ord.go_two (i := 2) (j := 4) (by kernel_rfl) (by kernel_rfl) ?_ ?_
        ·
          apply Ord.go_done1
          next => (simp only [List.getElem?_toArray, List.getElem?_cons_succ, List.getElem?_cons_zero]; rfl)
          next => rfl
          intro K hK
          go_wp2_with fail
          refine (sig_is P r Z HZ.out _ P1000).mono ?_; rintro x w' ⟨rfl, rfl⟩; dsimp only
          refine hK.out _ _ hc (fun hHeld => ?_)
          clear hHeld
          clear hK K
          try simp only [Act.put, List.setIfInBounds_toArray, List.set_cons_zero, List.set_cons_succ]
          refine Ord.go_one (i := 4) (by kernel_rfl) (by kernel_rfl) ?_
          apply Ord.go_done1
          next => (simp only [List.getElem?_toArray, List.getElem?_cons_succ, List.getElem?_cons_zero]; rfl)
          next => rfl
          intro K hK
          go_wp2_with fail
          refine hK.out _ _ (hc.alloc hc.size _) (fun hHeld => ?_)
          clear hc
          have hc := hHeld
          clear hK K
          try simp only [Act.put, List.setIfInBounds_toArray, List.set_cons_zero, List.set_cons_succ]
          refine Ord.go_one (i := 5) (by kernel_rfl) (by kernel_rfl) ?_
          apply Ord.go_done1
          next => (simp only [List.getElem?_toArray, List.getElem?_cons_succ, List.getElem?_cons_zero]; rfl)
          next => rfl
          intro K hK
          have hcv := run_convert_bytes_arg (P := Tryd.prog) ((W.alloc (.cells #[.int .u8 o] 5)).drew) 36 5 Tryd.underlying36 Tryd.underlying5 W.heap.size 0 1 1 [o] rfl (fun i hi => by obtain rfl : i = 0 := (by omega); exact ((Aid.Has.new W [.int .u8 o] 5).drew).cell 0 _ rfl) 9 Tryd.underlying9
          go_wp2_with fail
          clear hcv
          refine hK.out _ _ hc (fun hHeld => ?_)
          clear hHeld
          clear hK K
          try simp only [Act.put, List.setIfInBounds_toArray, List.set_cons_zero, List.set_cons_succ]
          apply Ord.go_light (i := 6) (by kernel_rfl)
          next => (simp only [List.getElem?_toArray, List.getElem?_cons_succ, List.getElem?_cons_zero]; rfl)
          next => rfl
          next => (intro w' hSw; clear hSw; go_simp; rw [if_neg NB.out]; first | done | with_reducible rfl)
          simp only [Act.put, List.setIfInBounds_toArray, List.set_cons_zero, List.set_cons_succ]
          refine Ord.go_one (i := 7) (by kernel_rfl) (by kernel_rfl) ?_
          apply Ord.go_done1
          next => (simp only [List.getElem?_toArray, List.getElem?_cons_succ, List.getElem?_cons_zero]; rfl)
          next => rfl
          intro K hK
          go_wp2_with fail
          refine (parts_of (Z ++ strOfNums [o]) Q qb qk HPB.out Y1000 _ ((HLen.out.below BW.out).below hc)).mono ?_; rintro x w' ⟨rfl, hx⟩; dsimp only
          refine hK.out _ _ (hc.trans (hx.mono hc.size)) (fun hHeld => ?_)
          clear hc hx
          have hc := hHeld
          clear hK K
          try simp only [Act.put, List.setIfInBounds_toArray, List.set_cons_zero, List.set_cons_succ]
          apply Ord.go_light (i := 8) (by kernel_rfl)
          next => (simp only [List.getElem?_toArray, List.getElem?_cons_succ, List.getElem?_cons_zero]; rfl)
          next => rfl
          next => (intro w' hSw; clear hSw; go_simp; first | done | with_reducible rfl)
          simp only [Act.put, List.setIfInBounds_toArray, List.set_cons_zero, List.set_cons_succ]
          apply Ord.go_light (i := 9) (by kernel_rfl)
          next => (simp only [List.getElem?_toArray, List.getElem?_cons_succ, List.getElem?_cons_zero]; rfl)
          next => rfl
          next => (intro w' hSw; clear hSw; go_simp; first | done | with_reducible rfl)
          simp only [Act.put, List.setIfInBounds_toArray, List.set_cons_zero, List.set_cons_succ]
          apply Ord.go_light (i := 10) (by kernel_rfl)
          next => (simp only [List.getElem?_toArray, List.getElem?_cons_succ, List.getElem?_cons_zero]; rfl)
          next => rfl
          next => (intro w' hSw; clear hSw; go_simp; first | done | with_reducible rfl)
          simp only [Act.put, List.setIfInBounds_toArray, List.set_cons_zero, List.set_cons_succ]
          apply Ord.go_light (i := 11) (by kernel_rfl)
          next => (simp only [List.getElem?_toArray, List.getElem?_cons_succ, List.getElem?_cons_zero]; rfl)
          next => rfl
          next => (intro w' hSw; clear hSw; go_simp; first | done | with_reducible rfl)
          simp only [Act.put, List.setIfInBounds_toArray, List.set_cons_zero, List.set_cons_succ]
          apply Ord.go_light (i := 12) (by kernel_rfl)
          next => (simp only [List.getElem?_toArray, List.getElem?_cons_succ, List.getElem?_cons_zero]; rfl)
          next => rfl
          next => (intro w' hSw; clear hSw; go_simp; first | done | with_reducible rfl)
          simp only [Act.put, List.setIfInBounds_toArray, List.set_cons_zero, List.set_cons_succ]
          apply Ord.go_light (i := 13) (by kernel_rfl)
          next => (simp only [List.getElem?_toArray, List.getElem?_cons_succ, List.getElem?_cons_zero]; rfl)
          next => rfl
          next => (intro w' hSw; clear hSw; go_simp; first | done | with_reducible rfl)
          simp only [Act.put, List.setIfInBounds_toArray, List.set_cons_zero, List.set_cons_succ]
          refine Ord.go_tail ?_; simp only [List.drop_succ_cons, List.drop_zero]
          have FB := Aid.hid (BW.out.trans (hc.mono BW.out.size))
          clear hc
          cases qk
          · go_wp2_with fail
            refine (parts_of P ⟨#[]⟩ false false HPN.out P1000 _ (HLen.out.below FB.out)).mono ?_; rintro x w' ⟨rfl, hx⟩
            go_wp2_with fail
            refine (awake_any _ ((HLen.out.below FB.out).below hx)).mono ?_; rintro x w2 ⟨rfl, hy⟩
            go_wp2_with fail
            go_ret
            exact ⟨rfl, (FB.out.trans (hx.mono FB.out.size)).trans (hy.mono (Nat.le_trans FB.out.size hx.size))⟩
          · obtain ⟨rfl, rfl⟩ := HQ.out rfl
            go_wp2_with fail
            refine (parts_of P ⟨#[]⟩ false false HPN.out P1000 _ (HLen.out.below FB.out)).mono ?_; rintro x w' ⟨rfl, hx⟩
            go_wp2_with fail
            refine (awake_any _ ((HLen.out.below FB.out).below hx)).mono ?_; rintro x w2 ⟨rfl, hy⟩
            go_wp2_with fail
            go_ret
            exact ⟨rfl, (FB.out.trans (hx.mono FB.out.size)).trans (hy.mono (Nat.le_trans FB.out.size hx.size))⟩
        ·
          apply Ord.go_done1
          next => (simp only [List.getElem?_toArray, List.getElem?_cons_succ, List.getElem?_cons_zero]; rfl)
          next => rfl
          intro K hK
          go_wp2_with fail
          refine hK.out _ _ (hc.alloc hc.size _) (fun hHeld => ?_)
          clear hc
          have hc := hHeld
          clear hK K
          try simp only [Act.put, List.setIfInBounds_toArray, List.set_cons_zero, List.set_cons_succ]
          refine Ord.go_two (i := 2) (j := 5) (by kernel_rfl) (by kernel_rfl) ?_ ?_
          ·
            apply Ord.go_done1
            next => (simp only [List.getElem?_toArray, List.getElem?_cons_succ, List.getElem?_cons_zero]; rfl)
            next => rfl
            intro K hK
            go_wp2_with fail
            refine (sig_is P r Z HZ.out _ P1000).mono ?_; rintro x w' ⟨rfl, rfl⟩; dsimp only
            refine hK.out _ _ hc (fun hHeld => ?_)
            clear hHeld
            clear hK K
            try simp only [Act.put, List.setIfInBounds_toArray, List.set_cons_zero, List.set_cons_succ]
            refine Ord.go_one (i := 5) (by kernel_rfl) (by kernel_rfl) ?_
            apply Ord.go_done1
            next => (simp only [List.getElem?_toArray, List.getElem?_cons_succ, List.getElem?_cons_zero]; rfl)
            next => rfl
            intro K hK
            have hcv := run_convert_bytes_arg (P := Tryd.prog) ((W.alloc (.cells #[.int .u8 o] 5)).drew) 36 5 Tryd.underlying36 Tryd.underlying5 W.heap.size 0 1 1 [o] rfl (fun i hi => by obtain rfl : i = 0 := (by omega); exact ((Aid.Has.new W [.int .u8 o] 5).drew).cell 0 _ rfl) 9 Tryd.underlying9
            go_wp2_with fail
            clear hcv
            refine hK.out _ _ hc (fun hHeld => ?_)
            clear hHeld
            clear hK K
            try simp only [Act.put, List.setIfInBounds_toArray, List.set_cons_zero, List.set_cons_succ]
            apply Ord.go_light (i := 6) (by kernel_rfl)
            next => (simp only [List.getElem?_toArray, List.getElem?_cons_succ, List.getElem?_cons_zero]; rfl)
            next => rfl
            next => (intro w' hSw; clear hSw; go_simp; rw [if_neg NB.out]; first | done | with_reducible rfl)
            simp only [Act.put, List.setIfInBounds_toArray, List.set_cons_zero, List.set_cons_succ]
            refine Ord.go_one (i := 7) (by kernel_rfl) (by kernel_rfl) ?_
            apply Ord.go_done1
            next => (simp only [List.getElem?_toArray, List.getElem?_cons_succ, List.getElem?_cons_zero]; rfl)
            next => rfl
            intro K hK
            go_wp2_with fail
            refine (parts_of (Z ++ strOfNums [o]) Q qb qk HPB.out Y1000 _ ((HLen.out.below BW.out).below hc)).mono ?_; rintro x w' ⟨rfl, hx⟩; dsimp only
            refine hK.out _ _ (hc.trans (hx.mono hc.size)) (fun hHeld => ?_)
            clear hc hx
            have hc := hHeld
            clear hK K
            try simp only [Act.put, List.setIfInBounds_toArray, List.set_cons_zero, List.set_cons_succ]
            apply Ord.go_light (i := 8) (by kernel_rfl)
            next => (simp only [List.getElem?_toArray, List.getElem?_cons_succ, List.getElem?_cons_zero]; rfl)
            next => rfl
            next => (intro w' hSw; clear hSw; go_simp; first | done | with_reducible rfl)
            simp only [Act.put, List.setIfInBounds_toArray, List.set_cons_zero, List.set_cons_succ]
            apply Ord.go_light (i := 9) (by kernel_rfl)
            next => (simp only [List.getElem?_toArray, List.getElem?_cons_succ, List.getElem?_cons_zero]; rfl)
            next => rfl
            next => (intro w' hSw; clear hSw; go_simp; first | done | with_reducible rfl)
            simp only [Act.put, List.setIfInBounds_toArray, List.set_cons_zero, List.set_cons_succ]
            apply Ord.go_light (i := 10) (by kernel_rfl)
            next => (simp only [List.getElem?_toArray, List.getElem?_cons_succ, List.getElem?_cons_zero]; rfl)
            next => rfl
            next => (intro w' hSw; clear hSw; go_simp; first | done | with_reducible rfl)
            simp only [Act.put, List.setIfInBounds_toArray, List.set_cons_zero, List.set_cons_succ]
            apply Ord.go_light (i := 11) (by kernel_rfl)
            next => (simp only [List.getElem?_toArray, List.getElem?_cons_succ, List.getElem?_cons_zero]; rfl)
            next => rfl
            next => (intro w' hSw; clear hSw; go_simp; first | done | with_reducible rfl)
            simp only [Act.put, List.setIfInBounds_toArray, List.set_cons_zero, List.set_cons_succ]
            apply Ord.go_light (i := 12) (by kernel_rfl)
            next => (simp only [List.getElem?_toArray, List.getElem?_cons_succ, List.getElem?_cons_zero]; rfl)
            next => rfl
            next => (intro w' hSw; clear hSw; go_simp; first | done | with_reducible rfl)
            simp only [Act.put, List.setIfInBounds_toArray, List.set_cons_zero, List.set_cons_succ]
            apply Ord.go_light (i := 13) (by kernel_rfl)
            next => (simp only [List.getElem?_toArray, List.getElem?_cons_succ, List.getElem?_cons_zero]; rfl)
            next => rfl
            next => (intro w' hSw; clear hSw; go_simp; first | done | with_reducible rfl)
            simp only [Act.put, List.setIfInBounds_toArray, List.set_cons_zero, List.set_cons_succ]
            refine Ord.go_tail ?_; simp only [List.drop_succ_cons, List.drop_zero]
            have FB := Aid.hid (BW.out.trans (hc.mono BW.out.size))
            clear hc
            cases qk
            · go_wp2_with fail
              refine (parts_of P ⟨#[]⟩ false false HPN.out P1000 _ (HLen.out.below FB.out)).mono ?_; rintro x w' ⟨rfl, hx⟩
              go_wp2_with fail
              refine (awake_any _ ((HLen.out.below FB.out).below hx)).mono ?_; rintro x w2 ⟨rfl, hy⟩
              go_wp2_with fail
              go_ret
              exact ⟨rfl, (FB.out.trans (hx.mono FB.out.size)).trans (hy.mono (Nat.le_trans FB.out.size hx.size))⟩
            · obtain ⟨rfl, rfl⟩ := HQ.out rfl
              go_wp2_with fail
              refine (parts_of P ⟨#[]⟩ false false HPN.out P1000 _ (HLen.out.below FB.out)).mono ?_; rintro x w' ⟨rfl, hx⟩
              go_wp2_with fail
              refine (awake_any _ ((HLen.out.below FB.out).below hx)).mono ?_; rintro x w2 ⟨rfl, hy⟩
              go_wp2_with fail
              go_ret
              exact ⟨rfl, (FB.out.trans (hx.mono FB.out.size)).trans (hy.mono (Nat.le_trans FB.out.size hx.size))⟩
          ·
            apply Ord.go_done1
            next => (simp only [List.getElem?_toArray, List.getElem?_cons_succ, List.getElem?_cons_zero]; rfl)
            next => rfl
            intro K hK
            have hcv := run_convert_bytes_arg (P := Tryd.prog) ((W.alloc (.cells #[.int .u8 o] 5)).drew) 36 5 Tryd.underlying36 Tryd.underlying5 W.heap.size 0 1 1 [o] rfl (fun i hi => by obtain rfl : i = 0 := (by omega); exact ((Aid.Has.new W [.int .u8 o] 5).drew).cell 0 _ rfl) 9 Tryd.underlying9
            go_wp2_with fail
            clear hcv
            refine hK.out _ _ hc (fun hHeld => ?_)
            clear hHeld
            clear hK K
            try simp only [Act.put, List.setIfInBounds_toArray, List.set_cons_zero, List.set_cons_succ]
            refine Ord.go_one (i := 2) (by kernel_rfl) (by kernel_rfl) ?_
            apply Ord.go_done1
            next => (simp only [List.getElem?_toArray, List.getElem?_cons_succ, List.getElem?_cons_zero]; rfl)
            next => rfl
            intro K hK
            go_wp2_with fail
            refine (sig_is P r Z HZ.out _ P1000).mono ?_; rintro x w' ⟨rfl, rfl⟩; dsimp only
            refine hK.out _ _ hc (fun hHeld => ?_)
            clear hHeld
            clear hK K
            try simp only [Act.put, List.setIfInBounds_toArray, List.set_cons_zero, List.set_cons_succ]
            apply Ord.go_light (i := 6) (by kernel_rfl)
            next => (simp only [List.getElem?_toArray, List.getElem?_cons_succ, List.getElem?_cons_zero]; rfl)
            next => rfl
            next => (intro w' hSw; clear hSw; go_simp; rw [if_neg NB.out]; first | done | with_reducible rfl)
            simp only [Act.put, List.setIfInBounds_toArray, List.set_cons_zero, List.set_cons_succ]
            refine Ord.go_one (i := 7) (by kernel_rfl) (by kernel_rfl) ?_
            apply Ord.go_done1
            next => (simp only [List.getElem?_toArray, List.getElem?_cons_succ, List.getElem?_cons_zero]; rfl)
            next => rfl
            intro K hK
            go_wp2_with fail
            refine (parts_of (Z ++ strOfNums [o]) Q qb qk HPB.out Y1000 _ ((HLen.out.below BW.out).below hc)).mono ?_; rintro x w' ⟨rfl, hx⟩; dsimp only
            refine hK.out _ _ (hc.trans (hx.mono hc.size)) (fun hHeld => ?_)
            clear hc hx
            have hc := hHeld
            clear hK K
            try simp only [Act.put, List.setIfInBounds_toArray, List.set_cons_zero, List.set_cons_succ]
            apply Ord.go_light (i := 8) (by kernel_rfl)
            next => (simp only [List.getElem?_toArray, List.getElem?_cons_succ, List.getElem?_cons_zero]; rfl)
            next => rfl
            next => (intro w' hSw; clear hSw; go_simp; first | done | with_reducible rfl)
            simp only [Act.put, List.setIfInBounds_toArray, List.set_cons_zero, List.set_cons_succ]
            apply Ord.go_light (i := 9) (by kernel_rfl)
            next => (simp only [List.getElem?_toArray, List.getElem?_cons_succ, List.getElem?_cons_zero]; rfl)
            next => rfl
            next => (intro w' hSw; clear hSw; go_simp; first | done | with_reducible rfl)
            simp only [Act.put, List.setIfInBounds_toArray, List.set_cons_zero, List.set_cons_succ]
            apply Ord.go_light (i := 10) (by kernel_rfl)
            next => (simp only [List.getElem?_toArray, List.getElem?_cons_succ, List.getElem?_cons_zero]; rfl)
            next => rfl
            next => (intro w' hSw; clear hSw; go_simp; first | done | with_reducible rfl)
            simp only [Act.put, List.setIfInBounds_toArray, List.set_cons_zero, List.set_cons_succ]
            apply Ord.go_light (i := 11) (by kernel_rfl)
            next => (simp only [List.getElem?_toArray, List.getElem?_cons_succ, List.getElem?_cons_zero]; rfl)
            next => rfl
            next => (intro w' hSw; clear hSw; go_simp; first | done | with_reducible rfl)
            simp only [Act.put, List.setIfInBounds_toArray, List.set_cons_zero, List.set_cons_succ]
            apply Ord.go_light (i := 12) (by kernel_rfl)
            next => (simp only [List.getElem?_toArray, List.getElem?_cons_succ, List.getElem?_cons_zero]; rfl)
            next => rfl
            next => (intro w' hSw; clear hSw; go_simp; first | done | with_reducible rfl)
            simp only [Act.put, List.setIfInBounds_toArray, List.set_cons_zero, List.set_cons_succ]
            apply Ord.go_light (i := 13) (by kernel_rfl)
            next => (simp only [List.getElem?_toArray, List.getElem?_cons_succ, List.getElem?_cons_zero]; rfl)
            next => rfl
            next => (intro w' hSw; clear hSw; go_simp; first | done | with_reducible rfl)
            simp only [Act.put, List.setIfInBounds_toArray, List.set_cons_zero, List.set_cons_succ]
            refine Ord.go_tail ?_; simp only [List.drop_succ_cons, List.drop_zero]
            have FB := Aid.hid (BW.out.trans (hc.mono BW.out.size))
            clear hc
            cases qk
            · go_wp2_with fail
              refine (parts_of P ⟨#[]⟩ false false HPN.out P1000 _ (HLen.out.below FB.out)).mono ?_; rintro x w' ⟨rfl, hx⟩
              go_wp2_with fail
              refine (awake_any _ ((HLen.out.below FB.out).below hx)).mono ?_; rintro x w2 ⟨rfl, hy⟩
              go_wp2_with fail
              go_ret
              exact ⟨rfl, (FB.out.trans (hx.mono FB.out.size)).trans (hy.mono (Nat.le_trans FB.out.size hx.size))⟩
            · obtain ⟨rfl, rfl⟩ := HQ.out rfl
              go_wp2_with fail
              refine (parts_of P ⟨#[]⟩ false false HPN.out P1000 _ (HLen.out.below FB.out)).mono ?_; rintro x w' ⟨rfl, hx⟩
              go_wp2_with fail
              refine (awake_any _ ((HLen.out.below FB.out).below hx)).mono ?_; rintro x w2 ⟨rfl, hy⟩
              go_wp2_with fail
              go_ret
              exact ⟨rfl, (FB.out.trans (hx.mono FB.out.size)).trans (hy.mono (Nat.le_trans FB.out.size hx.size))⟩
      · have hp : Op.parts Z.data.toList = ([], false, false) := Op.parts_no (fun q c g hq => by have := (SG.out.same g).1; subst this; have := PS.out; omega)
        have HPA := Aid.hid hp
        clear hp
        go_wp2_with fail
        refine (sig_is P r Z HZ.out _ P1000).mono ?_; rintro e w' ⟨rfl, rfl⟩
        go_wp2_with fail
        refine (parts_of Z ⟨#[]⟩ false false HPA.out Z1000 _ (HLen.out.below BN.out)).mono ?_; rintro e W ⟨rfl, hb1⟩
        have BW := Aid.hid (BN.out.trans hb1)
        clear hb1
        go_wp2_with fail
        refine (awake_any _ (HLen.out.below BW.out)).mono ?_; rintro e w' ⟨rfl, hb⟩
        go_wp2_with fail
        go_ret
        exact ⟨rfl, BW.out.trans (hb.mono BW.out.size)⟩

theorem Op.rem6 (x : Int) : ∃ M : Nat, wrap64 ((IntKind.u64.wrap x).tmod 6) = M ∧ M < 6 := by
  have e1 : IntKind.u64.wrap x = x % 18446744073709551616 := by simp [IntKind.wrap, IntKind.bits, IntKind.signed]
  rw [e1, Int.tmod_eq_emod_of_nonneg (by omega)]
  refine ⟨((x % 18446744073709551616) % 6).toNat, ?_, ?_⟩
  · unfold wrap64; omega
  · omega
theorem opSigs_any (k bits : Int) (r : Bool) (o : Int) (w : World) (hm : Op.Len w) (o0 : 0 ≤ o) (o1 : o < 256) :
    Calls Tryd.prog 4 #[.int .i64 k, .int .i64 bits, .bool r, .int .u8 o] w fun e w' => e = .returned (.bool true) ∧ Below w.heap.size w w' := by
  obtain ⟨M, h1, h2⟩ := Op.rem6 k
  exact opSigs_m k bits r o M w hm h1 h2 o0 o1
end Go.Proofs.YtbclpknmeaaajaaDoor
