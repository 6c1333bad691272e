/- The document's reader: a number, how many. -/
import Derived.Test.YtaogegeidbclaaaGreatDoorImgR2L
namespace Go.Proofs.YtaogegeidbclaaaGreatDoor
open Go.RowKit

set_option maxRecDepth 100000 in
set_option maxHeartbeats 2000000 in
theorem num2_is (p : Nat) (s : St) (w : World) (h : Rd2.Is w 97 p s) :
    Calls Tryz.prog 53 #[.pointer (some ⟨p, 0, none⟩)] w fun e w' => Numd2 97 p s w e w' := by
  have HI := Aid.hid h
  obtain ⟨A, c, bs, a, h1, h2, h3, h4, h5, h6, h7⟩ := h
  obtain ⟨b0, x0⟩ := s
  have p0 := h1.cell 0 _ rfl
  have p1 := h1.cell 1 _ rfl
  have p2 := h1.cell 2 _ rfl
  have pf := h1.frozen
  have hp := h1.lt
  obtain rfl : b0 = bs.drop a := h3
  have hll : (bs.drop a).length = bs.length - a := List.length_drop
  have hwr : IntKind.i64.wrap ((bs.length : Int) - (a : Int)) = (bs.length : Int) - a := IntWalk.i64_in _ (by omega)
  have NO : Hid (∀ (n : Nat) (e : Ending), (x0 = true ∨ bs.length < a + 4) → e = .returned (.int .i64 0) → Numd2 97 p ⟨bs.drop a, x0⟩ w e ((w.drewN n).setCell ⟨p, 2, none⟩ (.bool true))) := Aid.hid fun n e hh he =>
    ⟨0, ⟨bs.drop a, true⟩, he, by omega, by omega, (HI.out.drewN n).bad true, ((Keep.refl p w).drewN n).trans (Keep.set p _ 2 _), Got.bad (by
      rcases hh with h | h
      · exact Or.inl h
      · exact Or.inr (fun v => by rw [Pc.num_len, hll]; omega))⟩
  cases x0
  · by_cases hfew : bs.length < a + 4
    · have d1 : decide ((bs.length : Int) - (a : Int) < 4) = true := by simp; omega
      have d2 : (bs.length : Int) - (a : Int) < 4 := by omega
      have HF := Aid.hid (Or.inr hfew : false = true ∨ bs.length < a + 4)
      clear h1 h2 h4 h5 h6 h7 hll hfew
      go_enter Tryz.func53, Tryz.ntmps53
      try simp only [List.append_eq, List.cons_append, List.nil_append]
      go_wp2_with fail
      go_quiet (fail)
      clear hwr d1 d2
      have pz2 : (w.drewN nq).cell? ⟨p, 2, none⟩ = some (.bool false) := p2
      go_wp2_with fail
      go_ret
      exact NO.out _ _ HF.out rfl
    · have d1 : decide ((bs.length : Int) - (a : Int) < 4) = false := by simp; omega
      have d2 : ¬ ((bs.length : Int) - (a : Int) < 4) := by omega
      have HR := Aid.hid h6
      have HB := Aid.hid h7
      have HH := Aid.hid h1
      have h45 := Aid.hid (⟨h4, h5⟩ : _ ∧ _)
      have hal : a + 4 ≤ bs.length := by omega
      clear h1 h2 h6 h7 hll hfew
      go_enter Tryz.func53, Tryz.ntmps53
      try simp only [List.append_eq, List.cons_append, List.nil_append]
      go_wp2_with fail
      go_quiet (fail)
      clear hwr d1 d2
      obtain ⟨w1, hw1⟩ : ∃ w1, w.drewN nq = w1 := ⟨_, rfl⟩
      rw [hw1]
      have HW1 := Aid.hid hw1
      clear hw1
      go_wp2_with fail
      go_loopw [3, 4] (fun vx vi wr => ∃ (k : Nat) (v : Int) (n : Nat), vi = .int .i64 k ∧ k ≤ 4 ∧ vx = .int .u32 v ∧ Hid (Rd.val ((bs.drop a).take k) = v) ∧ wr = w.drewN n) (fun _ vi _ => 4 - (intOf vi).toNat)
      case atStart => exact ⟨0, 0, nq, rfl, Nat.zero_le _, rfl, Aid.hid (by simp [Rd.val]), HW1.out.symm⟩
      case round =>
        obtain ⟨k, v, n, rfl, hk, rfl, HV, rfl⟩ := hrel
        have rng := Rd.val_small (bs.drop a) k (fun y hy => HB.out y (List.mem_of_mem_drop hy)) (by rw [List.length_drop]; omega)
        rw [HV.out] at rng
        by_cases hlt : k < 4
        · obtain ⟨x, hx⟩ : ∃ x, (bs.drop a)[k]? = some x := ⟨_, List.getElem?_eq_getElem (by rw [List.length_drop]; omega)⟩
          have hx2 : bs[a + k]? = some x := by rw [← List.getElem?_drop]; exact hx
          obtain ⟨ad, u, rfl, hb, hu, hc⟩ := HR.out.at_ (k := a + k) (by omega)
          obtain rfl : u = .int .u8 x := by simpa [hx2] using hu.symm
          have hr := HB.out x (List.mem_of_getElem? hx2)
          have x1 := hr.1
          have x2 := hr.2
          have v1 := rng.1
          have v2 := rng.2.1 (by omega)
          have hor := Rd.or_u32 v x v1 v2 x1 x2
          have NV : Hid (Rd.val ((bs.drop a).take (k + 1)) = v * 256 + x) := Aid.hid (by rw [Rd.val_next hx, HV.out])
          have hsum : IntKind.i64.wrap ((a : Int) + (k : Int)) = (a : Int) + k := IntWalk.i64_in _ (by omega)
          have hidx : ((a : Int) + (k : Int)).toNat = a + k := by omega
          obtain ⟨wr, hwr2⟩ : ∃ wr, wr = w.drewN n := ⟨_, rfl⟩
          have c0 : wr.cell? ⟨p, 0, none⟩ = some (.slice (some ad) bs.length c) := by rw [hwr2]; exact p0
          have c1 : wr.cell? ⟨p, 1, none⟩ = some (.int .i64 a) := by rw [hwr2]; exact p1
          have c2 : wr.cell? (ad.add (a + k)) = some (.int .u8 x) := by rw [hwr2]; exact hc
          rw [← hwr2]
          have HWR := Aid.hid hwr2
          clear rng hr hu hx hx2 hwr2 hc
          have hshl : IntKind.u32.wrap (v * 256) = v * 256 := IntWalk.u32_in _ (by omega)
          have hcv : IntKind.u32.wrap x = x := IntWalk.u32_in _ (by omega)
          go_wp2_with fail
          go_quiet (fail)
          clear hshl hcv hor hsum hidx
          go_wp2_with fail
          go_roundw
          case rel => exact ⟨k + 1, v * 256 + x, n + nq, by go_num, by omega, rfl, NV, by rw [HWR.out]; exact drewN_more _ _ _⟩
          case measure => simp [intOf]; omega
        · obtain rfl : k = 4 := by omega
          have v1 := rng.1
          have v2 := rng.2.2 (by omega)
          have HG : Hid (∀ z : Int, z = (v + 2147483648) % 4294967296 - 2147483648 → Got Pc.num (fun u => z = u) ⟨bs.drop a, false⟩ ⟨bs.drop (a + 4), false⟩) := Aid.hid fun z hz u t g1 g2 g3 => by
            simp only at g2
            have e1 : (bs.drop a).take 4 = Wt.be u := by rw [g2]; show (Wt.be u ++ t).take 4 = _; simp [Wt.be]
            have e2 : bs.drop (a + 4) = t := by rw [← List.drop_drop, g2]; show (Wt.be u ++ t).drop 4 = _; simp [Wt.be]
            have e3 : -2147483648 ≤ u ∧ u ≤ 2147483647 := by
              simp only [Pc.num, Wt.out, Bool.or_eq_false_iff, decide_eq_false_iff_not] at g3; omega
            have e4 := HV.out
            rw [e1, Rd.val_be] at e4
            exact ⟨by omega, by rw [e2]⟩
          have c1 : (w.drewN n).cell? ⟨p, 1, none⟩ = some (.int .i64 a) := p1
          have EI : Hid (Rd2.Is ((w.drewN n).setCell ⟨p, 1, none⟩ (.int .i64 ((a + 4 : Nat) : Int))) 97 p ⟨bs.drop (a + 4), false⟩) := Aid.hid (Rd2.Is.on (s := ⟨bs.drop a, false⟩) (w := w.drewN n) HH.out h45.out.1 h45.out.2 HR.out HB.out (a + 4) hal)
          have EK : Hid (Keep p w ((w.drewN n).setCell ⟨p, 1, none⟩ (.int .i64 ((a + 4 : Nat) : Int)))) := Aid.hid (((Keep.refl p w).drewN n).trans (Keep.set p _ 1 _))
          have hcast : ((a + 4 : Nat) : Int) = (a : Int) + 4 := by omega
          rw [hcast] at EI EK
          clear rng hcast
          go_wp2_with fail
          go_ret
          have hw : wrap64 (wrap32 v) = (v + 2147483648) % 4294967296 - 2147483648 := by
            have q1 : wrap32 v = (v + 2147483648) % 4294967296 - 2147483648 := by unfold wrap32; omega
            rw [q1]; unfold wrap64; omega
          exact ⟨wrap64 (wrap32 v), _, rfl, by rw [hw]; omega, by rw [hw]; omega, EI.out, EK.out, HG.out _ hw⟩
  · have HF := Aid.hid (Or.inl rfl : true = true ∨ bs.length < a + 4)
    clear h1 h2 h4 h5 h6 h7 hll
    go_enter Tryz.func53, Tryz.ntmps53
    try simp only [List.append_eq, List.cons_append, List.nil_append]
    go_wp2_with fail
    go_quiet (fail)
    clear hwr
    have pz2 : (w.drewN nq).cell? ⟨p, 2, none⟩ = some (.bool true) := p2
    go_wp2_with fail
    go_ret
    exact NO.out _ _ HF.out rfl
end Go.Proofs.YtaogegeidbclaaaGreatDoor
