/- Method, as a walk. -/
import Derived.Test.YtejifefgmlpclaaGreatTabF
set_option linter.unusedSimpArgs false
set_option linter.unusedVariables false
namespace Go.Proofs.YtejifefgmlpclaaGreat
open Go.RowKit

def Tb.msOf (u : List Dk) (d : Int) : List Md := match u[d.toNat]? with | some x => x.ms | none => []
def Tb.methodIn (u : List Dk) (s : ByteArray) : List Int → Int × Int × Bool
  | [] => (0, 0, false)
  | c :: cs => if 0 ≤ Tb.mindex (Tb.msOf u c) s then (c, Tb.mindex (Tb.msOf u c) s, true) else Tb.methodIn u s cs
def Tb.method (u : List Dk) (d : Int) (s : ByteArray) : Int × Int × Bool := Tb.methodIn u s (if Tb.kind u d = 1 then [d] else Tb.chain u d)

set_option maxRecDepth 100000 in
set_option maxHeartbeats 4000000 in
theorem method_is (u : List Dk) (a : Option Addr) (B cap : Nat) (d : Int) (s : ByteArray) (RD RM : Int) (RK : Bool) (w : World) (hr : Tb.method u d s = (RD, RM, RK)) (hu : UnitAt w B a u) (hB : B ≤ w.heap.size) :
    Calls Tryz.prog 68 #[.agg #[.slice a u.length cap], .int .i64 d, .string s] w fun e w' => e = .returned (.tuple #[.agg #[.int .i64 RD, .int .i64 RM], .bool RK]) ∧ Below w.heap.size w w' := by
  have HU := Aid.hid hu
  have sm := hu.small
  clear hu
  obtain ⟨kd, hkd⟩ : ∃ r, Tb.kind u d = r := ⟨_, rfl⟩
  obtain ⟨ch, hch⟩ : ∃ r, Tb.chain u d = r := ⟨_, rfl⟩
  have MR0 : Hid (Tb.methodIn u s (if kd = 1 then [d] else ch) = (RD, RM, RK)) := Aid.hid (by rw [← hr, Tb.method, hkd, hch])
  have KD := Aid.hid hkd; have CH := Aid.hid hch
  have lc : ch.length ≤ 1000000000 := by have := Tb.chain_len u d; rw [hch] at this; omega
  clear hkd hch hr
  have hb1 : Below w.heap.size w (((w.alloc (.cells #[.slice a u.length cap] 24)).alloc (.cells #[.string s] 9)).alloc (.cells #[.int .i64 0, .int .i64 0] 76)) := (((Below.refl _ _).alloc (Nat.le_refl _) _).alloc (by simp) _).alloc (by simp; omega) _
  have P0 : Aid.Has (((w.alloc (.cells #[.slice a u.length cap] 24)).alloc (.cells #[.string s] 9)).alloc (.cells #[.int .i64 0, .int .i64 0] 76)) w.heap.size [.slice a u.length cap] 24 := ((Aid.Has.new _ _ _).alloc _).alloc _
  have P1 : Aid.Has (((w.alloc (.cells #[.slice a u.length cap] 24)).alloc (.cells #[.string s] 9)).alloc (.cells #[.int .i64 0, .int .i64 0] 76)) (w.heap.size + 1) [.string s] 9 := by
    have e : (w.alloc (.cells #[.slice a u.length cap] 24)).heap.size = w.heap.size + 1 := by simp
    rw [← e]; exact (Aid.Has.new _ _ _).alloc _
  have P2 : Aid.Has (((w.alloc (.cells #[.slice a u.length cap] 24)).alloc (.cells #[.string s] 9)).alloc (.cells #[.int .i64 0, .int .i64 0] 76)) (w.heap.size + 1 + 1) [.int .i64 0, .int .i64 0] 76 := by
    have e : ((w.alloc (.cells #[.slice a u.length cap] 24)).alloc (.cells #[.string s] 9)).heap.size = w.heap.size + 1 + 1 := by simp
    rw [← e]; exact Aid.Has.new _ _ _
  go_enter Tryz.func68, Tryz.ntmps68
  try simp only [List.append_eq, List.cons_append, List.nil_append]
  go_wp2_with fail
  obtain ⟨pb, hpb⟩ : ∃ pb, w.heap.size = pb := ⟨_, rfl⟩
  generalize ((w.alloc (.cells #[.slice a u.length cap] 24)).alloc (.cells #[.string s] 9)).alloc (.cells #[.int .i64 0, .int .i64 0] 76) = W at *
  rw [hpb] at P0 P1 P2 ⊢
  have hpl := P0.lt
  have hpn := P1.lt
  have PC := Aid.hid (P0.cell 0 _ rfl)
  have PN := Aid.hid (P1.cell 0 _ rfl)
  have PW := Aid.hid P2
  have HU1 := Aid.hid (HU.out.below hb1 hB)
  have hBW : B ≤ W.heap.size := Nat.le_trans hB hb1.size
  have BW := Aid.hid hb1
  have hb : Below W.heap.size W W := Below.refl _ _
  clear P0 P1 P2 hb1
  refine (chain_is u a B cap d ch _ CH.out (HU1.out.below hb hBW) (Nat.le_trans hBW hb.size)).mono ?_; rintro e w4 ⟨A, c, rfl, ow, hb4⟩
  replace hb := hb.trans (hb4.mono hb.size)
  clear hb4
  have cp := (hb.cell (p := ⟨pb, 0, none⟩) hpl).trans PC.out
  have I1 := Aid.hid (IntsAt.of_own ow)
  clear ow
  go_wp2_with fail
  refine (kind_is u a B cap d kd _ KD.out (HU1.out.below hb hBW) (Nat.le_trans hBW hb.size)).mono ?_; rintro e w5 ⟨rfl, hb5⟩
  by_cases hk1 : kd = 1
  · subst hk1
    replace hb := (hb.trans (hb5.mono hb.size)).alloc (hb.trans (hb5.mono hb.size)).size (.cells #[.int .i64 d] 3)
    clear hb5 cp I1
    obtain ⟨zs, hzs⟩ : ∃ zs, [d] = zs := ⟨_, rfl⟩
    have MR : Hid (Tb.methodIn u s zs = (RD, RM, RK)) := Aid.hid (by have h := MR0.out; rw [← hzs]; simpa using h)
    have ZIN : Hid (∀ z ∈ zs, ∃ (i : Nat) (x : Dk), z = i ∧ u[i]? = some x ∧ i < u.length) := Aid.hid (fun z hz => by
      rw [← hzs] at hz
      obtain rfl : z = d := by simpa using hz
      obtain ⟨i, x, e, hx, _, hi⟩ := Tb.kind_in KD.out (by decide)
      exact ⟨i, x, e, hx, hi⟩)
    have IZ : Hid (IntsAt (w5.alloc (.cells #[.int .i64 d] 3)) (w5.alloc (.cells #[.int .i64 d] 3)).heap.size (some ⟨w5.heap.size, 0, none⟩) zs) := Aid.hid (by
      rw [← hzs]
      have h := Aid.Has.new w5 [.int .i64 d] 3
      refine ⟨rfl, fun _ => ⟨_, rfl, by simp, fun j u hj => ?_⟩⟩
      match j, hj with
      | 0, hj => cases hj; exact h.cell 0 _ rfl)
    have hzl : zs.length = 1 := by rw [← hzs]; rfl
    have ZL := Aid.hid hzl
    clear hzs hzl MR0
    have BT := Aid.hid (BW.out.trans (hb.mono BW.out.size))
    have HU2 := Aid.hid (HU1.out.below hb hBW)
    have hB2 := Nat.le_trans hBW hb.size
    have PC2 := Aid.hid ((hb.cell (p := ⟨pb, 0, none⟩) hpl).trans PC.out)
    have PN2 := Aid.hid ((hb.cell (p := ⟨pb + 1, 0, none⟩) hpn).trans PN.out)
    have PW2 := Aid.hid (PW.out.below hb PW.out.lt)
    have hl1 := Nat.lt_of_lt_of_le hpl hb.size
    have hl2 := Nat.lt_of_lt_of_le hpn hb.size
    have hl3 := PW2.out.lt
    clear hb
    go_wp2_with fail
    have zl := ZL.out; generalize (some (⟨w5.heap.size, 0, none⟩ : Addr)) = AZ at *
    generalize w5.alloc (.cells #[.int .i64 d] 3) = W2 at *
    go_loopw [23] (fun vi wr => ∃ k : Nat, vi = .int .i64 k ∧ k ≤ zs.length ∧ Hid (Tb.methodIn u s (zs.drop k) = (RD, RM, RK)) ∧ Below W2.heap.size W2 wr) (fun vi _ => zs.length - (intOf vi).toNat)
    case atStart => exact ⟨0, rfl, Nat.zero_le _, Aid.hid (by simpa using MR.out), Below.refl _ _⟩
    case round =>
      obtain ⟨k, rfl, hk, MK, hb⟩ := hrel
      by_cases hlt : k < zs.length
      · obtain ⟨ad, rfl, _, hc⟩ := IntsAt.at_ (show IntsAt _ _ _ _ from Reads.below IZ.out hb) hlt
        obtain ⟨z, hz⟩ : ∃ z, zs[k]? = some z := ⟨_, List.getElem?_eq_getElem hlt⟩
        have cz := hc k z hz
        obtain ⟨i, x, rfl, hx, hil⟩ := ZIN.out z (List.mem_of_getElem? hz)
        have DR : Hid (zs.drop k = (i : Int) :: zs.drop (k + 1)) := Aid.hid (by rw [List.drop_eq_getElem_cons hlt]; congr 1; exact (List.getElem?_eq_some_iff.1 hz).2)
        have EM : Hid (Tb.msOf u i = x.ms) := Aid.hid (by unfold Tb.msOf; simp [hx])
        have cp := (hb.cell (p := ⟨pb, 0, none⟩) hl1).trans PC2.out
        have HU3 := HU2.out.below hb hB2
        have HXD := Aid.hid (HU3.decls x (List.mem_of_getElem? hx))
        obtain ⟨b, off, rfl, _, hcu⟩ := HU3.at_ (by omega)
        have cm := hcu i x hx 7 _ rfl
        obtain ⟨q, hq⟩ : ∃ q, Tb.mindex x.ms s = q := ⟨_, rfl⟩
        have HQ := Aid.hid hq
        clear hc hcu HU3 hz hx hq
        go_wp2_with fail
        refine (indexMeth_is x B (pb + 1) s q _ HQ.out HXD.out (Nat.le_trans hB2 hb.size) ((hb.cell (p := ⟨pb + 1, 0, none⟩) hl2).trans PN2.out) (Nat.lt_of_lt_of_le hl2 hb.size)).mono ?_; rintro e w9 ⟨rfl, hb9⟩
        replace hb := hb.trans (hb9.mono hb.size)
        clear hb9 cz cp cm
        by_cases hq0 : 0 ≤ q
        · have E : Hid ((i : Int) = RD ∧ q = RM ∧ true = RK) := Aid.hid (by
            have h := MK.out
            rw [DR.out, Tb.methodIn, EM.out, HQ.out, if_pos hq0] at h
            simpa using h)
          have hp9 := PW2.out.below hb hl3
          have cw0 := hp9.cell 0 _ rfl
          have cw1 := hp9.cell 1 _ rfl
          have cwf := hp9.frozen
          have hpl9 := hp9.lt
          have hm1 := (hp9.set 0 (.int .i64 i)).set 1 (.int .i64 q)
          have cv0 := hm1.cell 0 _ rfl
          have cv1 := hm1.cell 1 _ rfl
          obtain ⟨rfl, rfl, rfl⟩ := E.out
          go_wp2_with fail
          refine bodyPost_ret (v := .tuple #[.agg #[.int .i64 i, .int .i64 q], .bool true]) (by simp [results, Tryz.results68, go_sem, cv0, cv1]) rfl ⟨rfl, ?_⟩
          have FB : Below w.heap.size w ((w9.setCell ⟨pb + 1 + 1, 0, none⟩ (.int .i64 i)).setCell ⟨pb + 1 + 1, 1, none⟩ (.int .i64 q)) := ((BT.out.trans (hb.mono BT.out.size)).setCell (by simp; omega) _).setCell (by simp; omega) _
          first | exact FB | exact hpb ▸ FB
        · have NX : Hid (Tb.methodIn u s (zs.drop (k + 1)) = (RD, RM, RK)) := Aid.hid (by
            have h := MK.out
            rw [DR.out, Tb.methodIn, EM.out, HQ.out, if_neg hq0] at h
            exact h)
          have hq1 : decide (0 ≤ q) = false := by simpa using hq0
          go_wp2_with fail
          go_roundw
          case rel => exact ⟨k + 1, by go_num, by omega, NX, hb⟩
          case measure => simp [intOf]; omega
      · have E : Hid ((0 : Int) = RD ∧ (0 : Int) = RM ∧ false = RK) := Aid.hid (by
          have h := MK.out
          rw [List.drop_eq_nil_of_le (by omega), Tb.methodIn] at h
          simpa using h)
        have hp9 := PW2.out.below hb hl3
        have cw0 := hp9.cell 0 _ rfl
        have cw1 := hp9.cell 1 _ rfl
        have cwf := hp9.frozen
        have hpl9 := hp9.lt
        have hm1 := (hp9.set 0 (.int .i64 0)).set 1 (.int .i64 0)
        have cv0 := hm1.cell 0 _ rfl
        have cv1 := hm1.cell 1 _ rfl
        obtain ⟨rfl, rfl, rfl⟩ := E.out
        go_wp2_with fail
        refine bodyPost_ret (v := .tuple #[.agg #[.int .i64 0, .int .i64 0], .bool false]) (by simp [results, Tryz.results68, go_sem, cv0, cv1]) rfl ⟨rfl, ?_⟩
        have FB : Below w.heap.size w ((wr.setCell ⟨pb + 1 + 1, 0, none⟩ (.int .i64 0)).setCell ⟨pb + 1 + 1, 1, none⟩ (.int .i64 0)) := ((BT.out.trans (hb.mono BT.out.size)).setCell (by simp; omega) _).setCell (by simp; omega) _
        first | exact FB | exact hpb ▸ FB
  · replace hb := hb.trans (hb5.mono hb.size)
    obtain ⟨zs, hzs⟩ : ∃ zs, ch = zs := ⟨_, rfl⟩
    have MR : Hid (Tb.methodIn u s zs = (RD, RM, RK)) := Aid.hid (by have h := MR0.out; rw [← hzs]; simpa [hk1] using h)
    have ZIN : Hid (∀ z ∈ zs, ∃ (i : Nat) (x : Dk), z = i ∧ u[i]? = some x ∧ i < u.length) := Aid.hid (fun z hz => by
      rw [← hzs] at hz
      obtain ⟨i, x, e, hx, _, hi⟩ := Tb.kind_in (Tb.chain_in u d z (by rw [CH.out]; exact hz)).2.2 (by decide)
      exact ⟨i, x, e, hx, hi⟩)
    have IZ : Hid (IntsAt w5 w5.heap.size A zs) := Aid.hid (by rw [← hzs]; exact Reads.more (Reads.below I1.out hb5) hb5.size)
    have hk2 : (kd == 1) = false := by simpa using hk1
    rw [hzs] at lc ⊢
    clear hb5 cp I1 MR0 hzs
    have BT := Aid.hid (BW.out.trans (hb.mono BW.out.size))
    have HU2 := Aid.hid (HU1.out.below hb hBW)
    have hB2 := Nat.le_trans hBW hb.size
    have PC2 := Aid.hid ((hb.cell (p := ⟨pb, 0, none⟩) hpl).trans PC.out)
    have PN2 := Aid.hid ((hb.cell (p := ⟨pb + 1, 0, none⟩) hpn).trans PN.out)
    have PW2 := Aid.hid (PW.out.below hb PW.out.lt)
    have hl1 := Nat.lt_of_lt_of_le hpl hb.size
    have hl2 := Nat.lt_of_lt_of_le hpn hb.size
    have hl3 := PW2.out.lt
    clear hb
    go_wp2_with fail
    skip
    generalize w5 = W2 at *
    go_loopw [23] (fun vi wr => ∃ k : Nat, vi = .int .i64 k ∧ k ≤ zs.length ∧ Hid (Tb.methodIn u s (zs.drop k) = (RD, RM, RK)) ∧ Below W2.heap.size W2 wr) (fun vi _ => zs.length - (intOf vi).toNat)
    case atStart => exact ⟨0, rfl, Nat.zero_le _, Aid.hid (by simpa using MR.out), Below.refl _ _⟩
    case round =>
      obtain ⟨k, rfl, hk, MK, hb⟩ := hrel
      by_cases hlt : k < zs.length
      · obtain ⟨ad, rfl, _, hc⟩ := IntsAt.at_ (show IntsAt _ _ _ _ from Reads.below IZ.out hb) hlt
        obtain ⟨z, hz⟩ : ∃ z, zs[k]? = some z := ⟨_, List.getElem?_eq_getElem hlt⟩
        have cz := hc k z hz
        obtain ⟨i, x, rfl, hx, hil⟩ := ZIN.out z (List.mem_of_getElem? hz)
        have DR : Hid (zs.drop k = (i : Int) :: zs.drop (k + 1)) := Aid.hid (by rw [List.drop_eq_getElem_cons hlt]; congr 1; exact (List.getElem?_eq_some_iff.1 hz).2)
        have EM : Hid (Tb.msOf u i = x.ms) := Aid.hid (by unfold Tb.msOf; simp [hx])
        have cp := (hb.cell (p := ⟨pb, 0, none⟩) hl1).trans PC2.out
        have HU3 := HU2.out.below hb hB2
        have HXD := Aid.hid (HU3.decls x (List.mem_of_getElem? hx))
        obtain ⟨b, off, rfl, _, hcu⟩ := HU3.at_ (by omega)
        have cm := hcu i x hx 7 _ rfl
        obtain ⟨q, hq⟩ : ∃ q, Tb.mindex x.ms s = q := ⟨_, rfl⟩
        have HQ := Aid.hid hq
        clear hc hcu HU3 hz hx hq
        go_wp2_with fail
        refine (indexMeth_is x B (pb + 1) s q _ HQ.out HXD.out (Nat.le_trans hB2 hb.size) ((hb.cell (p := ⟨pb + 1, 0, none⟩) hl2).trans PN2.out) (Nat.lt_of_lt_of_le hl2 hb.size)).mono ?_; rintro e w9 ⟨rfl, hb9⟩
        replace hb := hb.trans (hb9.mono hb.size)
        clear hb9 cz cp cm
        by_cases hq0 : 0 ≤ q
        · have E : Hid ((i : Int) = RD ∧ q = RM ∧ true = RK) := Aid.hid (by
            have h := MK.out
            rw [DR.out, Tb.methodIn, EM.out, HQ.out, if_pos hq0] at h
            simpa using h)
          have hp9 := PW2.out.below hb hl3
          have cw0 := hp9.cell 0 _ rfl
          have cw1 := hp9.cell 1 _ rfl
          have cwf := hp9.frozen
          have hpl9 := hp9.lt
          have hm1 := (hp9.set 0 (.int .i64 i)).set 1 (.int .i64 q)
          have cv0 := hm1.cell 0 _ rfl
          have cv1 := hm1.cell 1 _ rfl
          obtain ⟨rfl, rfl, rfl⟩ := E.out
          go_wp2_with fail
          refine bodyPost_ret (v := .tuple #[.agg #[.int .i64 i, .int .i64 q], .bool true]) (by simp [results, Tryz.results68, go_sem, cv0, cv1]) rfl ⟨rfl, ?_⟩
          have FB : Below w.heap.size w ((w9.setCell ⟨pb + 1 + 1, 0, none⟩ (.int .i64 i)).setCell ⟨pb + 1 + 1, 1, none⟩ (.int .i64 q)) := ((BT.out.trans (hb.mono BT.out.size)).setCell (by simp; omega) _).setCell (by simp; omega) _
          first | exact FB | exact hpb ▸ FB
        · have NX : Hid (Tb.methodIn u s (zs.drop (k + 1)) = (RD, RM, RK)) := Aid.hid (by
            have h := MK.out
            rw [DR.out, Tb.methodIn, EM.out, HQ.out, if_neg hq0] at h
            exact h)
          have hq1 : decide (0 ≤ q) = false := by simpa using hq0
          go_wp2_with fail
          go_roundw
          case rel => exact ⟨k + 1, by go_num, by omega, NX, hb⟩
          case measure => simp [intOf]; omega
      · have E : Hid ((0 : Int) = RD ∧ (0 : Int) = RM ∧ false = RK) := Aid.hid (by
          have h := MK.out
          rw [List.drop_eq_nil_of_le (by omega), Tb.methodIn] at h
          simpa using h)
        have hp9 := PW2.out.below hb hl3
        have cw0 := hp9.cell 0 _ rfl
        have cw1 := hp9.cell 1 _ rfl
        have cwf := hp9.frozen
        have hpl9 := hp9.lt
        have hm1 := (hp9.set 0 (.int .i64 0)).set 1 (.int .i64 0)
        have cv0 := hm1.cell 0 _ rfl
        have cv1 := hm1.cell 1 _ rfl
        obtain ⟨rfl, rfl, rfl⟩ := E.out
        go_wp2_with fail
        refine bodyPost_ret (v := .tuple #[.agg #[.int .i64 0, .int .i64 0], .bool false]) (by simp [results, Tryz.results68, go_sem, cv0, cv1]) rfl ⟨rfl, ?_⟩
        have FB : Below w.heap.size w ((wr.setCell ⟨pb + 1 + 1, 0, none⟩ (.int .i64 0)).setCell ⟨pb + 1 + 1, 1, none⟩ (.int .i64 0)) := ((BT.out.trans (hb.mono BT.out.size)).setCell (by simp; omega) _).setCell (by simp; omega) _
        first | exact FB | exact hpb ▸ FB
end Go.Proofs.YtejifefgmlpclaaGreat
