/- The document's Alike, as a walk. -/
import Derived.Test.YtjhlcfaakhabfaaTabAlike2
namespace Go.Proofs.Ytjhlcfaakhabfaa
open Go.RowKit

set_option maxRecDepth 100000 in
set_option maxHeartbeats 8000000 in
theorem ralike_is (a b : Md) (r : Bool) (w : World) (hr : Tb.alike a b = r) (B B' : Nat) (ha : MdP w B a) (hb : MdP w B' b) (hB : B ≤ w.heap.size) (hB' : B' ≤ w.heap.size) :
    Calls Try.prog 16 #[.agg #[.string a.name, .bool a.over, .bool a.abs, .bool a.fin, .slice a.pA a.ps.length a.pc, .int .i64 a.res.k, .int .i64 a.res.lo, .int .i64 a.res.hi, .string a.res.name, .slice a.vA a.vs.length a.vc, .slice a.bA a.bn a.bc], .agg #[.string b.name, .bool b.over, .bool b.abs, .bool b.fin, .slice b.pA b.ps.length b.pc, .int .i64 b.res.k, .int .i64 b.res.lo, .int .i64 b.res.hi, .string b.res.name, .slice b.vA b.vs.length b.vc, .slice b.bA b.bn b.bc]] w fun e w' => e = .returned (.bool r) ∧ Below w.heap.size w w' := by
  have HR := Aid.hid hr
  have MA := Aid.hid ha; have MB := Aid.hid hb
  have la := ha.smallP; have lb := hb.smallP
  clear hr ha hb
  have H1 : Aid.Has ((w.alloc (.cells a.cells.toArray 42)).alloc (.cells b.cells.toArray 42)) w.heap.size a.cells 42 := (Aid.Has.new w _ _).alloc _
  have H2 : Aid.Has ((w.alloc (.cells a.cells.toArray 42)).alloc (.cells b.cells.toArray 42)) (w.heap.size + 1) b.cells 42 := by
    have e : (w.alloc (.cells a.cells.toArray 42)).heap.size = w.heap.size + 1 := by simp
    rw [← e]; exact Aid.Has.new _ _ _
  have hb0 : Below w.heap.size w ((w.alloc (.cells a.cells.toArray 42)).alloc (.cells b.cells.toArray 42)) := ((Below.refl _ _).alloc (Nat.le_refl _) _).alloc (by simp) _
  go_enter Try.func16, Try.ntmps16
  try simp only [List.append_eq, List.cons_append, List.nil_append]
  go_upto_region 1 with (fail)
  obtain ⟨W, hW⟩ : ∃ W, (w.alloc (.cells a.cells.toArray 42)).alloc (.cells b.cells.toArray 42) = W := ⟨_, rfl⟩
  change Code.wp _ _ _ _ ((w.alloc (.cells a.cells.toArray 42)).alloc (.cells b.cells.toArray 42))
  rw [hW] at H1 H2 hb0 ⊢
  clear hW
  have BW := Aid.hid hb0
  have hw1 := H1.lt
  have hw2 := H2.lt
  obtain ⟨p1, e1⟩ : ∃ p, w.heap.size = p := ⟨_, rfl⟩
  rw [e1] at H1 H2 hw1 hw2 ⊢
  have HA := Aid.hid H1
  have HB := Aid.hid H2
  have hBW := hb0.size
  clear H1 H2 hb0
  have hb : Below W.heap.size W W := Below.refl _ _
  have a4 := HA.out.cell 4 _ rfl
  have a5 := HA.out.cell 5 _ rfl
  have a6 := HA.out.cell 6 _ rfl
  have a7 := HA.out.cell 7 _ rfl
  have a8 := HA.out.cell 8 _ rfl
  have b4 := HB.out.cell 4 _ rfl
  have b5 := HB.out.cell 5 _ rfl
  have b6 := HB.out.cell 6 _ rfl
  have b7 := HB.out.cell 7 _ rfl
  have b8 := HB.out.cell 8 _ rfl
  obtain ⟨an, ao, aa, af, apA, aps, apc, ⟨ak, al, ah, at_⟩, avA, avs, avc, abA, abn, abc⟩ := a
  obtain ⟨bn, bo, ba, bf, bpA, bps, bpc, ⟨bk, bl, bh, bt⟩, bvA, bvs, bvc, bbA, bbn, bbc⟩ := b
  simp only at la lb a4 a5 a6 a7 a8 b4 b5 b6 b7 b8 HR ⊢
  by_cases hlen : aps.length = bps.length
  · have HL := Aid.hid hlen
    clear hlen
    by_cases hk : ak = bk
    rotate_left
    ·
      have hkb : (ak == bk) = false := by simpa using hk
      have E : Hid (false = r) := Aid.hid (by rw [← HR.out, Tb.alike]; simp [Ty.same, hk])
      go_wp2_with fail
      all_goals
        go_ret
        exact ⟨by rw [← E.out]; rfl, e1 ▸ BW.out.trans (hb.mono BW.out.size)⟩
    subst hk
    by_cases hl : al = bl
    rotate_left
    ·
      have hlb : (al == bl) = false := by simpa using hl
      have E : Hid (false = r) := Aid.hid (by rw [← HR.out, Tb.alike]; simp [Ty.same, hl])
      go_wp2_with fail
      all_goals
        go_ret
        exact ⟨by rw [← E.out]; rfl, e1 ▸ BW.out.trans (hb.mono BW.out.size)⟩
    subst hl
    by_cases hh : ah = bh
    rotate_left
    ·
      have hhb : (ah == bh) = false := by simpa using hh
      have E : Hid (false = r) := Aid.hid (by rw [← HR.out, Tb.alike]; simp [Ty.same, hh])
      go_wp2_with fail
      all_goals
        go_ret
        exact ⟨by rw [← E.out]; rfl, e1 ▸ BW.out.trans (hb.mono BW.out.size)⟩
    subst hh
    by_cases hn : (at_.toList == bt.toList) = true
    rotate_left
    ·
      replace hn : (at_.toList == bt.toList) = false := by simpa using hn
      have E : Hid (false = r) := Aid.hid (by rw [← HR.out, Tb.alike]; simp [Ty.same, hn])
      go_wp2_with fail
      all_goals
        go_ret
        exact ⟨by rw [← E.out]; rfl, e1 ▸ BW.out.trans (hb.mono BW.out.size)⟩
    have E0 : Hid (Tb.samePs aps bps = r) := Aid.hid (by rw [← HR.out, Tb.alike]; simp [Ty.same, hn])
    have nl : ((aps.length : Int) != (bps.length : Int)) = false := by simpa using (by have := HL.out; omega : (aps.length : Int) = bps.length)
    go_wp2_with fail
    clear a4 a5 a6 a7 a8 b4 b5 b6 b7 b8 nl
    go_loopw [5] (fun vi wr => ∃ k : Nat, vi = .int .i64 k ∧ k ≤ aps.length ∧ Hid (Tb.samePs (aps.drop k) (bps.drop k) = r) ∧ Below W.heap.size W wr) (fun vi _ => aps.length - (intOf vi).toNat)
    case atStart => exact ⟨0, rfl, Nat.zero_le _, Aid.hid (by simpa using E0.out), hb⟩
    case round =>
      clear hb
      obtain ⟨k, rfl, hk, SM, hb⟩ := hrel
      have a4 := (HA.out.below hb hw1).cell 4 _ rfl
      have b4 := (HB.out.below hb hw2).cell 4 _ rfl
      by_cases hlt : k < aps.length
      · have hlq : k < bps.length := by have := HL.out; omega
        obtain ⟨g1, o1, rfl, _, hc1⟩ := ((MA.out.below BW.out hB).params.below hb (by omega)).vd (by simpa using Nat.lt_of_le_of_lt (Nat.zero_le _) hlt)
        obtain ⟨g2, o2, rfl, _, hc2⟩ := ((MB.out.below BW.out hB').params.below hb (by omega)).vd (by simpa using Nat.lt_of_le_of_lt (Nat.zero_le _) hlq)
        obtain ⟨x, hx⟩ : ∃ x, aps[k]? = some x := ⟨_, List.getElem?_eq_getElem hlt⟩
        obtain ⟨y, hy⟩ : ∃ y, bps[k]? = some y := ⟨_, List.getElem?_eq_getElem hlq⟩
        have DP : Hid (aps.drop k = x :: aps.drop (k + 1)) := Aid.hid (by rw [List.drop_eq_getElem_cons hlt]; congr 1; exact (List.getElem?_eq_some_iff.1 hx).2)
        have DQ : Hid (bps.drop k = y :: bps.drop (k + 1)) := Aid.hid (by rw [List.drop_eq_getElem_cons hlq]; congr 1; exact (List.getElem?_eq_some_iff.1 hy).2)
        have c1 := hc1 k x hx 1 _ rfl
        have c2 := hc1 k x hx 2 _ rfl
        have c3 := hc1 k x hx 3 _ rfl
        have c4 := hc1 k x hx 4 _ rfl
        have d1 := hc2 k y hy 1 _ rfl
        have d2 := hc2 k y hy 2 _ rfl
        have d3 := hc2 k y hy 3 _ rfl
        have d4 := hc2 k y hy 4 _ rfl
        clear hc1 hc2 hx hy
        obtain ⟨xn, ⟨xk, xl, xh, xt⟩, xi, xd, xs⟩ := x
        obtain ⟨yn, ⟨yk, yl, yh, yt⟩, yi, yd, ys⟩ := y
        simp only at c1 c2 c3 c4 d1 d2 d3 d4
        by_cases hk : xk = yk
        rotate_left
        ·
          have hkb : (xk == yk) = false := by simpa using hk
          have E : Hid (false = r) := Aid.hid (by have q := SM.out; rw [DP.out, DQ.out, Tb.samePs] at q; simpa [Ty.same, hkb] using q)
          go_wp2_with fail
          go_quiet (fail)
          go_wp2_with fail
          go_ret
          exact ⟨by rw [← E.out]; rfl, e1 ▸ BW.out.trans ((below_drewN' hb nq).mono BW.out.size)⟩
        subst hk
        by_cases hl : xl = yl
        rotate_left
        ·
          have hlb : (xl == yl) = false := by simpa using hl
          have E : Hid (false = r) := Aid.hid (by have q := SM.out; rw [DP.out, DQ.out, Tb.samePs] at q; simpa [Ty.same, hlb] using q)
          go_wp2_with fail
          go_quiet (fail)
          go_wp2_with fail
          go_ret
          exact ⟨by rw [← E.out]; rfl, e1 ▸ BW.out.trans ((below_drewN' hb nq).mono BW.out.size)⟩
        subst hl
        by_cases hh : xh = yh
        rotate_left
        ·
          have hhb : (xh == yh) = false := by simpa using hh
          have E : Hid (false = r) := Aid.hid (by have q := SM.out; rw [DP.out, DQ.out, Tb.samePs] at q; simpa [Ty.same, hhb] using q)
          go_wp2_with fail
          go_quiet (fail)
          go_wp2_with fail
          go_ret
          exact ⟨by rw [← E.out]; rfl, e1 ▸ BW.out.trans ((below_drewN' hb nq).mono BW.out.size)⟩
        subst hh
        by_cases hn : (xt.toList == yt.toList) = true
        rotate_left
        ·
          replace hn : (xt.toList == yt.toList) = false := by simpa using hn
          have E : Hid (false = r) := Aid.hid (by have q := SM.out; rw [DP.out, DQ.out, Tb.samePs] at q; simpa [Ty.same, hn] using q)
          go_wp2_with fail
          go_quiet (fail)
          go_wp2_with fail
          go_ret
          exact ⟨by rw [← E.out]; rfl, e1 ▸ BW.out.trans ((below_drewN' hb nq).mono BW.out.size)⟩
        have NX : Hid (Tb.samePs (aps.drop (k + 1)) (bps.drop (k + 1)) = r) := Aid.hid (by have q := SM.out; rw [DP.out, DQ.out, Tb.samePs] at q; simpa [Ty.same, hn] using q)
        go_wp2_with fail
        go_quiet (fail)
        go_wp2_with fail
        go_roundw
        case rel => exact ⟨k + 1, by go_num, by omega, NX, below_drewN' hb nq⟩
        case measure => simp [intOf]; omega
      · have E : Hid (true = r) := Aid.hid (by
          have h := SM.out
          rw [List.drop_eq_nil_of_le (by omega), List.drop_eq_nil_of_le (by have := HL.out; omega)] at h
          simpa [Tb.samePs] using h)
        go_wp2_with fail
        go_ret
        exact ⟨by rw [← E.out]; rfl, e1 ▸ BW.out.trans (hb.mono BW.out.size)⟩
  · have nl : ((aps.length : Int) != (bps.length : Int)) = true := by simpa using (by omega : ¬ (aps.length : Int) = bps.length)
    have E : Hid (false = r) := Aid.hid (by rw [← HR.out, Tb.alike]; simp [Tb.samePs_len _ _ hlen])
    go_wp2_with fail
    all_goals
      go_ret
      exact ⟨by rw [← E.out]; rfl, e1 ▸ BW.out.trans (hb.mono BW.out.size)⟩
end Go.Proofs.Ytjhlcfaakhabfaa
