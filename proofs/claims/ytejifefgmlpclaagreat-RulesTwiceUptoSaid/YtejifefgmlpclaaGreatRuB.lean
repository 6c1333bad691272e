/- What may be of a type, at first: as walks. -/
import Derived.Test.YtejifefgmlpclaaGreatRuA
import Derived.Test.YtejifefgmlpclaaGreatTabA
import Derived.Test.YtejifefgmlpclaaGreatTabC
import Derived.WalkKit
import Derived.WalkSpells
import Derived.WalkLawsBesides
import Derived.LoopTactic
import Derived.Deep.QuietTactic
import Derived.BigQuiet
import Derived.Below
import Derived.Laws.ResultCell
import Derived.Laws.Tables
import Derived.Laws.Rows
import Derived.Deep.Cut
import Derived.KernelRfl
set_option linter.unusedSimpArgs false
set_option linter.unusedVariables false
namespace Go.Proofs.YtejifefgmlpclaaGreat
open Go.RowKit

set_option maxRecDepth 100000 in
set_option maxHeartbeats 4000000 in
theorem rkind_is (u : List Dk) (a : Option Addr) (B cap : Nat) (s : ByteArray) (k : Int) (w : World) (hr : Ru.kind u s = k) (hu : UnitAt w B a u) (hB : B ≤ w.heap.size) :
    Calls Tryz.prog 45 #[.agg #[.slice a u.length cap], .string s] w fun z w' => z = .returned (.int .i64 k) ∧ Below w.heap.size w w' := by
  have HU := Aid.hid hu
  obtain ⟨q, hq⟩ : ∃ q, Tb.find u s = q := ⟨_, rfl⟩
  have hr2 : Tb.kind u q = k := by rw [← hq]; exact hr
  have hrg := Tb.find_range u s
  rw [hq] at hrg
  have sm := hu.small
  obtain ⟨W, hW, qu, k0⟩ := newn1 w [.slice a u.length cap] 24
  have K0 := Aid.hid k0
  have Nu := Aid.hid qu
  have HQ := Aid.hid hq
  have HR := Aid.hid hr2
  clear qu k0 hu hr hq hr2
  have xu0 := Nu.out.cell 0 _ rfl
  have lu := Nu.out.lt
  go_enter Tryz.func45, Tryz.ntmps45
  try simp only [List.append_eq, List.cons_append, List.nil_append]
  go_wp2_with fail
  (try clear hW)
  refine (find_is u a B cap s q _ HQ.out (HU.out.below (K0.out) hB) (Nat.le_trans hB (K0.out).size)).mono ?_; rintro _ w1 ⟨rfl, hb1⟩
  have Kx1 := Aid.hid ((K0.out).trans (hb1.mono (K0.out).size))
  have Nu_1 := Aid.hid (Nu.out.below hb1 Nu.out.lt)
  clear xu0 lu
  clear hb1
  have xu0 := Nu_1.out.cell 0 _ rfl
  have lu := Nu_1.out.lt
  by_cases h0 : q < 0
  · have e0 : decide (q < 0) = true := decide_eq_true h0
    go_wp2_with fail
    go_ret
    exact ⟨by rw [← HR.out, Tb.kind, if_neg (by omega)]; rfl, Kx1.out⟩
  · obtain ⟨j, rfl⟩ : ∃ j : Nat, q = j := ⟨q.toNat, by omega⟩
    obtain ⟨e, he⟩ : ∃ e, u[j]? = some e := ⟨_, List.getElem?_eq_getElem (by omega)⟩
    have HE := Aid.hid he
    have hj : j < u.length := by omega
    have E : Hid (e.kind = k) := Aid.hid (by rw [← HR.out, Tb.kind, if_pos (by omega)]; simp [he])
    clear he
    obtain ⟨ub, uo, rfl, hlt_ub, hc_ub⟩ := (HU.out.below (Kx1.out) hB).at_ (by omega)
    have lub : ub < w1.heap.size := Nat.lt_of_lt_of_le hlt_ub (Nat.le_trans hB (Kx1.out).size)
    have ce := hc_ub j e HE.out 0 _ rfl
    simp only [Nat.add_zero] at ce
    clear hc_ub
    clear h0 hrg
    go_wp2_with fail
    go_ret
    exact ⟨by rw [← E.out]; rfl, Kx1.out⟩
set_option maxRecDepth 100000 in
set_option maxHeartbeats 4000000 in
theorem may_is (u : List Dk) (a : Option Addr) (B cap : Nat) (t : Ty) (wh : Int) (r : Bool) (w : World) (hr : Ru.may u t wh = r) (hu : UnitAt w B a u) (hB : B ≤ w.heap.size) :
    Calls Tryz.prog 25 #[.agg #[.slice a u.length cap], .agg #[.int .i64 t.k, .int .i64 t.lo, .int .i64 t.hi, .string t.name], .int .i64 wh] w fun z w' => z = .returned (.bool r) ∧ Below w.heap.size w w' := by
  have HU := Aid.hid hu
  have sm := hu.small
  obtain ⟨W, hW, qu, qt, k0⟩ := newn2 w [.slice a u.length cap] [.int .i64 t.k, .int .i64 t.lo, .int .i64 t.hi, .string t.name] 24 44
  have K0 := Aid.hid k0
  have Nu := Aid.hid qu
  have Nt := Aid.hid qt
  have HR := Aid.hid hr
  clear qu qt k0 hu hr
  have xu0 := Nu.out.cell 0 _ rfl
  have lu := Nu.out.lt
  have xt0 := Nt.out.cell 0 _ rfl
  have xt1 := Nt.out.cell 1 _ rfl
  have xt2 := Nt.out.cell 2 _ rfl
  have xt3 := Nt.out.cell 3 _ rfl
  have lt := Nt.out.lt
  go_enter Tryz.func25, Tryz.ntmps25
  try simp only [List.append_eq, List.cons_append, List.nil_append]
  obtain ⟨tk, tl, th, tn⟩ := t
  dsimp only at *
  have hk : tk = 1 ∨ tk = 2 ∨ tk = 5 ∨ tk = 3 ∨ tk = 4 ∨ tk = 6 ∨ tk = 7 ∨ ((tk == 1) = false ∧ (tk == 2) = false ∧ (tk == 5) = false ∧ (tk == 3) = false ∧ (tk == 4) = false ∧ (tk == 6) = false ∧ (tk == 7) = false) := by simp only [beq_eq_false_iff_ne]; omega
  rcases hk with rfl | rfl | rfl | rfl | rfl | rfl | rfl | ⟨e1, e2, e5, e3, e4, e6, e7⟩
  · obtain rfl : true = r := by rw [← HR.out]; simp [Ru.may]
    go_wp2_with fail
    go_ret
    exact ⟨rfl, K0.out⟩
  · obtain rfl : true = r := by rw [← HR.out]; simp [Ru.may]
    go_wp2_with fail
    go_ret
    exact ⟨rfl, K0.out⟩
  · obtain ⟨k, hk⟩ : ∃ k, Ru.kind u tn = k := ⟨_, rfl⟩
    have E : Hid ((k == 2 || k == 1) = r) := Aid.hid (by rw [← HR.out, ← hk]; simp [Ru.may])
    have HK := Aid.hid hk
    clear hk
    go_wp2_with fail
    refine (rkind_is u a B cap tn k _ HK.out (HU.out.below (K0.out) hB) (Nat.le_trans hB (K0.out).size)).mono ?_; rintro _ w1 ⟨rfl, hb1⟩
    have Kx1 := Aid.hid ((K0.out).trans (hb1.mono (K0.out).size))
    have Nu_1 := Aid.hid (Nu.out.below hb1 Nu.out.lt)
    have Nt_1 := Aid.hid (Nt.out.below hb1 Nt.out.lt)
    clear xu0 lu xt0 xt1 xt2 xt3 lt
    clear hb1
    by_cases h2 : k = 2
    · subst h2
      go_wp2_with fail
      go_ret
      exact ⟨by rw [← E.out]; rfl, Kx1.out⟩
    · have e2 : (k == 2) = false := by simpa using h2
      by_cases h1 : k = 1
      · subst h1
        go_wp2_with fail
        go_ret
        exact ⟨by rw [← E.out]; rfl, Kx1.out⟩
      · have e1 : (k == 1) = false := by simpa using h1
        go_wp2_with fail
        go_ret
        exact ⟨by rw [← E.out, e1, e2]; rfl, Kx1.out⟩
  · have E : Hid ((decide (wh ≥ 1) && (decide (tl ≥ -32768) && (decide (th ≤ 32767) && decide (tl ≤ th)))) = r) := Aid.hid (by rw [← HR.out]; simp [Ru.may])
    go_wp2_with fail
    all_goals
      go_ret
      exact ⟨Aid.ret_bool (by rw [← E.out]; first | (simp [*]; done) | (simp [*]; intros; omega)), K0.out⟩
  · have E : Hid ((decide (wh ≥ 1) && (decide (th ≥ 0) && decide (th < 8))) = r) := Aid.hid (by rw [← HR.out]; simp [Ru.may])
    go_wp2_with fail
    all_goals
      go_ret
      exact ⟨Aid.ret_bool (by rw [← E.out]; first | (simp [*]; done) | (simp [*]; intros; omega)), K0.out⟩
  · by_cases hw2 : wh = 2
    · subst hw2
      obtain ⟨k, hk⟩ : ∃ k, Ru.kind u tn = k := ⟨_, rfl⟩
      have E : Hid ((k == 2 && !Ru.absAt u (Tb.find u tn)) = r) := Aid.hid (by rw [← HR.out, ← hk]; simp [Ru.may])
      have HK := Aid.hid hk
      by_cases h2 : k = 2
      · subst h2
        obtain ⟨q, hq⟩ : ∃ q, Tb.find u tn = q := ⟨_, rfl⟩
        have hk2 : Tb.kind u q = 2 := by rw [← hq]; exact hk
        obtain ⟨j, e, rfl, he, _, hj⟩ := Tb.kind_in hk2 (by decide)
        have HQ := Aid.hid hq; have HE := Aid.hid he
        have E2 : Hid ((!e.abs) = r) := Aid.hid (by rw [← E.out, hq, Ru.absAt]; simp [he])
        clear hk hk2 hq he
        obtain ⟨ub, uo, rfl, hlt_ub, hc_ub⟩ := (HU.out.below (K0.out) hB).at_ (by omega)
        have lub : ub < W.heap.size := Nat.lt_of_lt_of_le hlt_ub (Nat.le_trans hB (K0.out).size)
        have ce := hc_ub j e HE.out 4 _ rfl
        clear hc_ub
        obtain ⟨ea, hea⟩ : ∃ x, e.abs = x := ⟨_, rfl⟩
        rw [hea] at ce E2
        clear hea
        go_wp2_with fail
        have HZ := Aid.hid (fun (w' : World) (hSw : Below W.heap.size W w') => (⟨(hSw.cell (p := ⟨w.heap.size, 0, none⟩) lu).trans xu0, (hSw.cell (p := ⟨w.heap.size + 1, 0, none⟩) lt).trans xt0, (hSw.cell (p := ⟨w.heap.size + 1, 1, none⟩) lt).trans xt1, (hSw.cell (p := ⟨w.heap.size + 1, 2, none⟩) lt).trans xt2, (hSw.cell (p := ⟨w.heap.size + 1, 3, none⟩) lt).trans xt3, (hSw.cell (p := ⟨ub, uo + j * 11 + 4, none⟩) lub).trans ce⟩ : _ ∧ _ ∧ _ ∧ _ ∧ _ ∧ _))
        have hb : Below W.heap.size W W.drew := (Below.refl _ _).drew
        refine Ord.wp_region_walk (fun w' => Below W.heap.size W w') 21 [(true, 0), (true, 1), (true, 2), (true, 3), (true, 4), (true, 5), (false, 6), (true, 7), (true, 8), (true, 9), (true, 10), (true, 11), (true, 12), (true, 13), (true, 14), (false, 15), (true, 16), (true, 17), (true, 18), (true, 19), (true, 20)] (by kernel_rfl) (by kernel_rfl) (fun _ _ d _ _ h => by cases d <;> exact h) (hb) ?_
        clear hb
        have hb : Below W.heap.size W W.drew := (Below.refl _ _).drew
        generalize W.drew = wd0 at *
        iterate 6
          apply Ord.walk_light
          next => (simp only [la0, la1, la2]; rfl)
          next => rfl
          next => (intro w' hSw; obtain ⟨z0, z1, z2, z3, z4, z5⟩ := HZ.out w' hSw; clear hSw; go_simp; first | done | with_reducible rfl)
          simp only [Act.put, la3, la4, la5]
        apply Ord.walk_heavy
        next => (simp only [la0, la1, la2]; rfl)
        next => rfl
        intro K hK
        go_wp2_with fail
        refine (rkind_is u _ B cap tn 2 _ HK.out (HU.out.below (((K0.out).trans (hb.mono (K0.out).size))) hB) (Nat.le_trans hB (((K0.out).trans (hb.mono (K0.out).size))).size)).mono ?_; rintro _ v0_1 ⟨rfl, hb'⟩; dsimp only
        refine hK.out _ _ (hb.trans (hb'.mono hb.size)) (fun hHeld => ?_)
        clear hb hb'
        have hb := hHeld
        clear hK K
        try simp only [Act.put, la3, la4, la5]
        iterate 8
          apply Ord.walk_light
          next => (simp only [la0, la1, la2]; rfl)
          next => rfl
          next => (intro w' hSw; obtain ⟨z0, z1, z2, z3, z4, z5⟩ := HZ.out w' hSw; clear hSw; go_simp; first | done | with_reducible rfl)
          simp only [Act.put, la3, la4, la5]
        apply Ord.walk_heavy
        next => (simp only [la0, la1, la2]; rfl)
        next => rfl
        intro K hK
        go_wp2_with fail
        refine (find_is u _ B cap tn j _ HQ.out (HU.out.below (((K0.out).trans (hb.mono (K0.out).size))) hB) (Nat.le_trans hB (((K0.out).trans (hb.mono (K0.out).size))).size)).mono ?_; rintro _ v0_2 ⟨rfl, hb'⟩; dsimp only
        refine hK.out _ _ (hb.trans (hb'.mono hb.size)) (fun hHeld => ?_)
        clear hb hb'
        have hb := hHeld
        clear hK K
        try simp only [Act.put, la3, la4, la5]
        iterate 5
          apply Ord.walk_light
          next => (simp only [la0, la1, la2]; rfl)
          next => rfl
          next => (intro w' hSw; obtain ⟨z0, z1, z2, z3, z4, z5⟩ := HZ.out w' hSw; clear hSw; go_simp; first | done | with_reducible rfl)
          simp only [Act.put, la3, la4, la5]
        refine Ord.walk_tail ?_; simp only [List.drop_succ_cons, List.drop_zero]
        have hbx := hb
        clear hb HZ
        have Kx1 := Aid.hid ((K0.out).trans (hbx.mono (K0.out).size))
        have Nu_1 := Aid.hid (Nu.out.below hbx Nu.out.lt)
        have Nt_1 := Aid.hid (Nt.out.below hbx Nt.out.lt)
        clear xu0 lu xt0 xt1 xt2 xt3 lt ce lub
        clear hbx
        go_wp2_with fail
        go_ret
        exact ⟨by rw [← E2.out]; rfl, Kx1.out⟩
      · have e2 : (k == 2) = false := by simpa using h2
        obtain rfl : false = r := by rw [← E.out, e2]; rfl
        clear hk
        go_wp2_with fail
        have HZ := Aid.hid (fun (w' : World) (hSw : Below W.heap.size W w') => (⟨(hSw.cell (p := ⟨w.heap.size, 0, none⟩) lu).trans xu0, (hSw.cell (p := ⟨w.heap.size + 1, 0, none⟩) lt).trans xt0, (hSw.cell (p := ⟨w.heap.size + 1, 1, none⟩) lt).trans xt1, (hSw.cell (p := ⟨w.heap.size + 1, 2, none⟩) lt).trans xt2, (hSw.cell (p := ⟨w.heap.size + 1, 3, none⟩) lt).trans xt3⟩ : _ ∧ _ ∧ _ ∧ _ ∧ _))
        have hb : Below W.heap.size W W.drew := (Below.refl _ _).drew
        refine Ord.wp_region_walk (fun w' => Below W.heap.size W w') 21 [(true, 0), (true, 1), (true, 2), (true, 3), (true, 4), (true, 5), (false, 6), (true, 7), (true, 8), (true, 9), (true, 10), (true, 11), (true, 12), (true, 13), (true, 14), (false, 15), (true, 16), (true, 17), (true, 18), (true, 19), (true, 20)] (by kernel_rfl) (by kernel_rfl) (fun _ _ d _ _ h => by cases d <;> exact h) (hb) ?_
        clear hb
        have hb : Below W.heap.size W W.drew := (Below.refl _ _).drew
        generalize W.drew = wd0 at *
        iterate 6
          apply Ord.walk_light
          next => (simp only [la0, la1, la2]; rfl)
          next => rfl
          next => (intro w' hSw; obtain ⟨z0, z1, z2, z3, z4⟩ := HZ.out w' hSw; clear hSw; go_simp; first | done | with_reducible rfl)
          simp only [Act.put, la3, la4, la5]
        apply Ord.walk_heavy
        next => (simp only [la0, la1, la2]; rfl)
        next => rfl
        intro K hK
        go_wp2_with fail
        refine (rkind_is u _ B cap tn k _ HK.out (HU.out.below (((K0.out).trans (hb.mono (K0.out).size))) hB) (Nat.le_trans hB (((K0.out).trans (hb.mono (K0.out).size))).size)).mono ?_; rintro _ v0_1 ⟨rfl, hb'⟩; dsimp only
        refine hK.out _ _ (hb.trans (hb'.mono hb.size)) (fun hHeld => ?_)
        clear hb hb'
        have hb := hHeld
        clear hK K
        try simp only [Act.put, la3, la4, la5]
        iterate 3
          apply Ord.walk_light
          next => (simp only [la0, la1, la2]; rfl)
          next => rfl
          next => (intro w' hSw; obtain ⟨z0, z1, z2, z3, z4⟩ := HZ.out w' hSw; clear hSw; go_simp; first | done | with_reducible rfl)
          simp only [Act.put, la3, la4, la5]
        iterate 5
          apply Ord.walk_idle
          next => (simp only [la0, la1, la2]; rfl)
          next => rfl
          simp only [Act.put, la3, la4, la5]
        apply Ord.walk_rest
        next => (simp only [la0, la1, la2]; rfl)
        next => rfl
        next => first | exact hHeld | exact hb
        iterate 4
          apply Ord.walk_idle
          next => (simp only [la0, la1, la2]; rfl)
          next => rfl
          simp only [Act.put, la3, la4, la5]
        apply Ord.walk_light
        next => (simp only [la0, la1, la2]; rfl)
        next => rfl
        next => (intro w' hSw; obtain ⟨z0, z1, z2, z3, z4⟩ := HZ.out w' hSw; clear hSw; go_simp; first | done | with_reducible rfl)
        simp only [Act.put, la3, la4, la5]
        refine Ord.walk_tail ?_; simp only [List.drop_succ_cons, List.drop_zero]
        have hbx := hb
        clear hb HZ
        have Kx1 := Aid.hid ((K0.out).trans (hbx.mono (K0.out).size))
        have Nu_1 := Aid.hid (Nu.out.below hbx Nu.out.lt)
        have Nt_1 := Aid.hid (Nt.out.below hbx Nt.out.lt)
        clear xu0 lu xt0 xt1 xt2 xt3 lt
        clear hbx
        go_wp2_with fail
        go_ret
        exact ⟨rfl, Kx1.out⟩
    · have e2 : (wh == 2) = false := by simpa using hw2
      obtain rfl : false = r := by rw [← HR.out]; simp [Ru.may, hw2]
      go_wp2_with fail
      have HZ := Aid.hid (fun (w' : World) (hSw : Below W.heap.size W w') => (⟨(hSw.cell (p := ⟨w.heap.size, 0, none⟩) lu).trans xu0, (hSw.cell (p := ⟨w.heap.size + 1, 0, none⟩) lt).trans xt0, (hSw.cell (p := ⟨w.heap.size + 1, 1, none⟩) lt).trans xt1, (hSw.cell (p := ⟨w.heap.size + 1, 2, none⟩) lt).trans xt2, (hSw.cell (p := ⟨w.heap.size + 1, 3, none⟩) lt).trans xt3⟩ : _ ∧ _ ∧ _ ∧ _ ∧ _))
      have hb : Below W.heap.size W W.drew := (Below.refl _ _).drew
      refine Ord.wp_region_walk (fun w' => Below W.heap.size W w') 21 [(true, 0), (true, 1), (true, 2), (true, 3), (true, 4), (true, 5), (false, 6), (true, 7), (true, 8), (true, 9), (true, 10), (true, 11), (true, 12), (true, 13), (true, 14), (false, 15), (true, 16), (true, 17), (true, 18), (true, 19), (true, 20)] (by kernel_rfl) (by kernel_rfl) (fun _ _ d _ _ h => by cases d <;> exact h) (hb) ?_
      clear hb
      have hb : Below W.heap.size W W.drew := (Below.refl _ _).drew
      generalize W.drew = wd0 at *
      iterate 3
        apply Ord.walk_light
        next => (simp only [la0, la1, la2]; rfl)
        next => rfl
        next => (intro w' hSw; obtain ⟨z0, z1, z2, z3, z4⟩ := HZ.out w' hSw; clear hSw; go_simp; first | done | with_reducible rfl)
        simp only [Act.put, la3, la4, la5]
      iterate 3
        apply Ord.walk_idle
        next => (simp only [la0, la1, la2]; rfl)
        next => rfl
        simp only [Act.put, la3, la4, la5]
      apply Ord.walk_rest
      next => (simp only [la0, la1, la2]; rfl)
      next => rfl
      next => first | exact hHeld | exact hb
      apply Ord.walk_idle
      next => (simp only [la0, la1, la2]; rfl)
      next => rfl
      simp only [Act.put, la3, la4, la5]
      iterate 2
        apply Ord.walk_light
        next => (simp only [la0, la1, la2]; rfl)
        next => rfl
        next => (intro w' hSw; obtain ⟨z0, z1, z2, z3, z4⟩ := HZ.out w' hSw; clear hSw; go_simp; first | done | with_reducible rfl)
        simp only [Act.put, la3, la4, la5]
      iterate 5
        apply Ord.walk_idle
        next => (simp only [la0, la1, la2]; rfl)
        next => rfl
        simp only [Act.put, la3, la4, la5]
      apply Ord.walk_rest
      next => (simp only [la0, la1, la2]; rfl)
      next => rfl
      next => first | exact hHeld | exact hb
      iterate 4
        apply Ord.walk_idle
        next => (simp only [la0, la1, la2]; rfl)
        next => rfl
        simp only [Act.put, la3, la4, la5]
      apply Ord.walk_light
      next => (simp only [la0, la1, la2]; rfl)
      next => rfl
      next => (intro w' hSw; obtain ⟨z0, z1, z2, z3, z4⟩ := HZ.out w' hSw; clear hSw; go_simp; first | done | with_reducible rfl)
      simp only [Act.put, la3, la4, la5]
      refine Ord.walk_tail ?_; simp only [List.drop_succ_cons, List.drop_zero]
      have hbx := hb
      clear hb HZ
      have Kx1 := Aid.hid ((K0.out).trans (hbx.mono (K0.out).size))
      have Nu_1 := Aid.hid (Nu.out.below hbx Nu.out.lt)
      have Nt_1 := Aid.hid (Nt.out.below hbx Nt.out.lt)
      clear xu0 lu xt0 xt1 xt2 xt3 lt
      clear hbx
      go_wp2_with fail
      go_ret
      exact ⟨rfl, Kx1.out⟩
  · have E : Hid ((wh == 2 && (decide (tl ≥ 1) && decide (tl ≤ 7))) = r) := Aid.hid (by rw [← HR.out]; simp [Ru.may])
    go_wp2_with fail
    all_goals
      go_ret
      exact ⟨Aid.ret_bool (by rw [← E.out]; first | (simp [*]; done) | (simp [*]; intros; omega)), K0.out⟩
  · obtain rfl : false = r := by rw [← HR.out]; simp only [beq_eq_false_iff_ne] at *; simp [Ru.may, *]
    go_wp2_with fail
    go_ret
    exact ⟨rfl, K0.out⟩
set_option maxRecDepth 100000 in
set_option maxHeartbeats 4000000 in
theorem result_is (t : Ty) (r : Bool) (w : World) (hr : Ru.result t = r) :
    Calls Tryz.prog 27 #[.agg #[.int .i64 t.k, .int .i64 t.lo, .int .i64 t.hi, .string t.name]] w fun z w' => z = .returned (.bool r) ∧ Below w.heap.size w w' := by
  obtain ⟨W, hW, qt, k0⟩ := newn1 w [.int .i64 t.k, .int .i64 t.lo, .int .i64 t.hi, .string t.name] 44
  have K0 := Aid.hid k0
  have Nt := Aid.hid qt
  have HR := Aid.hid hr
  clear qt k0 hr
  have xt0 := Nt.out.cell 0 _ rfl
  have xt1 := Nt.out.cell 1 _ rfl
  have xt2 := Nt.out.cell 2 _ rfl
  have xt3 := Nt.out.cell 3 _ rfl
  have lt := Nt.out.lt
  go_enter Tryz.func27, Tryz.ntmps27
  try simp only [List.append_eq, List.cons_append, List.nil_append]
  go_wp2_with fail
  all_goals
    go_ret
    exact ⟨Aid.ret_bool (by rw [← HR.out]; simp [Ru.result, Bool.or_assoc, *]), K0.out⟩
set_option maxRecDepth 100000 in
set_option maxHeartbeats 4000000 in
theorem rfirst_is (v : Vd) (r : Bool) (w : World) (hr : Ru.first v = r) :
    Calls Tryz.prog 61 #[.agg #[.string v.name, .int .i64 v.ty.k, .int .i64 v.ty.lo, .int .i64 v.ty.hi, .string v.ty.name, .int .i64 v.init, .int .i64 v.dir, .int .i64 v.slot]] w fun z w' => z = .returned (.bool r) ∧ Below w.heap.size w w' := by
  obtain ⟨vn, ⟨vk, vl, vh, vtn⟩, vi, vd, vs⟩ := v
  dsimp only at *
  obtain ⟨W, hW, qv, k0⟩ := newn1 w [.string vn, .int .i64 vk, .int .i64 vl, .int .i64 vh, .string vtn, .int .i64 vi, .int .i64 vd, .int .i64 vs] 55
  have K0 := Aid.hid k0
  have Nv := Aid.hid qv
  have HR := Aid.hid hr
  clear qv k0 hr
  have xv0 := Nv.out.cell 0 _ rfl
  have xv1 := Nv.out.cell 1 _ rfl
  have xv2 := Nv.out.cell 2 _ rfl
  have xv3 := Nv.out.cell 3 _ rfl
  have xv4 := Nv.out.cell 4 _ rfl
  have xv5 := Nv.out.cell 5 _ rfl
  have xv6 := Nv.out.cell 6 _ rfl
  have xv7 := Nv.out.cell 7 _ rfl
  have lv := Nv.out.lt
  go_enter Tryz.func61, Tryz.ntmps61
  try simp only [List.append_eq, List.cons_append, List.nil_append]
  have hk : vk = 1 ∨ vk = 2 ∨ vk = 3 ∨ ((vk == 1) = false ∧ (vk == 2) = false ∧ (vk == 3) = false) := by simp only [beq_eq_false_iff_ne]; omega
  rcases hk with rfl | rfl | rfl | ⟨e1, e2, e3⟩
  · have E : Hid ((decide (-32768 ≤ vi) && decide (vi ≤ 32767)) = r) := Aid.hid (by rw [← HR.out]; simp [Ru.first])
    go_wp2_with fail
    all_goals
      go_ret
      exact ⟨Aid.ret_bool (by rw [← E.out]; first | (simp [*]; done) | (simp [*]; intros; omega)), K0.out⟩
  · have E : Hid ((decide (0 ≤ vi) && decide (vi ≤ 1)) = r) := Aid.hid (by rw [← HR.out]; simp [Ru.first])
    go_wp2_with fail
    all_goals
      go_ret
      exact ⟨Aid.ret_bool (by rw [← E.out]; first | (simp [*]; done) | (simp [*]; intros; omega)), K0.out⟩
  · have E : Hid ((decide (vl ≤ vi) && decide (vi ≤ vh)) = r) := Aid.hid (by rw [← HR.out]; simp [Ru.first])
    go_wp2_with fail
    go_quiet (fail)
    go_wp2_with fail
    all_goals
      go_ret
      exact ⟨Aid.ret_bool (by rw [← E.out]; first | (simp [*]; done) | (simp [*]; intros; omega)), below_drewN' K0.out nq⟩
  · have E : Hid ((decide (0 ≤ vi) && decide (vi ≤ 0)) = r) := Aid.hid (by rw [← HR.out]; simp only [beq_eq_false_iff_ne] at *; simp [Ru.first, *])
    go_wp2_with fail
    all_goals
      go_ret
      exact ⟨Aid.ret_bool (by rw [← E.out]; first | (simp [*]; done) | (simp [*]; intros; omega)), K0.out⟩
set_option maxRecDepth 100000 in
set_option maxHeartbeats 4000000 in
theorem never_is (v : Vd) (r : Bool) (w : World) (hr : (!Ru.first v) = r) :
    Calls Tryz.prog 40 #[.agg #[.string v.name, .int .i64 v.ty.k, .int .i64 v.ty.lo, .int .i64 v.ty.hi, .string v.ty.name, .int .i64 v.init, .int .i64 v.dir, .int .i64 v.slot]] w fun z w' => z = .returned (.bool r) ∧ Below w.heap.size w w' := by
  obtain ⟨q, hq⟩ : ∃ q, Ru.first v = q := ⟨_, rfl⟩
  rw [hq] at hr
  obtain ⟨W, hW, qv, k0⟩ := newn1 w [.string v.name, .int .i64 v.ty.k, .int .i64 v.ty.lo, .int .i64 v.ty.hi, .string v.ty.name, .int .i64 v.init, .int .i64 v.dir, .int .i64 v.slot] 55
  have K0 := Aid.hid k0
  have Nv := Aid.hid qv
  have HQ := Aid.hid hq
  have HR := Aid.hid hr
  clear qv k0 hq hr
  have xv0 := Nv.out.cell 0 _ rfl
  have xv1 := Nv.out.cell 1 _ rfl
  have xv2 := Nv.out.cell 2 _ rfl
  have xv3 := Nv.out.cell 3 _ rfl
  have xv4 := Nv.out.cell 4 _ rfl
  have xv5 := Nv.out.cell 5 _ rfl
  have xv6 := Nv.out.cell 6 _ rfl
  have xv7 := Nv.out.cell 7 _ rfl
  have lv := Nv.out.lt
  go_enter Tryz.func40, Tryz.ntmps40
  try simp only [List.append_eq, List.cons_append, List.nil_append]
  go_wp2_with fail
  (try clear hW)
  refine (rfirst_is v q _ HQ.out).mono ?_; rintro _ w1 ⟨rfl, hb1⟩
  have Kx1 := Aid.hid ((K0.out).trans (hb1.mono (K0.out).size))
  have Nv_1 := Aid.hid (Nv.out.below hb1 Nv.out.lt)
  clear xv0 xv1 xv2 xv3 xv4 xv5 xv6 xv7 lv
  clear hb1
  go_wp2_with fail
  go_ret
  exact ⟨by rw [← HR.out]; rfl, Kx1.out⟩
end Go.Proofs.YtejifefgmlpclaaGreat
/- Names that stand there twice; what is too great: as walks. -/
namespace Go.Proofs.YtejifefgmlpclaaGreat
open Go.RowKit

theorem Rows.take {α : Type} {w : World} {B sz : Nat} {A : Option Addr} {f : α → List Value} {l : List α} (h : Rows w B sz A (l.map f)) (k : Nat) : Rows w B sz A ((l.take k).map f) := fun hn => by
  obtain ⟨b, off, h1, h2, h3⟩ := h (by simp at hn ⊢; omega)
  refine ⟨b, off, h1, h2, fun i r hr j v hv => h3 i r ?_ j v hv⟩
  rw [List.map_take] at hr
  have := List.getElem?_eq_some_iff.1 hr
  obtain ⟨hi, rfl⟩ := this
  have hi2 : i < (l.map f).length := by simp at hi ⊢; omega
  rw [List.getElem?_eq_getElem hi2]; simp
theorem Ru.twice_step {α : Type} (f : α → ByteArray) {l : List α} {k : Nat} {v : α} (hv : l[k]? = some v) :
    Ru.twice ((l.take k).map f) ((l.drop k).map f) = ((l.take k).any (fun x => (f x).toList == (f v).toList) || Ru.twice ((l.take (k + 1)).map f) ((l.drop (k + 1)).map f)) := by
  obtain ⟨hk, rfl⟩ := List.getElem?_eq_some_iff.1 hv
  rw [List.drop_eq_getElem_cons hk, List.map_cons, Ru.twice, List.any_map, List.take_succ_eq_append_getElem hk, List.map_append]
  rfl
theorem Ru.twice_end {α : Type} (f : α → ByteArray) {l : List α} {k : Nat} (hk : l.length ≤ k) : Ru.twice ((l.take k).map f) ((l.drop k).map f) = false := by
  rw [List.drop_eq_nil_of_le hk]; rfl
set_option maxRecDepth 100000 in
set_option maxHeartbeats 4000000 in
theorem twins1_is (v x : Vd) (p : Nat) (r : Bool) (w : World) (hr : (v.name.toList == x.name.toList) = r) (hp : w.cell? ⟨p, 0, none⟩ = some (.string x.name)) (hlt : p < w.heap.size) :
    Calls Tryz.prog 48 #[.agg #[.string v.name, .int .i64 v.ty.k, .int .i64 v.ty.lo, .int .i64 v.ty.hi, .string v.ty.name, .int .i64 v.init, .int .i64 v.dir, .int .i64 v.slot], .pointer (some ⟨p, 0, none⟩)] w fun z w' => z = .returned (.bool r) ∧ Below w.heap.size w w' := by
  obtain ⟨W, hW, qv, k0⟩ := newn1 w [.string v.name, .int .i64 v.ty.k, .int .i64 v.ty.lo, .int .i64 v.ty.hi, .string v.ty.name, .int .i64 v.init, .int .i64 v.dir, .int .i64 v.slot] 55
  have K0 := Aid.hid k0
  have Nv := Aid.hid qv
  have HR := Aid.hid hr
  clear qv k0 hr
  have xv0 := Nv.out.cell 0 _ rfl
  have lv := Nv.out.lt
  go_enter Tryz.func48, Tryz.ntmps48
  try simp only [List.append_eq, List.cons_append, List.nil_append]
  have HPP := Aid.hid ((K0.out.cell (p := ⟨p, 0, none⟩) hlt).trans hp)
  have lp := Nat.lt_of_lt_of_le hlt K0.out.size
  have hpc := HPP.out
  clear hp
  go_wp2_with fail
  go_ret
  exact ⟨Aid.ret_bool HR.out, K0.out⟩
set_option maxRecDepth 100000 in
set_option maxHeartbeats 4000000 in
theorem twins_is (l : List Vd) (A : Option Addr) (c B : Nat) (r : Bool) (w : World) (hr : Ru.twins l = r) (hR : Rows w B 8 A (l.map Vd.cells)) (hB : B ≤ w.heap.size) (ll : l.length ≤ 9223372036854775807) (hlc : l.length ≤ c) :
    Calls Tryz.prog 30 #[.slice A l.length c] w fun z w' => z = .returned (.bool r) ∧ Below w.heap.size w w' := by
  have HRW := Aid.hid hR
  have HS : Hid (Ru.twice ((l.take 0).map (·.name)) ((l.drop 0).map (·.name)) = r) := Aid.hid (by rw [← hr]; rfl)
  clear hr
  clear hR
  go_enter Tryz.func30, Tryz.ntmps30
  try simp only [List.append_eq, List.cons_append, List.nil_append]
  go_wp2_with fail
  go_loopw [7] (fun vi wr => ∃ k : Nat, vi = .int .i64 k ∧ k ≤ l.length ∧ Hid (Ru.twice ((l.take k).map (·.name)) ((l.drop k).map (·.name)) = r) ∧ Hid (Below w.heap.size w wr)) (fun vi _ => l.length - (intOf vi).toNat)
  case atStart => exact ⟨0, rfl, Nat.zero_le _, HS, Aid.hid (Below.refl _ _)⟩
  case round =>
    obtain ⟨k, rfl, hk, HK, HB⟩ := hrel
    by_cases hkl : k < l.length
    · obtain ⟨vb, vo, rfl, hvb, hc2⟩ := (HRW.out.below HB.out hB).at_map (by omega)
      obtain ⟨v, hv⟩ : ∃ v, l[k]? = some v := ⟨_, List.getElem?_eq_getElem hkl⟩
      have c0 := hc2 k v hv 0 _ rfl
      have c1 := hc2 k v hv 1 _ rfl
      have c2 := hc2 k v hv 2 _ rfl
      have c3 := hc2 k v hv 3 _ rfl
      have c4 := hc2 k v hv 4 _ rfl
      have c5 := hc2 k v hv 5 _ rfl
      have c6 := hc2 k v hv 6 _ rfl
      have c7 := hc2 k v hv 7 _ rfl
      simp only [Nat.add_zero] at c0
      have lvb : vb < wr.heap.size := Nat.lt_of_lt_of_le hvb (Nat.le_trans hB HB.out.size)
      have HV := Aid.hid hv
      have hkc : k ≤ c := by omega
      clear hc2 hv
      obtain ⟨X1, hX⟩ : ∃ X, wr.alloc (.cells #[.string v.name, .int .i64 v.ty.k, .int .i64 v.ty.lo, .int .i64 v.ty.hi, .string v.ty.name, .int .i64 v.init, .int .i64 v.dir, .int .i64 v.slot] 55) = X := ⟨_, rfl⟩
      have qv := new_at hX
      have qqk := below_at hX (HB.out)
      have qqs := below_at0 hX
      have Nv_1 := Aid.hid qv
      have Kx1 := Aid.hid qqk
      have Qs1 := Aid.hid qqs
      clear qqk qqs qv
      go_wp2_with fail
      clear hX lvb c0 c1 c2 c3 c4 c5 c6 c7
      obtain ⟨q, hq⟩ : ∃ q, (l.take k).any (fun x => x.name.toList == v.name.toList) = q := ⟨_, rfl⟩
      have HQ := Aid.hid hq
      have HN := Aid.hid (Ru.twice_step (·.name) HV.out)
      clear hq
      have hlen : (l.take k).length = k := by simp; omega
      have HC := hasV_is (l.take k) (some ⟨vb, vo, none⟩) c B 48 #[.pointer (some ⟨wr.heap.size, 0, none⟩)] (fun x => x.name.toList == v.name.toList) q _ HQ.out (fun _ _ => enter_of Tryz.func48 (by kernel_rfl) (by kernel_rfl) _ _) ((HRW.out.take k).below (Kx1.out) hB) (Nat.le_trans hB (Kx1.out).size) (by rw [hlen]; omega) (fun x _ w1 hb1 => twins1_is x v (wr.heap.size) _ w1 rfl ((hb1.cell (p := ⟨wr.heap.size, 0, none⟩) Nv_1.out.lt).trans (Nv_1.out.cell 0 _ rfl)) (Nat.lt_of_lt_of_le Nv_1.out.lt hb1.size))
      rw [hlen] at HC
      refine (HC).mono ?_; rintro _ w2 ⟨rfl, hb2⟩
      have Kx2 := Aid.hid ((Kx1.out).trans (hb2.mono (Kx1.out).size))
      have Nv_2 := Aid.hid (Nv_1.out.below hb2 Nv_1.out.lt)
      clear hb2
      cases q
      · have NX : Hid (Ru.twice ((l.take (k + 1)).map (·.name)) ((l.drop (k + 1)).map (·.name)) = r) := Aid.hid (by rw [← HK.out, HN.out, HQ.out]; rfl)
        go_wp2_with fail
        go_roundw
        case rel => exact ⟨k + 1, by go_num, by omega, NX, Kx2⟩
        case measure => simp [intOf]; omega
      · obtain rfl : true = r := by rw [← HK.out, HN.out, HQ.out]; rfl
        go_wp2_with fail
        go_ret
        exact ⟨rfl, Kx2.out⟩
    · obtain rfl : false = r := by rw [← HK.out]; exact (Ru.twice_end _ (by omega)).symm
      go_wp2_with fail
      go_ret
      exact ⟨rfl, HB.out⟩
set_option maxRecDepth 100000 in
set_option maxHeartbeats 4000000 in
theorem twice1_is (v x : Md) (p : Nat) (r : Bool) (w : World) (hr : (v.name.toList == x.name.toList) = r) (hp : w.cell? ⟨p, 0, none⟩ = some (.string x.name)) (hlt : p < w.heap.size) :
    Calls Tryz.prog 47 #[.agg #[.string v.name, .bool v.over, .bool v.abs, .bool v.fin, .slice v.pA v.ps.length v.pc, .int .i64 v.res.k, .int .i64 v.res.lo, .int .i64 v.res.hi, .string v.res.name, .slice v.vA v.vs.length v.vc, .slice v.bA v.body.length v.bc], .pointer (some ⟨p, 0, none⟩)] w fun z w' => z = .returned (.bool r) ∧ Below w.heap.size w w' := by
  obtain ⟨W, hW, qv, k0⟩ := newn1 w [.string v.name, .bool v.over, .bool v.abs, .bool v.fin, .slice v.pA v.ps.length v.pc, .int .i64 v.res.k, .int .i64 v.res.lo, .int .i64 v.res.hi, .string v.res.name, .slice v.vA v.vs.length v.vc, .slice v.bA v.body.length v.bc] 46
  have K0 := Aid.hid k0
  have Nv := Aid.hid qv
  have HR := Aid.hid hr
  clear qv k0 hr
  have xv0 := Nv.out.cell 0 _ rfl
  have lv := Nv.out.lt
  go_enter Tryz.func47, Tryz.ntmps47
  try simp only [List.append_eq, List.cons_append, List.nil_append]
  have HPP := Aid.hid ((K0.out.cell (p := ⟨p, 0, none⟩) hlt).trans hp)
  have lp := Nat.lt_of_lt_of_le hlt K0.out.size
  have hpc := HPP.out
  clear hp
  go_wp2_with fail
  go_ret
  exact ⟨Aid.ret_bool HR.out, K0.out⟩
set_option maxRecDepth 100000 in
set_option maxHeartbeats 4000000 in
theorem twice_is (l : List Md) (A : Option Addr) (c B : Nat) (r : Bool) (w : World) (hr : Ru.twiceM l = r) (hR : Rows w B 11 A (l.map Md.cells)) (hB : B ≤ w.heap.size) (ll : l.length ≤ 9223372036854775807) (hlc : l.length ≤ c) :
    Calls Tryz.prog 28 #[.slice A l.length c] w fun z w' => z = .returned (.bool r) ∧ Below w.heap.size w w' := by
  have HRW := Aid.hid hR
  have HS : Hid (Ru.twice ((l.take 0).map (·.name)) ((l.drop 0).map (·.name)) = r) := Aid.hid (by rw [← hr]; rfl)
  clear hr
  clear hR
  go_enter Tryz.func28, Tryz.ntmps28
  try simp only [List.append_eq, List.cons_append, List.nil_append]
  go_wp2_with fail
  go_loopw [7] (fun vi wr => ∃ k : Nat, vi = .int .i64 k ∧ k ≤ l.length ∧ Hid (Ru.twice ((l.take k).map (·.name)) ((l.drop k).map (·.name)) = r) ∧ Hid (Below w.heap.size w wr)) (fun vi _ => l.length - (intOf vi).toNat)
  case atStart => exact ⟨0, rfl, Nat.zero_le _, HS, Aid.hid (Below.refl _ _)⟩
  case round =>
    obtain ⟨k, rfl, hk, HK, HB⟩ := hrel
    by_cases hkl : k < l.length
    · obtain ⟨vb, vo, rfl, hvb, hc2⟩ := (HRW.out.below HB.out hB).at_map (by omega)
      obtain ⟨v, hv⟩ : ∃ v, l[k]? = some v := ⟨_, List.getElem?_eq_getElem hkl⟩
      have c0 := hc2 k v hv 0 _ rfl
      have c1 := hc2 k v hv 1 _ rfl
      have c2 := hc2 k v hv 2 _ rfl
      have c3 := hc2 k v hv 3 _ rfl
      have c4 := hc2 k v hv 4 _ rfl
      have c5 := hc2 k v hv 5 _ rfl
      have c6 := hc2 k v hv 6 _ rfl
      have c7 := hc2 k v hv 7 _ rfl
      have c8 := hc2 k v hv 8 _ rfl
      have c9 := hc2 k v hv 9 _ rfl
      have c10 := hc2 k v hv 10 _ rfl
      simp only [Nat.add_zero] at c0
      have lvb : vb < wr.heap.size := Nat.lt_of_lt_of_le hvb (Nat.le_trans hB HB.out.size)
      have HV := Aid.hid hv
      have hkc : k ≤ c := by omega
      clear hc2 hv
      obtain ⟨X1, hX⟩ : ∃ X, wr.alloc (.cells #[.string v.name, .bool v.over, .bool v.abs, .bool v.fin, .slice v.pA v.ps.length v.pc, .int .i64 v.res.k, .int .i64 v.res.lo, .int .i64 v.res.hi, .string v.res.name, .slice v.vA v.vs.length v.vc, .slice v.bA v.body.length v.bc] 46) = X := ⟨_, rfl⟩
      have qv := new_at hX
      have qqk := below_at hX (HB.out)
      have qqs := below_at0 hX
      have Nv_1 := Aid.hid qv
      have Kx1 := Aid.hid qqk
      have Qs1 := Aid.hid qqs
      clear qqk qqs qv
      go_wp2_with fail
      clear hX lvb c0 c1 c2 c3 c4 c5 c6 c7 c8 c9 c10
      obtain ⟨q, hq⟩ : ∃ q, (l.take k).any (fun x => x.name.toList == v.name.toList) = q := ⟨_, rfl⟩
      have HQ := Aid.hid hq
      have HN := Aid.hid (Ru.twice_step (·.name) HV.out)
      clear hq
      have hlen : (l.take k).length = k := by simp; omega
      have HC := hasM_is (l.take k) (some ⟨vb, vo, none⟩) c B 47 #[.pointer (some ⟨wr.heap.size, 0, none⟩)] (fun x => x.name.toList == v.name.toList) q _ HQ.out (fun _ _ => enter_of Tryz.func47 (by kernel_rfl) (by kernel_rfl) _ _) ((HRW.out.take k).below (Kx1.out) hB) (Nat.le_trans hB (Kx1.out).size) (by rw [hlen]; omega) (fun x _ w1 hb1 => twice1_is x v (wr.heap.size) _ w1 rfl ((hb1.cell (p := ⟨wr.heap.size, 0, none⟩) Nv_1.out.lt).trans (Nv_1.out.cell 0 _ rfl)) (Nat.lt_of_lt_of_le Nv_1.out.lt hb1.size))
      rw [hlen] at HC
      refine (HC).mono ?_; rintro _ w2 ⟨rfl, hb2⟩
      have Kx2 := Aid.hid ((Kx1.out).trans (hb2.mono (Kx1.out).size))
      have Nv_2 := Aid.hid (Nv_1.out.below hb2 Nv_1.out.lt)
      clear hb2
      cases q
      · have NX : Hid (Ru.twice ((l.take (k + 1)).map (·.name)) ((l.drop (k + 1)).map (·.name)) = r) := Aid.hid (by rw [← HK.out, HN.out, HQ.out]; rfl)
        go_wp2_with fail
        go_roundw
        case rel => exact ⟨k + 1, by go_num, by omega, NX, Kx2⟩
        case measure => simp [intOf]; omega
      · obtain rfl : true = r := by rw [← HK.out, HN.out, HQ.out]; rfl
        go_wp2_with fail
        go_ret
        exact ⟨rfl, Kx2.out⟩
    · obtain rfl : false = r := by rw [← HK.out]; exact (Ru.twice_end _ (by omega)).symm
      go_wp2_with fail
      go_ret
      exact ⟨rfl, HB.out⟩
def Ru.greatM (m : Md) : Bool := decide (m.ps.length > 3) || decide (m.vs.length > 8)
set_option maxRecDepth 100000 in
set_option maxHeartbeats 4000000 in
theorem great1_is (m : Md) (r : Bool) (w : World) (hr : Ru.greatM m = r) :
    Calls Tryz.prog 21 #[.agg #[.string m.name, .bool m.over, .bool m.abs, .bool m.fin, .slice m.pA m.ps.length m.pc, .int .i64 m.res.k, .int .i64 m.res.lo, .int .i64 m.res.hi, .string m.res.name, .slice m.vA m.vs.length m.vc, .slice m.bA m.body.length m.bc]] w fun z w' => z = .returned (.bool r) ∧ Below w.heap.size w w' := by
  obtain ⟨W, hW, qm, k0⟩ := newn1 w [.string m.name, .bool m.over, .bool m.abs, .bool m.fin, .slice m.pA m.ps.length m.pc, .int .i64 m.res.k, .int .i64 m.res.lo, .int .i64 m.res.hi, .string m.res.name, .slice m.vA m.vs.length m.vc, .slice m.bA m.body.length m.bc] 46
  have K0 := Aid.hid k0
  have Nm := Aid.hid qm
  have HR := Aid.hid hr
  clear qm k0 hr
  have xm0 := Nm.out.cell 0 _ rfl
  have xm1 := Nm.out.cell 1 _ rfl
  have xm2 := Nm.out.cell 2 _ rfl
  have xm3 := Nm.out.cell 3 _ rfl
  have xm4 := Nm.out.cell 4 _ rfl
  have xm5 := Nm.out.cell 5 _ rfl
  have xm6 := Nm.out.cell 6 _ rfl
  have xm7 := Nm.out.cell 7 _ rfl
  have xm8 := Nm.out.cell 8 _ rfl
  have xm9 := Nm.out.cell 9 _ rfl
  have xm10 := Nm.out.cell 10 _ rfl
  have lm := Nm.out.lt
  go_enter Tryz.func21, Tryz.ntmps21
  try simp only [List.append_eq, List.cons_append, List.nil_append]
  go_wp2_with fail
  all_goals
    go_ret
    exact ⟨Aid.ret_bool (by rw [← HR.out, Ru.greatM]; first | (congr 1 <;> exact decide_eq_decide.2 (by omega)) | (simp only [Bool.or_eq_true, decide_eq_true_eq, eq_comm (a := true)]; omega)), K0.out⟩
set_option maxRecDepth 100000 in
set_option maxHeartbeats 4000000 in
theorem great_is (d : Dk) (B : Nat) (r : Bool) (w : World) (hr : Ru.great d = r) (hm : Rows w B 11 d.mA (d.ms.map Md.cells)) (hB : B ≤ w.heap.size) (lm : d.ms.length ≤ 9223372036854775807) :
    Calls Tryz.prog 13 #[.agg #[.int .i64 d.kind, .string d.name, .string d.base, .slice d.fA d.faces.length d.fc, .bool d.abs, .bool d.fin, .slice d.vA d.vs.length d.vc, .slice d.mA d.ms.length d.mc, .slice d.bA d.body.length d.bc, .int .i64 d.every, .int .i64 d.first]] w fun z w' => z = .returned (.bool r) ∧ Below w.heap.size w w' := by
  have HMM := Aid.hid hm
  obtain ⟨q, hq⟩ : ∃ q, d.ms.any Ru.greatM = q := ⟨_, rfl⟩
  have E : Hid ((decide (d.ms.length > 6) || (decide (d.faces.length > 4) || (decide (d.vs.length > 8) || q))) = r) := Aid.hid (by rw [← hr, ← hq]; rfl)
  obtain ⟨W, hW, qd, k0⟩ := newn1 w [.int .i64 d.kind, .string d.name, .string d.base, .slice d.fA d.faces.length d.fc, .bool d.abs, .bool d.fin, .slice d.vA d.vs.length d.vc, .slice d.mA d.ms.length d.mc, .slice d.bA d.body.length d.bc, .int .i64 d.every, .int .i64 d.first] 34
  have K0 := Aid.hid k0
  have Nd := Aid.hid qd
  have HQ := Aid.hid hq
  clear qd k0 hm hr hq
  have xd0 := Nd.out.cell 0 _ rfl
  have xd1 := Nd.out.cell 1 _ rfl
  have xd2 := Nd.out.cell 2 _ rfl
  have xd3 := Nd.out.cell 3 _ rfl
  have xd4 := Nd.out.cell 4 _ rfl
  have xd5 := Nd.out.cell 5 _ rfl
  have xd6 := Nd.out.cell 6 _ rfl
  have xd7 := Nd.out.cell 7 _ rfl
  have xd8 := Nd.out.cell 8 _ rfl
  have xd9 := Nd.out.cell 9 _ rfl
  have xd10 := Nd.out.cell 10 _ rfl
  have ld := Nd.out.lt
  go_enter Tryz.func13, Tryz.ntmps13
  try simp only [List.append_eq, List.cons_append, List.nil_append]
  by_cases h6 : 6 < d.ms.length
  · have b6 : decide ((6 : Int) < (d.ms.length : Int)) = true := by simp; omega
    obtain rfl : true = r := by rw [← E.out]; simp [h6]
    go_wp2_with fail
    go_ret
    exact ⟨rfl, K0.out⟩
  · have b6 : decide ((6 : Int) < (d.ms.length : Int)) = false := by simp; omega
    by_cases h4 : 4 < d.faces.length
    · have b4 : decide ((4 : Int) < (d.faces.length : Int)) = true := by simp; omega
      obtain rfl : true = r := by rw [← E.out]; simp [h4]
      go_wp2_with fail
      go_ret
      exact ⟨rfl, K0.out⟩
    · have b4 : decide ((4 : Int) < (d.faces.length : Int)) = false := by simp; omega
      by_cases h8 : 8 < d.vs.length
      · have b8 : decide ((8 : Int) < (d.vs.length : Int)) = true := by simp; omega
        obtain rfl : true = r := by rw [← E.out]; simp [h8]
        go_wp2_with fail
        go_ret
        exact ⟨rfl, K0.out⟩
      · have b8 : decide ((8 : Int) < (d.vs.length : Int)) = false := by simp; omega
        obtain rfl : q = r := by rw [← E.out, decide_eq_false (show ¬ d.ms.length > 6 by omega), decide_eq_false (show ¬ d.faces.length > 4 by omega), decide_eq_false (show ¬ d.vs.length > 8 by omega)]; rfl
        go_wp2_with fail
        refine (hasM_is d.ms d.mA d.mc B 21 #[] Ru.greatM q _ HQ.out (fun _ _ => enter_of Tryz.func21 (by kernel_rfl) (by kernel_rfl) _ _) (HMM.out.below (K0.out) hB) (Nat.le_trans hB (K0.out).size) lm (fun m _ w1 _ => great1_is m _ w1 rfl)).mono ?_; rintro _ w1 ⟨rfl, hb1⟩
        have Kx1 := Aid.hid ((K0.out).trans (hb1.mono (K0.out).size))
        have Nd_1 := Aid.hid (Nd.out.below hb1 Nd.out.lt)
        clear xd0 xd1 xd2 xd3 xd4 xd5 xd6 xd7 xd8 xd9 xd10 ld
        clear hb1
        go_wp2_with fail
        go_ret
        exact ⟨rfl, Kx1.out⟩
end Go.Proofs.YtejifefgmlpclaaGreat
