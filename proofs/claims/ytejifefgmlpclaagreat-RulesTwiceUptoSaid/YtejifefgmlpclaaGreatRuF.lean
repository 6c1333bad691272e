/- What an interface, a class and a variable must be: tests, as walks. -/
import Derived.Test.YtejifefgmlpclaaGreatRuB
import Derived.WalkKit
import Derived.WalkSpells
import Derived.WalkLawsBesides
import Derived.LoopTactic
import Derived.Deep.QuietTactic
import Derived.BigQuiet
import Derived.Below
import Derived.Laws.ResultCell
import Derived.Laws.Tables
import Derived.Laws.Rows
import Derived.Deep.Cut
import Derived.KernelRfl
set_option linter.unusedSimpArgs false
set_option linter.unusedVariables false
namespace Go.Proofs.YtejifefgmlpclaaGreat
open Go.RowKit

/-- Each list of a unit is within its slice. -/
structure UCap (u : List Dk) (cap : Nat) : Prop where
  n : u.length ≤ cap
  f : ∀ d ∈ u, d.faces.length ≤ d.fc
  v : ∀ d ∈ u, d.vs.length ≤ d.vc
  m : ∀ d ∈ u, d.ms.length ≤ d.mc
  p : ∀ d ∈ u, ∀ m ∈ d.ms, m.ps.length ≤ m.pc
set_option maxRecDepth 100000 in
set_option maxHeartbeats 4000000 in
theorem odd_is (b : Nat) (wh : Int) (w : World) :
    Calls Tryz.prog 50 #[.pointer (some ⟨b, 0, none⟩), .int .i64 wh] w fun z w' => ∃ p q, z = .returned (.func (.func 63) #[] #[.pointer (some ⟨p, 0, none⟩), .pointer (some ⟨q, 0, none⟩)]) ∧ Aid.Has w' p [.pointer (some ⟨b, 0, none⟩)] 48 ∧ Aid.Has w' q [.int .i64 wh] 3 ∧ Below w.heap.size w w' := by
  obtain ⟨W, hW, qp, qq, k0⟩ := newn2 w [.pointer (some ⟨b, 0, none⟩)] [.int .i64 wh] 48 3
  have K0 := Aid.hid k0
  have Np := Aid.hid qp
  have Nq := Aid.hid qq
  clear qp qq k0
  go_enter Tryz.func50, Tryz.ntmps50
  try simp only [List.append_eq, List.cons_append, List.nil_append]
  go_wp2_with fail
  go_ret
  exact ⟨_, _, rfl, Np.out, Nq.out, K0.out⟩
set_option maxRecDepth 100000 in
set_option maxHeartbeats 4000000 in
theorem odd1_is (u : List Dk) (a : Option Addr) (B cap b i : Nat) (d : Dk) (v : Vd) (p q : Nat) (wh : Int) (r : Bool) (w : World) (hr : Ru.odd u wh v = r) (hp : Aid.Has w p [.pointer (some ⟨b, 0, none⟩)] 48) (hq : Aid.Has w q [.int .i64 wh] 3) (hx : Aid.Has w b [.slice a u.length cap, .int .i64 (i : Int), .int .i64 d.kind, .string d.name, .string d.base, .slice d.fA d.faces.length d.fc, .bool d.abs, .bool d.fin, .slice d.vA d.vs.length d.vc, .slice d.mA d.ms.length d.mc, .slice d.bA d.body.length d.bc, .int .i64 d.every, .int .i64 d.first] 50) (hd : u[i]? = some d) (hu : UnitAt w B a u) (hB : B ≤ w.heap.size) :
    Calls Tryz.prog 63 #[.agg #[.string v.name, .int .i64 v.ty.k, .int .i64 v.ty.lo, .int .i64 v.ty.hi, .string v.ty.name, .int .i64 v.init, .int .i64 v.dir, .int .i64 v.slot], .pointer (some ⟨p, 0, none⟩), .pointer (some ⟨q, 0, none⟩)] w fun z w' => z = .returned (.bool r) ∧ Below w.heap.size w w' := by
  have HPP := Aid.hid hp; have HQQ := Aid.hid hq
  obtain ⟨g, hg⟩ : ∃ g, Ru.may u v.ty wh = g := ⟨_, rfl⟩
  have E : Hid ((decide (v.dir ≠ 0) || !g) = r) := Aid.hid (by rw [← hr, ← hg]; rfl)
  have HG := Aid.hid hg
  have HU := Aid.hid hu; have HX := Aid.hid hx; have HD := Aid.hid hd
  have sm := hu.small
  have hil : i < u.length := (List.getElem?_eq_some_iff.1 hd).1
  obtain ⟨W, hW, qv, k0⟩ := newn1 w [.string v.name, .int .i64 v.ty.k, .int .i64 v.ty.lo, .int .i64 v.ty.hi, .string v.ty.name, .int .i64 v.init, .int .i64 v.dir, .int .i64 v.slot] 55
  have K0 := Aid.hid k0
  have Nv := Aid.hid qv
  clear qv k0 hr hp hq hg hu hx hd
  have xv0 := Nv.out.cell 0 _ rfl
  have xv1 := Nv.out.cell 1 _ rfl
  have xv2 := Nv.out.cell 2 _ rfl
  have xv3 := Nv.out.cell 3 _ rfl
  have xv4 := Nv.out.cell 4 _ rfl
  have xv5 := Nv.out.cell 5 _ rfl
  have xv6 := Nv.out.cell 6 _ rfl
  have xv7 := Nv.out.cell 7 _ rfl
  have lv := Nv.out.lt
  go_enter Tryz.func63, Tryz.ntmps63
  try simp only [List.append_eq, List.cons_append, List.nil_append]
  have Nx := Aid.hid (HX.out.below (K0.out) HX.out.lt)
  have xx0 := Nx.out.cell 0 _ rfl
  have xx1 := Nx.out.cell 1 _ rfl
  have lx := Nx.out.lt
  have Np := Aid.hid (HPP.out.below (K0.out) HPP.out.lt)
  have Nq := Aid.hid (HQQ.out.below (K0.out) HQQ.out.lt)
  have xp0 := Np.out.cell 0 _ rfl
  have lp := Np.out.lt
  have xq0 := Nq.out.cell 0 _ rfl
  have lq := Nq.out.lt
  by_cases hd0 : v.dir = 0
  · have e0 : (v.dir != 0) = false := by simp [hd0]
    have HD0 := Aid.hid hd0
    clear hd0
    go_wp2_with fail
    have HZ := Aid.hid (fun (w' : World) (hSw : Below W.heap.size W w') => (⟨(hSw.cell (p := ⟨w.heap.size, 0, none⟩) lv).trans xv0, (hSw.cell (p := ⟨w.heap.size, 1, none⟩) lv).trans xv1, (hSw.cell (p := ⟨w.heap.size, 2, none⟩) lv).trans xv2, (hSw.cell (p := ⟨w.heap.size, 3, none⟩) lv).trans xv3, (hSw.cell (p := ⟨w.heap.size, 4, none⟩) lv).trans xv4, (hSw.cell (p := ⟨w.heap.size, 5, none⟩) lv).trans xv5, (hSw.cell (p := ⟨w.heap.size, 6, none⟩) lv).trans xv6, (hSw.cell (p := ⟨w.heap.size, 7, none⟩) lv).trans xv7, (hSw.cell (p := ⟨b, 0, none⟩) lx).trans xx0, (hSw.cell (p := ⟨b, 1, none⟩) lx).trans xx1, (hSw.cell (p := ⟨p, 0, none⟩) lp).trans xp0, (hSw.cell (p := ⟨q, 0, none⟩) lq).trans xq0⟩ : _ ∧ _ ∧ _ ∧ _ ∧ _ ∧ _ ∧ _ ∧ _ ∧ _ ∧ _ ∧ _ ∧ _))
    have hb : Below W.heap.size W W.drew := (Below.refl _ _).drew
    refine Ord.wp_region_walk (fun w' => Below W.heap.size W w') 14 [(true, 0), (true, 1), (true, 2), (true, 3), (true, 4), (true, 5), (true, 6), (true, 7), (true, 8), (true, 9), (true, 10), (false, 11), (true, 12), (true, 13)] (by kernel_rfl) (by kernel_rfl) (fun _ _ d _ _ h => by cases d <;> exact h) (hb) ?_
    clear hb
    have hb : Below W.heap.size W W.drew := (Below.refl _ _).drew
    generalize W.drew = wd0 at *
    iterate 11
      apply Ord.walk_light
      next => (simp only [la0, la1, la2]; rfl)
      next => rfl
      next => (intro w' hSw; obtain ⟨z0, z1, z2, z3, z4, z5, z6, z7, z8, z9, z10, z11⟩ := HZ.out w' hSw; clear hSw; go_simp; first | done | with_reducible rfl)
      simp only [Act.put, la3, la4, la5]
    apply Ord.walk_heavy
    next => (simp only [la0, la1, la2]; rfl)
    next => rfl
    intro K hK
    go_wp2_with fail
    refine (may_is u _ B cap v.ty wh g _ HG.out (HU.out.below (((K0.out).trans (hb.mono (K0.out).size))) hB) (Nat.le_trans hB (((K0.out).trans (hb.mono (K0.out).size))).size)).mono ?_; rintro _ v0_1 ⟨rfl, hb'⟩; dsimp only
    refine hK.out _ _ (hb.trans (hb'.mono hb.size)) (fun hHeld => ?_)
    clear hb hb'
    have hb := hHeld
    clear hK K
    try simp only [Act.put, la3, la4, la5]
    iterate 2
      apply Ord.walk_light
      next => (simp only [la0, la1, la2]; rfl)
      next => rfl
      next => (intro w' hSw; obtain ⟨z0, z1, z2, z3, z4, z5, z6, z7, z8, z9, z10, z11⟩ := HZ.out w' hSw; clear hSw; go_simp; first | done | with_reducible rfl)
      simp only [Act.put, la3, la4, la5]
    refine Ord.walk_tail ?_; simp only [List.drop_succ_cons, List.drop_zero]
    have hbx := hb
    clear hb HZ
    have Kx1 := Aid.hid ((K0.out).trans (hbx.mono (K0.out).size))
    have Nv_1 := Aid.hid (Nv.out.below hbx Nv.out.lt)
    have Nx_1 := Aid.hid (Nx.out.below hbx Nx.out.lt)
    have Np_1 := Aid.hid (Np.out.below hbx Np.out.lt)
    have Nq_1 := Aid.hid (Nq.out.below hbx Nq.out.lt)
    clear xv0 xv1 xv2 xv3 xv4 xv5 xv6 xv7 lv xx0 xx1 lx xp0 lp xq0 lq
    clear hbx
    go_wp2_with fail
    go_ret
    exact ⟨Aid.ret_bool (by rw [← E.out]; simp [HD0.out]), Kx1.out⟩
  · have e0 : (v.dir != 0) = true := by simp [hd0]
    have HD0 := Aid.hid hd0
    clear hd0
    go_wp2_with fail
    have HZ := Aid.hid (fun (w' : World) (hSw : Below W.heap.size W w') => (⟨(hSw.cell (p := ⟨w.heap.size, 0, none⟩) lv).trans xv0, (hSw.cell (p := ⟨w.heap.size, 1, none⟩) lv).trans xv1, (hSw.cell (p := ⟨w.heap.size, 2, none⟩) lv).trans xv2, (hSw.cell (p := ⟨w.heap.size, 3, none⟩) lv).trans xv3, (hSw.cell (p := ⟨w.heap.size, 4, none⟩) lv).trans xv4, (hSw.cell (p := ⟨w.heap.size, 5, none⟩) lv).trans xv5, (hSw.cell (p := ⟨w.heap.size, 6, none⟩) lv).trans xv6, (hSw.cell (p := ⟨w.heap.size, 7, none⟩) lv).trans xv7, (hSw.cell (p := ⟨b, 0, none⟩) lx).trans xx0, (hSw.cell (p := ⟨b, 1, none⟩) lx).trans xx1, (hSw.cell (p := ⟨p, 0, none⟩) lp).trans xp0, (hSw.cell (p := ⟨q, 0, none⟩) lq).trans xq0⟩ : _ ∧ _ ∧ _ ∧ _ ∧ _ ∧ _ ∧ _ ∧ _ ∧ _ ∧ _ ∧ _ ∧ _))
    have hb : Below W.heap.size W W.drew := (Below.refl _ _).drew
    refine Ord.wp_region_walk (fun w' => Below W.heap.size W w') 14 [(true, 0), (true, 1), (true, 2), (true, 3), (true, 4), (true, 5), (true, 6), (true, 7), (true, 8), (true, 9), (true, 10), (false, 11), (true, 12), (true, 13)] (by kernel_rfl) (by kernel_rfl) (fun _ _ d _ _ h => by cases d <;> exact h) (hb) ?_
    clear hb
    have hb : Below W.heap.size W W.drew := (Below.refl _ _).drew
    generalize W.drew = wd0 at *
    iterate 4
      apply Ord.walk_light
      next => (simp only [la0, la1, la2]; rfl)
      next => rfl
      next => (intro w' hSw; obtain ⟨z0, z1, z2, z3, z4, z5, z6, z7, z8, z9, z10, z11⟩ := HZ.out w' hSw; clear hSw; go_simp; first | done | with_reducible rfl)
      simp only [Act.put, la3, la4, la5]
    iterate 7
      apply Ord.walk_idle
      next => (simp only [la0, la1, la2]; rfl)
      next => rfl
      simp only [Act.put, la3, la4, la5]
    apply Ord.walk_rest
    next => (simp only [la0, la1, la2]; rfl)
    next => rfl
    next => first | exact hHeld | exact hb
    apply Ord.walk_idle
    next => (simp only [la0, la1, la2]; rfl)
    next => rfl
    simp only [Act.put, la3, la4, la5]
    apply Ord.walk_light
    next => (simp only [la0, la1, la2]; rfl)
    next => rfl
    next => (intro w' hSw; obtain ⟨z0, z1, z2, z3, z4, z5, z6, z7, z8, z9, z10, z11⟩ := HZ.out w' hSw; clear hSw; go_simp; first | done | with_reducible rfl)
    simp only [Act.put, la3, la4, la5]
    refine Ord.walk_tail ?_; simp only [List.drop_succ_cons, List.drop_zero]
    have hbx := hb
    clear hb HZ
    have Kx1 := Aid.hid ((K0.out).trans (hbx.mono (K0.out).size))
    have Nv_1 := Aid.hid (Nv.out.below hbx Nv.out.lt)
    have Nx_1 := Aid.hid (Nx.out.below hbx Nx.out.lt)
    have Np_1 := Aid.hid (Np.out.below hbx Np.out.lt)
    have Nq_1 := Aid.hid (Nq.out.below hbx Nq.out.lt)
    clear xv0 xv1 xv2 xv3 xv4 xv5 xv6 xv7 lv xx0 xx1 lx xp0 lp xq0 lq
    clear hbx
    go_wp2_with fail
    go_ret
    exact ⟨Aid.ret_bool (by rw [← E.out]; simp [HD0.out]), Kx1.out⟩
set_option maxRecDepth 100000 in
set_option maxHeartbeats 4000000 in
theorem face1_is (u : List Dk) (a : Option Addr) (B cap b i : Nat) (d : Dk) (v : Vd) (p : Nat) (r : Bool) (w : World) (hr : (!Ru.may u v.ty 0) = r) (hp : Aid.Has w p [.pointer (some ⟨b, 0, none⟩)] 48) (hx : Aid.Has w b [.slice a u.length cap, .int .i64 (i : Int), .int .i64 d.kind, .string d.name, .string d.base, .slice d.fA d.faces.length d.fc, .bool d.abs, .bool d.fin, .slice d.vA d.vs.length d.vc, .slice d.mA d.ms.length d.mc, .slice d.bA d.body.length d.bc, .int .i64 d.every, .int .i64 d.first] 50) (hd : u[i]? = some d) (hu : UnitAt w B a u) (hB : B ≤ w.heap.size) :
    Calls Tryz.prog 24 #[.agg #[.string v.name, .int .i64 v.ty.k, .int .i64 v.ty.lo, .int .i64 v.ty.hi, .string v.ty.name, .int .i64 v.init, .int .i64 v.dir, .int .i64 v.slot], .pointer (some ⟨p, 0, none⟩)] w fun z w' => z = .returned (.bool r) ∧ Below w.heap.size w w' := by
  have HPP := Aid.hid hp
  obtain ⟨g, hg⟩ : ∃ g, Ru.may u v.ty 0 = g := ⟨_, rfl⟩
  have E : Hid ((!g) = r) := Aid.hid (by rw [← hr, ← hg])
  have HG := Aid.hid hg
  have HU := Aid.hid hu; have HX := Aid.hid hx; have HD := Aid.hid hd
  have sm := hu.small
  have hil : i < u.length := (List.getElem?_eq_some_iff.1 hd).1
  obtain ⟨W, hW, qv, k0⟩ := newn1 w [.string v.name, .int .i64 v.ty.k, .int .i64 v.ty.lo, .int .i64 v.ty.hi, .string v.ty.name, .int .i64 v.init, .int .i64 v.dir, .int .i64 v.slot] 55
  have K0 := Aid.hid k0
  have Nv := Aid.hid qv
  clear qv k0 hr hp hg hu hx hd
  have xv0 := Nv.out.cell 0 _ rfl
  have xv1 := Nv.out.cell 1 _ rfl
  have xv2 := Nv.out.cell 2 _ rfl
  have xv3 := Nv.out.cell 3 _ rfl
  have xv4 := Nv.out.cell 4 _ rfl
  have xv5 := Nv.out.cell 5 _ rfl
  have xv6 := Nv.out.cell 6 _ rfl
  have xv7 := Nv.out.cell 7 _ rfl
  have lv := Nv.out.lt
  go_enter Tryz.func24, Tryz.ntmps24
  try simp only [List.append_eq, List.cons_append, List.nil_append]
  have Nx := Aid.hid (HX.out.below (K0.out) HX.out.lt)
  have xx0 := Nx.out.cell 0 _ rfl
  have xx1 := Nx.out.cell 1 _ rfl
  have lx := Nx.out.lt
  have Np := Aid.hid (HPP.out.below (K0.out) HPP.out.lt)
  have xp0 := Np.out.cell 0 _ rfl
  have lp := Np.out.lt
  go_wp2_with fail
  have HZ := Aid.hid (fun (w' : World) (hSw : Below W.heap.size W w') => (⟨(hSw.cell (p := ⟨w.heap.size, 0, none⟩) lv).trans xv0, (hSw.cell (p := ⟨w.heap.size, 1, none⟩) lv).trans xv1, (hSw.cell (p := ⟨w.heap.size, 2, none⟩) lv).trans xv2, (hSw.cell (p := ⟨w.heap.size, 3, none⟩) lv).trans xv3, (hSw.cell (p := ⟨w.heap.size, 4, none⟩) lv).trans xv4, (hSw.cell (p := ⟨w.heap.size, 5, none⟩) lv).trans xv5, (hSw.cell (p := ⟨w.heap.size, 6, none⟩) lv).trans xv6, (hSw.cell (p := ⟨w.heap.size, 7, none⟩) lv).trans xv7, (hSw.cell (p := ⟨b, 0, none⟩) lx).trans xx0, (hSw.cell (p := ⟨b, 1, none⟩) lx).trans xx1, (hSw.cell (p := ⟨p, 0, none⟩) lp).trans xp0⟩ : _ ∧ _ ∧ _ ∧ _ ∧ _ ∧ _ ∧ _ ∧ _ ∧ _ ∧ _ ∧ _))
  have hb : Below W.heap.size W W.drew := (Below.refl _ _).drew
  refine Ord.wp_region_walk (fun w' => Below W.heap.size W w') 8 [(true, 0), (true, 1), (true, 2), (true, 3), (true, 4), (true, 5), (false, 6), (true, 7)] (by kernel_rfl) (by kernel_rfl) (fun _ _ d _ _ h => by cases d <;> exact h) (hb) ?_
  clear hb
  have hb : Below W.heap.size W W.drew := (Below.refl _ _).drew
  generalize W.drew = wd0 at *
  iterate 6
    apply Ord.walk_light
    next => (simp only [la0, la1, la2]; rfl)
    next => rfl
    next => (intro w' hSw; obtain ⟨z0, z1, z2, z3, z4, z5, z6, z7, z8, z9, z10⟩ := HZ.out w' hSw; clear hSw; go_simp; first | done | with_reducible rfl)
    simp only [Act.put, la3, la4, la5]
  apply Ord.walk_heavy
  next => (simp only [la0, la1, la2]; rfl)
  next => rfl
  intro K hK
  go_wp2_with fail
  refine (may_is u _ B cap v.ty 0 g _ HG.out (HU.out.below (((K0.out).trans (hb.mono (K0.out).size))) hB) (Nat.le_trans hB (((K0.out).trans (hb.mono (K0.out).size))).size)).mono ?_; rintro _ v0_1 ⟨rfl, hb'⟩; dsimp only
  refine hK.out _ _ (hb.trans (hb'.mono hb.size)) (fun hHeld => ?_)
  clear hb hb'
  have hb := hHeld
  clear hK K
  try simp only [Act.put, la3, la4, la5]
  apply Ord.walk_light
  next => (simp only [la0, la1, la2]; rfl)
  next => rfl
  next => (intro w' hSw; obtain ⟨z0, z1, z2, z3, z4, z5, z6, z7, z8, z9, z10⟩ := HZ.out w' hSw; clear hSw; go_simp; first | done | with_reducible rfl)
  simp only [Act.put, la3, la4, la5]
  refine Ord.walk_tail ?_; simp only [List.drop_succ_cons, List.drop_zero]
  have hbx := hb
  clear hb HZ
  have Kx1 := Aid.hid ((K0.out).trans (hbx.mono (K0.out).size))
  have Nv_1 := Aid.hid (Nv.out.below hbx Nv.out.lt)
  have Nx_1 := Aid.hid (Nx.out.below hbx Nx.out.lt)
  have Np_1 := Aid.hid (Np.out.below hbx Np.out.lt)
  clear xv0 xv1 xv2 xv3 xv4 xv5 xv6 xv7 lv xx0 xx1 lx xp0 lp
  clear hbx
  go_wp2_with fail
  go_ret
  exact ⟨by rw [← E.out]; rfl, Kx1.out⟩
set_option maxRecDepth 100000 in
set_option maxHeartbeats 4000000 in
theorem face2_is (B : Nat) (m : Md) (r : Bool) (w : World) (hr : Ru.twins m.ps = r) (hm : Rows w B 8 m.pA (m.ps.map Vd.cells)) (hB : B ≤ w.heap.size) (hlen : m.ps.length ≤ 9223372036854775807) (hc : m.ps.length ≤ m.pc) :
    Calls Tryz.prog 29 #[.agg #[.string m.name, .bool m.over, .bool m.abs, .bool m.fin, .slice m.pA m.ps.length m.pc, .int .i64 m.res.k, .int .i64 m.res.lo, .int .i64 m.res.hi, .string m.res.name, .slice m.vA m.vs.length m.vc, .slice m.bA m.body.length m.bc]] w fun z w' => z = .returned (.bool r) ∧ Below w.heap.size w w' := by
  have HMP := Aid.hid hm
  have HR := Aid.hid hr
  obtain ⟨W, hW, qm, k0⟩ := newn1 w [.string m.name, .bool m.over, .bool m.abs, .bool m.fin, .slice m.pA m.ps.length m.pc, .int .i64 m.res.k, .int .i64 m.res.lo, .int .i64 m.res.hi, .string m.res.name, .slice m.vA m.vs.length m.vc, .slice m.bA m.body.length m.bc] 46
  have K0 := Aid.hid k0
  have Nm := Aid.hid qm
  clear qm k0 hr hm
  have xm0 := Nm.out.cell 0 _ rfl
  have xm1 := Nm.out.cell 1 _ rfl
  have xm2 := Nm.out.cell 2 _ rfl
  have xm3 := Nm.out.cell 3 _ rfl
  have xm4 := Nm.out.cell 4 _ rfl
  have xm5 := Nm.out.cell 5 _ rfl
  have xm6 := Nm.out.cell 6 _ rfl
  have xm7 := Nm.out.cell 7 _ rfl
  have xm8 := Nm.out.cell 8 _ rfl
  have xm9 := Nm.out.cell 9 _ rfl
  have xm10 := Nm.out.cell 10 _ rfl
  have lm := Nm.out.lt
  go_enter Tryz.func29, Tryz.ntmps29
  try simp only [List.append_eq, List.cons_append, List.nil_append]
  go_wp2_with fail
  (try clear hW)
  refine (twins_is m.ps m.pA m.pc B r _ HR.out (HMP.out.below (K0.out) hB) (Nat.le_trans hB (K0.out).size) hlen hc).mono ?_; rintro _ w1 ⟨rfl, hb1⟩
  have Kx1 := Aid.hid ((K0.out).trans (hb1.mono (K0.out).size))
  have Nm_1 := Aid.hid (Nm.out.below hb1 Nm.out.lt)
  clear xm0 xm1 xm2 xm3 xm4 xm5 xm6 xm7 xm8 xm9 xm10 lm
  clear hb1
  go_wp2_with fail
  go_ret
  exact ⟨rfl, Kx1.out⟩
set_option maxRecDepth 100000 in
set_option maxHeartbeats 4000000 in
theorem inits1_is (B : Nat) (m : Md) (r : Bool) (w : World) (hr : (m.vs.any fun v => !Ru.first v) = r) (hm : Rows w B 8 m.vA (m.vs.map Vd.cells)) (hB : B ≤ w.heap.size) (hlen : m.vs.length ≤ 9223372036854775807) :
    Calls Tryz.prog 52 #[.agg #[.string m.name, .bool m.over, .bool m.abs, .bool m.fin, .slice m.pA m.ps.length m.pc, .int .i64 m.res.k, .int .i64 m.res.lo, .int .i64 m.res.hi, .string m.res.name, .slice m.vA m.vs.length m.vc, .slice m.bA m.body.length m.bc]] w fun z w' => z = .returned (.bool r) ∧ Below w.heap.size w w' := by
  have HMP := Aid.hid hm
  have HR := Aid.hid hr
  obtain ⟨W, hW, qm, k0⟩ := newn1 w [.string m.name, .bool m.over, .bool m.abs, .bool m.fin, .slice m.pA m.ps.length m.pc, .int .i64 m.res.k, .int .i64 m.res.lo, .int .i64 m.res.hi, .string m.res.name, .slice m.vA m.vs.length m.vc, .slice m.bA m.body.length m.bc] 46
  have K0 := Aid.hid k0
  have Nm := Aid.hid qm
  clear qm k0 hr hm
  have xm0 := Nm.out.cell 0 _ rfl
  have xm1 := Nm.out.cell 1 _ rfl
  have xm2 := Nm.out.cell 2 _ rfl
  have xm3 := Nm.out.cell 3 _ rfl
  have xm4 := Nm.out.cell 4 _ rfl
  have xm5 := Nm.out.cell 5 _ rfl
  have xm6 := Nm.out.cell 6 _ rfl
  have xm7 := Nm.out.cell 7 _ rfl
  have xm8 := Nm.out.cell 8 _ rfl
  have xm9 := Nm.out.cell 9 _ rfl
  have xm10 := Nm.out.cell 10 _ rfl
  have lm := Nm.out.lt
  go_enter Tryz.func52, Tryz.ntmps52
  try simp only [List.append_eq, List.cons_append, List.nil_append]
  go_wp2_with fail
  (try clear hW)
  refine (hasV_is m.vs m.vA m.vc B 40 #[] (fun v => !Ru.first v) r _ HR.out (fun _ _ => enter_of Tryz.func40 (by kernel_rfl) (by kernel_rfl) _ _) (HMP.out.below (K0.out) hB) (Nat.le_trans hB (K0.out).size) hlen (fun v _ w1 _ => never_is v _ w1 rfl)).mono ?_; rintro _ w1 ⟨rfl, hb1⟩
  have Kx1 := Aid.hid ((K0.out).trans (hb1.mono (K0.out).size))
  have Nm_1 := Aid.hid (Nm.out.below hb1 Nm.out.lt)
  clear xm0 xm1 xm2 xm3 xm4 xm5 xm6 xm7 xm8 xm9 xm10 lm
  clear hb1
  go_wp2_with fail
  go_ret
  exact ⟨rfl, Kx1.out⟩
set_option maxRecDepth 100000 in
set_option maxHeartbeats 4000000 in
theorem inits_is (u : List Dk) (a : Option Addr) (B cap b i : Nat) (d : Dk) (r : Bool) (w : World) (hr : Ru.inits d = r) (hx : Aid.Has w b [.slice a u.length cap, .int .i64 (i : Int), .int .i64 d.kind, .string d.name, .string d.base, .slice d.fA d.faces.length d.fc, .bool d.abs, .bool d.fin, .slice d.vA d.vs.length d.vc, .slice d.mA d.ms.length d.mc, .slice d.bA d.body.length d.bc, .int .i64 d.every, .int .i64 d.first] 50) (hd : u[i]? = some d) (hu : UnitAt w B a u) (hB : B ≤ w.heap.size) :
    Calls Tryz.prog 34 #[.pointer (some ⟨b, 0, none⟩)] w fun z w' => z = .returned (.bool r) ∧ Below w.heap.size w w' := by
  obtain ⟨q1, hq1⟩ : ∃ q, (d.vs.any fun v => !Ru.first v) = q := ⟨_, rfl⟩
  obtain ⟨q2, hq2⟩ : ∃ q, (d.ms.any fun m => m.vs.any fun v => !Ru.first v) = q := ⟨_, rfl⟩
  have E : Hid ((q1 || q2) = r) := Aid.hid (by rw [← hr, ← hq1, ← hq2]; rfl)
  have HQ1 := Aid.hid hq1; have HQ2 := Aid.hid hq2
  have hmem := List.mem_of_getElem? hd
  have HDK := Aid.hid (hu.decls d hmem)
  have HU := Aid.hid hu; have HX := Aid.hid hx; have HD := Aid.hid hd
  have sm := hu.small
  have hil : i < u.length := (List.getElem?_eq_some_iff.1 hd).1
  clear hr hq1 hq2 hmem hu hx hd
  go_enter Tryz.func34, Tryz.ntmps34
  try simp only [List.append_eq, List.cons_append, List.nil_append]
  have Nx := Aid.hid (HX.out.below ((Below.refl w.heap.size w)) HX.out.lt)
  have xx0 := Nx.out.cell 0 _ rfl
  have xx1 := Nx.out.cell 1 _ rfl
  have xx2 := Nx.out.cell 2 _ rfl
  have xx3 := Nx.out.cell 3 _ rfl
  have xx4 := Nx.out.cell 4 _ rfl
  have xx5 := Nx.out.cell 5 _ rfl
  have xx6 := Nx.out.cell 6 _ rfl
  have xx7 := Nx.out.cell 7 _ rfl
  have xx8 := Nx.out.cell 8 _ rfl
  have xx9 := Nx.out.cell 9 _ rfl
  have xx10 := Nx.out.cell 10 _ rfl
  have xx11 := Nx.out.cell 11 _ rfl
  have xx12 := Nx.out.cell 12 _ rfl
  have lx := Nx.out.lt
  go_wp2_with fail
  refine (hasV_is d.vs d.vA d.vc B 40 #[] (fun v => !Ru.first v) q1 _ HQ1.out (fun _ _ => enter_of Tryz.func40 (by kernel_rfl) (by kernel_rfl) _ _) (HDK.out.vars.below ((Below.refl w.heap.size w)) hB) (Nat.le_trans hB ((Below.refl w.heap.size w)).size) HDK.out.smallV (fun v _ w1 _ => never_is v _ w1 rfl)).mono ?_; rintro _ w1 ⟨rfl, hb1⟩
  have Kx1 := Aid.hid (((Below.refl w.heap.size w)).trans (hb1.mono ((Below.refl w.heap.size w)).size))
  have Nx_1 := Aid.hid (Nx.out.below hb1 Nx.out.lt)
  clear xx0 xx1 xx2 xx3 xx4 xx5 xx6 xx7 xx8 xx9 xx10 xx11 xx12 lx
  clear hb1
  have xx0 := Nx_1.out.cell 0 _ rfl
  have xx1 := Nx_1.out.cell 1 _ rfl
  have xx2 := Nx_1.out.cell 2 _ rfl
  have xx3 := Nx_1.out.cell 3 _ rfl
  have xx4 := Nx_1.out.cell 4 _ rfl
  have xx5 := Nx_1.out.cell 5 _ rfl
  have xx6 := Nx_1.out.cell 6 _ rfl
  have xx7 := Nx_1.out.cell 7 _ rfl
  have xx8 := Nx_1.out.cell 8 _ rfl
  have xx9 := Nx_1.out.cell 9 _ rfl
  have xx10 := Nx_1.out.cell 10 _ rfl
  have xx11 := Nx_1.out.cell 11 _ rfl
  have xx12 := Nx_1.out.cell 12 _ rfl
  have lx := Nx_1.out.lt
  cases q1
  · go_wp2_with fail
    refine (hasM_is d.ms d.mA d.mc B 52 #[] (fun m => m.vs.any fun v => !Ru.first v) q2 _ HQ2.out (fun _ _ => enter_of Tryz.func52 (by kernel_rfl) (by kernel_rfl) _ _) (HDK.out.meths.below (Kx1.out) hB) (Nat.le_trans hB (Kx1.out).size) HDK.out.smallM (fun m hm w1 hb1 => inits1_is B m _ w1 rfl ((HDK.out.each m hm).vars.below ((Kx1.out).trans (hb1.mono (Kx1.out).size)) hB) (Nat.le_trans hB (Nat.le_trans (Kx1.out).size hb1.size)) (HDK.out.each m hm).smallV)).mono ?_; rintro _ w2 ⟨rfl, hb2⟩
    have Kx2 := Aid.hid ((Kx1.out).trans (hb2.mono (Kx1.out).size))
    have Nx_2 := Aid.hid (Nx_1.out.below hb2 Nx_1.out.lt)
    clear xx0 xx1 xx2 xx3 xx4 xx5 xx6 xx7 xx8 xx9 xx10 xx11 xx12 lx
    clear hb2
    go_wp2_with fail
    go_ret
    exact ⟨by rw [← E.out]; rfl, Kx2.out⟩
  · go_wp2_with fail
    go_ret
    exact ⟨by rw [← E.out]; rfl, Kx1.out⟩
end Go.Proofs.YtejifefgmlpclaaGreat
/- What is wrong with an interface: as walks. -/
namespace Go.Proofs.YtejifefgmlpclaaGreat
open Go.RowKit

theorem no_step {α : Type} {p : α → Bool} {l : List α} {k : Nat} {x : α} (h : ∀ j, j < k → ∀ e, l[j]? = some e → p e = false) (hx : l[k]? = some x) (hp : p x = false) : ∀ j, j < k + 1 → ∀ e, l[j]? = some e → p e = false := fun j hj e he => by
  rcases Nat.lt_or_ge j k with h1 | h1
  · exact h j h1 e he
  · obtain rfl : j = k := by omega
    rw [hx] at he
    obtain rfl := Option.some.inj he
    exact hp
set_option maxRecDepth 100000 in
set_option maxHeartbeats 4000000 in
theorem indexS_is (A : Option Addr) (c B : Nat) (l : List ByteArray) (x : ByteArray) (w : World) (hR : Rows w B 1 A (l.map fun s => [.string s])) (hl : l.length ≤ 9223372036854775807) :
    Calls Tryz.prog 62 #[.slice A l.length c, .string x] w fun e w' => ∃ k : Int, e = .returned (.int .i64 k) ∧ decide (0 ≤ k) = l.any (fun t => x.toList == t.toList) ∧ w = w' := by
  have H := Aid.hid hR
  clear hR
  go_enter Tryz.func62, Tryz.ntmps62
  try simp only [List.append_eq, List.cons_append, List.nil_append]
  go_wp2_with fail
  go_loopw [8] (fun i wr => ∃ k : Nat, i = .int .i64 k ∧ k ≤ l.length ∧ Hid (∀ j, j < k → ∀ e, l[j]? = some e → (x.toList == e.toList) = false) ∧ wr = w) (fun i _ => l.length - (intOf i).toNat)
  case atStart => exact ⟨0, rfl, Nat.zero_le _, Aid.hid (fun j hj => by omega), rfl⟩
  case round =>
    obtain ⟨k, rfl, hk, NO, rfl⟩ := hrel
    by_cases hlt : k < l.length
    · obtain ⟨b, off, rfl, _, hc⟩ := H.out.at_map (by omega)
      obtain ⟨z, hz⟩ : ∃ z, l[k]? = some z := ⟨_, List.getElem?_eq_getElem hlt⟩
      have c1 := hc k z hz 0 _ rfl
      simp only [Nat.add_zero, Nat.mul_one] at c1
      have HZ := Aid.hid hz
      clear hc hz
      cases he : (x.toList == z.toList)
      · have NX : Hid (∀ j, j < k + 1 → ∀ e, l[j]? = some e → (x.toList == e.toList) = false) := Aid.hid (no_step (p := fun t => x.toList == t.toList) NO.out HZ.out he)
        go_wp2_with fail
        go_roundw
        case rel => exact ⟨k + 1, by go_num, by omega, NX, trivial⟩
        case measure => simp [intOf]; omega
      · have E := Aid.hid (any_hit (p := fun t => x.toList == t.toList) HZ.out he)
        go_wp2_with fail
        go_ret
        exact ⟨k, rfl, by rw [E.out]; simp, rfl⟩
    · have E := Aid.hid (any_miss (p := fun t => x.toList == t.toList) (l := l) (fun j hj => NO.out j (by omega)))
      go_wp2_with fail
      go_ret
      exact ⟨-1, rfl, by rw [E.out]; rfl, rfl⟩
set_option maxRecDepth 100000 in
set_option maxHeartbeats 4000000 in
theorem containsS_is (A : Option Addr) (c B : Nat) (l : List ByteArray) (x : ByteArray) (r : Bool) (w : World) (hr : l.any (fun t => t.toList == x.toList) = r) (h : Rows w B 1 A (l.map fun s => [.string s])) (hl : l.length ≤ 9223372036854775807) :
    Calls Tryz.prog 49 #[.slice A l.length c, .string x] w fun e w' => e = .returned (.bool r) ∧ Below w.heap.size w w' := by
  have H := Aid.hid h
  have HR : Hid (l.any (fun t => x.toList == t.toList) = r) := Aid.hid (by rw [← hr]; congr 1; funext t; exact Bool.beq_comm)
  clear h hr
  go_enter Tryz.func49, Tryz.ntmps49
  go_wp2_with fail
  refine (indexS_is A c B l x w H.out hl).mono ?_; rintro e w' ⟨k, rfl, hk, rfl⟩
  rw [HR.out] at hk
  cases r <;> (go_wp2_with fail; go_ret; exact ⟨rfl, Below.refl _ _⟩)
def Ru.faceM (u : List Dk) (m : Md) : Bool := (m.ps.any fun v => !Ru.may u v.ty 0) || !Ru.result m.res
theorem Ru.face_eq (u : List Dk) (x : Dk) : Ru.face u x = if x.ms.any (Ru.faceM u) = true then 9 else if (Ru.twiceM x.ms || x.ms.any fun m => Ru.twins m.ps) = true then 6 else 0 := rfl
set_option maxRecDepth 100000 in
set_option maxHeartbeats 4000000 in
theorem face_is (u : List Dk) (a : Option Addr) (B cap b i : Nat) (d : Dk) (r : Int) (w : World) (hr : Ru.face u d = r) (hcap : UCap u cap) (hx : Aid.Has w b [.slice a u.length cap, .int .i64 (i : Int), .int .i64 d.kind, .string d.name, .string d.base, .slice d.fA d.faces.length d.fc, .bool d.abs, .bool d.fin, .slice d.vA d.vs.length d.vc, .slice d.mA d.ms.length d.mc, .slice d.bA d.body.length d.bc, .int .i64 d.every, .int .i64 d.first] 50) (hd : u[i]? = some d) (hu : UnitAt w B a u) (hB : B ≤ w.heap.size) :
    Calls Tryz.prog 15 #[.pointer (some ⟨b, 0, none⟩)] w fun z w' => z = .returned (.int .i64 r) ∧ Below w.heap.size w w' := by
  have HR := Aid.hid hr
  have hmem := List.mem_of_getElem? hd
  have HDK := Aid.hid (hu.decls d hmem)
  have smM := HDK.out.smallM; have smV := HDK.out.smallV; have smF := HDK.out.smallF
  have HCP := Aid.hid hcap
  have HU := Aid.hid hu; have HX := Aid.hid hx; have HD := Aid.hid hd
  have sm := hu.small
  have hil : i < u.length := (List.getElem?_eq_some_iff.1 hd).1
  obtain ⟨W, hW, qp, k0⟩ := newn1 w [.pointer (some ⟨b, 0, none⟩)] 48
  have K0 := Aid.hid k0
  have Np := Aid.hid qp
  clear qp k0 hr hmem hcap hu hx hd
  have xp0 := Np.out.cell 0 _ rfl
  have lp := Np.out.lt
  go_enter Tryz.func15, Tryz.ntmps15
  try simp only [List.append_eq, List.cons_append, List.nil_append]
  have Nx := Aid.hid (HX.out.below (K0.out) HX.out.lt)
  have xx9 := Nx.out.cell 9 _ rfl
  have lx := Nx.out.lt
  go_wp2_with fail
  clear xp0 lp xx9 lx
  go_loopw [13] (fun vi wi => ∃ k : Nat, vi = .int .i64 k ∧ k ≤ d.ms.length ∧ Hid (∀ j, j < k → ∀ e, d.ms[j]? = some e → Ru.faceM u e = false) ∧ Hid (Below W.heap.size W wi)) (fun vi _ => d.ms.length - (intOf vi).toNat)
  case atStart => exact ⟨0, rfl, Nat.zero_le _, Aid.hid (fun j hj => by omega), Aid.hid (Below.refl _ _)⟩
  case round =>
    obtain ⟨k, rfl, hk, NO, HB⟩ := hrel
    have KHB := Aid.hid ((K0.out).trans (HB.out.mono (K0.out).size))
    have Np_HB := Aid.hid (Np.out.below HB.out Np.out.lt)
    have Nx_HB := Aid.hid (Nx.out.below HB.out Nx.out.lt)
    by_cases hkl : k < d.ms.length
    · obtain ⟨mb, mo, emA, lmb, hc_m⟩ := (HDK.out.meths.below (KHB.out) hB).at_map (by omega)
      obtain ⟨m, hm⟩ : ∃ x, d.ms[k]? = some x := ⟨_, List.getElem?_eq_getElem hkl⟩
      have HM := Aid.hid hm
      have llm : mb < wr.heap.size := Nat.lt_of_lt_of_le lmb (Nat.le_trans hB (KHB.out).size)
      have c0 := hc_m k m hm 0 _ rfl
      have c1 := hc_m k m hm 1 _ rfl
      have c2 := hc_m k m hm 2 _ rfl
      have c3 := hc_m k m hm 3 _ rfl
      have c4 := hc_m k m hm 4 _ rfl
      have c5 := hc_m k m hm 5 _ rfl
      have c6 := hc_m k m hm 6 _ rfl
      have c7 := hc_m k m hm 7 _ rfl
      have c8 := hc_m k m hm 8 _ rfl
      have c9 := hc_m k m hm 9 _ rfl
      have c10 := hc_m k m hm 10 _ rfl
      simp only [Nat.add_zero] at c0
      clear hc_m hm lmb
      rw [emA]
      obtain ⟨X1, hX⟩ : ∃ X, wr.alloc (.cells #[.string m.name, .bool m.over, .bool m.abs, .bool m.fin, .slice m.pA m.ps.length m.pc, .int .i64 m.res.k, .int .i64 m.res.lo, .int .i64 m.res.hi, .string m.res.name, .slice m.vA m.vs.length m.vc, .slice m.bA m.body.length m.bc] 46) = X := ⟨_, rfl⟩
      have qm := new_at hX
      have qp := all_at hX Np_HB.out
      have qx := all_at hX Nx_HB.out
      have qqk := below_at hX (KHB.out)
      have qqs := below_at0 hX
      have Np_1 := Aid.hid qp
      have Nx_1 := Aid.hid qx
      have Nm_1 := Aid.hid qm
      have Kx1 := Aid.hid qqk
      have Qs1 := Aid.hid qqs
      clear qqk qqs qp qx qm
      have xm4 := Nm_1.out.cell 4 _ rfl
      have xm5 := Nm_1.out.cell 5 _ rfl
      have xm6 := Nm_1.out.cell 6 _ rfl
      have xm7 := Nm_1.out.cell 7 _ rfl
      have xm8 := Nm_1.out.cell 8 _ rfl
      have lm := Nm_1.out.lt
      have R2_1 := Aid.hid ((HB).out.trans (Qs1.out.mono (HB).out.size))
      go_wp2_with fail
      (try clear hX)
      clear c0 c1 c2 c3 c4 c5 c6 c7 c8 c9 c10 llm
      (try clear hW)
      obtain ⟨q1, hq1⟩ : ∃ q, (m.ps.any fun v => !Ru.may u v.ty 0) = q := ⟨_, rfl⟩
      obtain ⟨q2, hq2⟩ : ∃ q, Ru.result m.res = q := ⟨_, rfl⟩
      have E : Hid (Ru.faceM u m = (q1 || !q2)) := Aid.hid (by rw [← hq1, ← hq2]; rfl)
      have HQ1 := Aid.hid hq1; have HQ2 := Aid.hid hq2
      clear hq1 hq2
      have HMK := Aid.hid (HDK.out.each m (List.mem_of_getElem? HM.out))
      refine (hasV_is m.ps m.pA m.pc B 24 #[.pointer (some ⟨w.heap.size, 0, none⟩)] (fun v => !Ru.may u v.ty 0) q1 _ HQ1.out (fun _ _ => enter_of Tryz.func24 (by kernel_rfl) (by kernel_rfl) _ _) (HMK.out.params.below (Kx1.out) hB) (Nat.le_trans hB (Kx1.out).size) HMK.out.smallP (fun v _ w1 hb1 => face1_is u a B cap b i d v (w.heap.size) _ w1 rfl (Np_1.out.below hb1 Np_1.out.lt) (Nx_1.out.below hb1 Nx_1.out.lt) HD.out (HU.out.below ((Kx1.out).trans (hb1.mono (Kx1.out).size)) hB) (Nat.le_trans hB (Nat.le_trans (Kx1.out).size hb1.size)))).mono ?_; rintro _ w2 ⟨rfl, hb2⟩
      have R2_2 := Aid.hid ((R2_1).out.trans (hb2.mono (R2_1).out.size))
      have Kx2 := Aid.hid ((Kx1.out).trans (hb2.mono (Kx1.out).size))
      have Np_2 := Aid.hid (Np_1.out.below hb2 Np_1.out.lt)
      have Nx_2 := Aid.hid (Nx_1.out.below hb2 Nx_1.out.lt)
      have Nm_2 := Aid.hid (Nm_1.out.below hb2 Nm_1.out.lt)
      clear xm4 xm5 xm6 xm7 xm8 lm
      clear hb2
      have xm5 := Nm_2.out.cell 5 _ rfl
      have xm6 := Nm_2.out.cell 6 _ rfl
      have xm7 := Nm_2.out.cell 7 _ rfl
      have xm8 := Nm_2.out.cell 8 _ rfl
      have lm := Nm_2.out.lt
      cases q1
      · go_wp2_with fail
        refine (result_is m.res q2 _ HQ2.out).mono ?_; rintro _ w3 ⟨rfl, hb3⟩
        have R3_3 := Aid.hid ((R2_2).out.trans (hb3.mono (R2_2).out.size))
        have Kx3 := Aid.hid ((Kx2.out).trans (hb3.mono (Kx2.out).size))
        have Np_3 := Aid.hid (Np_2.out.below hb3 Np_2.out.lt)
        have Nx_3 := Aid.hid (Nx_2.out.below hb3 Nx_2.out.lt)
        have Nm_3 := Aid.hid (Nm_2.out.below hb3 Nm_2.out.lt)
        clear xm5 xm6 xm7 xm8 lm
        clear hb3
        cases q2
        · obtain rfl : 9 = r := by rw [← HR.out, Ru.face_eq, if_pos (any_hit HM.out E.out)]
          go_wp2_with fail
          go_ret
          exact ⟨rfl, Kx3.out⟩
        · have NX := Aid.hid (no_step NO.out HM.out E.out)
          go_wp2_with fail
          go_roundw
          case rel => exact ⟨k + 1, by go_num, by omega, NX, R3_3⟩
          case measure => simp [intOf]; omega
      · obtain rfl : 9 = r := by rw [← HR.out, Ru.face_eq, if_pos (any_hit HM.out E.out)]
        go_wp2_with fail
        go_ret
        exact ⟨rfl, Kx2.out⟩
    · have E9 := Aid.hid (any_miss (p := Ru.faceM u) (l := d.ms) (fun j hj => NO.out j (by omega)))
      obtain ⟨q1, hq1⟩ : ∃ q, Ru.twiceM d.ms = q := ⟨_, rfl⟩
      obtain ⟨q2, hq2⟩ : ∃ q, (d.ms.any fun m => Ru.twins m.ps) = q := ⟨_, rfl⟩
      have E : Hid ((if (q1 || q2) = true then (6 : Int) else 0) = r) := Aid.hid (by rw [← HR.out, Ru.face_eq, E9.out, ← hq1, ← hq2]; rfl)
      have HQ1 := Aid.hid hq1; have HQ2 := Aid.hid hq2
      clear hq1 hq2
      have xx9 := Nx_HB.out.cell 9 _ rfl
      have lx := Nx_HB.out.lt
      have xp0 := Np_HB.out.cell 0 _ rfl
      have lp := Np_HB.out.lt
      go_wp2_with fail
      refine (twice_is d.ms d.mA d.mc B q1 _ HQ1.out (HDK.out.meths.below (KHB.out) hB) (Nat.le_trans hB (KHB.out).size) HDK.out.smallM (HCP.out.m d (List.mem_of_getElem? HD.out))).mono ?_; rintro _ w1 ⟨rfl, hb1⟩
      have Kx1 := Aid.hid ((KHB.out).trans (hb1.mono (KHB.out).size))
      have Np_1 := Aid.hid (Np_HB.out.below hb1 Np_HB.out.lt)
      have Nx_1 := Aid.hid (Nx_HB.out.below hb1 Nx_HB.out.lt)
      clear xx9 lx xp0 lp
      clear hb1
      have xx9 := Nx_1.out.cell 9 _ rfl
      have lx := Nx_1.out.lt
      have xp0 := Np_1.out.cell 0 _ rfl
      have lp := Np_1.out.lt
      cases q1
      · go_wp2_with fail
        refine (hasM_is d.ms d.mA d.mc B 29 #[] (fun m => Ru.twins m.ps) q2 _ HQ2.out (fun _ _ => enter_of Tryz.func29 (by kernel_rfl) (by kernel_rfl) _ _) (HDK.out.meths.below (Kx1.out) hB) (Nat.le_trans hB (Kx1.out).size) HDK.out.smallM (fun m hm w1 hb1 => face2_is B m _ w1 rfl ((HDK.out.each m hm).params.below ((Kx1.out).trans (hb1.mono (Kx1.out).size)) hB) (Nat.le_trans hB (Nat.le_trans (Kx1.out).size hb1.size)) (HDK.out.each m hm).smallP (HCP.out.p d (List.mem_of_getElem? HD.out) m hm))).mono ?_; rintro _ w2 ⟨rfl, hb2⟩
        have Kx2 := Aid.hid ((Kx1.out).trans (hb2.mono (Kx1.out).size))
        have Np_2 := Aid.hid (Np_1.out.below hb2 Np_1.out.lt)
        have Nx_2 := Aid.hid (Nx_1.out.below hb2 Nx_1.out.lt)
        clear xx9 lx xp0 lp
        clear hb2
        cases q2
        · obtain rfl : 0 = r := E.out
          go_wp2_with fail
          go_ret
          exact ⟨rfl, Kx2.out⟩
        · obtain rfl : 6 = r := E.out
          go_wp2_with fail
          go_ret
          exact ⟨rfl, Kx2.out⟩
      · obtain rfl : 6 = r := E.out
        go_wp2_with fail
        go_ret
        exact ⟨rfl, Kx1.out⟩
end Go.Proofs.YtejifefgmlpclaaGreat
/- What types a class may have, what its base must be: as walks. -/
namespace Go.Proofs.YtejifefgmlpclaaGreat
open Go.RowKit

def Ru.kindsM (u : List Dk) (m : Md) : Bool := m.ps.any (Ru.odd u 0) || (m.vs.any (Ru.odd u 1) || !Ru.result m.res)
theorem Ru.kinds_eq (u : List Dk) (x : Dk) : Ru.kinds u x = (x.vs.any (Ru.odd u 1) || x.ms.any (Ru.kindsM u)) := rfl
set_option maxRecDepth 100000 in
set_option maxHeartbeats 4000000 in
theorem kinds1_is (u : List Dk) (a : Option Addr) (B cap b i : Nat) (d : Dk) (m : Md) (p : Nat) (r : Bool) (w : World) (hr : Ru.kindsM u m = r) (hm : MdAt w B m) (hp : Aid.Has w p [.pointer (some ⟨b, 0, none⟩)] 48) (hx : Aid.Has w b [.slice a u.length cap, .int .i64 (i : Int), .int .i64 d.kind, .string d.name, .string d.base, .slice d.fA d.faces.length d.fc, .bool d.abs, .bool d.fin, .slice d.vA d.vs.length d.vc, .slice d.mA d.ms.length d.mc, .slice d.bA d.body.length d.bc, .int .i64 d.every, .int .i64 d.first] 50) (hd : u[i]? = some d) (hu : UnitAt w B a u) (hB : B ≤ w.heap.size) :
    Calls Tryz.prog 51 #[.agg #[.string m.name, .bool m.over, .bool m.abs, .bool m.fin, .slice m.pA m.ps.length m.pc, .int .i64 m.res.k, .int .i64 m.res.lo, .int .i64 m.res.hi, .string m.res.name, .slice m.vA m.vs.length m.vc, .slice m.bA m.body.length m.bc], .pointer (some ⟨p, 0, none⟩)] w fun z w' => z = .returned (.bool r) ∧ Below w.heap.size w w' := by
  have HPP := Aid.hid hp
  obtain ⟨q1, hq1⟩ : ∃ g, m.ps.any (Ru.odd u 0) = g := ⟨_, rfl⟩
  obtain ⟨q2, hq2⟩ : ∃ g, m.vs.any (Ru.odd u 1) = g := ⟨_, rfl⟩
  obtain ⟨q3, hq3⟩ : ∃ g, Ru.result m.res = g := ⟨_, rfl⟩
  have E : Hid ((q1 || (q2 || !q3)) = r) := Aid.hid (by rw [← hr, ← hq1, ← hq2, ← hq3]; rfl)
  have HQ1 := Aid.hid hq1; have HQ2 := Aid.hid hq2; have HQ3 := Aid.hid hq3
  have HMK := Aid.hid hm
  have HU := Aid.hid hu; have HX := Aid.hid hx; have HD := Aid.hid hd
  have sm := hu.small
  have hil : i < u.length := (List.getElem?_eq_some_iff.1 hd).1
  obtain ⟨W, hW, qm, k0⟩ := newn1 w [.string m.name, .bool m.over, .bool m.abs, .bool m.fin, .slice m.pA m.ps.length m.pc, .int .i64 m.res.k, .int .i64 m.res.lo, .int .i64 m.res.hi, .string m.res.name, .slice m.vA m.vs.length m.vc, .slice m.bA m.body.length m.bc] 46
  have K0 := Aid.hid k0
  have Nm := Aid.hid qm
  clear qm k0 hr hp hq1 hq2 hq3 hm hu hx hd
  have xm4 := Nm.out.cell 4 _ rfl
  have xm5 := Nm.out.cell 5 _ rfl
  have xm6 := Nm.out.cell 6 _ rfl
  have xm7 := Nm.out.cell 7 _ rfl
  have xm8 := Nm.out.cell 8 _ rfl
  have xm9 := Nm.out.cell 9 _ rfl
  have lm := Nm.out.lt
  go_enter Tryz.func51, Tryz.ntmps51
  try simp only [List.append_eq, List.cons_append, List.nil_append]
  have Nx := Aid.hid (HX.out.below (K0.out) HX.out.lt)
  have Np := Aid.hid (HPP.out.below (K0.out) HPP.out.lt)
  have xp0 := Np.out.cell 0 _ rfl
  have lp := Np.out.lt
  go_wp2_with fail
  cases q1
  · cases q2
    · have HZ := Aid.hid (fun (w' : World) (hSw : Below W.heap.size W w') => (⟨(hSw.cell (p := ⟨w.heap.size, 4, none⟩) lm).trans xm4, (hSw.cell (p := ⟨w.heap.size, 5, none⟩) lm).trans xm5, (hSw.cell (p := ⟨w.heap.size, 6, none⟩) lm).trans xm6, (hSw.cell (p := ⟨w.heap.size, 7, none⟩) lm).trans xm7, (hSw.cell (p := ⟨w.heap.size, 8, none⟩) lm).trans xm8, (hSw.cell (p := ⟨w.heap.size, 9, none⟩) lm).trans xm9, (hSw.cell (p := ⟨p, 0, none⟩) lp).trans xp0⟩ : _ ∧ _ ∧ _ ∧ _ ∧ _ ∧ _ ∧ _))
      have hb : Below W.heap.size W W.drew := (Below.refl _ _).drew
      refine Ord.wp_region_walk (fun w' => Below W.heap.size W w') 18 [(true, 0), (true, 1), (true, 2), (false, 3), (false, 4), (true, 5), (true, 6), (true, 7), (true, 8), (false, 9), (false, 10), (true, 11), (true, 12), (true, 13), (true, 14), (false, 15), (true, 16), (true, 17)] (by kernel_rfl) (by kernel_rfl) (fun _ _ d _ _ h => by cases d <;> exact h) (hb) ?_
      clear hb
      have hb : Below W.heap.size W W.drew := (Below.refl _ _).drew
      generalize W.drew = wd0 at *
      iterate 3
        apply Ord.walk_light
        next => (simp only [la0, la1, la2]; rfl)
        next => rfl
        next => (intro w' hSw; obtain ⟨z0, z1, z2, z3, z4, z5, z6⟩ := HZ.out w' hSw; clear hSw; go_simp; first | done | with_reducible rfl)
        simp only [Act.put, la3, la4, la5]
      apply Ord.walk_heavy
      next => (simp only [la0, la1, la2]; rfl)
      next => rfl
      intro K hK
      go_wp2_with fail
      refine (odd_is b 0 _).mono ?_; rintro _ v0_1 ⟨p1, p2, rfl, hp1, hp2, hb'⟩; dsimp only
      refine hK.out _ _ (hb.trans (hb'.mono hb.size)) (fun hHeld => ?_)
      clear hb hb'
      have hb := hHeld
      clear hK K
      try simp only [Act.put, la3, la4, la5]
      apply Ord.walk_heavy
      next => (simp only [la0, la1, la2]; rfl)
      next => rfl
      intro K hK
      go_wp2_with fail
      refine (hasV_is m.ps m.pA m.pc B 63 #[.pointer (some ⟨p1, 0, none⟩), .pointer (some ⟨p2, 0, none⟩)] (Ru.odd u 0) _ _ HQ1.out (fun _ _ => enter_of Tryz.func63 (by kernel_rfl) (by kernel_rfl) _ _) (HMK.out.params.below (((K0.out).trans (hb.mono (K0.out).size))) hB) (Nat.le_trans hB (((K0.out).trans (hb.mono (K0.out).size))).size) HMK.out.smallP (fun v _ w1 hb1 => odd1_is u a B cap b i d v p1 p2 0 _ w1 rfl (hp1.below hb1 hp1.lt) (hp2.below hb1 hp2.lt) (Nx.out.below (hb.trans (hb1.mono hb.size)) Nx.out.lt) HD.out (HU.out.below ((((K0.out).trans (hb.mono (K0.out).size))).trans (hb1.mono (((K0.out).trans (hb.mono (K0.out).size))).size)) hB) (Nat.le_trans hB (Nat.le_trans (((K0.out).trans (hb.mono (K0.out).size))).size hb1.size)))).mono ?_; rintro _ v0_2 ⟨rfl, hb'⟩; dsimp only
      refine hK.out _ _ (hb.trans (hb'.mono hb.size)) (fun hHeld => ?_)
      clear hb hb'
      have hb := hHeld
      clear hK K
      try simp only [Act.put, la3, la4, la5]
      iterate 4
        apply Ord.walk_light
        next => (simp only [la0, la1, la2]; rfl)
        next => rfl
        next => (intro w' hSw; obtain ⟨z0, z1, z2, z3, z4, z5, z6⟩ := HZ.out w' hSw; clear hSw; go_simp; first | done | with_reducible rfl)
        simp only [Act.put, la3, la4, la5]
      apply Ord.walk_heavy
      next => (simp only [la0, la1, la2]; rfl)
      next => rfl
      intro K hK
      go_wp2_with fail
      refine (odd_is b 1 _).mono ?_; rintro _ v0_3 ⟨p3, p4, rfl, hp3, hp4, hb'⟩; dsimp only
      refine hK.out _ _ (hb.trans (hb'.mono hb.size)) (fun hHeld => ?_)
      clear hb hb'
      have hb := hHeld
      clear hK K
      try simp only [Act.put, la3, la4, la5]
      apply Ord.walk_heavy
      next => (simp only [la0, la1, la2]; rfl)
      next => rfl
      intro K hK
      go_wp2_with fail
      refine (hasV_is m.vs m.vA m.vc B 63 #[.pointer (some ⟨p3, 0, none⟩), .pointer (some ⟨p4, 0, none⟩)] (Ru.odd u 1) _ _ HQ2.out (fun _ _ => enter_of Tryz.func63 (by kernel_rfl) (by kernel_rfl) _ _) (HMK.out.vars.below (((K0.out).trans (hb.mono (K0.out).size))) hB) (Nat.le_trans hB (((K0.out).trans (hb.mono (K0.out).size))).size) HMK.out.smallV (fun v _ w1 hb1 => odd1_is u a B cap b i d v p3 p4 1 _ w1 rfl (hp3.below hb1 hp3.lt) (hp4.below hb1 hp4.lt) (Nx.out.below (hb.trans (hb1.mono hb.size)) Nx.out.lt) HD.out (HU.out.below ((((K0.out).trans (hb.mono (K0.out).size))).trans (hb1.mono (((K0.out).trans (hb.mono (K0.out).size))).size)) hB) (Nat.le_trans hB (Nat.le_trans (((K0.out).trans (hb.mono (K0.out).size))).size hb1.size)))).mono ?_; rintro _ v0_4 ⟨rfl, hb'⟩; dsimp only
      refine hK.out _ _ (hb.trans (hb'.mono hb.size)) (fun hHeld => ?_)
      clear hb hb'
      have hb := hHeld
      clear hK K
      try simp only [Act.put, la3, la4, la5]
      iterate 4
        apply Ord.walk_light
        next => (simp only [la0, la1, la2]; rfl)
        next => rfl
        next => (intro w' hSw; obtain ⟨z0, z1, z2, z3, z4, z5, z6⟩ := HZ.out w' hSw; clear hSw; go_simp; first | done | with_reducible rfl)
        simp only [Act.put, la3, la4, la5]
      apply Ord.walk_heavy
      next => (simp only [la0, la1, la2]; rfl)
      next => rfl
      intro K hK
      go_wp2_with fail
      refine (result_is m.res q3 _ HQ3.out).mono ?_; rintro _ v0_5 ⟨rfl, hb'⟩; dsimp only
      refine hK.out _ _ (hb.trans (hb'.mono hb.size)) (fun hHeld => ?_)
      clear hb hb'
      have hb := hHeld
      clear hK K
      try simp only [Act.put, la3, la4, la5]
      iterate 2
        apply Ord.walk_light
        next => (simp only [la0, la1, la2]; rfl)
        next => rfl
        next => (intro w' hSw; obtain ⟨z0, z1, z2, z3, z4, z5, z6⟩ := HZ.out w' hSw; clear hSw; go_simp; first | done | with_reducible rfl)
        simp only [Act.put, la3, la4, la5]
      refine Ord.walk_tail ?_; simp only [List.drop_succ_cons, List.drop_zero]
      have hbx := hb
      clear hb HZ
      have Kx1 := Aid.hid ((K0.out).trans (hbx.mono (K0.out).size))
      have Nm_1 := Aid.hid (Nm.out.below hbx Nm.out.lt)
      have Nx_1 := Aid.hid (Nx.out.below hbx Nx.out.lt)
      have Np_1 := Aid.hid (Np.out.below hbx Np.out.lt)
      clear xm4 xm5 xm6 xm7 xm8 xm9 lm xp0 lp
      clear hbx
      go_wp2_with fail
      go_ret
      exact ⟨by rw [← E.out]; rfl, Kx1.out⟩
    · have HZ := Aid.hid (fun (w' : World) (hSw : Below W.heap.size W w') => (⟨(hSw.cell (p := ⟨w.heap.size, 4, none⟩) lm).trans xm4, (hSw.cell (p := ⟨w.heap.size, 5, none⟩) lm).trans xm5, (hSw.cell (p := ⟨w.heap.size, 6, none⟩) lm).trans xm6, (hSw.cell (p := ⟨w.heap.size, 7, none⟩) lm).trans xm7, (hSw.cell (p := ⟨w.heap.size, 8, none⟩) lm).trans xm8, (hSw.cell (p := ⟨w.heap.size, 9, none⟩) lm).trans xm9, (hSw.cell (p := ⟨p, 0, none⟩) lp).trans xp0⟩ : _ ∧ _ ∧ _ ∧ _ ∧ _ ∧ _ ∧ _))
      have hb : Below W.heap.size W W.drew := (Below.refl _ _).drew
      refine Ord.wp_region_walk (fun w' => Below W.heap.size W w') 18 [(true, 0), (true, 1), (true, 2), (false, 3), (false, 4), (true, 5), (true, 6), (true, 7), (true, 8), (false, 9), (false, 10), (true, 11), (true, 12), (true, 13), (true, 14), (false, 15), (true, 16), (true, 17)] (by kernel_rfl) (by kernel_rfl) (fun _ _ d _ _ h => by cases d <;> exact h) (hb) ?_
      clear hb
      have hb : Below W.heap.size W W.drew := (Below.refl _ _).drew
      generalize W.drew = wd0 at *
      iterate 3
        apply Ord.walk_light
        next => (simp only [la0, la1, la2]; rfl)
        next => rfl
        next => (intro w' hSw; obtain ⟨z0, z1, z2, z3, z4, z5, z6⟩ := HZ.out w' hSw; clear hSw; go_simp; first | done | with_reducible rfl)
        simp only [Act.put, la3, la4, la5]
      apply Ord.walk_heavy
      next => (simp only [la0, la1, la2]; rfl)
      next => rfl
      intro K hK
      go_wp2_with fail
      refine (odd_is b 0 _).mono ?_; rintro _ v0_1 ⟨p1, p2, rfl, hp1, hp2, hb'⟩; dsimp only
      refine hK.out _ _ (hb.trans (hb'.mono hb.size)) (fun hHeld => ?_)
      clear hb hb'
      have hb := hHeld
      clear hK K
      try simp only [Act.put, la3, la4, la5]
      apply Ord.walk_heavy
      next => (simp only [la0, la1, la2]; rfl)
      next => rfl
      intro K hK
      go_wp2_with fail
      refine (hasV_is m.ps m.pA m.pc B 63 #[.pointer (some ⟨p1, 0, none⟩), .pointer (some ⟨p2, 0, none⟩)] (Ru.odd u 0) _ _ HQ1.out (fun _ _ => enter_of Tryz.func63 (by kernel_rfl) (by kernel_rfl) _ _) (HMK.out.params.below (((K0.out).trans (hb.mono (K0.out).size))) hB) (Nat.le_trans hB (((K0.out).trans (hb.mono (K0.out).size))).size) HMK.out.smallP (fun v _ w1 hb1 => odd1_is u a B cap b i d v p1 p2 0 _ w1 rfl (hp1.below hb1 hp1.lt) (hp2.below hb1 hp2.lt) (Nx.out.below (hb.trans (hb1.mono hb.size)) Nx.out.lt) HD.out (HU.out.below ((((K0.out).trans (hb.mono (K0.out).size))).trans (hb1.mono (((K0.out).trans (hb.mono (K0.out).size))).size)) hB) (Nat.le_trans hB (Nat.le_trans (((K0.out).trans (hb.mono (K0.out).size))).size hb1.size)))).mono ?_; rintro _ v0_2 ⟨rfl, hb'⟩; dsimp only
      refine hK.out _ _ (hb.trans (hb'.mono hb.size)) (fun hHeld => ?_)
      clear hb hb'
      have hb := hHeld
      clear hK K
      try simp only [Act.put, la3, la4, la5]
      iterate 4
        apply Ord.walk_light
        next => (simp only [la0, la1, la2]; rfl)
        next => rfl
        next => (intro w' hSw; obtain ⟨z0, z1, z2, z3, z4, z5, z6⟩ := HZ.out w' hSw; clear hSw; go_simp; first | done | with_reducible rfl)
        simp only [Act.put, la3, la4, la5]
      apply Ord.walk_heavy
      next => (simp only [la0, la1, la2]; rfl)
      next => rfl
      intro K hK
      go_wp2_with fail
      refine (odd_is b 1 _).mono ?_; rintro _ v0_3 ⟨p3, p4, rfl, hp3, hp4, hb'⟩; dsimp only
      refine hK.out _ _ (hb.trans (hb'.mono hb.size)) (fun hHeld => ?_)
      clear hb hb'
      have hb := hHeld
      clear hK K
      try simp only [Act.put, la3, la4, la5]
      apply Ord.walk_heavy
      next => (simp only [la0, la1, la2]; rfl)
      next => rfl
      intro K hK
      go_wp2_with fail
      refine (hasV_is m.vs m.vA m.vc B 63 #[.pointer (some ⟨p3, 0, none⟩), .pointer (some ⟨p4, 0, none⟩)] (Ru.odd u 1) _ _ HQ2.out (fun _ _ => enter_of Tryz.func63 (by kernel_rfl) (by kernel_rfl) _ _) (HMK.out.vars.below (((K0.out).trans (hb.mono (K0.out).size))) hB) (Nat.le_trans hB (((K0.out).trans (hb.mono (K0.out).size))).size) HMK.out.smallV (fun v _ w1 hb1 => odd1_is u a B cap b i d v p3 p4 1 _ w1 rfl (hp3.below hb1 hp3.lt) (hp4.below hb1 hp4.lt) (Nx.out.below (hb.trans (hb1.mono hb.size)) Nx.out.lt) HD.out (HU.out.below ((((K0.out).trans (hb.mono (K0.out).size))).trans (hb1.mono (((K0.out).trans (hb.mono (K0.out).size))).size)) hB) (Nat.le_trans hB (Nat.le_trans (((K0.out).trans (hb.mono (K0.out).size))).size hb1.size)))).mono ?_; rintro _ v0_4 ⟨rfl, hb'⟩; dsimp only
      refine hK.out _ _ (hb.trans (hb'.mono hb.size)) (fun hHeld => ?_)
      clear hb hb'
      have hb := hHeld
      clear hK K
      try simp only [Act.put, la3, la4, la5]
      iterate 2
        apply Ord.walk_light
        next => (simp only [la0, la1, la2]; rfl)
        next => rfl
        next => (intro w' hSw; obtain ⟨z0, z1, z2, z3, z4, z5, z6⟩ := HZ.out w' hSw; clear hSw; go_simp; first | done | with_reducible rfl)
        simp only [Act.put, la3, la4, la5]
      iterate 2
        apply Ord.walk_idle
        next => (simp only [la0, la1, la2]; rfl)
        next => rfl
        simp only [Act.put, la3, la4, la5]
      apply Ord.walk_rest
      next => (simp only [la0, la1, la2]; rfl)
      next => rfl
      next => first | exact hHeld | exact hb
      apply Ord.walk_idle
      next => (simp only [la0, la1, la2]; rfl)
      next => rfl
      simp only [Act.put, la3, la4, la5]
      apply Ord.walk_light
      next => (simp only [la0, la1, la2]; rfl)
      next => rfl
      next => (intro w' hSw; obtain ⟨z0, z1, z2, z3, z4, z5, z6⟩ := HZ.out w' hSw; clear hSw; go_simp; first | done | with_reducible rfl)
      simp only [Act.put, la3, la4, la5]
      refine Ord.walk_tail ?_; simp only [List.drop_succ_cons, List.drop_zero]
      have hbx := hb
      clear hb HZ
      have Kx1 := Aid.hid ((K0.out).trans (hbx.mono (K0.out).size))
      have Nm_1 := Aid.hid (Nm.out.below hbx Nm.out.lt)
      have Nx_1 := Aid.hid (Nx.out.below hbx Nx.out.lt)
      have Np_1 := Aid.hid (Np.out.below hbx Np.out.lt)
      clear xm4 xm5 xm6 xm7 xm8 xm9 lm xp0 lp
      clear hbx
      go_wp2_with fail
      go_ret
      exact ⟨by rw [← E.out]; rfl, Kx1.out⟩
  · have HZ := Aid.hid (fun (w' : World) (hSw : Below W.heap.size W w') => (⟨(hSw.cell (p := ⟨w.heap.size, 4, none⟩) lm).trans xm4, (hSw.cell (p := ⟨w.heap.size, 5, none⟩) lm).trans xm5, (hSw.cell (p := ⟨w.heap.size, 6, none⟩) lm).trans xm6, (hSw.cell (p := ⟨w.heap.size, 7, none⟩) lm).trans xm7, (hSw.cell (p := ⟨w.heap.size, 8, none⟩) lm).trans xm8, (hSw.cell (p := ⟨w.heap.size, 9, none⟩) lm).trans xm9, (hSw.cell (p := ⟨p, 0, none⟩) lp).trans xp0⟩ : _ ∧ _ ∧ _ ∧ _ ∧ _ ∧ _ ∧ _))
    have hb : Below W.heap.size W W.drew := (Below.refl _ _).drew
    refine Ord.wp_region_walk (fun w' => Below W.heap.size W w') 18 [(true, 0), (true, 1), (true, 2), (false, 3), (false, 4), (true, 5), (true, 6), (true, 7), (true, 8), (false, 9), (false, 10), (true, 11), (true, 12), (true, 13), (true, 14), (false, 15), (true, 16), (true, 17)] (by kernel_rfl) (by kernel_rfl) (fun _ _ d _ _ h => by cases d <;> exact h) (hb) ?_
    clear hb
    have hb : Below W.heap.size W W.drew := (Below.refl _ _).drew
    generalize W.drew = wd0 at *
    iterate 3
      apply Ord.walk_light
      next => (simp only [la0, la1, la2]; rfl)
      next => rfl
      next => (intro w' hSw; obtain ⟨z0, z1, z2, z3, z4, z5, z6⟩ := HZ.out w' hSw; clear hSw; go_simp; first | done | with_reducible rfl)
      simp only [Act.put, la3, la4, la5]
    apply Ord.walk_heavy
    next => (simp only [la0, la1, la2]; rfl)
    next => rfl
    intro K hK
    go_wp2_with fail
    refine (odd_is b 0 _).mono ?_; rintro _ v0_1 ⟨p1, p2, rfl, hp1, hp2, hb'⟩; dsimp only
    refine hK.out _ _ (hb.trans (hb'.mono hb.size)) (fun hHeld => ?_)
    clear hb hb'
    have hb := hHeld
    clear hK K
    try simp only [Act.put, la3, la4, la5]
    apply Ord.walk_heavy
    next => (simp only [la0, la1, la2]; rfl)
    next => rfl
    intro K hK
    go_wp2_with fail
    refine (hasV_is m.ps m.pA m.pc B 63 #[.pointer (some ⟨p1, 0, none⟩), .pointer (some ⟨p2, 0, none⟩)] (Ru.odd u 0) _ _ HQ1.out (fun _ _ => enter_of Tryz.func63 (by kernel_rfl) (by kernel_rfl) _ _) (HMK.out.params.below (((K0.out).trans (hb.mono (K0.out).size))) hB) (Nat.le_trans hB (((K0.out).trans (hb.mono (K0.out).size))).size) HMK.out.smallP (fun v _ w1 hb1 => odd1_is u a B cap b i d v p1 p2 0 _ w1 rfl (hp1.below hb1 hp1.lt) (hp2.below hb1 hp2.lt) (Nx.out.below (hb.trans (hb1.mono hb.size)) Nx.out.lt) HD.out (HU.out.below ((((K0.out).trans (hb.mono (K0.out).size))).trans (hb1.mono (((K0.out).trans (hb.mono (K0.out).size))).size)) hB) (Nat.le_trans hB (Nat.le_trans (((K0.out).trans (hb.mono (K0.out).size))).size hb1.size)))).mono ?_; rintro _ v0_2 ⟨rfl, hb'⟩; dsimp only
    refine hK.out _ _ (hb.trans (hb'.mono hb.size)) (fun hHeld => ?_)
    clear hb hb'
    have hb := hHeld
    clear hK K
    try simp only [Act.put, la3, la4, la5]
    apply Ord.walk_light
    next => (simp only [la0, la1, la2]; rfl)
    next => rfl
    next => (intro w' hSw; obtain ⟨z0, z1, z2, z3, z4, z5, z6⟩ := HZ.out w' hSw; clear hSw; go_simp; first | done | with_reducible rfl)
    simp only [Act.put, la3, la4, la5]
    iterate 3
      apply Ord.walk_idle
      next => (simp only [la0, la1, la2]; rfl)
      next => rfl
      simp only [Act.put, la3, la4, la5]
    apply Ord.walk_rest
    next => (simp only [la0, la1, la2]; rfl)
    next => rfl
    next => first | exact hHeld | exact hb
    apply Ord.walk_rest
    next => (simp only [la0, la1, la2]; rfl)
    next => rfl
    next => first | exact hHeld | exact hb
    iterate 2
      apply Ord.walk_light
      next => (simp only [la0, la1, la2]; rfl)
      next => rfl
      next => (intro w' hSw; obtain ⟨z0, z1, z2, z3, z4, z5, z6⟩ := HZ.out w' hSw; clear hSw; go_simp; first | done | with_reducible rfl)
      simp only [Act.put, la3, la4, la5]
    iterate 2
      apply Ord.walk_idle
      next => (simp only [la0, la1, la2]; rfl)
      next => rfl
      simp only [Act.put, la3, la4, la5]
    apply Ord.walk_rest
    next => (simp only [la0, la1, la2]; rfl)
    next => rfl
    next => first | exact hHeld | exact hb
    apply Ord.walk_idle
    next => (simp only [la0, la1, la2]; rfl)
    next => rfl
    simp only [Act.put, la3, la4, la5]
    apply Ord.walk_light
    next => (simp only [la0, la1, la2]; rfl)
    next => rfl
    next => (intro w' hSw; obtain ⟨z0, z1, z2, z3, z4, z5, z6⟩ := HZ.out w' hSw; clear hSw; go_simp; first | done | with_reducible rfl)
    simp only [Act.put, la3, la4, la5]
    refine Ord.walk_tail ?_; simp only [List.drop_succ_cons, List.drop_zero]
    have hbx := hb
    clear hb HZ
    have Kx1 := Aid.hid ((K0.out).trans (hbx.mono (K0.out).size))
    have Nm_1 := Aid.hid (Nm.out.below hbx Nm.out.lt)
    have Nx_1 := Aid.hid (Nx.out.below hbx Nx.out.lt)
    have Np_1 := Aid.hid (Np.out.below hbx Np.out.lt)
    clear xm4 xm5 xm6 xm7 xm8 xm9 lm xp0 lp
    clear hbx
    go_wp2_with fail
    go_ret
    exact ⟨by rw [← E.out]; rfl, Kx1.out⟩
set_option maxRecDepth 100000 in
set_option maxHeartbeats 4000000 in
theorem rkinds_is (u : List Dk) (a : Option Addr) (B cap b i : Nat) (d : Dk) (r : Bool) (w : World) (hr : Ru.kinds u d = r) (hx : Aid.Has w b [.slice a u.length cap, .int .i64 (i : Int), .int .i64 d.kind, .string d.name, .string d.base, .slice d.fA d.faces.length d.fc, .bool d.abs, .bool d.fin, .slice d.vA d.vs.length d.vc, .slice d.mA d.ms.length d.mc, .slice d.bA d.body.length d.bc, .int .i64 d.every, .int .i64 d.first] 50) (hd : u[i]? = some d) (hu : UnitAt w B a u) (hB : B ≤ w.heap.size) :
    Calls Tryz.prog 33 #[.pointer (some ⟨b, 0, none⟩)] w fun z w' => z = .returned (.bool r) ∧ Below w.heap.size w w' := by
  obtain ⟨q1, hq1⟩ : ∃ q, d.vs.any (Ru.odd u 1) = q := ⟨_, rfl⟩
  obtain ⟨q2, hq2⟩ : ∃ q, d.ms.any (Ru.kindsM u) = q := ⟨_, rfl⟩
  have E : Hid ((q1 || q2) = r) := Aid.hid (by rw [← hr, Ru.kinds_eq, ← hq1, ← hq2])
  have HQ1 := Aid.hid hq1; have HQ2 := Aid.hid hq2
  have hmem := List.mem_of_getElem? hd
  have HDK := Aid.hid (hu.decls d hmem)
  have smM := HDK.out.smallM; have smV := HDK.out.smallV; have smF := HDK.out.smallF
  have HU := Aid.hid hu; have HX := Aid.hid hx; have HD := Aid.hid hd
  have sm := hu.small
  have hil : i < u.length := (List.getElem?_eq_some_iff.1 hd).1
  obtain ⟨W, hW, qp, k0⟩ := newn1 w [.pointer (some ⟨b, 0, none⟩)] 48
  have K0 := Aid.hid k0
  have Np := Aid.hid qp
  clear qp k0 hr hq1 hq2 hmem hu hx hd
  have xp0 := Np.out.cell 0 _ rfl
  have lp := Np.out.lt
  go_enter Tryz.func33, Tryz.ntmps33
  try simp only [List.append_eq, List.cons_append, List.nil_append]
  have Nx := Aid.hid (HX.out.below (K0.out) HX.out.lt)
  have xx8 := Nx.out.cell 8 _ rfl
  have xx9 := Nx.out.cell 9 _ rfl
  have lx := Nx.out.lt
  go_wp2_with fail
  have HZ := Aid.hid (fun (w' : World) (hSw : Below W.heap.size W w') => (⟨(hSw.cell (p := ⟨w.heap.size, 0, none⟩) lp).trans xp0, (hSw.cell (p := ⟨b, 8, none⟩) lx).trans xx8, (hSw.cell (p := ⟨b, 9, none⟩) lx).trans xx9⟩ : _ ∧ _ ∧ _))
  have hb : Below W.heap.size W W.drew := (Below.refl _ _).drew
  refine Ord.wp_region_walk (fun w' => Below W.heap.size W w') 7 [(true, 0), (true, 1), (true, 2), (true, 3), (true, 4), (true, 5), (false, 6)] (by kernel_rfl) (by kernel_rfl) (fun _ _ d _ _ h => by cases d <;> exact h) (hb) ?_
  clear hb
  have hb : Below W.heap.size W W.drew := (Below.refl _ _).drew
  generalize W.drew = wd0 at *
  iterate 6
    apply Ord.walk_light
    next => (simp only [la0, la1, la2]; rfl)
    next => rfl
    next => (intro w' hSw; obtain ⟨z0, z1, z2⟩ := HZ.out w' hSw; clear hSw; go_simp; first | done | with_reducible rfl)
    simp only [Act.put, la3, la4, la5]
  apply Ord.walk_heavy
  next => (simp only [la0, la1, la2]; rfl)
  next => rfl
  intro K hK
  go_wp2_with fail
  refine (odd_is b 1 _).mono ?_; rintro _ v0_1 ⟨p1, p2, rfl, hp1, hp2, hb'⟩; dsimp only
  refine hK.out _ _ (hb.trans (hb'.mono hb.size)) (fun hHeld => ?_)
  clear hb hb'
  have hb := hHeld
  clear hK K
  try simp only [Act.put, la3, la4, la5]
  refine Ord.walk_tail ?_; simp only [List.drop_succ_cons, List.drop_zero]
  have hbx := hb
  clear hb HZ
  have Kx1 := Aid.hid ((K0.out).trans (hbx.mono (K0.out).size))
  have Np_1 := Aid.hid (Np.out.below hbx Np.out.lt)
  have Nx_1 := Aid.hid (Nx.out.below hbx Nx.out.lt)
  clear xp0 lp xx8 xx9 lx
  clear hbx
  have hb := Below.refl v0_1.heap.size v0_1
  go_wp2_with fail
  refine (hasV_is d.vs d.vA d.vc B 63 #[.pointer (some ⟨p1, 0, none⟩), .pointer (some ⟨p2, 0, none⟩)] (Ru.odd u 1) _ _ HQ1.out (fun _ _ => enter_of Tryz.func63 (by kernel_rfl) (by kernel_rfl) _ _) (HDK.out.vars.below (Kx1.out) hB) (Nat.le_trans hB (Kx1.out).size) HDK.out.smallV (fun v _ w1 hb1 => odd1_is u a B cap b i d v p1 p2 1 _ w1 rfl (hp1.below hb1 hp1.lt) (hp2.below hb1 hp2.lt) (Nx_1.out.below (hb.trans (hb1.mono hb.size)) Nx_1.out.lt) HD.out (HU.out.below ((Kx1.out).trans (hb1.mono (Kx1.out).size)) hB) (Nat.le_trans hB (Nat.le_trans (Kx1.out).size hb1.size)))).mono ?_; rintro _ w2 ⟨rfl, hb2⟩
  have Kx2 := Aid.hid ((Kx1.out).trans (hb2.mono (Kx1.out).size))
  have Np_2 := Aid.hid (Np_1.out.below hb2 Np_1.out.lt)
  have Nx_2 := Aid.hid (Nx_1.out.below hb2 Nx_1.out.lt)
  clear hb2
  have xx9 := Nx_2.out.cell 9 _ rfl
  have lx := Nx_2.out.lt
  have xp0 := Np_2.out.cell 0 _ rfl
  have lp := Np_2.out.lt
  cases q1
  · go_wp2_with fail
    refine (hasM_is d.ms d.mA d.mc B 51 #[.pointer (some ⟨w.heap.size, 0, none⟩)] (Ru.kindsM u) q2 _ HQ2.out (fun _ _ => enter_of Tryz.func51 (by kernel_rfl) (by kernel_rfl) _ _) (HDK.out.meths.below (Kx2.out) hB) (Nat.le_trans hB (Kx2.out).size) HDK.out.smallM (fun m hm w1 hb1 => kinds1_is u a B cap b i d m (w.heap.size) _ w1 rfl ((HDK.out.each m hm).below ((Kx2.out).trans (hb1.mono (Kx2.out).size)) hB) (Np_2.out.below hb1 Np_2.out.lt) (Nx_2.out.below hb1 Nx_2.out.lt) HD.out (HU.out.below ((Kx2.out).trans (hb1.mono (Kx2.out).size)) hB) (Nat.le_trans hB (Nat.le_trans (Kx2.out).size hb1.size)))).mono ?_; rintro _ w3 ⟨rfl, hb3⟩
    have Kx3 := Aid.hid ((Kx2.out).trans (hb3.mono (Kx2.out).size))
    have Np_3 := Aid.hid (Np_2.out.below hb3 Np_2.out.lt)
    have Nx_3 := Aid.hid (Nx_2.out.below hb3 Nx_2.out.lt)
    clear xx9 lx xp0 lp
    clear hb3
    go_wp2_with fail
    go_ret
    exact ⟨by rw [← E.out]; rfl, Kx3.out⟩
  · go_wp2_with fail
    go_ret
    exact ⟨by rw [← E.out]; rfl, Kx2.out⟩
theorem Ru.base_at {u : List Dk} {i : Int} {x : Dk} {q : Int} (h : x.base.toList.isEmpty = false) (hq : Tb.find u x.base = q) :
    Ru.base u i x = (decide (q < 0) || (decide (q ≥ i) || (decide (Tb.kind u q ≠ 2) || (match u[q.toNat]? with | some b => b.fin | none => false)))) := by
  unfold Ru.base Ru.kind
  rw [if_neg (by intro h0; rw [h0] at h; cases h), hq]
  rfl
theorem Ru.base_no {u : List Dk} {i : Int} {x : Dk} (h : x.base.toList.isEmpty = true) : Ru.base u i x = false := by
  unfold Ru.base
  rw [if_pos (by simpa using h)]
set_option maxRecDepth 100000 in
set_option maxHeartbeats 4000000 in
theorem base_is (u : List Dk) (a : Option Addr) (B cap b i : Nat) (d : Dk) (r : Bool) (w : World) (hr : Ru.base u i d = r) (hx : Aid.Has w b [.slice a u.length cap, .int .i64 (i : Int), .int .i64 d.kind, .string d.name, .string d.base, .slice d.fA d.faces.length d.fc, .bool d.abs, .bool d.fin, .slice d.vA d.vs.length d.vc, .slice d.mA d.ms.length d.mc, .slice d.bA d.body.length d.bc, .int .i64 d.every, .int .i64 d.first] 50) (hd : u[i]? = some d) (hu : UnitAt w B a u) (hB : B ≤ w.heap.size) :
    Calls Tryz.prog 31 #[.pointer (some ⟨b, 0, none⟩)] w fun z w' => z = .returned (.bool r) ∧ Below w.heap.size w w' := by
  have HR := Aid.hid hr
  have HU := Aid.hid hu; have HX := Aid.hid hx; have HD := Aid.hid hd
  have sm := hu.small
  have hil : i < u.length := (List.getElem?_eq_some_iff.1 hd).1
  clear hr hu hx hd
  go_enter Tryz.func31, Tryz.ntmps31
  try simp only [List.append_eq, List.cons_append, List.nil_append]
  have Nx := Aid.hid (HX.out.below ((Below.refl w.heap.size w)) HX.out.lt)
  have xx0 := Nx.out.cell 0 _ rfl
  have xx1 := Nx.out.cell 1 _ rfl
  have xx3 := Nx.out.cell 3 _ rfl
  have xx4 := Nx.out.cell 4 _ rfl
  have lx := Nx.out.lt
  obtain ⟨em, hem⟩ : ∃ x, d.base.toList.isEmpty = x := ⟨_, rfl⟩
  have HEM := Aid.hid hem
  cases em
  · obtain ⟨q, hq⟩ : ∃ q, Tb.find u d.base = q := ⟨_, rfl⟩
    have HQ := Aid.hid hq
    have hrg := Tb.find_range u d.base
    rw [hq] at hrg
    clear hq
    go_wp2_with fail
    clear hem
    have HZ := Aid.hid (fun (w' : World) (hSw : Below w.heap.size w w') => (⟨(hSw.cell (p := ⟨b, 0, none⟩) lx).trans xx0, (hSw.cell (p := ⟨b, 1, none⟩) lx).trans xx1, (hSw.cell (p := ⟨b, 3, none⟩) lx).trans xx3, (hSw.cell (p := ⟨b, 4, none⟩) lx).trans xx4⟩ : _ ∧ _ ∧ _ ∧ _))
    have hb : Below w.heap.size w w.drew := (Below.refl _ _).drew
    refine Ord.wp_region_walk (fun w' => Below w.heap.size w w') 10 [(true, 0), (true, 1), (true, 2), (true, 3), (true, 4), (true, 5), (true, 6), (true, 7), (true, 8), (false, 9)] (by kernel_rfl) (by kernel_rfl) (fun _ _ d _ _ h => by cases d <;> exact h) (hb) ?_
    clear hb
    have hb : Below w.heap.size w w.drew := (Below.refl _ _).drew
    generalize w.drew = wd0 at *
    iterate 9
      apply Ord.walk_light
      next => (simp only [la0, la1, la2]; rfl)
      next => rfl
      next => (intro w' hSw; obtain ⟨z0, z1, z2, z3⟩ := HZ.out w' hSw; clear hSw; go_simp; first | done | with_reducible rfl)
      simp only [Act.put, la3, la4, la5]
    apply Ord.walk_heavy
    next => (simp only [la0, la1, la2]; rfl)
    next => rfl
    intro K hK
    go_wp2_with fail
    refine (find_is u a B cap d.base q _ HQ.out (HU.out.below ((((Below.refl w.heap.size w)).trans (hb.mono ((Below.refl w.heap.size w)).size))) hB) (Nat.le_trans hB ((((Below.refl w.heap.size w)).trans (hb.mono ((Below.refl w.heap.size w)).size))).size)).mono ?_; rintro _ v0_1 ⟨rfl, hb'⟩; dsimp only
    refine hK.out _ _ (hb.trans (hb'.mono hb.size)) (fun hHeld => ?_)
    clear hb hb'
    have hb := hHeld
    clear hK K
    try simp only [Act.put, la3, la4, la5]
    refine Ord.walk_tail ?_; simp only [List.drop_succ_cons, List.drop_zero]
    have hbx := hb
    clear hb HZ
    have Kx1 := Aid.hid (((Below.refl w.heap.size w)).trans (hbx.mono ((Below.refl w.heap.size w)).size))
    have Nx_1 := Aid.hid (Nx.out.below hbx Nx.out.lt)
    clear xx0 xx1 xx3 xx4 lx
    clear hbx
    have xx0 := Nx_1.out.cell 0 _ rfl
    have xx1 := Nx_1.out.cell 1 _ rfl
    have lx := Nx_1.out.lt
    have E := Ru.base_at (i := (i : Int)) HEM.out HQ.out
    rw [HR.out] at E
    by_cases h0 : q < 0
    · obtain rfl : r = true := by rw [E]; simp [h0]
      have e0 : decide (q < 0) = true := decide_eq_true h0
      clear E
      go_wp2_with fail
      go_ret
      exact ⟨rfl, Kx1.out⟩
    · obtain ⟨j, rfl⟩ : ∃ j : Nat, q = j := ⟨q.toNat, by omega⟩
      obtain ⟨e, he⟩ : ∃ e, u[j]? = some e := ⟨_, List.getElem?_eq_getElem (by omega)⟩
      have HE := Aid.hid he
      have hj : j < u.length := by omega
      rw [Tb.kind, if_pos (by omega)] at E
      simp only [Int.toNat_natCast, he] at E
      clear he
      by_cases h1 : i ≤ j
      · obtain rfl : r = true := by rw [E]; simp; omega
        have EE := Aid.hid E
        clear E HE
        clear h0 hrg
        go_wp2_with fail
        go_ret
        exact ⟨rfl, Kx1.out⟩
      · have E2 : Hid (r = (decide (e.kind ≠ 2) || e.fin)) := Aid.hid (by rw [E, decide_eq_false (by omega), decide_eq_false (by omega)]; rfl)
        clear E h0 hrg
        obtain ⟨ub, uo, rfl, hlt_ub, hc_ub⟩ := (HU.out.below (Kx1.out) hB).at_ (by omega)
        have lub : ub < v0_1.heap.size := Nat.lt_of_lt_of_le hlt_ub (Nat.le_trans hB (Kx1.out).size)
        have ce := hc_ub j e HE.out 0 _ rfl
        simp only [Nat.add_zero] at ce
        have cf := hc_ub j e HE.out 5 _ rfl
        clear hc_ub
        obtain ⟨ek, hek⟩ : ∃ x, e.kind = x := ⟨_, rfl⟩
        obtain ⟨ef, hef⟩ : ∃ x, e.fin = x := ⟨_, rfl⟩
        rw [hek] at ce E2; rw [hef] at cf E2
        clear hek hef
        by_cases h2 : ek = 2
        · subst h2
          go_wp2_with fail
          go_ret
          exact ⟨by rw [E2.out]; simp; intro hh; omega, Kx1.out⟩
        · have e2 : (ek != 2) = true := by simpa using h2
          obtain rfl : r = true := by rw [E2.out]; simp [h2]
          clear h2
          go_wp2_with fail
          go_ret
          exact ⟨rfl, Kx1.out⟩
  · obtain rfl : false = r := by rw [← HR.out]; exact (Ru.base_no HEM.out).symm
    go_wp2_with fail
    go_ret
    exact ⟨rfl, (Below.refl w.heap.size w)⟩
end Go.Proofs.YtejifefgmlpclaaGreat
