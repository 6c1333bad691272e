/- Typing at a place of a method. -/
import Derived.Test.YtejifefgmlpclaaGreatTyN
import Derived.Test.YtejifefgmlpclaaGreatTyV
import Derived.Test.YtejifefgmlpclaaGreatTabFields
import Derived.Test.YtejifefgmlpclaaGreatOrd
import Derived.WalkKit
import Derived.WalkSpells
import Derived.WalkLawsBesides
import Derived.LoopTactic
import Derived.Deep.QuietTactic
import Derived.BigQuiet
import Derived.Below
import Derived.Laws.ResultCell
import Derived.Laws.Tables
import Derived.Laws.Rows
import Derived.Deep.Cut
import Derived.KernelRfl
set_option linter.unusedSimpArgs false
set_option linter.unusedVariables false
namespace Go.Proofs.YtejifefgmlpclaaGreat
open Go.RowKit

set_option maxRecDepth 100000 in
set_option maxHeartbeats 4000000 in
theorem cat3_is (x y z : List Vd) (xA yA zA : Option Addr) (xc yc zc g cc : Nat) (w : World) (hg : Aid.Has w g [.slice xA x.length xc, .slice yA y.length yc, .slice zA z.length zc] 30) (hx : Rows w w.heap.size 8 xA (x.map Vd.cells)) (hy : Rows w w.heap.size 8 yA (y.map Vd.cells)) (hz : Rows w w.heap.size 8 zA (z.map Vd.cells)) (lx : x.length ≤ 100000000) (ly : y.length ≤ 100000000) (lz : z.length ≤ 100000000) :
    Calls Tryz.prog 71 #[.slice (some ⟨g, 0, none⟩) 3 cc] w fun e w' => ∃ A c, e = .returned (.slice A (x ++ y ++ z).length c) ∧ w'.ownsRow w.heap.size 55 8 (.slice A (x ++ y ++ z).length c) (x ++ y ++ z).length ((x ++ y ++ z).map Vd.cells).flatten ∧ Below w.heap.size w w' := by
  have hn : Pt.n [⟨xA, xc, x.map Vd.cells⟩, ⟨yA, yc, y.map Vd.cells⟩, ⟨zA, zc, z.map Vd.cells⟩] = (x ++ y ++ z).length := by simp [Pt.n, Pt.flat]
  have hfl : Pt.flat [⟨xA, xc, x.map Vd.cells⟩, ⟨yA, yc, y.map Vd.cells⟩, ⟨zA, zc, z.map Vd.cells⟩] = (x ++ y ++ z).map Vd.cells := by simp [Pt.flat]
  have h := concatV_is (some ⟨g, 0, none⟩) cc w.heap.size [⟨xA, xc, x.map Vd.cells⟩, ⟨yA, yc, y.map Vd.cells⟩, ⟨zA, zc, z.map Vd.cells⟩] w (fun _ => ⟨g, 0, rfl, hg.lt, fun q r hq k v hv => by
      match q, hq with
      | 0, hq => cases hq; match k, hv with | 0, hv => exact hg.cell 0 _ (by simpa [Pt.cells] using hv)
      | 1, hq => cases hq; match k, hv with | 0, hv => exact hg.cell 1 _ (by simpa [Pt.cells] using hv)
      | 2, hq => cases hq; match k, hv with | 0, hv => exact hg.cell 2 _ (by simpa [Pt.cells] using hv)⟩)
    (fun p hp => by
      simp only [List.mem_cons, List.not_mem_nil, or_false] at hp
      rcases hp with rfl | rfl | rfl
      · exact hx
      · exact hy
      · exact hz)
    (fun p hp r hr => by
      have h1 : ∃ v : Vd, r = v.cells := by
        simp only [List.mem_cons, List.not_mem_nil, or_false] at hp
        rcases hp with rfl | rfl | rfl <;> (obtain ⟨v, _, rfl⟩ := List.mem_map.1 hr; exact ⟨v, rfl⟩)
      obtain ⟨v, rfl⟩ := h1
      exact ⟨Vd.len [v] _ (by simp), fun u hu => Vd.one (l := [v]) u (by simpa using hu)⟩)
    (Nat.le_refl _) (by simp) (by rw [hn]; simp; omega)
  rw [hn, hfl] at h
  simpa using h
set_option maxRecDepth 100000 in
set_option maxHeartbeats 4000000 in
theorem at_meth (u : List Dk) (a : Option Addr) (B cap i j : Nat) (d : Dk) (m : Md) (w : World) (hd : u[i]? = some d) (hk : d.kind = 2) (hm : d.ms[j]? = some m) (hu : UnitAt w B a u) (hB : B ≤ w.heap.size) (hn : u.length ≤ 20) (hM : ∀ x ∈ u, x.vs.length ≤ 1048576) (hp : m.ps.length ≤ 100000000) (hv : m.vs.length ≤ 100000000) (hf : (Tb.fields u i).length ≤ 100000000) :
    Calls Tryz.prog 59 #[.agg #[.slice a u.length cap], .agg #[.int .i64 (i : Int), .int .i64 (j : Int)]] w fun z w' => ∃ b A, z = .returned (.pointer (some ⟨b, 0, none⟩)) ∧ PlAt w' B b ⟨u, (i : Int), some m, m.ps ++ m.vs ++ Tb.fields u i⟩ A ∧ Below w.heap.size w w' := by
  obtain ⟨n2, n3, k0⟩ := two_new w [.slice a u.length cap] [.int .i64 (i : Int), .int .i64 (j : Int)] 24 76
  have hil : i < u.length := (List.getElem?_eq_some_iff.1 hd).1
  have hjl : j < d.ms.length := (List.getElem?_eq_some_iff.1 hm).1
  obtain ⟨W, hW⟩ : ∃ W, (w.alloc (.cells #[.slice a u.length cap] 24)).alloc (.cells #[.int .i64 (i : Int), .int .i64 (j : Int)] 76) = W := ⟨_, rfl⟩
  rw [hW] at n2 n3 k0
  have hu2 := hu.below k0 hB
  have sm := hu.small
  obtain ⟨ub, uo, hA, hub, hc⟩ := hu2.at_ (by omega)
  have hdd := hu2.decls d (List.mem_of_getElem? hd)
  obtain ⟨mb, mo, hMA, hmb, hmc⟩ := hdd.meths (by simp; omega)
  have x2 := n2.cell 0 _ rfl
  rw [hA] at x2
  have l2 := n2.lt
  have x3 := n3.cell 0 _ rfl
  have x4 := n3.cell 1 _ rfl
  have l3 := n3.lt
  have u0 := hc i d hd 0 _ rfl
  have u1 := hc i d hd 1 _ rfl
  have u2 := hc i d hd 2 _ rfl
  have u3 := hc i d hd 3 _ rfl
  have u4 := hc i d hd 4 _ rfl
  have u5 := hc i d hd 5 _ rfl
  have u6 := hc i d hd 6 _ rfl
  have u7 := hc i d hd 7 _ rfl
  have u8 := hc i d hd 8 _ rfl
  have u9 := hc i d hd 9 _ rfl
  have u10 := hc i d hd 10 _ rfl
  simp only [Nat.add_zero] at u0
  rw [hk] at u0
  rw [hMA] at u7
  have lub : ub < W.heap.size := by have := k0.size; omega
  have hi0 : decide ((i : Int) < 0) = false := by simp
  have hi1 : decide ((u.length : Int) ≤ (i : Int)) = false := by simp; omega
  have hi2 : (i : Int) < (u.length : Int) := by omega
  have hj0 : decide ((0 : Int) ≤ (j : Int)) = true := by simp
  have hj1 : (j : Int) < (d.ms.length : Int) := by omega
  have HU := Aid.hid hu; have HD := Aid.hid hd; have HA := Aid.hid hA; have HKK := Aid.hid hk; have HMM := Aid.hid hm; have HN := Aid.hid hn; have HM := Aid.hid hM; have HP := Aid.hid hp; have HV := Aid.hid hv; have HF := Aid.hid hf; have HEACH := Aid.hid (hdd.each m (List.mem_of_getElem? hm))
  have k3 := k0.alloc k0.size (.cells #[.int .i64 2, .string d.name, .string d.base, .slice d.fA d.faces.length d.fc, .bool d.abs, .bool d.fin, .slice d.vA d.vs.length d.vc, .slice (some ⟨mb, mo, none⟩) d.ms.length d.mc, .slice d.bA d.body.length d.bc, .int .i64 d.every, .int .i64 d.first] 34)
  have n4 := n2.alloc (.cells #[.int .i64 2, .string d.name, .string d.base, .slice d.fA d.faces.length d.fc, .bool d.abs, .bool d.fin, .slice d.vA d.vs.length d.vc, .slice (some ⟨mb, mo, none⟩) d.ms.length d.mc, .slice d.bA d.body.length d.bc, .int .i64 d.every, .int .i64 d.first] 34)
  have n5 := n3.alloc (.cells #[.int .i64 2, .string d.name, .string d.base, .slice d.fA d.faces.length d.fc, .bool d.abs, .bool d.fin, .slice d.vA d.vs.length d.vc, .slice (some ⟨mb, mo, none⟩) d.ms.length d.mc, .slice d.bA d.body.length d.bc, .int .i64 d.every, .int .i64 d.first] 34)
  have nd := Aid.Has.new W [.int .i64 2, .string d.name, .string d.base, .slice d.fA d.faces.length d.fc, .bool d.abs, .bool d.fin, .slice d.vA d.vs.length d.vc, .slice (some ⟨mb, mo, none⟩) d.ms.length d.mc, .slice d.bA d.body.length d.bc, .int .i64 d.every, .int .i64 d.first] 34
  obtain ⟨X, hX⟩ : ∃ X, W.alloc (.cells #[.int .i64 2, .string d.name, .string d.base, .slice d.fA d.faces.length d.fc, .bool d.abs, .bool d.fin, .slice d.vA d.vs.length d.vc, .slice (some ⟨mb, mo, none⟩) d.ms.length d.mc, .slice d.bA d.body.length d.bc, .int .i64 d.every, .int .i64 d.first] 34) = X := ⟨_, rfl⟩
  rw [hX] at k3 n4 n5 nd
  have HSW := Aid.hid k0.size
  have kwx := (Below.refl W.heap.size W).alloc (Nat.le_refl _) (.cells #[.int .i64 2, .string d.name, .string d.base, .slice d.fA d.faces.length d.fc, .bool d.abs, .bool d.fin, .slice d.vA d.vs.length d.vc, .slice (some ⟨mb, mo, none⟩) d.ms.length d.mc, .slice d.bA d.body.length d.bc, .int .i64 d.every, .int .i64 d.first] 34)
  rw [hX] at kwx
  have KWX := Aid.hid kwx
  clear kwx
  have y0 := nd.cell 0 _ rfl
  have y7 := nd.cell 7 _ rfl
  have ly := nd.lt
  have x2b := n4.cell 0 _ rfl
  have x3a := n5.cell 0 _ rfl
  have x3b := n5.cell 1 _ rfl
  have l3b := n5.lt
  have l2b := n4.lt
  have mc := fun q v hv => (k3.cell (p := ⟨mb, mo + j * 11 + q, none⟩) (by show mb < _; omega)).trans ((k0.cell (p := ⟨mb, mo + j * 11 + q, none⟩) (by show mb < _; omega)).symm.trans (hmc j m.cells (by simp [hm]) q v hv))
  have lmb : mb < X.heap.size := by have := k3.size; omega
  have m0 := mc 0 _ rfl
  have m1 := mc 1 _ rfl
  have m2 := mc 2 _ rfl
  have m3 := mc 3 _ rfl
  have m4 := mc 4 _ rfl
  have m5 := mc 5 _ rfl
  have m6 := mc 6 _ rfl
  have m7 := mc 7 _ rfl
  have m8 := mc 8 _ rfl
  have m9 := mc 9 _ rfl
  have m10 := mc 10 _ rfl
  simp only [Nat.add_zero] at m0
  have K3 := Aid.hid k3
  have N4 := Aid.hid n4; have N5 := Aid.hid n5
  have hsz : w.heap.size ≤ X.heap.size := k3.size
  clear hu hd hc hu2 n2 n3 n4 n5 nd k0 k3 hk hil hjl hdd hMA hmc hm hn hM hp hv hf mc hA
  rw [HA.out] at x2b hW ⊢
  have kz := (Below.refl X.heap.size X).alloc (Nat.le_refl _) (.cells #[.string m.name, .bool m.over, .bool m.abs, .bool m.fin, .slice m.pA m.ps.length m.pc, .int .i64 m.res.k, .int .i64 m.res.lo, .int .i64 m.res.hi, .string m.res.name, .slice m.vA m.vs.length m.vc, .slice m.bA m.body.length m.bc] 46)
  have q2 := (N4.out.alloc (.cells #[.string m.name, .bool m.over, .bool m.abs, .bool m.fin, .slice m.pA m.ps.length m.pc, .int .i64 m.res.k, .int .i64 m.res.lo, .int .i64 m.res.hi, .string m.res.name, .slice m.vA m.vs.length m.vc, .slice m.bA m.body.length m.bc] 46)).cell 0 _ rfl
  have q3 := (N5.out.alloc (.cells #[.string m.name, .bool m.over, .bool m.abs, .bool m.fin, .slice m.pA m.ps.length m.pc, .int .i64 m.res.k, .int .i64 m.res.lo, .int .i64 m.res.hi, .string m.res.name, .slice m.vA m.vs.length m.vc, .slice m.bA m.body.length m.bc] 46)).cell 0 _ rfl
  have nm := Aid.Has.new X [.string m.name, .bool m.over, .bool m.abs, .bool m.fin, .slice m.pA m.ps.length m.pc, .int .i64 m.res.k, .int .i64 m.res.lo, .int .i64 m.res.hi, .string m.res.name, .slice m.vA m.vs.length m.vc, .slice m.bA m.body.length m.bc] 46
  obtain ⟨Z, hZ⟩ : ∃ Z, X.alloc (.cells #[.string m.name, .bool m.over, .bool m.abs, .bool m.fin, .slice m.pA m.ps.length m.pc, .int .i64 m.res.k, .int .i64 m.res.lo, .int .i64 m.res.hi, .string m.res.name, .slice m.vA m.vs.length m.vc, .slice m.bA m.body.length m.bc] 46) = Z := ⟨_, rfl⟩
  rw [hZ] at kz nm q2 q3
  rw [HA.out] at q2
  have q64 := nm.cell 4 _ rfl
  have q69 := nm.cell 9 _ rfl
  have lz6 := nm.lt
  have lz3 : w.heap.size + 1 < Z.heap.size := by have := kz.size; omega
  have lz2 : w.heap.size < Z.heap.size := by omega
  have KZ := Aid.hid ((K3.out).trans (kz.mono hsz))
  have NM := Aid.hid nm
  have HZB := Aid.hid (Nat.le_trans hB (Nat.le_trans hsz kz.size))
  have HUZ := Aid.hid (HU.out.below KZ.out hB)
  have hwz : Below W.heap.size W Z := KWX.out.trans (kz.mono KWX.out.size)
  have HPZ := Aid.hid ((HEACH.out.params.below hwz (Nat.le_trans hB HSW.out)).more HZB.out)
  have HVZ := Aid.hid ((HEACH.out.vars.below hwz (Nat.le_trans hB HSW.out)).more HZB.out)
  clear hwz
  clear kz nm
  obtain ⟨pb, hpb⟩ : ∃ pb, X.heap.size = pb := ⟨_, rfl⟩
  rw [hpb] at q64 q69 lz6 NM
  go_enter Tryz.func59, Tryz.ntmps59
  try simp only [List.append_eq, List.cons_append, List.nil_append]
  go_wp2_with fail
  have hb : Below Z.heap.size Z Z.drew := (Below.refl _ _).drew
  refine Ord.wp_region_go (fun w' => Below Z.heap.size Z w') 13 [0, 1, 2, 3, 4, 5, 6, 7, 8, 9] (by kernel_rfl) (by kernel_rfl) (fun _ _ d _ _ h => by cases d <;> exact h) (hb) ?_
  clear hb
  have hb : Below Z.heap.size Z Z.drew := (Below.refl _ _).drew
  generalize Z.drew = wd0 at *
  apply Ord.go_light (i := 0) (by kernel_rfl)
  next => (simp only [List.getElem?_toArray, List.getElem?_cons_zero]; rfl)
  next => rfl
  next => (intro w' hSw; have z0 := (hSw.cell (p := ⟨w.heap.size, 0, none⟩) lz2).trans q2; have z1 := (hSw.cell (p := ⟨w.heap.size + 1, 0, none⟩) lz3).trans q3; have z4 := (hSw.cell (p := ⟨pb, 4, none⟩) lz6).trans q64; have z9 := (hSw.cell (p := ⟨pb, 9, none⟩) lz6).trans q69; clear hSw; go_simp; first | done | with_reducible rfl)
  simp only [Act.put, List.setIfInBounds_toArray, List.set_cons_zero, List.set_cons_succ]
  apply Ord.go_light (i := 1) (by kernel_rfl)
  next => (simp only [List.getElem?_toArray, List.getElem?_cons_succ, List.getElem?_cons_zero]; rfl)
  next => rfl
  next => (intro w' hSw; have z0 := (hSw.cell (p := ⟨w.heap.size, 0, none⟩) lz2).trans q2; have z1 := (hSw.cell (p := ⟨w.heap.size + 1, 0, none⟩) lz3).trans q3; have z4 := (hSw.cell (p := ⟨pb, 4, none⟩) lz6).trans q64; have z9 := (hSw.cell (p := ⟨pb, 9, none⟩) lz6).trans q69; clear hSw; go_simp; first | done | with_reducible rfl)
  simp only [Act.put, List.setIfInBounds_toArray, List.set_cons_zero, List.set_cons_succ]
  apply Ord.go_light (i := 2) (by kernel_rfl)
  next => (simp only [List.getElem?_toArray, List.getElem?_cons_succ, List.getElem?_cons_zero]; rfl)
  next => rfl
  next => (intro w' hSw; have z0 := (hSw.cell (p := ⟨w.heap.size, 0, none⟩) lz2).trans q2; have z1 := (hSw.cell (p := ⟨w.heap.size + 1, 0, none⟩) lz3).trans q3; have z4 := (hSw.cell (p := ⟨pb, 4, none⟩) lz6).trans q64; have z9 := (hSw.cell (p := ⟨pb, 9, none⟩) lz6).trans q69; clear hSw; go_simp; first | done | with_reducible rfl)
  simp only [Act.put, List.setIfInBounds_toArray, List.set_cons_zero, List.set_cons_succ]
  apply Ord.go_light (i := 3) (by kernel_rfl)
  next => (simp only [List.getElem?_toArray, List.getElem?_cons_succ, List.getElem?_cons_zero]; rfl)
  next => rfl
  next => (intro w' hSw; have z0 := (hSw.cell (p := ⟨w.heap.size, 0, none⟩) lz2).trans q2; have z1 := (hSw.cell (p := ⟨w.heap.size + 1, 0, none⟩) lz3).trans q3; have z4 := (hSw.cell (p := ⟨pb, 4, none⟩) lz6).trans q64; have z9 := (hSw.cell (p := ⟨pb, 9, none⟩) lz6).trans q69; clear hSw; go_simp; first | done | with_reducible rfl)
  simp only [Act.put, List.setIfInBounds_toArray, List.set_cons_zero, List.set_cons_succ]
  apply Ord.go_light (i := 4) (by kernel_rfl)
  next => (simp only [List.getElem?_toArray, List.getElem?_cons_succ, List.getElem?_cons_zero]; rfl)
  next => rfl
  next => (intro w' hSw; have z0 := (hSw.cell (p := ⟨w.heap.size, 0, none⟩) lz2).trans q2; have z1 := (hSw.cell (p := ⟨w.heap.size + 1, 0, none⟩) lz3).trans q3; have z4 := (hSw.cell (p := ⟨pb, 4, none⟩) lz6).trans q64; have z9 := (hSw.cell (p := ⟨pb, 9, none⟩) lz6).trans q69; clear hSw; go_simp; first | done | with_reducible rfl)
  simp only [Act.put, List.setIfInBounds_toArray, List.set_cons_zero, List.set_cons_succ]
  apply Ord.go_light (i := 5) (by kernel_rfl)
  next => (simp only [List.getElem?_toArray, List.getElem?_cons_succ, List.getElem?_cons_zero]; rfl)
  next => rfl
  next => (intro w' hSw; have z0 := (hSw.cell (p := ⟨w.heap.size, 0, none⟩) lz2).trans q2; have z1 := (hSw.cell (p := ⟨w.heap.size + 1, 0, none⟩) lz3).trans q3; have z4 := (hSw.cell (p := ⟨pb, 4, none⟩) lz6).trans q64; have z9 := (hSw.cell (p := ⟨pb, 9, none⟩) lz6).trans q69; clear hSw; go_simp; first | done | with_reducible rfl)
  simp only [Act.put, List.setIfInBounds_toArray, List.set_cons_zero, List.set_cons_succ]
  apply Ord.go_light (i := 6) (by kernel_rfl)
  next => (simp only [List.getElem?_toArray, List.getElem?_cons_succ, List.getElem?_cons_zero]; rfl)
  next => rfl
  next => (intro w' hSw; have z0 := (hSw.cell (p := ⟨w.heap.size, 0, none⟩) lz2).trans q2; have z1 := (hSw.cell (p := ⟨w.heap.size + 1, 0, none⟩) lz3).trans q3; have z4 := (hSw.cell (p := ⟨pb, 4, none⟩) lz6).trans q64; have z9 := (hSw.cell (p := ⟨pb, 9, none⟩) lz6).trans q69; clear hSw; go_simp; first | done | with_reducible rfl)
  simp only [Act.put, List.setIfInBounds_toArray, List.set_cons_zero, List.set_cons_succ]
  apply Ord.go_light (i := 7) (by kernel_rfl)
  next => (simp only [List.getElem?_toArray, List.getElem?_cons_succ, List.getElem?_cons_zero]; rfl)
  next => rfl
  next => (intro w' hSw; have z0 := (hSw.cell (p := ⟨w.heap.size, 0, none⟩) lz2).trans q2; have z1 := (hSw.cell (p := ⟨w.heap.size + 1, 0, none⟩) lz3).trans q3; have z4 := (hSw.cell (p := ⟨pb, 4, none⟩) lz6).trans q64; have z9 := (hSw.cell (p := ⟨pb, 9, none⟩) lz6).trans q69; clear hSw; go_simp; first | done | with_reducible rfl)
  simp only [Act.put, List.setIfInBounds_toArray, List.set_cons_zero, List.set_cons_succ]
  apply Ord.go_light (i := 8) (by kernel_rfl)
  next => (simp only [List.getElem?_toArray, List.getElem?_cons_succ, List.getElem?_cons_zero]; rfl)
  next => rfl
  next => (intro w' hSw; have z0 := (hSw.cell (p := ⟨w.heap.size, 0, none⟩) lz2).trans q2; have z1 := (hSw.cell (p := ⟨w.heap.size + 1, 0, none⟩) lz3).trans q3; have z4 := (hSw.cell (p := ⟨pb, 4, none⟩) lz6).trans q64; have z9 := (hSw.cell (p := ⟨pb, 9, none⟩) lz6).trans q69; clear hSw; go_simp; first | done | with_reducible rfl)
  simp only [Act.put, List.setIfInBounds_toArray, List.set_cons_zero, List.set_cons_succ]
  apply Ord.go_light (i := 9) (by kernel_rfl)
  next => (simp only [List.getElem?_toArray, List.getElem?_cons_succ, List.getElem?_cons_zero]; rfl)
  next => rfl
  next => (intro w' hSw; have z0 := (hSw.cell (p := ⟨w.heap.size, 0, none⟩) lz2).trans q2; have z1 := (hSw.cell (p := ⟨w.heap.size + 1, 0, none⟩) lz3).trans q3; have z4 := (hSw.cell (p := ⟨pb, 4, none⟩) lz6).trans q64; have z9 := (hSw.cell (p := ⟨pb, 9, none⟩) lz6).trans q69; clear hSw; go_simp; first | done | with_reducible rfl)
  simp only [Act.put, List.setIfInBounds_toArray, List.set_cons_zero, List.set_cons_succ]
  refine Ord.go_one (i := 10) (by kernel_rfl) (by kernel_rfl) ?_
  apply Ord.go_done1
  next => (simp only [List.getElem?_toArray, List.getElem?_cons_succ, List.getElem?_cons_zero]; rfl)
  next => rfl
  intro K hK
  go_wp2_with fail
  refine (fields_is u (some ⟨ub, uo, none⟩) B cap (i : Int) _ wd0 rfl (HA.out ▸ HUZ.out.below hb HZB.out) (Nat.le_trans HZB.out hb.size) HN.out HM.out).mono ?_; rintro _ w5 ⟨FA, fc, rfl, ho, hb'⟩; dsimp only
  refine hK.out _ _ (hb.trans (hb'.mono hb.size)) (fun hHeld => ?_)
  have HFR := Aid.hid (Rows.of_own (rows := (Tb.fields u (i : Int)).map Vd.cells) (Vd.len _) (by rw [List.length_map]; exact ho))
  clear hb hb' ho
  have hb := hHeld
  clear hK K
  try simp only [Act.put, List.setIfInBounds_toArray, List.set_cons_zero, List.set_cons_succ]
  refine Ord.go_one (i := 11) (by kernel_rfl) (by kernel_rfl) ?_
  apply Ord.go_done1
  next => (simp only [List.getElem?_toArray, List.getElem?_cons_succ, List.getElem?_cons_zero]; rfl)
  next => rfl
  intro K hK
  go_wp2_with fail
  refine hK.out _ _ (hb.alloc hb.size _) (fun hHeld => ?_)
  have hg := Aid.Has.new w5 [.slice m.pA m.ps.length m.pc, .slice m.vA m.vs.length m.vc, .slice FA (Tb.fields u (i : Int)).length fc] 30
  have hf6 := HFR.out.below (below_new w5 (.cells #[.slice m.pA m.ps.length m.pc, .slice m.vA m.vs.length m.vc, .slice FA (Tb.fields u (i : Int)).length fc] 30)) (Nat.le_refl _)
  obtain ⟨w6, h6⟩ : ∃ w6, w5.alloc (.cells #[.slice m.pA m.ps.length m.pc, .slice m.vA m.vs.length m.vc, .slice FA (Tb.fields u (i : Int)).length fc] 30) = w6 := ⟨_, rfl⟩
  rw [h6] at hg hf6 hHeld ⊢
  have hf7 := hf6.more (show w5.heap.size ≤ w6.heap.size by rw [← h6]; simp)
  have HG := Aid.hid hg
  have HF6 := Aid.hid hf7
  clear h6 hg hb hf6 hf7
  have hb := hHeld
  clear hK K
  try simp only [Act.put, List.setIfInBounds_toArray, List.set_cons_zero, List.set_cons_succ]
  refine Ord.go_one (i := 12) (by kernel_rfl) (by kernel_rfl) ?_
  apply Ord.go_done1
  next => (simp only [List.getElem?_toArray, List.getElem?_cons_succ, List.getElem?_cons_zero]; rfl)
  next => rfl
  intro K hK
  go_wp2_with fail
  refine (cat3_is m.ps m.vs (Tb.fields u (i : Int)) m.pA m.vA FA m.pc m.vc fc w5.heap.size 3 w6 HG.out ((HPZ.out.below hb (Nat.le_refl _)).more hb.size) ((HVZ.out.below hb (Nat.le_refl _)).more hb.size) HF6.out HP.out HV.out HF.out).mono ?_; rintro _ w7 ⟨CA, cc, rfl, ho, hb'⟩; dsimp only
  refine hK.out _ _ (hb.trans (hb'.mono hb.size)) (fun hHeld => ?_)
  have HCO := Aid.hid ho
  clear hb hb' ho
  have hb := hHeld
  clear hK K
  try simp only [Act.put, List.setIfInBounds_toArray, List.set_cons_zero, List.set_cons_succ]
  refine Ord.go_tail ?_; simp only [List.drop_succ_cons, List.drop_zero]
  go_wp2_with fail
  go_ret
  have el : m.ps.length + (m.vs.length + (Tb.fields u (i : Int)).length) = (m.ps ++ m.vs ++ Tb.fields u (i : Int)).length := by simp only [List.length_append]; omega
  rw [el]
  have kq := hb.alloc hb.size (.cells #[.slice (some ⟨ub, uo, none⟩) u.length cap, .int .i64 (i : Int), .pointer (some ⟨pb, 0, none⟩), .slice CA (m.ps ++ m.vs ++ Tb.fields u (i : Int)).length cc] 101)
  have kall := KZ.out.trans (kq.mono KZ.out.size)
  have hvr := (Rows.of_own (rows := (m.ps ++ m.vs ++ Tb.fields u (i : Int)).map Vd.cells) (Vd.len _) (by rw [List.length_map]; exact HCO.out))
  refine ⟨w7.heap.size, ⟨some ⟨ub, uo, none⟩, cap, some ⟨pb, 0, none⟩, CA, cc⟩, rfl, ⟨Aid.Has.new w7 [.slice (some ⟨ub, uo, none⟩) u.length cap, .int .i64 (i : Int), .pointer (some ⟨pb, 0, none⟩), .slice CA (m.ps ++ m.vs ++ Tb.fields u (i : Int)).length cc] 101, ?_, Nat.le_trans hB kall.size, ?_, ?_, (fun h => by cases h), fun m' hm' => ?_⟩, kall⟩
  · have hq := HUZ.out.below kq HZB.out; rw [HA.out] at hq; exact hq
  · exact (hvr.below (below_new w7 _) (Nat.le_refl _)).more (below_new w7 _).size
  · have := HP.out; have := HV.out; have := HF.out; simp only [List.length_append]; omega
  · cases hm'; exact ⟨pb, rfl, NM.out.below kq lz6⟩
end Go.Proofs.YtejifefgmlpclaaGreat
/- Typing at no place; at any place. -/
namespace Go.Proofs.YtejifefgmlpclaaGreat
open Go.RowKit

set_option maxRecDepth 100000 in
set_option maxHeartbeats 4000000 in
theorem at_out (u : List Dk) (a : Option Addr) (cap : Nat) (x y : Int) (w : World) (h : x < 0 ∨ (u.length : Int) ≤ x) :
    Calls Tryz.prog 59 #[.agg #[.slice a u.length cap], .agg #[.int .i64 x, .int .i64 y]] w fun z w' => z = .returned (.pointer none) ∧ Below w.heap.size w w' := by
  obtain ⟨n2, n3, k0⟩ := two_new w [.slice a u.length cap] [.int .i64 x, .int .i64 y] 24 76
  obtain ⟨W, hW⟩ : ∃ W, (w.alloc (.cells #[.slice a u.length cap] 24)).alloc (.cells #[.int .i64 x, .int .i64 y] 76) = W := ⟨_, rfl⟩
  rw [hW] at n2 n3 k0
  have x2 := n2.cell 0 _ rfl
  have l2 := n2.lt
  have x3 := n3.cell 0 _ rfl
  have l3 := n3.lt
  have K0 := Aid.hid k0
  clear n2 n3 k0
  by_cases h0 : x < 0
  · clear h
    go_enter Tryz.func59, Tryz.ntmps59
    try simp only [List.append_eq, List.cons_append, List.nil_append]
    go_wp2_with fail
    go_ret
    exact ⟨rfl, K0.out⟩
  · have h1 : (u.length : Int) ≤ x := by omega
    clear h
    go_enter Tryz.func59, Tryz.ntmps59
    try simp only [List.append_eq, List.cons_append, List.nil_append]
    go_wp2_with fail
    go_ret
    exact ⟨rfl, K0.out⟩
set_option maxRecDepth 100000 in
set_option maxHeartbeats 4000000 in
theorem at_bad (u : List Dk) (a : Option Addr) (B cap i : Nat) (y : Int) (d : Dk) (w : World) (hd : u[i]? = some d) (hu : UnitAt w B a u) (hB : B ≤ w.heap.size) (h3 : ¬ (d.kind = 3 ∧ y = -1)) (h2 : ¬ (d.kind = 2 ∧ 0 ≤ y ∧ y < (d.ms.length : Int))) :
    Calls Tryz.prog 59 #[.agg #[.slice a u.length cap], .agg #[.int .i64 (i : Int), .int .i64 y]] w fun z w' => z = .returned (.pointer none) ∧ Below w.heap.size w w' := by
  obtain ⟨n2, n3, k0⟩ := two_new w [.slice a u.length cap] [.int .i64 (i : Int), .int .i64 y] 24 76
  have hil : i < u.length := (List.getElem?_eq_some_iff.1 hd).1
  obtain ⟨W, hW⟩ : ∃ W, (w.alloc (.cells #[.slice a u.length cap] 24)).alloc (.cells #[.int .i64 (i : Int), .int .i64 y] 76) = W := ⟨_, rfl⟩
  rw [hW] at n2 n3 k0
  have hu2 := hu.below k0 hB
  have sm := hu.small
  obtain ⟨ub, uo, hA, hub, hc⟩ := hu2.at_ (by omega)
  have x2 := n2.cell 0 _ rfl
  rw [hA] at x2
  have l2 := n2.lt
  have x3 := n3.cell 0 _ rfl
  have x4 := n3.cell 1 _ rfl
  have l3 := n3.lt
  have u0 := hc i d hd 0 _ rfl
  have u1 := hc i d hd 1 _ rfl
  have u2 := hc i d hd 2 _ rfl
  have u3 := hc i d hd 3 _ rfl
  have u4 := hc i d hd 4 _ rfl
  have u5 := hc i d hd 5 _ rfl
  have u6 := hc i d hd 6 _ rfl
  have u7 := hc i d hd 7 _ rfl
  have u8 := hc i d hd 8 _ rfl
  have u9 := hc i d hd 9 _ rfl
  have u10 := hc i d hd 10 _ rfl
  simp only [Nat.add_zero] at u0
  obtain ⟨k, hk⟩ : ∃ k, d.kind = k := ⟨_, rfl⟩
  rw [hk] at u0 h3 h2
  have lub : ub < W.heap.size := by have := k0.size; omega
  have hi0 : decide ((i : Int) < 0) = false := by simp
  have hi1 : decide ((u.length : Int) ≤ (i : Int)) = false := by simp; omega
  have hi2 : (i : Int) < (u.length : Int) := by omega
  have HA := Aid.hid hA; have HKK := Aid.hid hk
  have k3 := k0.alloc k0.size (.cells #[.int .i64 k, .string d.name, .string d.base, .slice d.fA d.faces.length d.fc, .bool d.abs, .bool d.fin, .slice d.vA d.vs.length d.vc, .slice d.mA d.ms.length d.mc, .slice d.bA d.body.length d.bc, .int .i64 d.every, .int .i64 d.first] 34)
  have n4 := n3.alloc (.cells #[.int .i64 k, .string d.name, .string d.base, .slice d.fA d.faces.length d.fc, .bool d.abs, .bool d.fin, .slice d.vA d.vs.length d.vc, .slice d.mA d.ms.length d.mc, .slice d.bA d.body.length d.bc, .int .i64 d.every, .int .i64 d.first] 34)
  have nd := Aid.Has.new W [.int .i64 k, .string d.name, .string d.base, .slice d.fA d.faces.length d.fc, .bool d.abs, .bool d.fin, .slice d.vA d.vs.length d.vc, .slice d.mA d.ms.length d.mc, .slice d.bA d.body.length d.bc, .int .i64 d.every, .int .i64 d.first] 34
  obtain ⟨X, hX⟩ : ∃ X, W.alloc (.cells #[.int .i64 k, .string d.name, .string d.base, .slice d.fA d.faces.length d.fc, .bool d.abs, .bool d.fin, .slice d.vA d.vs.length d.vc, .slice d.mA d.ms.length d.mc, .slice d.bA d.body.length d.bc, .int .i64 d.every, .int .i64 d.first] 34) = X := ⟨_, rfl⟩
  rw [hX] at k3 n4 nd
  have y0 := nd.cell 0 _ rfl
  have y7 := nd.cell 7 _ rfl
  have ly := nd.lt
  have x3b := n4.cell 1 _ rfl
  have l3b := n4.lt
  have K3 := Aid.hid k3
  clear hu hd hc hu2 n2 n3 n4 nd k0 k3 hk hil
  rw [hA] at hW ⊢
  clear hA
  by_cases e3 : k = 3
  · subst e3
    have hy : (y == -1) = false := by simpa using h3
    clear h3 h2
    go_enter Tryz.func59, Tryz.ntmps59
    try simp only [List.append_eq, List.cons_append, List.nil_append]
    go_wp2_with fail
    go_ret
    exact ⟨rfl, K3.out⟩
  · by_cases e2 : k = 2
    · subst e2
      clear h3
      by_cases y1 : 0 ≤ y
      · have y2 : ¬ (y < (d.ms.length : Int)) := fun h => h2 ⟨rfl, y1, h⟩
        clear h2 e3
        go_enter Tryz.func59, Tryz.ntmps59
        try simp only [List.append_eq, List.cons_append, List.nil_append]
        go_wp2_with fail
        go_ret
        exact ⟨rfl, K3.out⟩
      · clear h2 e3
        go_enter Tryz.func59, Tryz.ntmps59
        try simp only [List.append_eq, List.cons_append, List.nil_append]
        go_wp2_with fail
        go_ret
        exact ⟨rfl, K3.out⟩
    · have e3' : (k == 3) = false := by simpa using e3
      have e2' : (k == 2) = false := by simpa using e2
      clear h3 h2 e3 e2
      go_enter Tryz.func59, Tryz.ntmps59
      try simp only [List.append_eq, List.cons_append, List.nil_append]
      go_wp2_with fail
      go_ret
      exact ⟨rfl, K3.out⟩
end Go.Proofs.YtejifefgmlpclaaGreat
/- Typing at any place. -/
namespace Go.Proofs.YtejifefgmlpclaaGreat
open Go.RowKit

/-- The place that an api.Where is. -/
def Pl.at (u : List Dk) (x y : Int) : Option Pl :=
  if x < 0 then none else
    match u[x.toNat]? with
    | none => none
    | some d =>
      if d.kind = 3 ∧ y = -1 then some ⟨u, -1, none, d.vs⟩
      else if d.kind = 2 ∧ 0 ≤ y then
        match d.ms[y.toNat]? with
        | some m => some ⟨u, x, some m, m.ps ++ m.vs ++ Tb.fields u x⟩
        | none => none
      else none
/-- No list of a unit is too long. -/
structure ULim (u : List Dk) : Prop where
  n : u.length ≤ 20
  v : ∀ d ∈ u, d.vs.length ≤ 1048576
  p : ∀ d ∈ u, ∀ m ∈ d.ms, m.ps.length ≤ 100000000 ∧ m.vs.length ≤ 100000000
def Pl.Made (w : World) (B : Nat) (o : Option Pl) (z : Ending) (w' : World) : Prop :=
  Below w.heap.size w w' ∧ match o with
    | none => z = .returned (.pointer none)
    | some p => ∃ b A, z = .returned (.pointer (some ⟨b, 0, none⟩)) ∧ PlAt w' B b p A
theorem at_is (u : List Dk) (a : Option Addr) (B cap : Nat) (x y : Int) (w : World) (hu : UnitAt w B a u) (hB : B ≤ w.heap.size) (hl : ULim u) :
    Calls Tryz.prog 59 #[.agg #[.slice a u.length cap], .agg #[.int .i64 x, .int .i64 y]] w fun z w' => Pl.Made w B (Pl.at u x y) z w' := by
  by_cases h0 : x < 0
  · refine (at_out u a cap x y w (.inl h0)).mono ?_
    rintro z w' ⟨rfl, hb⟩
    exact ⟨hb, by rw [Pl.at, if_pos h0]⟩
  · obtain ⟨i, rfl⟩ : ∃ i : Nat, x = i := ⟨x.toNat, by omega⟩
    cases hd : u[i]? with
    | none =>
      have hi : u.length ≤ i := by simpa using hd
      refine (at_out u a cap i y w (.inr (by omega))).mono ?_
      rintro z w' ⟨rfl, hb⟩
      exact ⟨hb, by rw [Pl.at, if_neg h0]; simp [hd]⟩
    | some d =>
      have hmem := List.mem_of_getElem? hd
      by_cases h3 : d.kind = 3 ∧ y = -1
      · obtain ⟨hk, rfl⟩ := h3
        refine (at_prog u a B cap i d w hd hk (Nat.le_trans (hl.v d hmem) (by decide)) hu hB).mono ?_
        rintro z w' ⟨b, A, rfl, hp, hb⟩
        exact ⟨hb, by rw [Pl.at, if_neg h0]; simp only [Int.toNat_natCast, hd, hk, and_self, if_true]; exact ⟨b, A, rfl, hp⟩⟩
      · by_cases h2 : d.kind = 2 ∧ 0 ≤ y ∧ y < (d.ms.length : Int)
        · obtain ⟨hk, hy, hyl⟩ := h2
          obtain ⟨j, rfl⟩ : ∃ j : Nat, y = j := ⟨y.toNat, by omega⟩
          obtain ⟨m, hm⟩ : ∃ m, d.ms[j]? = some m := ⟨_, List.getElem?_eq_getElem (by omega)⟩
          have hpm := hl.p d hmem m (List.mem_of_getElem? hm)
          refine (at_meth u a B cap i j d m w hd hk hm hu hB hl.n hl.v hpm.1 hpm.2 ?_).mono ?_
          · have h := Tb.fields_len hl.v (i : Int)
            have hn := hl.n
            have : (u.length + 1) * 1048576 ≤ 21 * 1048576 := Nat.mul_le_mul_right _ (by omega)
            omega
          · rintro z w' ⟨b, A, rfl, hp, hb⟩
            refine ⟨hb, ?_⟩
            have e : Pl.at u (i : Int) (j : Int) = some ⟨u, (i : Int), some m, m.ps ++ m.vs ++ Tb.fields u i⟩ := by
              rw [Pl.at, if_neg h0]
              simp only [Int.toNat_natCast, hd]
              rw [if_neg h3, if_pos ⟨hk, hy⟩]
              simp only [hm]
            rw [e]
            exact ⟨b, A, rfl, hp⟩
        · refine (at_bad u a B cap i y d w hd hu hB h3 h2).mono ?_
          rintro z w' ⟨rfl, hb⟩
          refine ⟨hb, ?_⟩
          have e : Pl.at u (i : Int) y = none := by
            rw [Pl.at, if_neg h0]
            simp only [Int.toNat_natCast, hd]
            rw [if_neg h3]
            by_cases h4 : d.kind = 2 ∧ 0 ≤ y
            · rw [if_pos h4]
              have : d.ms[y.toNat]? = none := by
                have h5 : ¬ y < (d.ms.length : Int) := fun h => h2 ⟨h4.1, h4.2, h⟩
                simp; omega
              simp only [this]
            · rw [if_neg h4]
          rw [e]
def Ty.Stmts (u : List Dk) (x y : Int) (l : List St) : Int :=
  match Pl.at u x y with
  | none => 22
  | some p => Ty.stmts p false l
set_option maxRecDepth 100000 in
set_option maxHeartbeats 4000000 in
theorem Stmts_is (f : Nat) (u : List Dk) (a : Option Addr) (B cap : Nat) (x y : Int) (A : Option Addr) (l : List St) (c : Nat) (r : Int) (w : World) (hr : Ty.Stmts u x y l = r) (hu : UnitAt w B a u) (hB : B ≤ w.heap.size) (hl : ULim u) (hsl : StsLim f l) (hs : StsAt f w B A l) :
    Calls Tryz.prog 39 #[.agg #[.slice a u.length cap], .agg #[.int .i64 x, .int .i64 y], .slice A l.length c] w fun z w' => z = .returned (.int .i64 r) ∧ Below w.heap.size w w' := by
  obtain ⟨n3, n4, k0⟩ := two_new w [.slice a u.length cap] [.int .i64 x, .int .i64 y] 24 76
  obtain ⟨W, hW⟩ : ∃ W, (w.alloc (.cells #[.slice a u.length cap] 24)).alloc (.cells #[.int .i64 x, .int .i64 y] 76) = W := ⟨_, rfl⟩
  rw [hW] at n3 n4 k0
  have HC := Aid.hid (at_is u a B cap x y W (hu.below k0 hB) (Nat.le_trans hB k0.size) hl)
  have x3 := n3.cell 0 _ rfl
  have x40 := n4.cell 0 _ rfl
  have x41 := n4.cell 1 _ rfl
  have l3 := n3.lt
  have l4 := n4.lt
  have K0 := Aid.hid k0
  have HS := Aid.hid hs; have HR := Aid.hid hr; have HL := Aid.hid hsl
  clear hu hl hs hr hsl n3 n4 k0
  go_enter Tryz.func39, Tryz.ntmps39
  try simp only [List.append_eq, List.cons_append, List.nil_append]
  go_wp2_with fail
  clear hW
  refine HC.out.mono ?_; rintro z1 w1 ⟨hb1, hz⟩
  have K1 := Aid.hid (K0.out.trans (hb1.mono K0.out.size))
  clear hb1 HC
  have HR2 := HR.out
  rw [Ty.Stmts] at HR2
  cases ho : Pl.at u x y with
  | none =>
    rw [ho] at hz HR2
    obtain rfl := hz
    obtain rfl : 22 = r := HR2
    clear ho HR
    go_wp2_with fail
    go_ret
    exact ⟨rfl, K1.out⟩
  | some p =>
    rw [ho] at hz HR2
    obtain ⟨b, A1, rfl, hp⟩ := hz
    have HCE := Aid.hid (stmts_ok B b p A1 f l HL.out w1 A c false r HR2 hp (HS.out.below K1.out hB))
    clear ho HR HR2 hp
    go_wp2_with fail
    refine HCE.out.mono ?_; rintro _ w9 ⟨rfl, hb9⟩
    have K9 := Aid.hid (K1.out.trans (hb9.mono K1.out.size))
    clear hb9 HCE
    go_wp2_with fail
    go_ret
    exact ⟨rfl, K9.out⟩
end Go.Proofs.YtejifefgmlpclaaGreat
