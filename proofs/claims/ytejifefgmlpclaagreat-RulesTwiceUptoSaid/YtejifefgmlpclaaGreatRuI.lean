/- Names in a class: as walks. -/
import Derived.Test.YtejifefgmlpclaaGreatRuG
import Derived.Test.YtejifefgmlpclaaGreatTyY
import Derived.WalkKit
import Derived.WalkSpells
import Derived.WalkLawsBesides
import Derived.LoopTactic
import Derived.Deep.QuietTactic
import Derived.BigQuiet
import Derived.Below
import Derived.Laws.ResultCell
import Derived.Laws.Tables
import Derived.Laws.Rows
import Derived.Deep.Cut
import Derived.KernelRfl
set_option linter.unusedSimpArgs false
set_option linter.unusedVariables false
namespace Go.Proofs.YtejifefgmlpclaaGreat
open Go.RowKit

/-- What the walks of a class ask of a unit. -/
structure RLim (u : List Dk) : Prop where
  lim : ULim u
  body : ∀ d ∈ u, ∀ m ∈ d.ms, m.body.length ≤ 1000000000
theorem vars_of_own {w : World} {base c : Nat} {A : Option Addr} {zs : List Vd} (h : w.ownsRow base 55 8 (.slice A zs.length c) zs.length (zs.map Vd.cells).flatten) : Rows w w.heap.size 8 A (zs.map Vd.cells) ∧ zs.length ≤ c := by
  have h2 : w.ownsRow base 55 8 (.slice A (zs.map Vd.cells).length c) (zs.map Vd.cells).length (zs.map Vd.cells).flatten := by simpa using h
  refine ⟨Rows.of_own (fun r hr => by obtain ⟨v, _, rfl⟩ := List.mem_map.1 hr; rfl) h2, ?_⟩
  rcases h.2 with ⟨h1, h0⟩ | ⟨g, cp, cur, h1, _, _, h4, _⟩
  · rw [h0]; exact Nat.zero_le _
  · obtain ⟨_, rfl⟩ : A = some ⟨g, 0, none⟩ ∧ c = cp := by simpa using h1
    exact h4
theorem fields_lim {u : List Dk} (h : ULim u) (i : Nat) : (Tb.fields u i).length ≤ 100000000 := by
  have h1 := Tb.fields_len h.v (i : Int)
  have hn := h.n
  have : (u.length + 1) * 1048576 ≤ 21 * 1048576 := Nat.mul_le_mul_right _ (by omega)
  omega
set_option maxRecDepth 100000 in
set_option maxHeartbeats 4000000 in
theorem Visible_meth (u : List Dk) (a : Option Addr) (B cap i j : Nat) (d : Dk) (m : Md) (L : List Vd) (w : World) (hL : m.ps ++ m.vs ++ Tb.fields u i = L) (hd : u[i]? = some d) (hk : d.kind = 2) (hm : d.ms[j]? = some m) (hu : UnitAt w B a u) (hB : B ≤ w.heap.size) (hl : ULim u) :
    Calls Tryz.prog 54 #[.agg #[.slice a u.length cap], .agg #[.int .i64 (i : Int), .int .i64 (j : Int)]] w fun z w' => ∃ A c, z = .returned (.slice A L.length c) ∧ w'.ownsRow w.heap.size 55 8 (.slice A L.length c) L.length (L.map Vd.cells).flatten ∧ Below w.heap.size w w' := by
  subst hL
  have hpm := hl.p d (List.mem_of_getElem? hd) m (List.mem_of_getElem? hm)
  have hff := fields_lim hl i
  obtain ⟨n2, n3, k0⟩ := two_new w [.slice a u.length cap] [.int .i64 (i : Int), .int .i64 (j : Int)] 24 76
  obtain ⟨W, hW⟩ : ∃ W, (w.alloc (.cells #[.slice a u.length cap] 24)).alloc (.cells #[.int .i64 (i : Int), .int .i64 (j : Int)] 76) = W := ⟨_, rfl⟩
  rw [hW] at n2 n3 k0
  have HC := Aid.hid (at_meth u a B cap i j d m W hd hk hm (hu.below k0 hB) (Nat.le_trans hB k0.size) hl.n hl.v hpm.1 hpm.2 hff)
  obtain ⟨L, hL⟩ : ∃ L, m.ps ++ m.vs ++ Tb.fields u i = L := ⟨_, rfl⟩
  rw [hL] at HC ⊢
  have x3 := n2.cell 0 _ rfl
  have x40 := n3.cell 0 _ rfl
  have x41 := n3.cell 1 _ rfl
  have l3 := n2.lt
  have l4 := n3.lt
  have K0 := Aid.hid k0
  clear hd hk hm hu n2 n3 k0 hL hpm hff
  go_enter Tryz.func54, Tryz.ntmps54
  try simp only [List.append_eq, List.cons_append, List.nil_append]
  go_wp2_with fail
  clear hW
  refine HC.out.mono ?_; rintro _ w1 ⟨b, A, rfl, hp, hb1⟩
  have k1 := K0.out.trans (hb1.mono K0.out.size)
  have y3 := hp.has.cell 3 _ rfl
  have lb := hp.has.lt
  dsimp only at y3
  have HCC := Aid.hid (clone_is A.vA A.vc w1.heap.size L w1 hp.vars (Nat.le_refl _) hp.lim)
  have K1 := Aid.hid k1
  clear hp hb1 k1 x3 x40 x41 l3 l4 HC
  go_wp2_with fail
  refine HCC.out.mono ?_; rintro _ w9 ⟨A9, c9, rfl, ho, hb9⟩
  have K9 := Aid.hid (K1.out.trans (hb9.mono K1.out.size))
  have HO := Aid.hid (own_lowers ho K1.out.size)
  clear hb9 ho
  go_wp2_with fail
  go_ret
  exact ⟨A9, c9, rfl, HO.out, K9.out⟩
def Ru.namesM (u : List Dk) (d : Int) (m : Md) : Bool := Ru.twins (m.ps ++ m.vs ++ Tb.fields u d)
theorem Ru.names_eq (u : List Dk) (d : Int) (x : Dk) : Ru.names u d x = ((Ru.twins (Tb.fields u d) || Ru.twiceM x.ms) || x.ms.any (Ru.namesM u d)) := rfl
set_option maxRecDepth 100000 in
set_option maxHeartbeats 4000000 in
theorem names_is (u : List Dk) (a : Option Addr) (B cap b i : Nat) (d : Dk) (r : Bool) (w : World) (hr : Ru.names u i d = r) (hk : d.kind = 2) (hl : RLim u) (hcap : UCap u cap) (hx : Aid.Has w b [.slice a u.length cap, .int .i64 (i : Int), .int .i64 d.kind, .string d.name, .string d.base, .slice d.fA d.faces.length d.fc, .bool d.abs, .bool d.fin, .slice d.vA d.vs.length d.vc, .slice d.mA d.ms.length d.mc, .slice d.bA d.body.length d.bc, .int .i64 d.every, .int .i64 d.first] 50) (hd : u[i]? = some d) (hu : UnitAt w B a u) (hB : B ≤ w.heap.size) :
    Calls Tryz.prog 35 #[.pointer (some ⟨b, 0, none⟩)] w fun z w' => z = .returned (.bool r) ∧ Below w.heap.size w w' := by
  obtain ⟨q1, hq1⟩ : ∃ q, Ru.twins (Tb.fields u i) = q := ⟨_, rfl⟩
  obtain ⟨q2, hq2⟩ : ∃ q, Ru.twiceM d.ms = q := ⟨_, rfl⟩
  have E : Hid (((q1 || q2) || d.ms.any (Ru.namesM u i)) = r) := Aid.hid (by rw [← hr, Ru.names_eq, hq1, hq2])
  obtain ⟨fs, hfs⟩ : ∃ l, Tb.fields u i = l := ⟨_, rfl⟩
  have hfl := fields_lim hl.lim i
  rw [hfs] at hfl hq1
  have HQ1 := Aid.hid hq1; have HQ2 := Aid.hid hq2; have HFS := Aid.hid hfs; have HL := Aid.hid hl; have HKI := Aid.hid hk
  have hmem := List.mem_of_getElem? hd
  have HDK := Aid.hid (hu.decls d hmem)
  have smM := HDK.out.smallM; have smV := HDK.out.smallV; have smF := HDK.out.smallF
  have HCP := Aid.hid hcap
  have HU := Aid.hid hu; have HX := Aid.hid hx; have HD := Aid.hid hd
  have sm := hu.small
  have hil : i < u.length := (List.getElem?_eq_some_iff.1 hd).1
  clear hr hq1 hq2 hfs hl hk hmem hcap hu hx hd
  go_enter Tryz.func35, Tryz.ntmps35
  try simp only [List.append_eq, List.cons_append, List.nil_append]
  have Nx := Aid.hid (HX.out.below ((Below.refl w.heap.size w)) HX.out.lt)
  have xx0 := Nx.out.cell 0 _ rfl
  have xx1 := Nx.out.cell 1 _ rfl
  have xx9 := Nx.out.cell 9 _ rfl
  have lx := Nx.out.lt
  go_wp2_with fail
  cases q1
  · cases q2
    · have HZ := Aid.hid (fun (w' : World) (hSw : Below w.heap.size w w') => (⟨(hSw.cell (p := ⟨b, 0, none⟩) lx).trans xx0, (hSw.cell (p := ⟨b, 1, none⟩) lx).trans xx1, (hSw.cell (p := ⟨b, 9, none⟩) lx).trans xx9⟩ : _ ∧ _ ∧ _))
      have hb : Below w.heap.size w w.drew := (Below.refl _ _).drew
      refine Ord.wp_region_walk (fun w' => Below w.heap.size w w') 17 [(true, 0), (true, 1), (true, 2), (true, 3), (true, 4), (true, 5), (true, 6), (true, 7), (false, 8), (false, 9), (true, 10), (true, 11), (true, 12), (true, 13), (true, 14), (true, 15), (false, 16)] (by kernel_rfl) (by kernel_rfl) (fun _ _ d _ _ h => by cases d <;> exact h) (hb) ?_
      clear hb
      have hb : Below w.heap.size w w.drew := (Below.refl _ _).drew
      generalize w.drew = wd0 at *
      iterate 8
        apply Ord.walk_light
        next => (simp only [la0, la1, la2]; rfl)
        next => rfl
        next => (intro w' hSw; obtain ⟨z0, z1, z2⟩ := HZ.out w' hSw; clear hSw; go_simp; first | done | with_reducible rfl)
        simp only [Act.put, la3, la4, la5]
      apply Ord.walk_heavy
      next => (simp only [la0, la1, la2]; rfl)
      next => rfl
      intro K hK
      go_wp2_with fail
      refine (fields_is u a B cap (i : Int) fs _ HFS.out (HU.out.below ((((Below.refl w.heap.size w)).trans (hb.mono ((Below.refl w.heap.size w)).size))) hB) (Nat.le_trans hB ((((Below.refl w.heap.size w)).trans (hb.mono ((Below.refl w.heap.size w)).size))).size) HL.out.lim.n HL.out.lim.v).mono ?_; rintro _ v0_1 ⟨A1, c1, rfl, hown, hb'⟩; dsimp only
      refine hK.out _ _ (hb.trans (hb'.mono hb.size)) (fun hHeld => ?_)
      clear hb hb'
      have hb := hHeld
      clear hK K
      try simp only [Act.put, la3, la4, la5]
      apply Ord.walk_heavy
      next => (simp only [la0, la1, la2]; rfl)
      next => rfl
      intro K hK
      go_wp2_with fail
      refine (twins_is fs A1 c1 _ _ _ HQ1.out (vars_of_own hown).1 (Nat.le_refl _) (Nat.le_trans hfl (by decide)) (vars_of_own hown).2).mono ?_; rintro _ v0_2 ⟨rfl, hb'⟩; dsimp only
      refine hK.out _ _ (hb.trans (hb'.mono hb.size)) (fun hHeld => ?_)
      clear hb hb'
      have hb := hHeld
      clear hK K
      try simp only [Act.put, la3, la4, la5]
      iterate 6
        apply Ord.walk_light
        next => (simp only [la0, la1, la2]; rfl)
        next => rfl
        next => (intro w' hSw; obtain ⟨z0, z1, z2⟩ := HZ.out w' hSw; clear hSw; go_simp; first | done | with_reducible rfl)
        simp only [Act.put, la3, la4, la5]
      apply Ord.walk_heavy
      next => (simp only [la0, la1, la2]; rfl)
      next => rfl
      intro K hK
      go_wp2_with fail
      refine (twice_is d.ms d.mA d.mc B _ _ HQ2.out (HDK.out.meths.below ((((Below.refl w.heap.size w)).trans (hb.mono ((Below.refl w.heap.size w)).size))) hB) (Nat.le_trans hB ((((Below.refl w.heap.size w)).trans (hb.mono ((Below.refl w.heap.size w)).size))).size) HDK.out.smallM (HCP.out.m d (List.mem_of_getElem? HD.out))).mono ?_; rintro _ v0_3 ⟨rfl, hb'⟩; dsimp only
      refine hK.out _ _ (hb.trans (hb'.mono hb.size)) (fun hHeld => ?_)
      clear hb hb'
      have hb := hHeld
      clear hK K
      try simp only [Act.put, la3, la4, la5]
      refine Ord.walk_tail ?_; simp only [List.drop_succ_cons, List.drop_zero]
      have hbx := hb
      clear hb HZ
      have Kx1 := Aid.hid (((Below.refl w.heap.size w)).trans (hbx.mono ((Below.refl w.heap.size w)).size))
      have Nx_1 := Aid.hid (Nx.out.below hbx Nx.out.lt)
      clear xx0 xx1 xx9 lx
      clear hbx
      have xx0 := Nx_1.out.cell 0 _ rfl
      have xx1 := Nx_1.out.cell 1 _ rfl
      have xx9 := Nx_1.out.cell 9 _ rfl
      have lx := Nx_1.out.lt
      try clear hown
      go_wp2_with fail
      clear xx0 xx1 xx9 lx
      go_loopw [28] (fun vi wi => ∃ k : Nat, vi = .int .i64 k ∧ k ≤ d.ms.length ∧ Hid (∀ j, j < k → ∀ e, d.ms[j]? = some e → Ru.namesM u i e = false) ∧ Hid (Below v0_3.heap.size v0_3 wi)) (fun vi _ => d.ms.length - (intOf vi).toNat)
      case atStart => exact ⟨0, rfl, Nat.zero_le _, Aid.hid (fun j hj => by omega), Aid.hid (Below.refl _ _)⟩
      case round =>
        obtain ⟨k, rfl, hk, NO, HB⟩ := hrel
        have KHB := Aid.hid ((Kx1.out).trans (HB.out.mono (Kx1.out).size))
        have Nx_HB := Aid.hid (Nx_1.out.below HB.out Nx_1.out.lt)
        by_cases hkl : k < d.ms.length
        · obtain ⟨m, hm⟩ : ∃ x, d.ms[k]? = some x := ⟨_, List.getElem?_eq_getElem hkl⟩
          have HM := Aid.hid hm
          obtain ⟨q, hq⟩ : ∃ q, Ru.namesM u i m = q := ⟨_, rfl⟩
          have HQ := Aid.hid hq
          obtain ⟨L, hL⟩ : ∃ L, m.ps ++ m.vs ++ Tb.fields u i = L := ⟨_, rfl⟩
          have hpm := HL.out.lim.p d (List.mem_of_getElem? HD.out) m (List.mem_of_getElem? hm)
          have hff := fields_lim HL.out.lim i
          have hLl : L.length ≤ 9223372036854775807 := by rw [← hL]; simp only [List.length_append]; omega
          have HLL := Aid.hid hL
          have HQ3 : Hid (Ru.twins L = q) := Aid.hid (by rw [← hL]; exact hq)
          clear hm hq hL hpm hff
          have xx0 := Nx_HB.out.cell 0 _ rfl
          have xx1 := Nx_HB.out.cell 1 _ rfl
          have xx9 := Nx_HB.out.cell 9 _ rfl
          have lx := Nx_HB.out.lt
          go_wp2_with fail
          have HZ := Aid.hid (fun (w' : World) (hSw : Below wr.heap.size wr w') => (⟨(hSw.cell (p := ⟨b, 0, none⟩) lx).trans xx0, (hSw.cell (p := ⟨b, 1, none⟩) lx).trans xx1, (hSw.cell (p := ⟨b, 9, none⟩) lx).trans xx9⟩ : _ ∧ _ ∧ _))
          have hb : Below wr.heap.size wr wr.drew := (Below.refl _ _).drew
          refine Ord.wp_region_walk (fun w' => Below wr.heap.size wr w') 11 [(true, 0), (true, 1), (true, 2), (true, 3), (true, 4), (true, 5), (true, 6), (true, 7), (true, 8), (true, 9), (false, 10)] (by kernel_rfl) (by kernel_rfl) (fun _ _ d _ _ h => by cases d <;> exact h) (hb) ?_
          clear hb
          have hb : Below wr.heap.size wr wr.drew := (Below.refl _ _).drew
          generalize wr.drew = wd1 at *
          iterate 10
            apply Ord.walk_light
            next => (simp only [la0, la1, la2]; rfl)
            next => rfl
            next => (intro w' hSw; obtain ⟨z0, z1, z2⟩ := HZ.out w' hSw; clear hSw; go_simp; first | done | with_reducible rfl)
            simp only [Act.put, la3, la4, la5]
          apply Ord.walk_heavy
          next => (simp only [la0, la1, la2]; rfl)
          next => rfl
          intro K hK
          go_wp2_with fail
          refine (Visible_meth u a B cap i k d m L _ HLL.out HD.out HKI.out HM.out (HU.out.below (((KHB.out).trans (hb.mono (KHB.out).size))) hB) (Nat.le_trans hB (((KHB.out).trans (hb.mono (KHB.out).size))).size) HL.out.lim).mono ?_; rintro _ v1_1 ⟨A1, c1, rfl, hown, hb'⟩; dsimp only
          refine hK.out _ _ (hb.trans (hb'.mono hb.size)) (fun hHeld => ?_)
          clear hb hb'
          have hb := hHeld
          clear hK K
          try simp only [Act.put, la3, la4, la5]
          refine Ord.walk_tail ?_; simp only [List.drop_succ_cons, List.drop_zero]
          have hbx := hb
          clear hb HZ
          have R2_1 := Aid.hid ((HB).out.trans (hbx.mono (HB).out.size))
          have Kx2 := Aid.hid ((KHB.out).trans (hbx.mono (KHB.out).size))
          have Nx_2 := Aid.hid (Nx_HB.out.below hbx Nx_HB.out.lt)
          clear xx0 xx1 xx9 lx
          clear hbx
          have HVO := Aid.hid (vars_of_own hown)
          clear hown
          go_wp2_with fail
          refine (twins_is L A1 c1 _ _ _ HQ3.out HVO.out.1 (Nat.le_refl _) hLl HVO.out.2).mono ?_; rintro _ w3 ⟨rfl, hb3⟩
          have R3_2 := Aid.hid ((R2_1).out.trans (hb3.mono (R2_1).out.size))
          have Kx3 := Aid.hid ((Kx2.out).trans (hb3.mono (Kx2.out).size))
          have Nx_3 := Aid.hid (Nx_2.out.below hb3 Nx_2.out.lt)
          clear hb3
          cases q
          · have NX := Aid.hid (no_step NO.out HM.out HQ.out)
            go_wp2_with fail
            go_roundw
            case rel => exact ⟨k + 1, by go_num, by omega, NX, R3_2⟩
            case measure => simp [intOf]; omega
          · obtain rfl : true = r := by rw [← E.out, any_hit HM.out HQ.out]; rfl
            go_wp2_with fail
            go_ret
            exact ⟨rfl, Kx3.out⟩
        · obtain rfl : false = r := by rw [← E.out, any_miss (p := Ru.namesM u i) (l := d.ms) (fun j hj => NO.out j (by omega))]; rfl
          go_wp2_with fail
          go_ret
          exact ⟨rfl, KHB.out⟩
    · obtain rfl : true = r := by rw [← E.out]; rfl
      have HZ := Aid.hid (fun (w' : World) (hSw : Below w.heap.size w w') => (⟨(hSw.cell (p := ⟨b, 0, none⟩) lx).trans xx0, (hSw.cell (p := ⟨b, 1, none⟩) lx).trans xx1, (hSw.cell (p := ⟨b, 9, none⟩) lx).trans xx9⟩ : _ ∧ _ ∧ _))
      have hb : Below w.heap.size w w.drew := (Below.refl _ _).drew
      refine Ord.wp_region_walk (fun w' => Below w.heap.size w w') 17 [(true, 0), (true, 1), (true, 2), (true, 3), (true, 4), (true, 5), (true, 6), (true, 7), (false, 8), (false, 9), (true, 10), (true, 11), (true, 12), (true, 13), (true, 14), (true, 15), (false, 16)] (by kernel_rfl) (by kernel_rfl) (fun _ _ d _ _ h => by cases d <;> exact h) (hb) ?_
      clear hb
      have hb : Below w.heap.size w w.drew := (Below.refl _ _).drew
      generalize w.drew = wd0 at *
      iterate 8
        apply Ord.walk_light
        next => (simp only [la0, la1, la2]; rfl)
        next => rfl
        next => (intro w' hSw; obtain ⟨z0, z1, z2⟩ := HZ.out w' hSw; clear hSw; go_simp; first | done | with_reducible rfl)
        simp only [Act.put, la3, la4, la5]
      apply Ord.walk_heavy
      next => (simp only [la0, la1, la2]; rfl)
      next => rfl
      intro K hK
      go_wp2_with fail
      refine (fields_is u a B cap (i : Int) fs _ HFS.out (HU.out.below ((((Below.refl w.heap.size w)).trans (hb.mono ((Below.refl w.heap.size w)).size))) hB) (Nat.le_trans hB ((((Below.refl w.heap.size w)).trans (hb.mono ((Below.refl w.heap.size w)).size))).size) HL.out.lim.n HL.out.lim.v).mono ?_; rintro _ v0_1 ⟨A1, c1, rfl, hown, hb'⟩; dsimp only
      refine hK.out _ _ (hb.trans (hb'.mono hb.size)) (fun hHeld => ?_)
      clear hb hb'
      have hb := hHeld
      clear hK K
      try simp only [Act.put, la3, la4, la5]
      apply Ord.walk_heavy
      next => (simp only [la0, la1, la2]; rfl)
      next => rfl
      intro K hK
      go_wp2_with fail
      refine (twins_is fs A1 c1 _ _ _ HQ1.out (vars_of_own hown).1 (Nat.le_refl _) (Nat.le_trans hfl (by decide)) (vars_of_own hown).2).mono ?_; rintro _ v0_2 ⟨rfl, hb'⟩; dsimp only
      refine hK.out _ _ (hb.trans (hb'.mono hb.size)) (fun hHeld => ?_)
      clear hb hb'
      have hb := hHeld
      clear hK K
      try simp only [Act.put, la3, la4, la5]
      iterate 6
        apply Ord.walk_light
        next => (simp only [la0, la1, la2]; rfl)
        next => rfl
        next => (intro w' hSw; obtain ⟨z0, z1, z2⟩ := HZ.out w' hSw; clear hSw; go_simp; first | done | with_reducible rfl)
        simp only [Act.put, la3, la4, la5]
      apply Ord.walk_heavy
      next => (simp only [la0, la1, la2]; rfl)
      next => rfl
      intro K hK
      go_wp2_with fail
      refine (twice_is d.ms d.mA d.mc B _ _ HQ2.out (HDK.out.meths.below ((((Below.refl w.heap.size w)).trans (hb.mono ((Below.refl w.heap.size w)).size))) hB) (Nat.le_trans hB ((((Below.refl w.heap.size w)).trans (hb.mono ((Below.refl w.heap.size w)).size))).size) HDK.out.smallM (HCP.out.m d (List.mem_of_getElem? HD.out))).mono ?_; rintro _ v0_3 ⟨rfl, hb'⟩; dsimp only
      refine hK.out _ _ (hb.trans (hb'.mono hb.size)) (fun hHeld => ?_)
      clear hb hb'
      have hb := hHeld
      clear hK K
      try simp only [Act.put, la3, la4, la5]
      refine Ord.walk_tail ?_; simp only [List.drop_succ_cons, List.drop_zero]
      have hbx := hb
      clear hb HZ
      have Kx1 := Aid.hid (((Below.refl w.heap.size w)).trans (hbx.mono ((Below.refl w.heap.size w)).size))
      have Nx_1 := Aid.hid (Nx.out.below hbx Nx.out.lt)
      clear xx0 xx1 xx9 lx
      clear hbx
      try clear hown
      go_wp2_with fail
      go_ret
      exact ⟨rfl, Kx1.out⟩
  · obtain rfl : true = r := by rw [← E.out]; rfl
    have HZ := Aid.hid (fun (w' : World) (hSw : Below w.heap.size w w') => (⟨(hSw.cell (p := ⟨b, 0, none⟩) lx).trans xx0, (hSw.cell (p := ⟨b, 1, none⟩) lx).trans xx1, (hSw.cell (p := ⟨b, 9, none⟩) lx).trans xx9⟩ : _ ∧ _ ∧ _))
    have hb : Below w.heap.size w w.drew := (Below.refl _ _).drew
    refine Ord.wp_region_walk (fun w' => Below w.heap.size w w') 17 [(true, 0), (true, 1), (true, 2), (true, 3), (true, 4), (true, 5), (true, 6), (true, 7), (false, 8), (false, 9), (true, 10), (true, 11), (true, 12), (true, 13), (true, 14), (true, 15), (false, 16)] (by kernel_rfl) (by kernel_rfl) (fun _ _ d _ _ h => by cases d <;> exact h) (hb) ?_
    clear hb
    have hb : Below w.heap.size w w.drew := (Below.refl _ _).drew
    generalize w.drew = wd0 at *
    iterate 8
      apply Ord.walk_light
      next => (simp only [la0, la1, la2]; rfl)
      next => rfl
      next => (intro w' hSw; obtain ⟨z0, z1, z2⟩ := HZ.out w' hSw; clear hSw; go_simp; first | done | with_reducible rfl)
      simp only [Act.put, la3, la4, la5]
    apply Ord.walk_heavy
    next => (simp only [la0, la1, la2]; rfl)
    next => rfl
    intro K hK
    go_wp2_with fail
    refine (fields_is u a B cap (i : Int) fs _ HFS.out (HU.out.below ((((Below.refl w.heap.size w)).trans (hb.mono ((Below.refl w.heap.size w)).size))) hB) (Nat.le_trans hB ((((Below.refl w.heap.size w)).trans (hb.mono ((Below.refl w.heap.size w)).size))).size) HL.out.lim.n HL.out.lim.v).mono ?_; rintro _ v0_1 ⟨A1, c1, rfl, hown, hb'⟩; dsimp only
    refine hK.out _ _ (hb.trans (hb'.mono hb.size)) (fun hHeld => ?_)
    clear hb hb'
    have hb := hHeld
    clear hK K
    try simp only [Act.put, la3, la4, la5]
    apply Ord.walk_heavy
    next => (simp only [la0, la1, la2]; rfl)
    next => rfl
    intro K hK
    go_wp2_with fail
    refine (twins_is fs A1 c1 _ _ _ HQ1.out (vars_of_own hown).1 (Nat.le_refl _) (Nat.le_trans hfl (by decide)) (vars_of_own hown).2).mono ?_; rintro _ v0_2 ⟨rfl, hb'⟩; dsimp only
    refine hK.out _ _ (hb.trans (hb'.mono hb.size)) (fun hHeld => ?_)
    clear hb hb'
    have hb := hHeld
    clear hK K
    try simp only [Act.put, la3, la4, la5]
    apply Ord.walk_light
    next => (simp only [la0, la1, la2]; rfl)
    next => rfl
    next => (intro w' hSw; obtain ⟨z0, z1, z2⟩ := HZ.out w' hSw; clear hSw; go_simp; first | done | with_reducible rfl)
    simp only [Act.put, la3, la4, la5]
    iterate 5
      apply Ord.walk_idle
      next => (simp only [la0, la1, la2]; rfl)
      next => rfl
      simp only [Act.put, la3, la4, la5]
    apply Ord.walk_rest
    next => (simp only [la0, la1, la2]; rfl)
    next => rfl
    next => first | exact hHeld | exact hb
    refine Ord.walk_tail ?_; simp only [List.drop_succ_cons, List.drop_zero]
    have hbx := hb
    clear hb HZ
    have Kx1 := Aid.hid (((Below.refl w.heap.size w)).trans (hbx.mono ((Below.refl w.heap.size w)).size))
    have Nx_1 := Aid.hid (Nx.out.below hbx Nx.out.lt)
    clear xx0 xx1 xx9 lx
    clear hbx
    try clear hown
    go_wp2_with fail
    go_ret
    exact ⟨rfl, Kx1.out⟩
end Go.Proofs.YtejifefgmlpclaaGreat
