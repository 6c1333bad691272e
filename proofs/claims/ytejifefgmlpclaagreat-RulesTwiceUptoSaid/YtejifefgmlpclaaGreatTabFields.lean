/- Fields, as a walk. -/
import Derived.Test.YtejifefgmlpclaaGreatTabClone
import Derived.Test.YtejifefgmlpclaaGreatTabFieldsSpec
import Derived.Test.YtejifefgmlpclaaGreatTabC
import Derived.Test.YtejifefgmlpclaaGreatRound
set_option linter.unusedSimpArgs false
set_option linter.unusedVariables false
namespace Go.Proofs.YtejifefgmlpclaaGreat
open Go.RowKit Go.Shelf
attribute [local go_sem] Oper.semAt_some

def backOf (u : List Dk) {zs : List Int} (pre : List (BkAt zs)) : List Vd := (pre.map fun x => Tb.varsOf u x.1.2).flatten
theorem backOf_snoc (u : List Dk) {zs : List Int} (pre : List (BkAt zs)) (x : BkAt zs) : backOf u (pre ++ [x]) = backOf u pre ++ Tb.varsOf u x.1.2 := by simp [backOf]
theorem backOf_all (u : List Dk) {zs : List Int} (pre : List (BkAt zs)) (h : pre.map (fun x => x.1.2) = zs.reverse) : backOf u pre = (zs.reverse.map (Tb.varsOf u)).flatten := by
  rw [← h, List.map_map]; rfl
theorem backOf_len (u : List Dk) {M : Nat} (hM : ∀ x ∈ u, x.vs.length ≤ M) {zs : List Int} : ∀ pre : List (BkAt zs), (backOf u pre).length ≤ pre.length * M
  | [] => by simp [backOf]
  | x :: pre => by
    have h1 := backOf_len u hM pre
    have h2 := Tb.varsOf_len hM x.1.2
    simp only [backOf, List.map_cons, List.flatten_cons, List.length_append, List.length_cons, Nat.succ_mul] at h1 ⊢
    omega
def VC (l : List Vd) : List Value := (l.map Vd.cells).flatten
theorem VC_append (a b : List Vd) : VC (a ++ b) = VC a ++ VC b := by simp [VC]

set_option maxRecDepth 100000 in
set_option maxHeartbeats 4000000 in
theorem fields_any (u : List Dk) (a : Option Addr) (B cap : Nat) (d : Int) (w : World) (hu : UnitAt w B a u) (hB : B ≤ w.heap.size) (hn : u.length ≤ 20) (hM : ∀ x ∈ u, x.vs.length ≤ 1048576) :
    Calls Tryz.prog 53 #[.agg #[.slice a u.length cap], .int .i64 d] w fun e w' => ∃ A c zs, e = .returned (.slice A zs.length c) ∧ zs = Tb.fields u d ∧
      w'.ownsRow w.heap.size 55 8 (.slice A zs.length c) zs.length (VC zs) ∧ Below w.heap.size w w' := by
  have HU := Aid.hid hu
  have HM := Aid.hid hM
  clear hu hM
  obtain ⟨i0, hi, hz0, hz1, hz2⟩ := info_parts info_var
  have B0 : Below w.heap.size w ((w.alloc (.cells #[.slice a u.length cap] 24)).alloc (.cells #[.slice none 0 0] 30)) := ((Below.refl _ _).alloc (Nat.le_refl _) _).alloc (by simp) _
  have P0 : Aid.Has ((w.alloc (.cells #[.slice a u.length cap] 24)).alloc (.cells #[.slice none 0 0] 30)) w.heap.size [.slice a u.length cap] 24 := (Aid.Has.new _ _ _).alloc _
  have L0 : Aid.Has ((w.alloc (.cells #[.slice a u.length cap] 24)).alloc (.cells #[.slice none 0 0] 30)) (w.heap.size + 1) [.slice none 0 0] 30 := by
    have h := Aid.Has.new (w.alloc (.cells #[.slice a u.length cap] 24)) [.slice none 0 0] 30
    rwa [World.size_alloc] at h
  refine (callsIn_wide (n := 9)).1 (callsIn_of_wp_marks Tryz.func53 rfl trivial ?_ rfl)
  simp only [Tryz.ntmps53, List.size_toArray, List.length_cons, List.length_nil, Nat.reduceAdd, Nat.reduceSub, Array.replicate_succ, Array.replicate_zero, List.push_toArray, List.append_toArray, List.nil_append, List.cons_append]
  refine wpIn_wide.2 ?_
  try simp only [List.append_eq, List.cons_append, List.nil_append]
  go_wp2_with fail
  obtain ⟨pb, hpb⟩ : ∃ pb, w.heap.size = pb := ⟨_, rfl⟩
  generalize ((w.alloc (.cells #[.slice a u.length cap] 24)).alloc (.cells #[.slice none 0 0] 30)) = w1 at *
  rw [hpb] at P0 L0 ⊢
  have HPB := Aid.hid hpb
  clear hpb
  have cp := P0.cell 0 _ rfl
  obtain ⟨k, hk⟩ : ∃ k, Tb.kind u d = k := ⟨_, rfl⟩
  have HK := Aid.hid hk
  clear hk
  go_wp2_with fail
  refine (kind_is u a B cap d k _ HK.out (HU.out.below B0 hB) (Nat.le_trans hB B0.size)).mono ?_; rintro e w2 ⟨rfl, hb2⟩
  have P2 := P0.below hb2 P0.lt
  have L2 := L0.below hb2 L0.lt
  have B2 := B0.trans (hb2.mono B0.size)
  clear hb2 P0 L0 B0 cp
  have cp := P2.cell 0 _ rfl
  have cl := L2.cell 0 _ rfl
  have fl := L2.frozen 0
  by_cases hk2 : k = 2
  · subst hk2
    obtain ⟨ch, hch⟩ : ∃ ch, Tb.chain u d = ch := ⟨_, rfl⟩
    have CH := Aid.hid hch
    have lc : ch.length ≤ u.length := by have := Tb.chain_len u d; rw [hch] at this; exact this
    have hin : ∀ c ∈ ch, Tb.kind u c = 2 := fun c hc => (Tb.chain_in u d c (by rw [hch]; exact hc)).2.2
    have HIN := Aid.hid hin
    clear hch hin
    go_wp2_with fail
    refine (chain_is u a B cap d ch _ CH.out (HU.out.below B2 hB) (Nat.le_trans hB B2.size)).mono ?_; rintro e w3 ⟨A3, c3, rfl, ow, hb3⟩
    have P3 := P2.below hb3 P2.lt
    have L3 := L2.below hb3 L2.lt
    have B3 := B2.trans (hb3.mono B2.size)
    have I3 := IntsAt.of_own ow
    have own3 := ow
    have z2 := L2.lt
    clear hb3 P2 L2 B2 cp cl fl ow
    go_wp2_with fail
    refine (backward_is A3 ch.length c3 w3).mono ?_; rintro e w4 ⟨rfl, h4⟩
    have P4 : Aid.Has w4 pb [.slice a u.length cap] 24 := by rw [h4]; exact P3.alloc _
    have L4 : Aid.Has w4 (pb + 1) [.slice none 0 0] 30 := by rw [h4]; exact L3.alloc _
    have S4 : w4.cell? ⟨w3.heap.size, 0, none⟩ = some (.slice A3 ch.length c3) := by rw [h4]; exact (Aid.Has.new w3 [.slice A3 ch.length c3] 62).cell 0 _ rfl
    have B4 : Below w.heap.size w w4 := by rw [h4]; exact B3.alloc (by have := B3.size; omega) _
    have N4 : w4.heap.size = w3.heap.size + 1 := by rw [h4]; simp
    have hI : 0 < ch.length → ∃ b off, A3 = some ⟨b, off, none⟩ ∧ b < w4.heap.size ∧ b ≠ pb + 1 ∧ ∀ (j : Nat) x, ch[j]? = some x → w4.cell? ⟨b, off + j, none⟩ = some (.int .i64 x) := fun hp => by
      obtain ⟨g, cp, hv, hg, hgs⟩ := own3.form hp
      obtain ⟨rfl, rfl⟩ : A3 = some ⟨g, 0, none⟩ ∧ c3 = cp := by simpa using hv
      obtain ⟨ad, ha, _, hc⟩ := IntsAt.at_ I3 hp
      obtain rfl : ⟨g, 0, none⟩ = ad := by simpa using ha
      refine ⟨g, 0, rfl, by omega, by omega, fun j x hx => ?_⟩
      rw [h4, ← Go.WideShapes.add_plain]
      exact (((Below.refl w3.heap.size w3).alloc (Nat.le_refl _) _).cell (p := Addr.add ⟨g, 0, none⟩ j) (by rw [Go.WideShapes.add_plain]; exact hgs)).trans (hc j x hx)
    have z3 : pb + 1 < w3.heap.size := L3.lt
    have z4 : pb + 1 < w4.heap.size := L4.lt
    have hBs : w3.heap.size < w4.heap.size := by omega
    have hBx : w3.heap.size ≠ pb + 1 := by omega
    clear h4 P3 L3 B3 I3 own3
    go_wp2_with fail
    refine (wpIn_wide (n := 9)).1 ?_
    refine wpIn_rangeFunc_ownF (F := Fence.wide) (n := 9) rfl (by decide) (gf := 73) (lb := #[.pointer (some ⟨w3.heap.size, 0, none⟩)]) rfl trivial (enters_of Tryz.func73 (by kernel_rfl) rfl)
      (backs_stops Fence.wide 8 trivial rfl (by decide) w3.heap.size (pb + 1) w4.heap.size c3 A3 ch (by omega) w4 (Nat.le_refl _) hBs hBx S4 hI) KB.trans (KB.putObj (Nat.le_refl _)) (Below.refl _ _) (fun _ => rfl)
      (fun pre W => (∃ v, Boxed W (pb + 1) 30 v ∧ W.ownsRow w4.heap.size 55 8 v (backOf u pre).length (VC (backOf u pre)) ∧ True) ∧ (Below w.heap.size w W ∧ KB (pb + 1) w4.heap.size w4 W))
      (fun _ _ _ => False)
      (OwnFrom.and (Own.from (holdsRow_own w4.heap.size (pb + 1) 30 55 8 (fun pre => (backOf u pre).length) (fun pre => VC (backOf u pre)) (fun _ _ => True)) _) (OwnFrom.and (ownFrom_below (Nat.le_refl _) B4.size) (KB.own _ _ _)))
      (fun _ _ _ _ _ hs _ _ => hs)
      ⟨⟨_, L4, World.ownsRow_nil _ _ _ _, trivial⟩, B4, KB.refl _ _ _⟩
      ?a1 ?assign ?body ?done ?stop
    case assign =>
      intro l x W K hK
      gi_wp2
      exact hK
    case body =>
      rintro l pre ⟨⟨xi, xc⟩, hx⟩ W ⟨⟨v, hv, hrow, _⟩, hBw, hKB⟩ hlt
      obtain ⟨A6, c6, rfl⟩ := own_slice hrow
      obtain ⟨i, dx, rfl, hdx, _, hil⟩ := Tb.kind_in (HIN.out xc hx) (by decide)
      have VO : Hid (backOf u (pre ++ [(⟨(xi, (i : Int)), hx⟩ : BkAt ch)]) = backOf u pre ++ dx.vs) := Aid.hid (by rw [backOf_snoc, Tb.varsOf_at hdx])
      have hmem := List.mem_of_getElem? hdx
      have hux := HU.out.below hBw hB
      have RD : Reads W B 8 dx.vA dx.vs.length (VC dx.vs) := by
        have h := Rows.reads (Vd.len _) (hux.decls dx hmem).vars
        rwa [List.length_map] at h
      have MV := HM.out dx hmem
      have LB := backOf_len u HM.out pre
      have b0 : (backOf u pre).length ≤ 30000000 := by
        have : pre.length * 1048576 ≤ 20 * 1048576 := Nat.mul_le_mul_right _ (by omega)
        omega
      have b1 : (backOf u pre).length + dx.vs.length ≤ maxLen := by unfold maxLen; omega
      have b2 : ((backOf u pre).length + dx.vs.length) * 80 ≤ 140737488355328 := by omega
      have b3 : w4.heap.size ≤ W.heap.size := (hKB (Nat.le_refl _)).1
      have cv := hv.cell
      have fv := hv.frozen
      have cp := (hKB.cell (Nat.le_refl _) (p := ⟨pb, 0, none⟩) (show pb < w4.heap.size by omega) (show pb ≠ pb + 1 by omega)).trans (P4.cell 0 _ rfl)
      obtain ⟨b, off, rfl, _, hcu⟩ := hux.at_ (by omega)
      have cvs := hcu i dx hdx 6 _ rfl
      have hv2 : Boxed W.drew (pb + 1) 30 (.slice A6 (backOf u pre).length c6) := hv
      have hrow2 : W.drew.ownsRow w4.heap.size 55 8 (.slice A6 (backOf u pre).length c6) (backOf u pre).length (VC (backOf u pre)) := hrow
      have RD2 : Reads W.drew B 8 dx.vA dx.vs.length (VC dx.vs) := RD
      have HKB := Aid.hid hKB
      have HBw := Aid.hid hBw
      clear hcu hux hdx hmem LB hrow hv RD MV hI hKB hBw
      gi_wp2_with fail
      refine Ord.wpIn_region_walk (fun w' => w'.cell? ⟨pb + 1, 0, none⟩ = some (.slice A6 (backOf u pre).length c6) ∧ w'.cell? ⟨pb, 0, none⟩ = some (.slice (some ⟨b, off, none⟩) u.length cap) ∧ w'.cell? ⟨b, off + i * 11 + 6, none⟩ = some (.slice dx.vA dx.vs.length dx.vc)) 7 [(true, 0), (true, 1), (true, 2), (true, 3), (true, 4), (true, 5), (true, 6)] (by kernel_rfl) (by kernel_rfl) (by kernel_rfl) (fun _ _ d _ _ h => by cases d <;> exact h) (fun hL => by obtain ⟨_, _, h⟩ := hL; exact h) (⟨cv, cp, cvs⟩) ?_
      apply Ord.walk_light
      next => (simp only [List.getElem?_toArray, List.getElem?_cons_zero]; rfl)
      next => rfl
      next => (intro w' hSw; obtain ⟨k1, k2, k3⟩ := hSw; go_simp; first | done | with_reducible rfl)
      simp only [Act.put, List.setIfInBounds_toArray, List.set_cons_zero, List.set_cons_succ]
      apply Ord.walk_light
      next => (simp only [List.getElem?_toArray, List.getElem?_cons_succ, List.getElem?_cons_zero]; rfl)
      next => rfl
      next => (intro w' hSw; obtain ⟨k1, k2, k3⟩ := hSw; go_simp; first | done | with_reducible rfl)
      simp only [Act.put, List.setIfInBounds_toArray, List.set_cons_zero, List.set_cons_succ]
      apply Ord.walk_light
      next => (simp only [List.getElem?_toArray, List.getElem?_cons_succ, List.getElem?_cons_zero]; rfl)
      next => rfl
      next => (intro w' hSw; obtain ⟨k1, k2, k3⟩ := hSw; go_simp; first | done | with_reducible rfl)
      simp only [Act.put, List.setIfInBounds_toArray, List.set_cons_zero, List.set_cons_succ]
      apply Ord.walk_light
      next => (simp only [List.getElem?_toArray, List.getElem?_cons_succ, List.getElem?_cons_zero]; rfl)
      next => rfl
      next => (intro w' hSw; obtain ⟨k1, k2, k3⟩ := hSw; go_simp; first | done | with_reducible rfl)
      simp only [Act.put, List.setIfInBounds_toArray, List.set_cons_zero, List.set_cons_succ]
      apply Ord.walk_light
      next => (simp only [List.getElem?_toArray, List.getElem?_cons_succ, List.getElem?_cons_zero]; rfl)
      next => rfl
      next => (intro w' hSw; obtain ⟨k1, k2, k3⟩ := hSw; go_simp; first | done | with_reducible rfl)
      simp only [Act.put, List.setIfInBounds_toArray, List.set_cons_zero, List.set_cons_succ]
      apply Ord.walk_light
      next => (simp only [List.getElem?_toArray, List.getElem?_cons_succ, List.getElem?_cons_zero]; rfl)
      next => rfl
      next => (intro w' hSw; obtain ⟨k1, k2, k3⟩ := hSw; go_simp; first | done | with_reducible rfl)
      simp only [Act.put, List.setIfInBounds_toArray, List.set_cons_zero, List.set_cons_succ]
      apply Ord.walk_light
      next => (simp only [List.getElem?_toArray, List.getElem?_cons_succ, List.getElem?_cons_zero]; rfl)
      next => rfl
      next => (intro w' hSw; obtain ⟨k1, k2, k3⟩ := hSw; go_simp; first | done | with_reducible rfl)
      simp only [Act.put, List.setIfInBounds_toArray, List.set_cons_zero, List.set_cons_succ]
      refine Ord.walk_tail ?_; simp only [List.drop_succ_cons, List.drop_zero]
      at_builtin
      refine wpList_append_any _ rfl _ _ 30 rfl w4.heap.size 55 i0 (.agg #[.string ⟨#[]⟩, .int .i64 0, .int .i64 0, .int .i64 0, .string ⟨#[]⟩, .int .i64 0, .int .i64 0, .int .i64 0]) 8 80 Tryz.underlying30 hi hz0 hz1 hz2 rfl (by decide) _ _ _ rfl hrow2 B dx.vA dx.vs.length dx.vc _ rfl RD2 (Vd.one (l := dx.vs)) b1 b2 b3 ?_
      intro v' w5 hown' hgrow _
      obtain ⟨A5, c5, rfl⟩ := own_slice hown'
      obtain ⟨g1, g2, g3, g4, g5, g6⟩ := Boxed.grew (n₁ := w4.heap.size) hv2 (by decide) hrow2 (Nat.le_refl _) hown' hgrow
      have cg := g1.cell
      have fg := g1.frozen
      go_wp2_with fail
      exact ⟨(KeepsOthers.drew W).trans g4, (show KB (pb + 1) w4.heap.size W W.drew from fun h => ⟨h, fun _ _ _ => rfl⟩).trans g5,
        ⟨_, g2, by rw [VO.out, List.length_append, VC_append]; exact g3, trivial⟩,
        HBw.out.drew.trans (g6 w.heap.size (by have := HPB.out; omega) B4.size HBw.out.size), (HKB.out.trans (show KB (pb + 1) w4.heap.size W W.drew from fun h => ⟨h, fun _ _ _ => rfl⟩)).trans g5⟩
    case done =>
      rintro D xs W hD hS ⟨⟨v, hv, hrow, _⟩, hBw, hKB⟩ hK
      obtain ⟨A5, c5, rfl⟩ := own_slice hrow
      have cv := hv.cell
      have HS := Aid.hid (backOf_all u xs hS)
      clear hS
      go_wp2_with fail
      refine ⟨by simp, .inl ⟨_, _, rfl, run_takeDeferred hK, ?_⟩⟩
      exact ⟨_, results_tmp rfl _ _ _, A5, c5, backOf u xs, rfl, by unfold Tb.fields; rw [HK.out, if_pos rfl, CH.out]; exact HS.out,
        own_lowers (ownsRow_putObj hrow _ hK rfl) B4.size, hBw.trans (belowK_b (w := w4) B4.size W D _ _ hD hK rfl rfl)⟩
    case stop =>
      rintro D c pre W _ _ h _
      exact h.elim
  · by_cases hk3 : k = 3
    · subst hk3
      obtain ⟨i, dx, rfl, hdx, _, hil⟩ := Tb.kind_in HK.out (by decide)
      have hmem := List.mem_of_getElem? hdx
      have hux := HU.out.below B2 hB
      have MV := HM.out dx hmem
      have RV := (hux.decls dx hmem).vars
      have FE : Hid (dx.vs = Tb.fields u i) := Aid.hid (by unfold Tb.fields; rw [HK.out, Tb.varsOf_at hdx]; rfl)
      obtain ⟨b, off, rfl, _, hcu⟩ := hux.at_ (by omega)
      have cvs := hcu i dx hdx 6 _ rfl
      clear hcu hux hdx hmem
      go_wp2_with fail
      refine (clone_is dx.vA dx.vc B dx.vs w2 RV (Nat.le_trans hB B2.size) (by omega)).mono ?_; rintro e w3 ⟨A3, c3, rfl, own3, hb3⟩
      have P3 := P2.below hb3 P2.lt
      have L3 := L2.below hb3 L2.lt
      have B3 := B2.trans (hb3.mono B2.size)
      have z2 := L2.lt
      clear hb3 P2 L2 cp cl fl cvs
      have cl := L3.cell 0 _ rfl
      have fl := L3.frozen 0
      have c2 := (L3.set 0 (.slice A3 dx.vs.length c3)).cell 0 _ rfl
      have HO := Aid.hid own3
      clear own3
      go_wp2_with fail
      exact ⟨_, results_tmp rfl _ _ _, A3, c3, dx.vs, rfl, FE.out,
        own_lowers (HO.out.kept (grownBy_setCell' w3 (pb + 1) _) (.inr (Boxed.not_row (show Boxed w3 (pb + 1) 30 (.slice none 0 0) from L3) (by decide) HO.out).symm)) B2.size,
        B3.setCell (p := ⟨pb + 1, 0, none⟩) (by show w.heap.size ≤ pb + 1; have := HPB.out; omega) _⟩
    · have n2 : (k == 2) = false := by simpa using hk2
      have n3 : (k == 3) = false := by simpa using hk3
      have FE : Hid (([] : List Vd) = Tb.fields u d) := Aid.hid (by unfold Tb.fields; rw [HK.out, if_neg hk2, if_neg hk3])
      go_wp2_with fail
      exact ⟨_, results_tmp rfl _ _ _, none, 0, [], rfl, FE.out, World.ownsRow_nil _ _ _ _, B2⟩
theorem fields_is (u : List Dk) (a : Option Addr) (B cap : Nat) (d : Int) (zs : List Vd) (w : World) (hz : Tb.fields u d = zs) (hu : UnitAt w B a u) (hB : B ≤ w.heap.size) (hn : u.length ≤ 20) (hM : ∀ x ∈ u, x.vs.length ≤ 1048576) :
    Calls Tryz.prog 53 #[.agg #[.slice a u.length cap], .int .i64 d] w fun e w' => ∃ A c, e = .returned (.slice A zs.length c) ∧
      w'.ownsRow w.heap.size 55 8 (.slice A zs.length c) zs.length (VC zs) ∧ Below w.heap.size w w' := by
  subst hz
  refine (fields_any u a B cap d w hu hB hn hM).mono ?_
  rintro e w' ⟨A, c, zs, rfl, rfl, h⟩
  exact ⟨A, c, rfl, h⟩
end Go.Proofs.YtejifefgmlpclaaGreat
