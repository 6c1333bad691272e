/- The law DiagTexts. -/
import Derived.Test.YtblkcgbifecemaaDoorErrAwake
namespace Go.Proofs.YtblkcgbifecemaaDoor
open Go.RowKit Go.Extern.Stop Go.Stop Go.Extern

theorem Tells.all {W : World} (hT : ∀ w, Below W.heap.size W w → Lib.TabIs Tryd.prog w "internal/strconv.uint64pow10" .u64 Lib.pow10Tab) (n : Int) (h0 : -9223372036854775808 ≤ n) (h1 : n ≤ 9223372036854775807) :
    ∃ t : ByteArray, t.size ≤ 1000 ∧ Tells W n t := by
  refine ⟨⟨(Lib.itoa n).toArray⟩, ?_, fun w hw => (Tryd.strconv_Itoa n h0 h1 w (hT w hw)).mono ?_⟩
  · have := Lib.itoa_length_le n h0 h1
    have e : (⟨(Lib.itoa n).toArray⟩ : ByteArray).size = (Lib.itoa n).length := by simp [ByteArray.size]
    omega
  · rintro e w' ⟨he, k, os, rfl⟩
    exact ⟨he, ⟨rfl, rfl, rfl, by simp [Go.Sort.grow, World.drewN], fun b hb => by simp only [Go.Sort.grow, World.drewN]; rw [Array.getElem?_append_left hb]⟩⟩
theorem tab_below {P : Program} {W w : World} {name : String} {k : IntKind} {zs : List Int} {g : Nat} (h : Lib.TabIs P W name k zs) (hg : P.globalNamed name = some g) (hb : Below W.heap.size W w) : Lib.TabIs P w name k zs := by
  unfold Lib.TabIs World.var? at h ⊢
  rw [hg] at h ⊢
  simp only [Option.bind_some] at h ⊢
  rcases Nat.lt_or_ge g W.heap.size with h1 | h1
  · rw [hb.block g h1]; exact h
  · rw [Array.getElem?_eq_none h1] at h; simp at h

set_option maxRecDepth 100000 in
set_option maxHeartbeats 8000000 in
theorem diagTexts_any (c a d b : Int) (tc ta td tb : ByteArray) (w : World) (hg : Door w) (hc1 : Tells w c tc) (ha1 : Tells w a ta) (hd1 : Tells w d td) (hb1 : Tells w b tb) (lc : tc.size ≤ 1000) (la : ta.size ≤ 1000) (ld : td.size ≤ 1000) (lb : tb.size ≤ 1000) :
    Calls Tryd.prog 5 #[.agg #[.int .i64 c, .int .i64 a], .agg #[.int .i64 d, .int .i64 b]] w fun e w' => e = .returned (.bool true) ∧ Below w.heap.size w w' := by
  have HG := Aid.hid hg
  have HC : Hid (Tells w c tc) := Aid.hid hc1
  have HA : Hid (Tells w a ta) := Aid.hid ha1
  have HD : Hid (Tells w d td) := Aid.hid hd1
  have HB : Hid (Tells w b tb) := Aid.hid hb1
  have e1 : (w.alloc (.cells #[.int .i64 c, .int .i64 a] 37)).heap.size = w.heap.size + 1 := by simp
  have A0 := (Aid.Has.new w [.int .i64 c, .int .i64 a] 37).alloc (.cells #[.int .i64 d, .int .i64 b] 37)
  have D0 := Aid.Has.new (w.alloc (.cells #[.int .i64 c, .int .i64 a] 37)) [.int .i64 d, .int .i64 b] 37
  rw [e1] at D0
  have B0 : Below w.heap.size w ((w.alloc (.cells #[.int .i64 c, .int .i64 a] 37)).alloc (.cells #[.int .i64 d, .int .i64 b] 37)) := ((Below.refl _ _).alloc (Nat.le_refl _) _).alloc (by simp) _
  have mE := Er.mError
  clear hg hc1 ha1 hd1 hb1 e1
  go_enter Tryd.func5, Tryd.ntmps5
  try simp only [List.append_eq, List.cons_append, List.nil_append]
  go_wp2_with fail
  obtain ⟨ob, hob⟩ : ∃ ob, w.heap.size = ob := ⟨_, rfl⟩
  obtain ⟨V, hV⟩ : ∃ V, (w.alloc (.cells #[.int .i64 c, .int .i64 a] 37)).alloc (.cells #[.int .i64 d, .int .i64 b] 37) = V := ⟨_, rfl⟩
  rw [hV] at B0 A0 D0 ⊢
  rw [hob] at A0 D0 ⊢
  have BV := Aid.hid B0
  clear B0 hV
  refine (new_er c a _).mono ?_; rintro e w1 ⟨b1, rfl, _, hE1, hb1⟩
  have KA := A0.below hb1 A0.lt
  have KD := D0.below hb1 D0.lt
  have B1 := Aid.hid (BV.out.trans (hb1.mono BV.out.size))
  have H1 := Aid.hid hE1
  have d0 := KD.cell 0 _ rfl
  have d1 := KD.cell 1 _ rfl
  clear hE1 hb1 A0 D0
  go_wp2_with fail
  refine (wrap_er (.own b1 c a .nil) (by simp) d b _ H1.out).mono ?_; rintro e W ⟨b2, rfl, _, hE2, hb2⟩
  have NA := Aid.hid (KA.below hb2 KA.lt)
  have ND := Aid.hid (KD.below hb2 KD.lt)
  have B2 := Aid.hid (B1.out.trans (hb2.mono B1.out.size))
  have H2 := Aid.hid hE2
  clear hE2 hb2 KA KD d0 d1 H1
  go_wp2_with fail
  refine Ord.wp_region_walk (fun w' => Below W.heap.size W w') 9 [(true, 0), (true, 1), (true, 5), (true, 6), (false, 2), (true, 3), (true, 4), (false, 7), (true, 8)] (by kernel_rfl) (by kernel_rfl) (fun _ _ d _ _ h => by cases d <;> exact h) ((Below.refl _ _).drew) ?_
  have hc : Below W.heap.size W W.drew := (Below.refl _ _).drew
  generalize W.drew = wz at hc ⊢
  apply Ord.walk_light
  next => (simp only [List.getElem?_toArray, List.getElem?_cons_zero]; rfl)
  next => rfl
  next => (intro w' hSw; clear hSw; go_simp; first | done | with_reducible rfl)
  simp only [Act.put, List.setIfInBounds_toArray, List.set_cons_zero, List.set_cons_succ]
  apply Ord.walk_light
  next => (simp only [List.getElem?_toArray, List.getElem?_cons_succ, List.getElem?_cons_zero]; rfl)
  next => rfl
  next => (intro w' hSw; have g := NA.out.below hSw NA.out.lt; have q0 := g.cell 0 _ rfl; have q1 := g.cell 1 _ rfl; go_simp; first | done | with_reducible rfl)
  simp only [Act.put, List.setIfInBounds_toArray, List.set_cons_zero, List.set_cons_succ]
  apply Ord.walk_light
  next => (simp only [List.getElem?_toArray, List.getElem?_cons_succ, List.getElem?_cons_zero]; rfl)
  next => rfl
  next => (intro w' hSw; clear hSw; go_simp; first | done | with_reducible rfl)
  simp only [Act.put, List.setIfInBounds_toArray, List.set_cons_zero, List.set_cons_succ]
  apply Ord.walk_light
  next => (simp only [List.getElem?_toArray, List.getElem?_cons_succ, List.getElem?_cons_zero]; rfl)
  next => rfl
  next => (intro w' hSw; have g := NA.out.below hSw NA.out.lt; have q0 := g.cell 0 _ rfl; have q1 := g.cell 1 _ rfl; go_simp; first | done | with_reducible rfl)
  simp only [Act.put, List.setIfInBounds_toArray, List.set_cons_zero, List.set_cons_succ]
  apply Ord.walk_heavy
  next => (simp only [List.getElem?_toArray, List.getElem?_cons_succ, List.getElem?_cons_zero]; rfl)
  next => rfl
  intro K hK
  go_wp2_with fail
  refine (HC.out _ (B2.out.trans (hc.mono B2.out.size))).mono ?_; rintro x w' ⟨rfl, hx⟩; dsimp only
  refine hK.out _ _ (hc.trans (hx.mono hc.size)) (fun hHeld => ?_)
  clear hc hx
  have hc := hHeld
  clear hK K
  try simp only [Act.put, List.setIfInBounds_toArray, List.set_cons_zero, List.set_cons_succ]
  apply Ord.walk_light
  next => (simp only [List.getElem?_toArray, List.getElem?_cons_succ, List.getElem?_cons_zero]; rfl)
  next => rfl
  next => (intro w' hSw; clear hSw; go_simp; rw [if_neg (by first | omega | (simp only [ByteArray.size_append, Er.s5, Er.s4]; omega))]; first | done | with_reducible rfl)
  simp only [Act.put, List.setIfInBounds_toArray, List.set_cons_zero, List.set_cons_succ]
  apply Ord.walk_light
  next => (simp only [List.getElem?_toArray, List.getElem?_cons_succ, List.getElem?_cons_zero]; rfl)
  next => rfl
  next => (intro w' hSw; clear hSw; go_simp; rw [if_neg (by first | omega | (simp only [ByteArray.size_append, Er.s5, Er.s4]; omega))]; first | done | with_reducible rfl)
  simp only [Act.put, List.setIfInBounds_toArray, List.set_cons_zero, List.set_cons_succ]
  apply Ord.walk_heavy
  next => (simp only [List.getElem?_toArray, List.getElem?_cons_succ, List.getElem?_cons_zero]; rfl)
  next => rfl
  intro K hK
  go_wp2_with fail
  refine (HA.out _ (B2.out.trans (hc.mono B2.out.size))).mono ?_; rintro x w' ⟨rfl, hx⟩; dsimp only
  refine hK.out _ _ (hc.trans (hx.mono hc.size)) (fun hHeld => ?_)
  clear hc hx
  have hc := hHeld
  clear hK K
  try simp only [Act.put, List.setIfInBounds_toArray, List.set_cons_zero, List.set_cons_succ]
  apply Ord.walk_light
  next => (simp only [List.getElem?_toArray, List.getElem?_cons_succ, List.getElem?_cons_zero]; rfl)
  next => rfl
  next => (intro w' hSw; clear hSw; go_simp; rw [if_neg (by first | omega | (simp only [ByteArray.size_append, Er.s5, Er.s4]; omega))]; first | done | with_reducible rfl)
  simp only [Act.put, List.setIfInBounds_toArray, List.set_cons_zero, List.set_cons_succ]
  refine Ord.walk_tail ?_; simp only [List.drop_succ_cons, List.drop_zero]
  have B3 := Aid.hid (B2.out.trans (hc.mono B2.out.size))
  have MD := Aid.hid (ND.out.below hc ND.out.lt)
  have H3 := Aid.hid (H2.out.below hc)
  clear hc NA ND H2
  go_wp2_with fail
  obtain ⟨W3, rfl⟩ : ∃ W3 : World, W3 = w' := ⟨_, rfl⟩
  refine Ord.wp_region_walk (fun w' => Below W3.heap.size W3 w') 9 [(true, 0), (true, 1), (true, 5), (true, 6), (false, 2), (true, 3), (true, 4), (false, 7), (true, 8)] (by kernel_rfl) (by kernel_rfl) (fun _ _ d _ _ h => by cases d <;> exact h) ((Below.refl _ _).drew) ?_
  have hc : Below W3.heap.size W3 W3.drew := (Below.refl _ _).drew
  generalize W3.drew = wz at hc ⊢
  apply Ord.walk_light
  next => (simp only [List.getElem?_toArray, List.getElem?_cons_zero]; rfl)
  next => rfl
  next => (intro w' hSw; clear hSw; go_simp; first | done | with_reducible rfl)
  simp only [Act.put, List.setIfInBounds_toArray, List.set_cons_zero, List.set_cons_succ]
  apply Ord.walk_light
  next => (simp only [List.getElem?_toArray, List.getElem?_cons_succ, List.getElem?_cons_zero]; rfl)
  next => rfl
  next => (intro w' hSw; have g := MD.out.below hSw MD.out.lt; have q0 := g.cell 0 _ rfl; have q1 := g.cell 1 _ rfl; go_simp; first | done | with_reducible rfl)
  simp only [Act.put, List.setIfInBounds_toArray, List.set_cons_zero, List.set_cons_succ]
  apply Ord.walk_light
  next => (simp only [List.getElem?_toArray, List.getElem?_cons_succ, List.getElem?_cons_zero]; rfl)
  next => rfl
  next => (intro w' hSw; clear hSw; go_simp; first | done | with_reducible rfl)
  simp only [Act.put, List.setIfInBounds_toArray, List.set_cons_zero, List.set_cons_succ]
  apply Ord.walk_light
  next => (simp only [List.getElem?_toArray, List.getElem?_cons_succ, List.getElem?_cons_zero]; rfl)
  next => rfl
  next => (intro w' hSw; have g := MD.out.below hSw MD.out.lt; have q0 := g.cell 0 _ rfl; have q1 := g.cell 1 _ rfl; go_simp; first | done | with_reducible rfl)
  simp only [Act.put, List.setIfInBounds_toArray, List.set_cons_zero, List.set_cons_succ]
  apply Ord.walk_heavy
  next => (simp only [List.getElem?_toArray, List.getElem?_cons_succ, List.getElem?_cons_zero]; rfl)
  next => rfl
  intro K hK
  go_wp2_with fail
  refine (HD.out _ (B3.out.trans (hc.mono B3.out.size))).mono ?_; rintro x w' ⟨rfl, hx⟩; dsimp only
  refine hK.out _ _ (hc.trans (hx.mono hc.size)) (fun hHeld => ?_)
  clear hc hx
  have hc := hHeld
  clear hK K
  try simp only [Act.put, List.setIfInBounds_toArray, List.set_cons_zero, List.set_cons_succ]
  apply Ord.walk_light
  next => (simp only [List.getElem?_toArray, List.getElem?_cons_succ, List.getElem?_cons_zero]; rfl)
  next => rfl
  next => (intro w' hSw; clear hSw; go_simp; rw [if_neg (by first | omega | (simp only [ByteArray.size_append, Er.s5, Er.s4]; omega))]; first | done | with_reducible rfl)
  simp only [Act.put, List.setIfInBounds_toArray, List.set_cons_zero, List.set_cons_succ]
  apply Ord.walk_light
  next => (simp only [List.getElem?_toArray, List.getElem?_cons_succ, List.getElem?_cons_zero]; rfl)
  next => rfl
  next => (intro w' hSw; clear hSw; go_simp; rw [if_neg (by first | omega | (simp only [ByteArray.size_append, Er.s5, Er.s4]; omega))]; first | done | with_reducible rfl)
  simp only [Act.put, List.setIfInBounds_toArray, List.set_cons_zero, List.set_cons_succ]
  apply Ord.walk_heavy
  next => (simp only [List.getElem?_toArray, List.getElem?_cons_succ, List.getElem?_cons_zero]; rfl)
  next => rfl
  intro K hK
  go_wp2_with fail
  refine (HB.out _ (B3.out.trans (hc.mono B3.out.size))).mono ?_; rintro x w' ⟨rfl, hx⟩; dsimp only
  refine hK.out _ _ (hc.trans (hx.mono hc.size)) (fun hHeld => ?_)
  clear hc hx
  have hc := hHeld
  clear hK K
  try simp only [Act.put, List.setIfInBounds_toArray, List.set_cons_zero, List.set_cons_succ]
  apply Ord.walk_light
  next => (simp only [List.getElem?_toArray, List.getElem?_cons_succ, List.getElem?_cons_zero]; rfl)
  next => rfl
  next => (intro w' hSw; clear hSw; go_simp; rw [if_neg (by first | omega | (simp only [ByteArray.size_append, Er.s5, Er.s4]; omega))]; first | done | with_reducible rfl)
  simp only [Act.put, List.setIfInBounds_toArray, List.set_cons_zero, List.set_cons_succ]
  refine Ord.walk_tail ?_; simp only [List.drop_succ_cons, List.drop_zero]
  have B4 := Aid.hid (B3.out.trans (hc.mono B3.out.size))
  have H4 := Aid.hid (H3.out.below hc)
  clear hc H3 MD
  obtain ⟨SE, hSE⟩ : ∃ X : ByteArray, (⟨#[99, 111, 100, 101, 32]⟩ ++ tc ++ ⟨#[32, 97, 116, 32]⟩ ++ ta) = X := ⟨_, rfl⟩
  obtain ⟨SF, hSF⟩ : ∃ X : ByteArray, (⟨#[99, 111, 100, 101, 32]⟩ ++ td ++ ⟨#[32, 97, 116, 32]⟩ ++ tb) = X := ⟨_, rfl⟩
  rw [hSE, hSF]
  have lE : SE.size ≤ 3000 := by rw [← hSE]; simp only [ByteArray.size_append, Er.s5, Er.s4]; omega
  have lF : SF.size ≤ 3000 := by rw [← hSF]; simp only [ByteArray.size_append, Er.s5, Er.s4]; omega
  have KE := Aid.hid hSE
  have KF := Aid.hid hSF
  clear hSE hSF
  go_wp2_with fail
  refine (error_leaf b1 c a tc ta _ H4.out.2 (HC.out.below B4.out) (HA.out.below B4.out) lc la).mono ?_; rintro e w5 ⟨rfl, hb5⟩
  rw [KE.out]
  have B5 := Aid.hid (B4.out.trans (hb5.mono B4.out.size))
  have H5 := Aid.hid (H4.out.below hb5)
  clear hb5 H4
  go_wp2_with fail
  refine (error_on b2 d b b1 c a .nil SE td tb _ H5.out (HD.out.below B5.out) (HB.out.below B5.out) ld lb (by omega)
    (fun w' hb => (error_leaf b1 c a tc ta w' (H5.out.2.below hb) ((HC.out.below B5.out).below hb) ((HA.out.below B5.out).below hb) lc la).mono fun _ _ h => by rw [KE.out] at h; exact h)).mono ?_; rintro e w6 ⟨rfl, hb6⟩
  rw [KF.out]
  have B6 := Aid.hid (B5.out.trans (hb6.mono B5.out.size))
  have H6 := Aid.hid (H5.out.below hb6)
  have N1 : ¬ (9223372036854775807 < SF.size + (⟨#[58, 32]⟩ : ByteArray).size) := by rw [Er.s2]; omega
  have N2 : ¬ (9223372036854775807 < (SF ++ (⟨#[58, 32]⟩ : ByteArray)).size + SE.size) := by simp only [ByteArray.size_append, Er.s2]; omega
  have EQ : ((SF ++ ((⟨#[58, 32]⟩ : ByteArray) ++ SE)).toList == (SF ++ (⟨#[58, 32]⟩ : ByteArray) ++ SE).toList) = true := by
    rw [ByteArray.append_assoc]; simp
  clear hb6 H5
  go_wp2_with fail
  refine (unwrap_er b2 d b (.own b1 c a .nil) _ H6.out).mono ?_; rintro e w' ⟨rfl, rfl⟩
  obtain ⟨i, hi, hcmp⟩ := Option.map_eq_some_iff.1 Er.compE
  obtain ⟨j, hj, _⟩ := Option.map_eq_some_iff.1 Er.sizeE
  have heq := run_eql_iface_ptr_same (P := Tryd.prog) w6 ⟨b1, 0, none⟩ Tryd.underlying23 Tryd.underlying46 hi hcmp hj
  clear hi hcmp hj
  dsimp only [Er.v]
  go_wp2_with fail
  refine (unwrap_er b1 c a .nil _ H6.out.2).mono ?_; rintro e w' ⟨rfl, rfl⟩
  clear heq
  dsimp only [Er.v]
  go_wp2_with fail
  refine (awake_any _ (HG.out.below B6.out)).mono ?_; rintro e w7 ⟨rfl, hb7⟩
  go_wp2_with fail
  go_ret
  exact ⟨rfl, B6.out.trans (hb7.mono B6.out.size)⟩
end Go.Proofs.YtblkcgbifecemaaDoor
