/- An error's text, as a walk. -/
import Derived.Test.YtblkcgbifecemaaDoorErrFind
import Derived.Test.YtblkcgbifecemaaDoorShelf
import Derived.Test.YtblkcgbifecemaaDoorOrd
import Derived.Lib.ItoaLen
namespace Go.Proofs.YtblkcgbifecemaaDoor
open Go.RowKit Go.Extern.Stop Go.Stop Go.Extern

/-- strconv.Itoa tells a number so. -/
def Tells (W : World) (n : Int) (t : ByteArray) : Prop := ∀ w, Below W.heap.size W w → Calls Tryd.prog 17 #[.int .i64 n] w fun e w' => e = .returned (.string t) ∧ Below w.heap.size w w'
theorem Tells.small (W : World) (i : Nat) (hi : i < 100) : Tells W (i : Int) ⟨(Lib.decDigits i).toArray⟩ := fun w _ =>
  (Tryd.strconv_Itoa_small i hi w).mono fun _ _ ⟨he, hw⟩ => ⟨he, hw ▸ Below.refl _ _⟩
theorem Tells.below {W W' : World} {n : Int} {t : ByteArray} (h : Tells W n t) (hb : Below W.heap.size W W') : Tells W' n t := fun w hw => h w (hb.trans (hw.mono hb.size))
theorem Er.s5 : (⟨#[99, 111, 100, 101, 32]⟩ : ByteArray).size = 5 := rfl
theorem Er.s4 : (⟨#[32, 97, 116, 32]⟩ : ByteArray).size = 4 := rfl
theorem Er.s2 : (⟨#[58, 32]⟩ : ByteArray).size = 2 := rfl
theorem error_fine (w : World) : Calls Tryd.prog 20 #[.pointer none] w fun e w' => e = .returned (.string ⟨#[102, 105, 110, 101]⟩) ∧ w = w' := by
  go_enter Tryd.func20, Tryd.ntmps20
  go_wp2_with fail
  go_ret
  exact ⟨rfl, rfl⟩

set_option maxRecDepth 100000 in
set_option maxHeartbeats 4000000 in
theorem error_leaf (b : Nat) (c a : Int) (tc ta : ByteArray) (w : World) (h : (Er.own b c a .nil).At w) (hc1 : Tells w c tc) (ha1 : Tells w a ta) (lc : tc.size ≤ 1000) (la : ta.size ≤ 1000) :
    Calls Tryd.prog 20 #[.pointer (some ⟨b, 0, none⟩)] w fun e w' => e = .returned (.string (⟨#[99, 111, 100, 101, 32]⟩ ++ tc ++ ⟨#[32, 97, 116, 32]⟩ ++ ta)) ∧ Below w.heap.size w w' := by
  have HH := Aid.hid h.1
  have HC : Hid (Tells w c tc) := Aid.hid hc1
  have HA : Hid (Tells w a ta) := Aid.hid ha1
  clear h hc1 ha1
  go_enter Tryd.func20, Tryd.ntmps20
  try simp only [List.append_eq, List.cons_append, List.nil_append]
  go_wp2_with fail
  refine Ord.wp_region_walk (fun w' => Below w.heap.size w w') 13 [(true, 0), (true, 1), (true, 2), (true, 3), (true, 7), (true, 8), (true, 9), (true, 10), (false, 4), (true, 5), (true, 6), (false, 11), (true, 12)] (by kernel_rfl) (by kernel_rfl) (fun _ _ d _ _ h => by cases d <;> exact h) ((Below.refl _ _).drew) ?_
  have hc : Below w.heap.size w w.drew := (Below.refl _ _).drew
  generalize w.drew = wz at hc ⊢
  apply Ord.walk_light
  next => (simp only [List.getElem?_toArray, List.getElem?_cons_zero]; rfl)
  next => rfl
  next => (intro w' hSw; clear hSw; go_simp; first | done | with_reducible rfl)
  simp only [Act.put, List.setIfInBounds_toArray, List.set_cons_zero, List.set_cons_succ]
  apply Ord.walk_light
  next => (simp only [List.getElem?_toArray, List.getElem?_cons_succ, List.getElem?_cons_zero]; rfl)
  next => rfl
  next => (intro w' hSw; clear hSw; have l0 := HH.out.lt; go_simp; first | done | with_reducible rfl)
  simp only [Act.put, List.setIfInBounds_toArray, List.set_cons_zero, List.set_cons_succ]
  apply Ord.walk_light
  next => (simp only [List.getElem?_toArray, List.getElem?_cons_succ, List.getElem?_cons_zero]; rfl)
  next => rfl
  next => (intro w' hSw; clear hSw; go_simp; first | done | with_reducible rfl)
  simp only [Act.put, List.setIfInBounds_toArray, List.set_cons_zero, List.set_cons_succ]
  apply Ord.walk_light
  next => (simp only [List.getElem?_toArray, List.getElem?_cons_succ, List.getElem?_cons_zero]; rfl)
  next => rfl
  next => (intro w' hSw; have g := HH.out.below hSw HH.out.lt; have q0 := g.cell 0 _ rfl; have q1 := g.cell 1 _ rfl; go_simp; first | done | with_reducible rfl)
  simp only [Act.put, List.setIfInBounds_toArray, List.set_cons_zero, List.set_cons_succ]
  apply Ord.walk_light
  next => (simp only [List.getElem?_toArray, List.getElem?_cons_succ, List.getElem?_cons_zero]; rfl)
  next => rfl
  next => (intro w' hSw; clear hSw; go_simp; first | done | with_reducible rfl)
  simp only [Act.put, List.setIfInBounds_toArray, List.set_cons_zero, List.set_cons_succ]
  apply Ord.walk_light
  next => (simp only [List.getElem?_toArray, List.getElem?_cons_succ, List.getElem?_cons_zero]; rfl)
  next => rfl
  next => (intro w' hSw; clear hSw; have l0 := HH.out.lt; go_simp; first | done | with_reducible rfl)
  simp only [Act.put, List.setIfInBounds_toArray, List.set_cons_zero, List.set_cons_succ]
  apply Ord.walk_light
  next => (simp only [List.getElem?_toArray, List.getElem?_cons_succ, List.getElem?_cons_zero]; rfl)
  next => rfl
  next => (intro w' hSw; clear hSw; go_simp; first | done | with_reducible rfl)
  simp only [Act.put, List.setIfInBounds_toArray, List.set_cons_zero, List.set_cons_succ]
  apply Ord.walk_light
  next => (simp only [List.getElem?_toArray, List.getElem?_cons_succ, List.getElem?_cons_zero]; rfl)
  next => rfl
  next => (intro w' hSw; have g := HH.out.below hSw HH.out.lt; have q0 := g.cell 0 _ rfl; have q1 := g.cell 1 _ rfl; go_simp; first | done | with_reducible rfl)
  simp only [Act.put, List.setIfInBounds_toArray, List.set_cons_zero, List.set_cons_succ]
  apply Ord.walk_heavy
  next => (simp only [List.getElem?_toArray, List.getElem?_cons_succ, List.getElem?_cons_zero]; rfl)
  next => rfl
  intro K hK
  go_wp2_with fail
  refine (HC.out _ hc).mono ?_; rintro x w' ⟨rfl, hx⟩; dsimp only
  refine hK.out _ _ (hc.trans (hx.mono hc.size)) (fun hHeld => ?_)
  clear hc hx
  have hc := hHeld
  clear hK K
  try simp only [Act.put, List.setIfInBounds_toArray, List.set_cons_zero, List.set_cons_succ]
  apply Ord.walk_light
  next => (simp only [List.getElem?_toArray, List.getElem?_cons_succ, List.getElem?_cons_zero]; rfl)
  next => rfl
  next => (intro w' hSw; clear hSw; go_simp; rw [if_neg (by first | omega | (simp only [ByteArray.size_append, Er.s5, Er.s4]; omega))]; first | done | with_reducible rfl)
  simp only [Act.put, List.setIfInBounds_toArray, List.set_cons_zero, List.set_cons_succ]
  apply Ord.walk_light
  next => (simp only [List.getElem?_toArray, List.getElem?_cons_succ, List.getElem?_cons_zero]; rfl)
  next => rfl
  next => (intro w' hSw; clear hSw; go_simp; rw [if_neg (by first | omega | (simp only [ByteArray.size_append, Er.s5, Er.s4]; omega))]; first | done | with_reducible rfl)
  simp only [Act.put, List.setIfInBounds_toArray, List.set_cons_zero, List.set_cons_succ]
  apply Ord.walk_heavy
  next => (simp only [List.getElem?_toArray, List.getElem?_cons_succ, List.getElem?_cons_zero]; rfl)
  next => rfl
  intro K hK
  go_wp2_with fail
  refine (HA.out _ hc).mono ?_; rintro x w' ⟨rfl, hx⟩; dsimp only
  refine hK.out _ _ (hc.trans (hx.mono hc.size)) (fun hHeld => ?_)
  clear hc hx
  have hc := hHeld
  clear hK K
  try simp only [Act.put, List.setIfInBounds_toArray, List.set_cons_zero, List.set_cons_succ]
  apply Ord.walk_light
  next => (simp only [List.getElem?_toArray, List.getElem?_cons_succ, List.getElem?_cons_zero]; rfl)
  next => rfl
  next => (intro w' hSw; clear hSw; go_simp; rw [if_neg (by first | omega | (simp only [ByteArray.size_append, Er.s5, Er.s4]; omega))]; first | done | with_reducible rfl)
  simp only [Act.put, List.setIfInBounds_toArray, List.set_cons_zero, List.set_cons_succ]
  refine Ord.walk_tail ?_; simp only [List.drop_succ_cons, List.drop_zero]
  have g := HH.out.below hc HH.out.lt
  have hlt := g.lt
  have q2 := g.cell 2 _ rfl
  dsimp only [Er.v] at q2
  clear g
  go_wp2_with fail
  go_ret
  exact ⟨rfl, hc⟩
theorem Er.mError (n : Nat) (v : Value) (w : World) : (Go.method (n + 1) 46 v "Error").run Tryd.prog w = .ok (20, v) w := by kernel_rfl

set_option maxRecDepth 100000 in
set_option maxHeartbeats 4000000 in
theorem error_on (b : Nat) (c a : Int) (b2 : Nat) (c2 a2 : Int) (s2 : Er) (X : ByteArray) (tc ta : ByteArray) (w : World) (h : (Er.own b c a (.own b2 c2 a2 s2)).At w) (hc1 : Tells w c tc) (ha1 : Tells w a ta) (lc : tc.size ≤ 1000) (la : ta.size ≤ 1000) (lX : X.size ≤ 100000) (hX : ∀ w', Below w.heap.size w w' → Calls Tryd.prog 20 #[.pointer (some ⟨b2, 0, none⟩)] w' fun e w'' => e = .returned (.string X) ∧ Below w'.heap.size w' w'') :
    Calls Tryd.prog 20 #[.pointer (some ⟨b, 0, none⟩)] w fun e w' => e = .returned (.string ((⟨#[99, 111, 100, 101, 32]⟩ ++ tc ++ ⟨#[32, 97, 116, 32]⟩ ++ ta) ++ (⟨#[58, 32]⟩ ++ X))) ∧ Below w.heap.size w w' := by
  have HH := Aid.hid h.1
  have HC : Hid (Tells w c tc) := Aid.hid hc1
  have HA : Hid (Tells w a ta) := Aid.hid ha1
  have HX := Aid.hid hX
  clear h hc1 ha1 hX
  go_enter Tryd.func20, Tryd.ntmps20
  try simp only [List.append_eq, List.cons_append, List.nil_append]
  go_wp2_with fail
  refine Ord.wp_region_walk (fun w' => Below w.heap.size w w') 13 [(true, 0), (true, 1), (true, 2), (true, 3), (true, 7), (true, 8), (true, 9), (true, 10), (false, 4), (true, 5), (true, 6), (false, 11), (true, 12)] (by kernel_rfl) (by kernel_rfl) (fun _ _ d _ _ h => by cases d <;> exact h) ((Below.refl _ _).drew) ?_
  have hc : Below w.heap.size w w.drew := (Below.refl _ _).drew
  generalize w.drew = wz at hc ⊢
  apply Ord.walk_light
  next => (simp only [List.getElem?_toArray, List.getElem?_cons_zero]; rfl)
  next => rfl
  next => (intro w' hSw; clear hSw; go_simp; first | done | with_reducible rfl)
  simp only [Act.put, List.setIfInBounds_toArray, List.set_cons_zero, List.set_cons_succ]
  apply Ord.walk_light
  next => (simp only [List.getElem?_toArray, List.getElem?_cons_succ, List.getElem?_cons_zero]; rfl)
  next => rfl
  next => (intro w' hSw; clear hSw; have l0 := HH.out.lt; go_simp; first | done | with_reducible rfl)
  simp only [Act.put, List.setIfInBounds_toArray, List.set_cons_zero, List.set_cons_succ]
  apply Ord.walk_light
  next => (simp only [List.getElem?_toArray, List.getElem?_cons_succ, List.getElem?_cons_zero]; rfl)
  next => rfl
  next => (intro w' hSw; clear hSw; go_simp; first | done | with_reducible rfl)
  simp only [Act.put, List.setIfInBounds_toArray, List.set_cons_zero, List.set_cons_succ]
  apply Ord.walk_light
  next => (simp only [List.getElem?_toArray, List.getElem?_cons_succ, List.getElem?_cons_zero]; rfl)
  next => rfl
  next => (intro w' hSw; have g := HH.out.below hSw HH.out.lt; have q0 := g.cell 0 _ rfl; have q1 := g.cell 1 _ rfl; go_simp; first | done | with_reducible rfl)
  simp only [Act.put, List.setIfInBounds_toArray, List.set_cons_zero, List.set_cons_succ]
  apply Ord.walk_light
  next => (simp only [List.getElem?_toArray, List.getElem?_cons_succ, List.getElem?_cons_zero]; rfl)
  next => rfl
  next => (intro w' hSw; clear hSw; go_simp; first | done | with_reducible rfl)
  simp only [Act.put, List.setIfInBounds_toArray, List.set_cons_zero, List.set_cons_succ]
  apply Ord.walk_light
  next => (simp only [List.getElem?_toArray, List.getElem?_cons_succ, List.getElem?_cons_zero]; rfl)
  next => rfl
  next => (intro w' hSw; clear hSw; have l0 := HH.out.lt; go_simp; first | done | with_reducible rfl)
  simp only [Act.put, List.setIfInBounds_toArray, List.set_cons_zero, List.set_cons_succ]
  apply Ord.walk_light
  next => (simp only [List.getElem?_toArray, List.getElem?_cons_succ, List.getElem?_cons_zero]; rfl)
  next => rfl
  next => (intro w' hSw; clear hSw; go_simp; first | done | with_reducible rfl)
  simp only [Act.put, List.setIfInBounds_toArray, List.set_cons_zero, List.set_cons_succ]
  apply Ord.walk_light
  next => (simp only [List.getElem?_toArray, List.getElem?_cons_succ, List.getElem?_cons_zero]; rfl)
  next => rfl
  next => (intro w' hSw; have g := HH.out.below hSw HH.out.lt; have q0 := g.cell 0 _ rfl; have q1 := g.cell 1 _ rfl; go_simp; first | done | with_reducible rfl)
  simp only [Act.put, List.setIfInBounds_toArray, List.set_cons_zero, List.set_cons_succ]
  apply Ord.walk_heavy
  next => (simp only [List.getElem?_toArray, List.getElem?_cons_succ, List.getElem?_cons_zero]; rfl)
  next => rfl
  intro K hK
  go_wp2_with fail
  refine (HC.out _ hc).mono ?_; rintro x w' ⟨rfl, hx⟩; dsimp only
  refine hK.out _ _ (hc.trans (hx.mono hc.size)) (fun hHeld => ?_)
  clear hc hx
  have hc := hHeld
  clear hK K
  try simp only [Act.put, List.setIfInBounds_toArray, List.set_cons_zero, List.set_cons_succ]
  apply Ord.walk_light
  next => (simp only [List.getElem?_toArray, List.getElem?_cons_succ, List.getElem?_cons_zero]; rfl)
  next => rfl
  next => (intro w' hSw; clear hSw; go_simp; rw [if_neg (by first | omega | (simp only [ByteArray.size_append, Er.s5, Er.s4]; omega))]; first | done | with_reducible rfl)
  simp only [Act.put, List.setIfInBounds_toArray, List.set_cons_zero, List.set_cons_succ]
  apply Ord.walk_light
  next => (simp only [List.getElem?_toArray, List.getElem?_cons_succ, List.getElem?_cons_zero]; rfl)
  next => rfl
  next => (intro w' hSw; clear hSw; go_simp; rw [if_neg (by first | omega | (simp only [ByteArray.size_append, Er.s5, Er.s4]; omega))]; first | done | with_reducible rfl)
  simp only [Act.put, List.setIfInBounds_toArray, List.set_cons_zero, List.set_cons_succ]
  apply Ord.walk_heavy
  next => (simp only [List.getElem?_toArray, List.getElem?_cons_succ, List.getElem?_cons_zero]; rfl)
  next => rfl
  intro K hK
  go_wp2_with fail
  refine (HA.out _ hc).mono ?_; rintro x w' ⟨rfl, hx⟩; dsimp only
  refine hK.out _ _ (hc.trans (hx.mono hc.size)) (fun hHeld => ?_)
  clear hc hx
  have hc := hHeld
  clear hK K
  try simp only [Act.put, List.setIfInBounds_toArray, List.set_cons_zero, List.set_cons_succ]
  apply Ord.walk_light
  next => (simp only [List.getElem?_toArray, List.getElem?_cons_succ, List.getElem?_cons_zero]; rfl)
  next => rfl
  next => (intro w' hSw; clear hSw; go_simp; rw [if_neg (by first | omega | (simp only [ByteArray.size_append, Er.s5, Er.s4]; omega))]; first | done | with_reducible rfl)
  simp only [Act.put, List.setIfInBounds_toArray, List.set_cons_zero, List.set_cons_succ]
  refine Ord.walk_tail ?_; simp only [List.drop_succ_cons, List.drop_zero]
  have g := HH.out.below hc HH.out.lt
  have hlt := g.lt
  have q2 := g.cell 2 _ rfl
  dsimp only [Er.v] at q2
  have mE := Er.mError
  clear g
  go_wp2_with fail
  refine (HX.out _ hc).mono ?_; rintro e w' ⟨rfl, hb⟩
  have N1 : ¬ (9223372036854775807 < (⟨#[58, 32]⟩ : ByteArray).size + X.size) := by rw [Er.s2]; omega
  have N2 : ¬ (9223372036854775807 < ((⟨#[99, 111, 100, 101, 32]⟩ : ByteArray) ++ tc ++ ⟨#[32, 97, 116, 32]⟩ ++ ta).size + ((⟨#[58, 32]⟩ : ByteArray) ++ X).size) := by simp only [ByteArray.size_append, Er.s5, Er.s4, Er.s2]; omega
  go_wp2_with fail
  go_ret
  exact ⟨rfl, hc.trans (hb.mono hc.size)⟩
end Go.Proofs.YtblkcgbifecemaaDoor
