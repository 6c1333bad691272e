/- Is, as a walk. -/
import Derived.Test.YtmhdcehpddbjaaaTabD
import Derived.Test.YtmhdcehpddbjaaaOrd
import Derived.Deep.Cut
namespace Go.Proofs.Ytmhdcehpddbjaaa
open Go.RowKit

def Tb.is (u : List Dk) (x y : ByteArray) : Bool :=
  if Tb.kind u (Tb.find u x) = 2 ∧ (Tb.find u y ∈ Tb.chain u (Tb.find u x) ∨ Tb.find u y ∈ Tb.faces u (Tb.find u x)) then true
  else if Tb.kind u (Tb.find u x) = 2 ∨ Tb.kind u (Tb.find u x) = 1 then x.toList == y.toList else false

set_option maxRecDepth 100000 in
set_option maxHeartbeats 2000000 in
theorem is_any (u : List Dk) (a : Option Addr) (B cap : Nat) (x y : ByteArray) (w : World) (hu : UnitAt w B a u) (hB : B ≤ w.heap.size) :
    Calls Try.prog 44 #[.agg #[.slice a u.length cap], .string x, .string y] w fun e w' => e = .returned (.bool (Tb.is u x y)) ∧ Below w.heap.size w w' := by
  have HU := Aid.hid hu
  have sm := hu.small
  clear hu
  obtain ⟨r, hr⟩ : ∃ r, Tb.is u x y = r := ⟨_, rfl⟩
  obtain ⟨fx, hfx⟩ : ∃ r, Tb.find u x = r := ⟨_, rfl⟩
  obtain ⟨fy, hfy⟩ : ∃ r, Tb.find u y = r := ⟨_, rfl⟩
  obtain ⟨k, hk⟩ : ∃ r, Tb.kind u fx = r := ⟨_, rfl⟩
  obtain ⟨ch, hch⟩ : ∃ r, Tb.chain u fx = r := ⟨_, rfl⟩
  obtain ⟨fs, hfs⟩ : ∃ r, Tb.faces u fx = r := ⟨_, rfl⟩
  have R : Hid ((if k = 2 ∧ (fy ∈ ch ∨ fy ∈ fs) then true else if k = 2 ∨ k = 1 then x.toList == y.toList else false) = r) := Aid.hid (by rw [← hr, Tb.is, hfx, hfy, hk, hch, hfs])
  have L1 : ch.length ≤ 1000000000 := by have := Tb.chain_len u fx; rw [hch] at this; omega
  have L2 : fs.length ≤ 1000000000 := by have := (Tb.faces_at u fx).len; rw [hfs] at this; omega
  have FX := Aid.hid hfx; have FY := Aid.hid hfy; have HK := Aid.hid hk; have CH := Aid.hid hch; have FS := Aid.hid hfs
  rw [hr]
  clear hr hfx hfy hk hch hfs
  have B0 : Below w.heap.size w (w.alloc (.cells #[.slice a u.length cap] 24)) := (Below.refl _ _).alloc (Nat.le_refl _) _
  have P0 : Aid.Has (w.alloc (.cells #[.slice a u.length cap] 24)) w.heap.size [.slice a u.length cap] 24 := Aid.Has.new _ _ _
  go_enter Try.func44, Try.ntmps44
  go_upto_region 1 with (fail)
  obtain ⟨pb, hpb⟩ : ∃ pb, w.heap.size = pb := ⟨_, rfl⟩
  obtain ⟨W, hW⟩ : ∃ W, w.alloc (.cells #[.slice a u.length cap] 24) = W := ⟨_, rfl⟩
  rw [hW] at B0 P0 ⊢
  rw [hpb] at P0 ⊢
  have hpl := P0.lt
  have PC := Aid.hid (P0.cell 0 _ rfl)
  have HU1 := Aid.hid (HU.out.below B0 hB)
  have hBW : B ≤ W.heap.size := Nat.le_trans hB B0.size
  have BW := Aid.hid B0
  have hb : Below W.heap.size W W := Below.refl _ _
  clear P0 B0 hW
  refine Ord.wp_region_walk (fun w' => Below W.heap.size W w') 6 [(true, 0), (true, 1), (true, 3), (true, 4), (false, 2), (false, 5)] (by kernel_rfl) (by kernel_rfl) (fun _ _ d _ _ h => by cases d <;> exact h) (hb.drew) ?_
  replace hb := hb.drew
  apply Ord.walk_light
  next => (simp only [List.getElem?_toArray, List.getElem?_cons_zero]; rfl)
  next => rfl
  next => (intro w' hSw; have k0 := (hSw.cell (p := ⟨pb, 0, none⟩) hpl).trans PC.out; go_simp; first | done | with_reducible rfl)
  simp only [Act.put, List.setIfInBounds_toArray, List.set_cons_zero, List.set_cons_succ]
  apply Ord.walk_light
  next => (simp only [List.getElem?_toArray, List.getElem?_cons_succ, List.getElem?_cons_zero]; rfl)
  next => rfl
  next => (intro w' hSw; clear hSw; go_simp; first | done | with_reducible rfl)
  simp only [Act.put, List.setIfInBounds_toArray, List.set_cons_zero, List.set_cons_succ]
  apply Ord.walk_light
  next => (simp only [List.getElem?_toArray, List.getElem?_cons_succ, List.getElem?_cons_zero]; rfl)
  next => rfl
  next => (intro w' hSw; have k0 := (hSw.cell (p := ⟨pb, 0, none⟩) hpl).trans PC.out; go_simp; first | done | with_reducible rfl)
  simp only [Act.put, List.setIfInBounds_toArray, List.set_cons_zero, List.set_cons_succ]
  apply Ord.walk_light
  next => (simp only [List.getElem?_toArray, List.getElem?_cons_succ, List.getElem?_cons_zero]; rfl)
  next => rfl
  next => (intro w' hSw; clear hSw; go_simp; first | done | with_reducible rfl)
  simp only [Act.put, List.setIfInBounds_toArray, List.set_cons_zero, List.set_cons_succ]
  apply Ord.walk_heavy
  next => (simp only [List.getElem?_toArray, List.getElem?_cons_succ, List.getElem?_cons_zero]; rfl)
  next => rfl
  intro K hK
  go_wp2_with fail
  refine (find_is u a B cap x fx _ FX.out (HU1.out.below hb hBW) (Nat.le_trans hBW hb.size)).mono ?_; rintro e w' ⟨rfl, hb'⟩; dsimp only
  refine hK.out _ _ (hb.trans (hb'.mono hb.size)) (fun hHeld => ?_)
  clear hb hb'
  have hb := hHeld
  clear hK K
  try simp only [Act.put, List.setIfInBounds_toArray, List.set_cons_zero, List.set_cons_succ]
  apply Ord.walk_heavy
  next => (simp only [List.getElem?_toArray, List.getElem?_cons_succ, List.getElem?_cons_zero]; rfl)
  next => rfl
  intro K hK
  go_wp2_with fail
  refine (find_is u a B cap y fy _ FY.out (HU1.out.below hb hBW) (Nat.le_trans hBW hb.size)).mono ?_; rintro e w' ⟨rfl, hb'⟩; dsimp only
  refine hK.out _ _ (hb.trans (hb'.mono hb.size)) (fun hHeld => ?_)
  clear hb hb'
  have hb := hHeld
  clear hK K
  try simp only [Act.put, List.setIfInBounds_toArray, List.set_cons_zero, List.set_cons_succ]
  refine Ord.walk_tail ?_; simp only [List.drop_succ_cons, List.drop_zero]
  have cp := (hb.cell (p := ⟨pb, 0, none⟩) hpl).trans PC.out
  go_wp2_with fail
  refine (kind_is u a B cap fx k _ HK.out (HU1.out.below hb hBW) (Nat.le_trans hBW hb.size)).mono ?_; rintro e w3 ⟨rfl, hb3⟩
  replace hb := hb.trans (hb3.mono hb.size)
  clear hb3
  clear cp
  have cp := (hb.cell (p := ⟨pb, 0, none⟩) hpl).trans PC.out
  by_cases hk2 : k = 2
  · subst hk2
    go_wp2_with fail
    refine (chain_is u a B cap fx ch _ CH.out (HU1.out.below hb hBW) (Nat.le_trans hBW hb.size)).mono ?_; rintro e w4 ⟨A, c, rfl, ow, hb4⟩
    replace hb := hb.trans (hb4.mono hb.size)
    clear hb4 cp
    have cp := (hb.cell (p := ⟨pb, 0, none⟩) hpl).trans PC.out
    have I1 := Aid.hid (IntsAt.of_own ow)
    clear ow
    obtain ⟨r1, hr1⟩ : ∃ r, decide (fy ∈ ch) = r := ⟨_, rfl⟩
    have HR1 := Aid.hid hr1
    clear hr1
    go_wp2_with fail
    refine (contains_is A c _ ch fy r1 _ HR1.out I1.out L1).mono ?_; rintro e w5 ⟨rfl, rfl⟩
    cases r1
    · go_wp2_with fail
      refine (faces_is u a B cap fx fs _ FS.out (HU1.out.below hb hBW) (Nat.le_trans hBW hb.size)).mono ?_; rintro e w6 ⟨A6, c6, rfl, ow, hb6⟩
      replace hb := hb.trans (hb6.mono hb.size)
      clear hb6 cp
      have I2 := Aid.hid (IntsAt.of_own ow)
      clear ow
      obtain ⟨r2, hr2⟩ : ∃ r, decide (fy ∈ fs) = r := ⟨_, rfl⟩
      have HR2 := Aid.hid hr2
      clear hr2
      go_wp2_with fail
      refine (contains_is A6 c6 _ fs fy r2 _ HR2.out I2.out L2).mono ?_; rintro e w7 ⟨rfl, rfl⟩
      cases r2
      · have E : Hid ((x.toList == y.toList) = r) := Aid.hid (by have h := R.out; simpa [of_decide_eq_false HR1.out, of_decide_eq_false HR2.out] using h)
        go_wp2_with fail
        go_ret
        exact ⟨by rw [← E.out]; rfl, BW.out.trans (hb.mono BW.out.size)⟩
      · have E : Hid (true = r) := Aid.hid (by have h := R.out; simpa [of_decide_eq_true HR2.out] using h)
        go_wp2_with fail
        go_ret
        exact ⟨by rw [← E.out]; rfl, BW.out.trans (hb.mono BW.out.size)⟩
    · have E : Hid (true = r) := Aid.hid (by have h := R.out; simpa [of_decide_eq_true HR1.out] using h)
      go_wp2_with fail
      go_ret
      exact ⟨by rw [← E.out]; rfl, BW.out.trans (hb.mono BW.out.size)⟩
  · have hk3 : (k == 2) = false := by simpa using hk2
    by_cases hk1 : k = 1
    · subst hk1
      have E : Hid ((x.toList == y.toList) = r) := Aid.hid (by have h := R.out; simpa using h)
      go_wp2_with fail
      go_ret
      exact ⟨by rw [← E.out]; rfl, BW.out.trans (hb.mono BW.out.size)⟩
    · have hk4 : (k == 1) = false := by simpa using hk1
      have E : Hid (false = r) := Aid.hid (by have h := R.out; simpa [hk1, hk2] using h)
      go_wp2_with fail
      go_ret
      exact ⟨by rw [← E.out]; rfl, BW.out.trans (hb.mono BW.out.size)⟩
theorem is_is (u : List Dk) (a : Option Addr) (B cap : Nat) (x y : ByteArray) (r : Bool) (w : World) (hr : Tb.is u x y = r) (hu : UnitAt w B a u) (hB : B ≤ w.heap.size) :
    Calls Try.prog 44 #[.agg #[.slice a u.length cap], .string x, .string y] w fun e w' => e = .returned (.bool r) ∧ Below w.heap.size w w' := by
  rw [← hr]; exact is_any u a B cap x y w hu hB
end Go.Proofs.Ytmhdcehpddbjaaa
