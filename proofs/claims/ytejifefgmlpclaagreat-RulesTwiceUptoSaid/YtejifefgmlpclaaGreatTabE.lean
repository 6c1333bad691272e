/- Is, as a walk. -/
import Derived.Test.YtejifefgmlpclaaGreatTabD
import Derived.Test.YtejifefgmlpclaaGreatOrd
import Derived.Deep.Cut
set_option linter.unusedSimpArgs false
set_option linter.unusedVariables false
namespace Go.Proofs.YtejifefgmlpclaaGreat
open Go.RowKit

def Tb.is (u : List Dk) (x y : ByteArray) : Bool :=
  if Tb.kind u (Tb.find u x) = 2 ∧ (Tb.find u y ∈ Tb.chain u (Tb.find u x) ∨ Tb.find u y ∈ Tb.faces u (Tb.find u x)) then true
  else if Tb.kind u (Tb.find u x) = 2 ∨ Tb.kind u (Tb.find u x) = 1 then x.toList == y.toList else false

set_option maxRecDepth 100000 in
set_option maxHeartbeats 2000000 in
theorem is_any (u : List Dk) (a : Option Addr) (B cap : Nat) (x y : ByteArray) (w : World) (hu : UnitAt w B a u) (hB : B ≤ w.heap.size) :
    Calls Tryz.prog 103 #[.agg #[.slice a u.length cap], .string x, .string y] w fun e w' => e = .returned (.bool (Tb.is u x y)) ∧ Below w.heap.size w w' := by
  have HU := Aid.hid hu
  have sm := hu.small
  clear hu
  obtain ⟨r, hr⟩ : ∃ r, Tb.is u x y = r := ⟨_, rfl⟩
  obtain ⟨fx, hfx⟩ : ∃ r, Tb.find u x = r := ⟨_, rfl⟩
  obtain ⟨fy, hfy⟩ : ∃ r, Tb.find u y = r := ⟨_, rfl⟩
  obtain ⟨k, hk⟩ : ∃ r, Tb.kind u fx = r := ⟨_, rfl⟩
  obtain ⟨ch, hch⟩ : ∃ r, Tb.chain u fx = r := ⟨_, rfl⟩
  obtain ⟨fs, hfs⟩ : ∃ r, Tb.faces u fx = r := ⟨_, rfl⟩
  have R : Hid ((if k = 2 ∧ (fy ∈ ch ∨ fy ∈ fs) then true else if k = 2 ∨ k = 1 then x.toList == y.toList else false) = r) := Aid.hid (by rw [← hr, Tb.is, hfx, hfy, hk, hch, hfs])
  have L1 : ch.length ≤ 1000000000 := by have := Tb.chain_len u fx; rw [hch] at this; omega
  have L2 : fs.length ≤ 1000000000 := by have := (Tb.faces_at u fx).len; rw [hfs] at this; omega
  have FX := Aid.hid hfx; have FY := Aid.hid hfy; have HK := Aid.hid hk; have CH := Aid.hid hch; have FS := Aid.hid hfs
  rw [hr]
  clear hr hfx hfy hk hch hfs
  have B0 : Below w.heap.size w (w.alloc (.cells #[.slice a u.length cap] 24)) := (Below.refl _ _).alloc (Nat.le_refl _) _
  have P0 : Aid.Has (w.alloc (.cells #[.slice a u.length cap] 24)) w.heap.size [.slice a u.length cap] 24 := Aid.Has.new _ _ _
  go_enter Tryz.func103, Tryz.ntmps103
  go_upto_region 1 with (fail)
  obtain ⟨pb, hpb⟩ : ∃ pb, w.heap.size = pb := ⟨_, rfl⟩
  obtain ⟨W, hW⟩ : ∃ W, w.alloc (.cells #[.slice a u.length cap] 24) = W := ⟨_, rfl⟩
  rw [hW] at B0 P0 ⊢
  rw [hpb] at P0 ⊢
  have hpl := P0.lt
  have PC := Aid.hid (P0.cell 0 _ rfl)
  have HU1 := Aid.hid (HU.out.below B0 hB)
  have hBW : B ≤ W.heap.size := Nat.le_trans hB B0.size
  have BW := Aid.hid B0
  have hb : Below W.heap.size W W := Below.refl _ _
  clear P0 B0 hW
  refine Ord.wp_region_walk (fun w' => Below W.heap.size W w') 6 [(true, 0), (true, 1), (true, 3), (true, 4), (false, 2), (false, 5)] (by kernel_rfl) (by kernel_rfl) (fun _ _ d _ _ h => by cases d <;> exact h) (hb.drew) ?_
  replace hb := hb.drew
  apply Ord.walk_light
  next => (simp only [List.getElem?_toArray, List.getElem?_cons_zero]; rfl)
  next => rfl
  next => (intro w' hSw; have k0 := (hSw.cell (p := ⟨pb, 0, none⟩) hpl).trans PC.out; go_simp; first | done | with_reducible rfl)
  simp only [Act.put, List.setIfInBounds_toArray, List.set_cons_zero, List.set_cons_succ]
  apply Ord.walk_light
  next => (simp only [List.getElem?_toArray, List.getElem?_cons_succ, List.getElem?_cons_zero]; rfl)
  next => rfl
  next => (intro w' hSw; clear hSw; go_simp; first | done | with_reducible rfl)
  simp only [Act.put, List.setIfInBounds_toArray, List.set_cons_zero, List.set_cons_succ]
  apply Ord.walk_light
  next => (simp only [List.getElem?_toArray, List.getElem?_cons_succ, List.getElem?_cons_zero]; rfl)
  next => rfl
  next => (intro w' hSw; have k0 := (hSw.cell (p := ⟨pb, 0, none⟩) hpl).trans PC.out; go_simp; first | done | with_reducible rfl)
  simp only [Act.put, List.setIfInBounds_toArray, List.set_cons_zero, List.set_cons_succ]
  apply Ord.walk_light
  next => (simp only [List.getElem?_toArray, List.getElem?_cons_succ, List.getElem?_cons_zero]; rfl)
  next => rfl
  next => (intro w' hSw; clear hSw; go_simp; first | done | with_reducible rfl)
  simp only [Act.put, List.setIfInBounds_toArray, List.set_cons_zero, List.set_cons_succ]
  apply Ord.walk_heavy
  next => (simp only [List.getElem?_toArray, List.getElem?_cons_succ, List.getElem?_cons_zero]; rfl)
  next => rfl
  intro K hK
  go_wp2_with fail
  refine (find_is u a B cap x fx _ FX.out (HU1.out.below hb hBW) (Nat.le_trans hBW hb.size)).mono ?_; rintro e w' ⟨rfl, hb'⟩; dsimp only
  refine hK.out _ _ (hb.trans (hb'.mono hb.size)) (fun hHeld => ?_)
  clear hb hb'
  have hb := hHeld
  clear hK K
  try simp only [Act.put, List.setIfInBounds_toArray, List.set_cons_zero, List.set_cons_succ]
  apply Ord.walk_heavy
  next => (simp only [List.getElem?_toArray, List.getElem?_cons_succ, List.getElem?_cons_zero]; rfl)
  next => rfl
  intro K hK
  go_wp2_with fail
  refine (find_is u a B cap y fy _ FY.out (HU1.out.below hb hBW) (Nat.le_trans hBW hb.size)).mono ?_; rintro e w' ⟨rfl, hb'⟩; dsimp only
  refine hK.out _ _ (hb.trans (hb'.mono hb.size)) (fun hHeld => ?_)
  clear hb hb'
  have hb := hHeld
  clear hK K
  try simp only [Act.put, List.setIfInBounds_toArray, List.set_cons_zero, List.set_cons_succ]
  refine Ord.walk_tail ?_; simp only [List.drop_succ_cons, List.drop_zero]
  have cp := (hb.cell (p := ⟨pb, 0, none⟩) hpl).trans PC.out
  go_wp2_with fail
  refine (kind_is u a B cap fx k _ HK.out (HU1.out.below hb hBW) (Nat.le_trans hBW hb.size)).mono ?_; rintro e w3 ⟨rfl, hb3⟩
  replace hb := hb.trans (hb3.mono hb.size)
  clear hb3
  clear cp
  have cp := (hb.cell (p := ⟨pb, 0, none⟩) hpl).trans PC.out
  by_cases hk2 : k = 2
  · subst hk2
    go_wp2_with fail
    refine (chain_is u a B cap fx ch _ CH.out (HU1.out.below hb hBW) (Nat.le_trans hBW hb.size)).mono ?_; rintro e w4 ⟨A, c, rfl, ow, hb4⟩
    replace hb := hb.trans (hb4.mono hb.size)
    clear hb4 cp
    have cp := (hb.cell (p := ⟨pb, 0, none⟩) hpl).trans PC.out
    have I1 := Aid.hid (IntsAt.of_own ow)
    clear ow
    obtain ⟨r1, hr1⟩ : ∃ r, decide (fy ∈ ch) = r := ⟨_, rfl⟩
    have HR1 := Aid.hid hr1
    clear hr1
    go_wp2_with fail
    refine (contains_is A c _ ch fy r1 _ HR1.out I1.out L1).mono ?_; rintro e w5 ⟨rfl, rfl⟩
    cases r1
    · go_wp2_with fail
      refine (faces_is u a B cap fx fs _ FS.out (HU1.out.below hb hBW) (Nat.le_trans hBW hb.size)).mono ?_; rintro e w6 ⟨A6, c6, rfl, ow, hb6⟩
      replace hb := hb.trans (hb6.mono hb.size)
      clear hb6 cp
      have I2 := Aid.hid (IntsAt.of_own ow)
      clear ow
      obtain ⟨r2, hr2⟩ : ∃ r, decide (fy ∈ fs) = r := ⟨_, rfl⟩
      have HR2 := Aid.hid hr2
      clear hr2
      go_wp2_with fail
      refine (contains_is A6 c6 _ fs fy r2 _ HR2.out I2.out L2).mono ?_; rintro e w7 ⟨rfl, rfl⟩
      cases r2
      · have E : Hid ((x.toList == y.toList) = r) := Aid.hid (by have h := R.out; simpa [of_decide_eq_false HR1.out, of_decide_eq_false HR2.out] using h)
        go_wp2_with fail
        go_ret
        exact ⟨by rw [← E.out]; rfl, BW.out.trans (hb.mono BW.out.size)⟩
      · have E : Hid (true = r) := Aid.hid (by have h := R.out; simpa [of_decide_eq_true HR2.out] using h)
        go_wp2_with fail
        go_ret
        exact ⟨by rw [← E.out]; rfl, BW.out.trans (hb.mono BW.out.size)⟩
    · have E : Hid (true = r) := Aid.hid (by have h := R.out; simpa [of_decide_eq_true HR1.out] using h)
      go_wp2_with fail
      go_ret
      exact ⟨by rw [← E.out]; rfl, BW.out.trans (hb.mono BW.out.size)⟩
  · have hk3 : (k == 2) = false := by simpa using hk2
    by_cases hk1 : k = 1
    · subst hk1
      have E : Hid ((x.toList == y.toList) = r) := Aid.hid (by have h := R.out; simpa using h)
      go_wp2_with fail
      go_ret
      exact ⟨by rw [← E.out]; rfl, BW.out.trans (hb.mono BW.out.size)⟩
    · have hk4 : (k == 1) = false := by simpa using hk1
      have E : Hid (false = r) := Aid.hid (by have h := R.out; simpa [hk1, hk2] using h)
      go_wp2_with fail
      go_ret
      exact ⟨by rw [← E.out]; rfl, BW.out.trans (hb.mono BW.out.size)⟩
theorem is_is (u : List Dk) (a : Option Addr) (B cap : Nat) (x y : ByteArray) (r : Bool) (w : World) (hr : Tb.is u x y = r) (hu : UnitAt w B a u) (hB : B ≤ w.heap.size) :
    Calls Tryz.prog 103 #[.agg #[.slice a u.length cap], .string x, .string y] w fun e w' => e = .returned (.bool r) ∧ Below w.heap.size w w' := by
  rw [← hr]; exact is_any u a B cap x y w hu hB
end Go.Proofs.YtejifefgmlpclaaGreat
/- The law TableIs, in plain Lean. -/
namespace Go.Proofs.YtejifefgmlpclaaGreat

def Tb.next (u : List Dk) (d : Int) : Int := Tb.find u (Tb.base u d)
theorem Tb.find_congr {u : List Dk} {s t : ByteArray} (h : s.toList = t.toList) : Tb.find u s = Tb.find u t := by
  unfold Tb.find; rw [h]
theorem Tb.chainGo_sub {u : List Dk} {S : Int → Prop} (hS : ∀ x, S x → Tb.kind u (Tb.next u x) = 2 → S (Tb.next u x)) : ∀ (f : Nat) (l : List Int) (c : Int), (∀ x ∈ l, S x) → (Tb.kind u c = 2 → S c) → ∀ x ∈ Tb.chainGo u f l c, S x
  | 0, _, _, hl, _ => hl
  | f + 1, l, c, hl, hc => by
    unfold Tb.chainGo
    by_cases h : Tb.kind u c = 2 ∧ c ∉ l
    · rw [if_pos h]
      exact Tb.chainGo_sub hS f _ _ (fun x hx => by
        rcases List.mem_append.1 hx with hx | hx
        · exact hl x hx
        · have : x = c := by simpa using hx
          exact this ▸ hc h.1) (fun hk => hS c (hc h.1) hk)
    · rw [if_neg h]; exact hl
theorem Tb.chain_closed_go {u : List Dk} {d0 : Int} : ∀ (m : Nat) (l : List Int) (c : Int), u.length - l.length ≤ m → Tb.ChainAt u d0 l c → (∀ x ∈ l, Tb.kind u x = 2 ∧ (Tb.kind u (Tb.next u x) = 2 → Tb.next u x ∈ l ∨ Tb.next u x = c)) →
    ∀ x ∈ Tb.chain u d0, Tb.kind u x = 2 ∧ (Tb.kind u (Tb.next u x) = 2 → Tb.next u x ∈ Tb.chain u d0) := by
  intro m
  induction m with
  | zero =>
    intro l c hm h hi
    by_cases hs : Tb.kind u c = 2 ∧ c ∉ l
    · have h1 := (h.next hs.1 hs.2).len
      simp at h1; omega
    · have he := h.stop hs
      intro x hx
      rw [← he] at hx ⊢
      refine ⟨(hi x hx).1, fun hk => ?_⟩
      rcases (hi x hx).2 hk with h1 | h1
      · exact h1
      · rw [h1] at hk ⊢
        exact Classical.byContradiction fun hn => hs ⟨hk, hn⟩
  | succ m ih =>
    intro l c hm h hi
    by_cases hs : Tb.kind u c = 2 ∧ c ∉ l
    · refine ih (l ++ [c]) (Tb.next u c) (by simp; omega) (h.next hs.1 hs.2) (fun x hx => ?_)
      rcases List.mem_append.1 hx with hx | hx
      · refine ⟨(hi x hx).1, fun hk => ?_⟩
        rcases (hi x hx).2 hk with h1 | h1
        · exact Or.inl (List.mem_append_left _ h1)
        · exact Or.inl (List.mem_append_right _ (by simp [h1]))
      · have : x = c := by simpa using hx
        subst this
        exact ⟨hs.1, fun _ => Or.inr rfl⟩
    · have he := h.stop hs
      intro x hx
      rw [← he] at hx ⊢
      refine ⟨(hi x hx).1, fun hk => ?_⟩
      rcases (hi x hx).2 hk with h1 | h1
      · exact h1
      · rw [h1] at hk ⊢
        exact Classical.byContradiction fun hn => hs ⟨hk, hn⟩
theorem Tb.chain_closed {u : List Dk} {d : Int} : ∀ x ∈ Tb.chain u d, Tb.kind u x = 2 ∧ (Tb.kind u (Tb.next u x) = 2 → Tb.next u x ∈ Tb.chain u d) :=
  Tb.chain_closed_go u.length [] d (by simp) (Tb.ChainAt.start u d) (fun x hx => by cases hx)
/-- The chain of one on a chain lies on it. -/
theorem Tb.chain_sub {u : List Dk} {d e : Int} (h : e ∈ Tb.chain u d) : ∀ x ∈ Tb.chain u e, x ∈ Tb.chain u d :=
  Tb.chainGo_sub (S := fun x => x ∈ Tb.chain u d) (fun x hx hk => (Tb.chain_closed x hx).2 hk) _ [] e (fun x hx => by cases hx) (fun _ => h)
theorem Tb.chainGo_mem {u : List Dk} : ∀ (f : Nat) (l : List Int) (c : Int), ∀ x ∈ l, x ∈ Tb.chainGo u f l c
  | 0, _, _, _, h => h
  | f + 1, l, c, x, h => by
    unfold Tb.chainGo
    split
    · exact Tb.chainGo_mem f _ _ x (List.mem_append_left _ h)
    · exact h
theorem Tb.chain_self {u : List Dk} {d : Int} (h : Tb.kind u d = 2) : d ∈ Tb.chain u d := by
  unfold Tb.chain Tb.chainGo
  rw [if_pos ⟨h, by simp⟩]
  exact Tb.chainGo_mem _ _ _ d (by simp)
theorem Tb.chain_none {u : List Dk} {d : Int} (h : Tb.kind u d ≠ 2) : Tb.chain u d = [] := by
  unfold Tb.chain Tb.chainGo
  rw [if_neg (fun h' => h h'.1)]
/-- Each on a chain but the first is found by a name. -/
theorem Tb.chain_found {u : List Dk} {d : Int} (S : Int → Prop) (hd : S d) (hf : ∀ s, S (Tb.find u s)) : ∀ x ∈ Tb.chain u d, S x :=
  Tb.chainGo_sub (S := S) (fun _ _ _ => hf _) _ [] d (fun x hx => by cases hx) (fun _ => hd)
theorem Tb.mem_addFaces {u : List Dk} {f : Int} : ∀ (ss : List ByteArray) (l : List Int), f ∈ ss.foldl (Tb.addFace u) l ↔ f ∈ l ∨ ∃ s ∈ ss, Tb.kind u f = 1 ∧ f = Tb.find u s
  | [], l => by simp
  | s :: ss, l => by
    rw [List.foldl_cons, Tb.mem_addFaces ss]
    have h : f ∈ Tb.addFace u l s ↔ f ∈ l ∨ (Tb.kind u f = 1 ∧ f = Tb.find u s) := by
      unfold Tb.addFace
      split
      · rename_i h
        constructor
        · intro h'
          rcases List.mem_append.1 h' with h' | h'
          · exact Or.inl h'
          · have : f = Tb.find u s := by simpa using h'
            exact Or.inr ⟨this ▸ h.1, this⟩
        · rintro (h' | ⟨_, h'⟩)
          · exact List.mem_append_left _ h'
          · exact List.mem_append_right _ (by simp [h'])
      · rename_i h
        constructor
        · exact Or.inl
        · rintro (h' | ⟨h1, h2⟩)
          · exact h'
          · exact Classical.byContradiction fun hn => h ⟨h2 ▸ h1, h2 ▸ hn⟩
    rw [h]
    constructor
    · rintro ((h1 | h1) | ⟨s', h1, h2⟩)
      · exact Or.inl h1
      · exact Or.inr ⟨s, by simp, h1⟩
      · exact Or.inr ⟨s', List.mem_cons_of_mem _ h1, h2⟩
    · rintro (h1 | ⟨s', h1, h2⟩)
      · exact Or.inl (Or.inl h1)
      · rcases List.mem_cons.1 h1 with rfl | h1
        · exact Or.inl (Or.inr h2)
        · exact Or.inr ⟨s', h1, h2⟩
theorem Tb.mem_facesGo {u : List Dk} {f : Int} : ∀ (cs l : List Int), f ∈ cs.foldl (fun l c => (Tb.facesOf u c).foldl (Tb.addFace u) l) l ↔ f ∈ l ∨ ∃ c ∈ cs, ∃ s ∈ Tb.facesOf u c, Tb.kind u f = 1 ∧ f = Tb.find u s
  | [], l => by simp
  | c :: cs, l => by
    rw [List.foldl_cons, Tb.mem_facesGo cs, Tb.mem_addFaces]
    constructor
    · rintro ((h1 | h1) | ⟨c', h1, h2⟩)
      · exact Or.inl h1
      · exact Or.inr ⟨c, by simp, h1⟩
      · exact Or.inr ⟨c', List.mem_cons_of_mem _ h1, h2⟩
    · rintro (h1 | ⟨c', h1, h2⟩)
      · exact Or.inl (Or.inl h1)
      · rcases List.mem_cons.1 h1 with rfl | h1
        · exact Or.inl (Or.inr h2)
        · exact Or.inr ⟨c', h1, h2⟩
theorem Tb.mem_faces {u : List Dk} {d f : Int} : f ∈ Tb.faces u d ↔ ∃ c ∈ Tb.chain u d, ∃ s ∈ Tb.facesOf u c, Tb.kind u f = 1 ∧ f = Tb.find u s := by
  unfold Tb.faces
  rw [Tb.mem_facesGo]; simp
theorem Tb.faces_sub {u : List Dk} {d e : Int} (h : e ∈ Tb.chain u d) : ∀ x ∈ Tb.faces u e, x ∈ Tb.faces u d := by
  intro x hx
  obtain ⟨c, hc, r⟩ := Tb.mem_faces.1 hx
  exact Tb.mem_faces.2 ⟨c, Tb.chain_sub h c hc, r⟩

theorem Tb.is_congr {u : List Dk} {x x' y y' : ByteArray} (hx : x.toList = x'.toList) (hy : y.toList = y'.toList) : Tb.is u x y = Tb.is u x' y' := by
  unfold Tb.is; rw [Tb.find_congr hx, Tb.find_congr hy, hx, hy]
/-- What is one of its base's is one of that base's base's, and of all interfaces of its chain. -/
theorem Tb.is_trans {u : List Dk} {x y z : ByteArray} (h1 : Tb.is u x y = true) (h2 : Tb.is u y z = true) : Tb.is u x z = true := by
  have heq : ∀ p q : ByteArray, (p.toList == q.toList) = true → p.toList = q.toList := fun p q h => by simpa using h
  by_cases hA : Tb.kind u (Tb.find u x) = 2 ∧ (Tb.find u y ∈ Tb.chain u (Tb.find u x) ∨ Tb.find u y ∈ Tb.faces u (Tb.find u x))
  · by_cases hB : Tb.kind u (Tb.find u y) = 2 ∧ (Tb.find u z ∈ Tb.chain u (Tb.find u y) ∨ Tb.find u z ∈ Tb.faces u (Tb.find u y))
    · have hc : Tb.find u y ∈ Tb.chain u (Tb.find u x) := by
        rcases hA.2 with h | h
        · exact h
        · obtain ⟨_, _, _, _, hk, _⟩ := Tb.mem_faces.1 h
          have := hB.1; omega
      unfold Tb.is
      rw [if_pos ⟨hA.1, hB.2.elim (fun h => Or.inl (Tb.chain_sub hc _ h)) (fun h => Or.inr (Tb.faces_sub hc _ h))⟩]
    · have he : y.toList = z.toList := by
        unfold Tb.is at h2
        rw [if_neg hB] at h2
        split at h2
        · exact heq _ _ h2
        · cases h2
      exact (Tb.is_congr rfl he).symm.trans h1
  · have he : x.toList = y.toList := by
      unfold Tb.is at h1
      rw [if_neg hA] at h1
      split at h1
      · exact heq _ _ h1
      · cases h1
    exact (Tb.is_congr he rfl).trans h2
theorem Tb.is_self {u : List Dk} {x : ByteArray} : Tb.is u x x = decide (Tb.kind u (Tb.find u x) = 2 ∨ Tb.kind u (Tb.find u x) = 1) := by
  unfold Tb.is
  by_cases h2 : Tb.kind u (Tb.find u x) = 2
  · rw [if_pos ⟨h2, Or.inl (Tb.chain_self h2)⟩]; simp [h2]
  · rw [if_neg (fun h => h2 h.1)]
    by_cases h1 : Tb.kind u (Tb.find u x) = 1 <;> simp [h1, h2]
theorem Tb.is_thing {u : List Dk} {x y : ByteArray} (h : ¬ (Tb.kind u (Tb.find u x) = 2 ∨ Tb.kind u (Tb.find u x) = 1)) : Tb.is u x y = false := by
  unfold Tb.is
  rw [if_neg (fun h' => h (Or.inl h'.1)), if_neg h]
/-- What a name finds has that name. -/
theorem Tb.find_name {u : List Dk} {s : ByteArray} {i : Nat} (h : Tb.find u s = i) : ∃ d, u[i]? = some d ∧ d.name.toList = s.toList := by
  unfold Tb.find at h
  cases hf : u.findIdx? (fun d => d.name.toList == s.toList) with
  | none => rw [hf] at h; simp at h
  | some k =>
    rw [hf] at h
    obtain rfl : k = i := Int.ofNat_inj.1 h
    obtain ⟨hk, h1, _⟩ := List.findIdx?_eq_some_iff_getElem.1 hf
    exact ⟨u[k], List.getElem?_eq_getElem hk, by simpa using h1⟩
/-- It is each of its chain, and of its interfaces. -/
theorem Tb.is_chain {u : List Dk} {x : ByteArray} {i : Nat} {d : Dk} (hc : (i : Int) ∈ Tb.chain u (Tb.find u x)) (hd : u[i]? = some d) : Tb.is u x d.name = true := by
  have hk : Tb.kind u (Tb.find u x) = 2 := Classical.byContradiction fun h => by rw [Tb.chain_none h] at hc; cases hc
  have hf : Tb.find u d.name = i := Tb.chain_found (u := u) (d := Tb.find u x) (fun c => ∀ (i : Nat) (d : Dk), c = i → u[i]? = some d → Tb.find u d.name = i)
    (fun i d h1 h2 => by obtain ⟨d', h3, h4⟩ := Tb.find_name h1; obtain rfl : d' = d := by simpa [h2] using h3.symm
                         exact (Tb.find_congr h4).trans h1)
    (fun s i d h1 h2 => by obtain ⟨d', h3, h4⟩ := Tb.find_name h1; obtain rfl : d' = d := by simpa [h2] using h3.symm
                           exact (Tb.find_congr h4).trans h1) _ hc i d rfl hd
  unfold Tb.is
  rw [hf, if_pos ⟨hk, Or.inl hc⟩]
theorem Tb.is_face {u : List Dk} {x : ByteArray} {i : Nat} {d : Dk} (hc : (i : Int) ∈ Tb.faces u (Tb.find u x)) (hd : u[i]? = some d) : Tb.is u x d.name = true := by
  obtain ⟨c, h1, s, h2, h3, h4⟩ := Tb.mem_faces.1 hc
  have hk : Tb.kind u (Tb.find u x) = 2 := Classical.byContradiction fun h => by rw [Tb.chain_none h] at h1; cases h1
  obtain ⟨d', h5, h6⟩ := Tb.find_name h4.symm
  obtain rfl : d' = d := by simpa [hd] using h5.symm
  unfold Tb.is
  rw [(Tb.find_congr h6).trans h4.symm, if_pos ⟨hk, Or.inr hc⟩]
end Go.Proofs.YtejifefgmlpclaaGreat
